/- The cursor over a code as a thing that a call owns. No condition but lengths. -/
import Derived.Test.YtnhkjgnfjphllaaDraw
import Derived.Test.YtnhkjgnfjphllaaFlat
namespace Go.Proofs.Ytnhkjgnfjphllaa
open Go.RowKit Go.Deep
set_option linter.unusedSimpArgs false
set_option linter.unusedVariables false

/-- The cursor in block g, over a code that was there ahead of the call. -/
structure CurM (b w : World) (g : Nat) (A : Option Addr) (n c : Nat) (bs : List UInt8) (fr : List Res) : Prop where
  st : ∃ i h : Int, 0 ≤ i ∧ i ≤ n ∧ Mine b w (.box g 104 #[.slice A n c, .int .i64 i, .int .i64 h] :: fr)
  sl : Sl b (fun j => j < b.heap.size) 1 A n (charsD bs)
theorem CurM.ext {b w : World} {g : Nat} {A : Option Addr} {n c : Nat} {bs : List UInt8} {fr : List Res} (h : CurM b w g A n c bs fr) : Ext b w := by
  obtain ⟨_, _, _, _, M⟩ := h.st
  exact M.ext
theorem CurM.le {b w : World} {g : Nat} {A : Option Addr} {n c : Nat} {bs : List UInt8} {fr : List Res} (h : CurM b w g A n c bs fr) : b.heap.size ≤ g := by
  obtain ⟨_, _, _, _, M⟩ := h.st
  exact M.box_le 0 rfl
theorem CurM.fr {b w : World} {g : Nat} {A : Option Addr} {n c : Nat} {bs : List UInt8} {fr : List Res} (h : CurM b w g A n c bs fr) : Mine b w fr := by
  obtain ⟨_, _, _, _, M⟩ := h.st
  exact M.tail
/-- One step of the cursor: what a contract on Cur says, said of CurM. -/
theorem CurM.lift {b w : World} {g : Nat} {A : Option Addr} {n c : Nat} {bs : List UInt8} {fr : List Res} {P : Program} {f : FuncId} {args : Array Value} {R : Ending → Prop} (h : CurM b w g A n c bs fr)
    (k : ∀ i q : Int, Cur w g (fun j => j < b.heap.size) A n c bs i q → Calls P f args w fun e w' => ∃ i' q' : Int, R e ∧ Cur w' g (fun j => j < b.heap.size) A n c bs i' q' ∧ Chg (fun j => j = g) w w') :
    Calls P f args w fun e w' => R e ∧ CurM b w' g A n c bs fr := by
  obtain ⟨i, q, h0, h1, M⟩ := h.st
  refine (k i q ⟨M.box_at 0 rfl, h0, h1, h.sl.ext M.ext, fun hg => by have h1 := M.box_le 0 rfl; have h2 : g < b.heap.size := hg; omega⟩).mono ?_
  rintro e w' ⟨i', q', hR, k', c'⟩
  exact ⟨hR, ⟨i', q', k'.i0, k'.i1, M.swap (i := 0) rfl c' (fun j hj => by rw [hj]; rfl) (r' := .box g 104 #[.slice A n c, .int .i64 i', .int .i64 q']) ⟨M.box_le 0 rfl, k'.bx⟩ (fun j hj => .inl hj)⟩, h.sl⟩
section
variable {b w : World} {g : Nat} {A : Option Addr} {n c : Nat} {bs : List UInt8} {fr : List Res}
theorem below_m (h : CurM b w g A n c bs fr) (hn : n ≤ 1048576) (q : Int) (hq : q ≤ 256) :
    Calls Try.prog 78 #[.pointer (some ⟨g, 0, none⟩), .int .i64 q] w fun e w' => (∃ x : Int, e = .returned (.int .i64 x) ∧ (0 ≤ x ∧ (x < q ∨ x = 0))) ∧ CurM b w' g A n c bs fr :=
  h.lift fun i q' k => (l1Below_any g _ A n c bs i q' q w k hn hq).mono fun e w' ⟨x, i', h', he, hx, k', c'⟩ => ⟨i', h', ⟨x, he, hx⟩, k', c'⟩
theorem once_m (h : CurM b w g A n c bs fr) (hn : n ≤ 1048576) (q : Int) (hq : q ≤ 256) :
    Calls Try.prog 76 #[.pointer (some ⟨g, 0, none⟩), .int .i64 q] w fun e w' => (∃ x : Bool, e = .returned (.bool x)) ∧ CurM b w' g A n c bs fr :=
  h.lift fun i q' k => (l1Once_any g _ A n c bs i q' q w k hn hq).mono fun e w' ⟨x, i', h', he, k', c'⟩ => ⟨i', h', ⟨x, he⟩, k', c'⟩
theorem new_m {A : Option Addr} {n c : Nat} {bs : List UInt8} (w : World) (hs : Sl w (fun j => j < w.heap.size) 1 A n (charsD bs)) (hn : n ≤ 1048576) :
    Calls Try.prog 74 #[.slice A n c] w fun e w' => ∃ g : Nat, e = .returned (.pointer (some ⟨g, 0, none⟩)) ∧ CurM w w' g A n c bs [] :=
  (l1New_any A n c bs w _ hs hn (fun j hj => hj)).mono fun e w' ⟨g, he, hg, ⟨h, k⟩, x⟩ => ⟨g, he, ⟨0, h, Int.le_refl _, by omega, (Mine.refl w).add x ⟨hg, k.bx⟩⟩, hs⟩
end
theorem CurM.row {b w w' : World} {g : Nat} {A : Option Addr} {n c : Nat} {bs : List UInt8} {fr : List Res} (h : CurM b w g A n c bs fr) {e : TypeId} {size m d : Nat} {B : Option Addr} {xs : List Value} (k : Ext w w') (ho : w'.ownsRow w.heap.size e size (.slice B m d) m xs) : CurM b w' g A n c bs (.row e size B m d xs :: fr) := by
  obtain ⟨i, q, h0, h1, M⟩ := h.st
  exact ⟨⟨i, q, h0, h1, (M.own ho k).perm (List.Perm.swap _ _ _)⟩, h.sl⟩
/-- append(s, x, ..): a row grows by q. -/
theorem Mine.wp_pushq {P : Program} {ops : Array Oper} {rest : List Oper} {o : Oper} {a : Act} {Q : Exit → Act → World → Prop} {b w : World} {rs : List Res} (M : Mine b w rs) (hgd : o.guard = none) (s x : Operand) (t : TypeId) (ho : o.op = .call { callee := .builtin .append, args := #[s, x], argTypes := #[t, t] })
    (e : TypeId) (z : Value) (size bytes : Nat) (ht : P.underlying t = some (.slice e)) (hf : (P.info? e).map (fun i => (i.zero, i.size, i.bytes)) = some (some z, size, bytes)) (hzs : z.cells.size = size) (hsz : 0 < size)
    (i : Nat) {A : Option Addr} {n c : Nat} {xs : List Value} (hi : rs[i]? = some (.row e size A n c xs)) (hs : a.eval s = .slice A n c)
    (q : Nat) (hq : 0 < q) (news : List Value) (gn : Nat) (hgn : gn = w.heap.size) (hx : a.eval x = .slice (some ⟨gn, 0, none⟩) q q) (hl : news.length = q * size) (h1 : ∀ u ∈ news, u.oneCell' = true)
    (hbytes : (n + q) * bytes ≤ 140737488355328) (h63 : n + q ≤ maxLen)
    (h : ∀ A' c' w', Mine b w' (rs.set i (.row e size A' (n + q) c' (xs ++ news))) → wpList P ops Q rest (a.put o.dst (.slice A' (n + q) c')) w') :
    wpList P ops Q (o :: rest) a (w.alloc (.cells news.toArray e)) := by
  subst hgn
  obtain ⟨i0, hi', hz0, hz1, hz2⟩ := info_parts hf
  refine wpList_append_own_at (w := w.alloc (.cells news.toArray e)) hgd s x t ho b.heap.size e i0 z size bytes ht hi' hz0 hz1 hz2 hzs hsz (.slice A n c) n xs hs ((M.row_at i hi).alloc _) ⟨w.heap.size, 0, none⟩ q q news hx (by omega) ?_ h1 h63 hbytes (by have := M.size; simp; omega) ?_
  · intro j u hu
    have hadd : (⟨w.heap.size, 0, none⟩ : Addr).add j = ⟨w.heap.size, j, none⟩ := by unfold Addr.add; split <;> simp_all
    rw [hadd, cell_of_row _ w.heap.size j news.toArray e (0, 0) (heap_alloc_new w _)]
    simpa using hu
  · intro v' w' h2 h3 h4 h5
    obtain ⟨A', c', rfl⟩ : ∃ A' c', v' = .slice A' (n + q) c' := by
      rcases h2.2 with ⟨_, h0⟩ | ⟨g, cap, cur, hv, _⟩
      · omega
      · exact ⟨_, _, hv⟩
    refine h A' c' w' (M.swap hi (((Chg.refl _ w).al _).grown h3 (fun k hk => .inl hk)) (fun g hg => hg) h2 fun g hg => ?_)
    rcases h5 with p | p
    · exact .inl (by show (Value.slice A n c).ownBlock = some g; rw [← p]; exact hg)
    · right
      have hg' : (Value.slice A' (n + q) c').ownBlock = some g := hg
      rw [p] at hg'
      injection hg' with hg'
      simp at hg'
      omega
set_option maxHeartbeats 2000000 in
theorem pick_any (g : Nat) (S : Nat → Prop) (A : Option Addr) (n c : Nat) (bs : List UInt8) (i h : Int) (B : Option Addr) (m d : Nat) (zs : List Int) (T : Nat → Prop) (w : World) (k : Cur w g S A n c bs i h) (hn : n ≤ 1048576) (hz : Sl w T 1 B m (ints zs)) (hT : ∀ j, T j → j ≠ g) (hm : 0 < m) (hm2 : m ≤ 256) :
    Calls Try.prog 99 #[.pointer (some ⟨g, 0, none⟩), .slice B m d] w fun e w' => ∃ x i' h' : Int, e = .returned (.int .i64 x) ∧ x ∈ zs ∧ Cur w' g S A n c bs i' h' ∧ Chg (fun j => j = g) w w' := by
  have K := Lib.hid k
  have HZ := Lib.hid hz
  clear k hz
  go_enter Try.func99, Try.ntmps99
  go_wp2_with fail
  refine (l1Below_any g S A n c bs i h (m : Int) w K.out hn (by omega)).mono ?_
  rintro e w1 ⟨x, i1, h1, rfl, hx, k1, c1⟩
  obtain ⟨j, rfl⟩ : ∃ j : Nat, x = (j : Int) := ⟨x.toNat, by omega⟩
  have hj : j < m := by omega
  have HZ1 := Lib.hid (HZ.out.chg c1 (fun q hq => hT q hq))
  have K1 := Lib.hid k1
  have C1 := Lib.hid c1
  obtain ⟨b, o, z, rfl, hb, hzj, hc⟩ := HZ1.out.int_at hj
  have hj1 : (j : Int) < (m : Int) := by omega
  have hmem : Hid (z ∈ zs) := List.mem_iff_getElem?.2 ⟨j, hzj⟩
  clear k1 c1 hx hzj hj
  go_wp2
  go_ret
  exact ⟨z, i1, h1, rfl, hmem.out, K1.out, C1.out⟩
/-- A literal list of numbers, one of them drawn. -/
theorem pick_m {b w : World} {g : Nat} {A : Option Addr} {n c : Nat} {bs : List UInt8} {fr : List Res} (h : CurM b w g A n c bs fr) (hn : n ≤ 1048576) (zs : List Int) (hz : 0 < zs.length) (hz2 : zs.length ≤ 256) (gl : Nat) (hgl : gl = w.heap.size) (q : Nat) (hq : q = zs.length) :
    Calls Try.prog 99 #[.pointer (some ⟨g, 0, none⟩), .slice (some ⟨gl, 0, none⟩) q q] (w.alloc (.cells (ints zs).toArray 3)) fun e w' => (∃ x : Int, e = .returned (.int .i64 x) ∧ x ∈ zs) ∧ CurM b w' g A n c bs fr := by
  subst hgl hq
  obtain ⟨i, q, h0, h1, M⟩ := h.st
  have M1 := M.al (.cells (ints zs).toArray 3)
  have ho : (w.alloc (.cells (ints zs).toArray 3)).ownsRow w.heap.size 3 1 (.slice (some ⟨w.heap.size, 0, none⟩) zs.length zs.length) zs.length (ints zs) := by
    have := World.ownsRow_lit (size := 1) (e := 3) w (ints zs).toArray zs.length (Nat.le_refl _) (by unfold maxLen; omega) (by simp [ints])
    simpa using this
  have hgw := (M.box_at 0 rfl).lt
  refine CurM.lift ⟨⟨i, q, h0, h1, M1⟩, h.sl⟩ fun i' q' k => (pick_any g _ A n c bs i' q' _ _ _ zs (fun j => j = w.heap.size) _ k hn ((Sl.of_own ho).mono fun j hj => by have h1 := hj.2; have h2 := hj.1; simp at h1; omega) (fun j hj => by omega) hz hz2).mono fun e w' ⟨x, i2, h2, he, hx, k', c'⟩ => ⟨i2, h2, ⟨x, he, hx⟩, k', c'⟩
end Go.Proofs.Ytnhkjgnfjphllaa
