/- What DrawLineOrder draws: some value and some calls. No condition but the code's length. -/
import Derived.Test.YtcnkmbofpppfaaaDrawM
import Derived.Test.YtcnkmbofpppfaaaLineF
import Derived.Test.YtcnkmbofpppfaaaLineC
namespace Go.Proofs.Ytcnkmbofpppfaaa
open Go.RowKit Go.Deep
set_option linter.unusedSimpArgs false
set_option linter.unusedVariables false

theorem Mine.region_headS {P : Program} {b w : World} {rs rs1 : List Res} {Q : Exit → Act → World → Prop} {l : List Oper} {a : Act} {id : Nat} (MT : Mine b w rs1) (M : Mine b w rs) (n : Nat) (hm : P.follows .mixedOrders = true) (hB : headB .any l n = true)
    (h : ∀ w', Mine b w' rs → HQ P .any l Q (fun w' => Mine b w' rs1) n n (Array.replicate l.toArray.size false) a w') : (Code.region id l.toArray true).wp P Q a w := Ytcnkmbofpppfaaa.region_head n _ hm hB MT.dr (h _ M.dr)
theorem run_to {w : World} {P : Program} (t e : TypeId) (size : Nat) (ht : P.underlying t = some (.slice e)) (hf : (P.info? e).map (·.size) = some size) (A : Option Addr) (n c k : Nat) (hk : k ≤ c) :
    (Instr.slice t (.slice A n c) none (some (.int .i64 (k : Int))) none).run P w = .ok (.slice A k c) w := by
  have ht' : P.underlying t = some (.slice (P.elem t)) := by simp [Program.elem, ht]
  have he : P.elem t = e := by simp [Program.elem, ht]
  have hz : (Go.sizeOf e).run P w = .ok size w := by
    cases hq : P.info? e with
    | none => simp [hq] at hf
    | some i => simp [hq] at hf; simp [sizeOf, typeInfo, hq, hf]
  rw [run_slice_h w t _ _ _ ht' .i64 _ (by omega) (by omega), he, hz]
  simp [Result.andThen, sliced, Addr.add]
theorem rd_to {P : Program} {o : Oper} {a : Act} {C : World → Prop} {K : Act → Prop} (t : TypeId) (x y : Operand) (ho : o.op = .slice t x none (some y) none) {A : Option Addr} {n c k : Nat} {e : TypeId} (size : Nat) (hx : a.eval x = .slice A n c) (hy : a.eval y = .int .i64 (k : Int)) (ht : P.underlying t = some (.slice e)) (hf : (P.info? e).map (·.size) = some size) (hk : k ≤ c)
    (h : K (a.put o.dst (.slice A k c))) : Reads P o a C K :=
  ⟨_, fun w' _ => by
    have ht' : P.underlying t = some (.slice (P.elem t)) := by simp [Program.elem, ht]
    unfold execOp
    simp only [ho, Option.map, hx, hy, Sem.run_bind, Sem.run_pure, run_sliceAt_slice (w := w') t (.slice A n c) none (some (.int .i64 (k : Int))) none ht', run_to (w := w') t e size ht hf A n c k hk, Result.andThen], h⟩
theorem own_emptyCl (w : World) : (w.alloc (.cells #[] 26)).ownsRow w.heap.size 26 5 (.slice (some ⟨w.heap.size, 0, none⟩) 0 0) 0 (([] : List Call).flatMap Call.cells) :=
  World.ownsRow_lit w #[] 0 (Nat.le_refl _) (Nat.zero_le _) (by simp)
theorem calls_push (l : List Call) (a b c d e : Int) : l.flatMap Call.cells ++ [.int .i64 a, .int .i64 b, .int .i64 c, .int .i64 d, .int .i64 e] = (l ++ [(⟨a, b, c, d, e⟩ : Call)]).flatMap Call.cells := by simp [Call.cells]
theorem calls_one (l : List Call) : ∀ u ∈ l.flatMap Call.cells, u.oneCell' = true := by
  intro u hu
  obtain ⟨x, _, hx⟩ := List.mem_flatMap.1 hu
  simp [Call.cells] at hx
  rcases hx with h | h | h | h | h <;> subst h <;> rfl
theorem calls_drop : ∀ (k : Nat) (l : List Call), (l.flatMap Call.cells).drop (k * 5) = (l.drop k).flatMap Call.cells
  | 0, l => by simp
  | k + 1, [] => by simp
  | k + 1, x :: l => by
    have ih := calls_drop k l
    rw [List.drop_succ_cons, ← ih, List.flatMap_cons, Nat.succ_mul, show k * 5 + 5 = (Call.cells x).length + k * 5 by rw [Call.cells_length]; omega, List.drop_length_add_append]
theorem calls_take (k : Nat) (l : List Call) : (l.flatMap Call.cells).take (k * 5) = (l.take k).flatMap Call.cells := by
  have h1 := List.take_append_drop (k * 5) (l.flatMap Call.cells)
  rw [calls_drop] at h1
  have h2 : (l.take k).flatMap Call.cells ++ (l.drop k).flatMap Call.cells = l.flatMap Call.cells := by rw [← List.flatMap_append, List.take_append_drop]
  exact List.append_cancel_right (h1.trans h2.symm)
theorem call_set {l : List Call} {k f : Nat} (hk : k < l.length) (hf : f < 5) (v : Int) : ∃ l' : List Call, (l.flatMap Call.cells).set (k * 5 + f) (.int .i64 v) = l'.flatMap Call.cells ∧ l'.length = l.length := by
  have hx := List.getElem?_eq_getElem hk
  generalize l[k] = x at hx
  obtain ⟨y, hy⟩ : ∃ y : Call, (Call.cells x).set f (.int .i64 v) = Call.cells y := by
    obtain ⟨a, b, c, d, e⟩ := x
    match f, hf with
    | 0, _ => exact ⟨⟨v, b, c, d, e⟩, rfl⟩
    | 1, _ => exact ⟨⟨a, v, c, d, e⟩, rfl⟩
    | 2, _ => exact ⟨⟨a, b, v, d, e⟩, rfl⟩
    | 3, _ => exact ⟨⟨a, b, c, v, e⟩, rfl⟩
    | 4, _ => exact ⟨⟨a, b, c, d, v⟩, rfl⟩
  exact ⟨l.set k y, flat_set Call.cells_length (by omega) hx hf hy, by simp⟩
/-- The calls drawn so far. -/
def CallsM (b w : World) (g : Nat) (A : Option Addr) (n c : Nat) (bs : List UInt8) (fr : List Res) (B : Option Addr) (m d : Nat) : Prop := ∃ l : List Call, CurM b w g A n c bs (.row 26 5 B m d (l.flatMap Call.cells) :: fr)
def lenOfS : Value → Nat
  | .slice _ n _ => n
  | _ => 0

set_option maxRecDepth 4000 in
set_option maxHeartbeats 16000000 in
theorem l20Some_any {b w : World} {g : Nat} {A : Option Addr} {n c : Nat} {bs : List UInt8} {fr : List Res} (C0 : CurM b w g A n c bs fr) (hn : n ≤ 1048576) :
    Calls Try.prog 57 #[.pointer (some ⟨g, 0, none⟩)] w fun e w' => ∃ (V : Int) (B : Option Addr) (m d : Nat), e = .returned (.tuple #[.int .i64 V, .slice B m d]) ∧ m ≤ 5 ∧ CallsM b w' g A n c bs fr B m d := by
  have C := Lib.hid C0
  clear C0
  go_enter Try.func57, Try.ntmps57
  go_wp2_with fail
  refine (below_m C.out hn 4 (by omega)).mono ?_
  rintro e w1 ⟨⟨V, rfl, hV⟩, C1⟩
  replace C := Lib.hid C1
  clear C1
  clear hV
  go_wp2_with fail
  replace C := Lib.hid (C.out.row ((Ext.refl' _).al _) (own_emptyCl _))
  refine (below_m C.out hn 6 (by omega)).mono ?_
  rintro e w1 ⟨⟨x0, rfl, hx0⟩, C1⟩
  replace C := Lib.hid C1
  clear C1
  have hx0b : x0 ≤ 5 := by omega
  have hx0a : 0 ≤ x0 := hx0.1
  clear hx0
  go_wp2
  go_loopw [5, 6, 7, 8] (fun nw u at_ i wr => ∃ (B : Option Addr) (m d : Nat) (N T j : Int), nw = .int .i64 N ∧ u = .slice B m d ∧ at_ = .int .i64 T ∧ i = .int .i64 j ∧ 0 ≤ j ∧ (m : Int) + j ≤ 5 ∧ 0 ≤ T ∧ T ≤ 10 + 3 * (m : Int) ∧ Hid (CallsM b wr g A n c bs fr B m d)) (fun _ _ _ i _ => (intOf i).toNat)
  case atStart => exact ⟨_, 0, 0, V, 10, x0, rfl, rfl, rfl, rfl, hx0a, by omega, by omega, by omega, ⟨[], C.out⟩⟩
  case round =>
    obtain ⟨B, m, d, N, T, j, rfl, rfl, rfl, rfl, hj0, hjm, hT0, hT1, HA⟩ := hrel
    clear C hx0a hx0b
    obtain ⟨l, C1⟩ := HA.out
    have C := Lib.hid C1
    clear C1 HA
    by_cases hj : (0 : Int) < j
    rotate_left
    · have hm5 : m ≤ 5 := by omega
      clear hjm hj0 hT0 hT1
      by_cases h1 : (1 : Int) < (m : Int)
      rotate_left
      · skip
        by_cases hp : (0 : Int) < (m : Int)
        rotate_left
        · go_wp2
          go_ret2
          exact ⟨V, _, _, _, rfl, by omega, l, C.out⟩
        go_wp2_with fail
        refine (once_m C.out hn 3 (by omega)).mono ?_
        rintro e w1 ⟨⟨b1, rfl⟩, C1⟩
        replace C := Lib.hid C1
        clear C1
        cases b1
        · go_wp2
          go_ret2
          exact ⟨V, _, _, _, rfl, by omega, l, C.out⟩
        go_wp2_with fail
        refine (below_m C.out hn (m : Int) (by omega)).mono ?_
        rintro e w1 ⟨⟨k, rfl, hk⟩, C1⟩
        replace C := Lib.hid C1
        clear C1
        obtain ⟨U, rfl⟩ : ∃ U : Nat, k = (U : Int) := ⟨k.toNat, by omega⟩
        have hU : U < m := by omega
        have hUI : (U : Int) < (m : Int) := by omega
        clear hk
        go_wp2_with fail
        refine (below_m C.out hn 4 (by omega)).mono ?_
        rintro e w1 ⟨⟨r, rfl, hr⟩, C1⟩
        replace C := Lib.hid C1
        clear C1
        clear hr
        obtain ⟨i1, q1, i10, i11, M1⟩ := C.out.st
        have SLC := Lib.hid C.out.sl
        have M := Lib.hid M1
        clear M1 C
        obtain ⟨gB, rfl⟩ := M.out.addr 1 rfl (by omega)
        have hl : l.length = m := by have h := M.out.len 1 rfl; rw [flat_length Call.cells_length] at h; omega
        obtain ⟨l2, hl2, -⟩ := call_set (l := l) (k := U) (f := 4) (by omega) (by omega) r
        have HL2 := Lib.hid hl2
        clear hl2 hl
        go_wp2_with (first | ((with_reducible show wpList _ _ _ (⟨_, _, _, _, _, none⟩ :: _) _ _); first | (refine Mine.wp_put M.out rfl _ _ _ rfl rfl 1 _ rfl rfl _ (by (conv => lhs; whnf) <;> rfl) (by omega) (by rfl) (by kernel_rfl) ?_; intro w' M'; (try simp only [Act.put, List.setIfInBounds_toArray, List.set_cons_zero, List.set_cons_succ, List.drop_succ_cons, List.drop_zero, List.take_succ_cons, List.take_zero, putAt, ints_set, ints_push, List.getElem_toArray, List.getElem_cons_zero, List.getElem_cons_succ] at M'); replace M := Lib.hid M'; clear M')))
        rw [HL2.out] at M
        go_ret2
        exact ⟨V, _, _, _, rfl, by omega, l2, ⟨⟨i1, q1, i10, i11, M.out⟩, SLC.out⟩⟩
      go_wp2_with fail
      refine (once_m C.out hn 2 (by omega)).mono ?_
      rintro e w1 ⟨⟨b0, rfl⟩, C1⟩
      replace C := Lib.hid C1
      clear C1
      cases b0
      · skip
        have hp : (0 : Int) < (m : Int) := by omega
        go_wp2_with fail
        refine (once_m C.out hn 3 (by omega)).mono ?_
        rintro e w1 ⟨⟨b1, rfl⟩, C1⟩
        replace C := Lib.hid C1
        clear C1
        cases b1
        · go_wp2
          go_ret2
          exact ⟨V, _, _, _, rfl, by omega, l, C.out⟩
        go_wp2_with fail
        refine (below_m C.out hn (m : Int) (by omega)).mono ?_
        rintro e w1 ⟨⟨k, rfl, hk⟩, C1⟩
        replace C := Lib.hid C1
        clear C1
        obtain ⟨U, rfl⟩ : ∃ U : Nat, k = (U : Int) := ⟨k.toNat, by omega⟩
        have hU : U < m := by omega
        have hUI : (U : Int) < (m : Int) := by omega
        clear hk
        go_wp2_with fail
        refine (below_m C.out hn 4 (by omega)).mono ?_
        rintro e w1 ⟨⟨r, rfl, hr⟩, C1⟩
        replace C := Lib.hid C1
        clear C1
        clear hr
        obtain ⟨i1, q1, i10, i11, M1⟩ := C.out.st
        have SLC := Lib.hid C.out.sl
        have M := Lib.hid M1
        clear M1 C
        obtain ⟨gB, rfl⟩ := M.out.addr 1 rfl (by omega)
        have hl : l.length = m := by have h := M.out.len 1 rfl; rw [flat_length Call.cells_length] at h; omega
        obtain ⟨l2, hl2, -⟩ := call_set (l := l) (k := U) (f := 4) (by omega) (by omega) r
        have HL2 := Lib.hid hl2
        clear hl2 hl
        go_wp2_with (first | ((with_reducible show wpList _ _ _ (⟨_, _, _, _, _, none⟩ :: _) _ _); first | (refine Mine.wp_put M.out rfl _ _ _ rfl rfl 1 _ rfl rfl _ (by (conv => lhs; whnf) <;> rfl) (by omega) (by rfl) (by kernel_rfl) ?_; intro w' M'; (try simp only [Act.put, List.setIfInBounds_toArray, List.set_cons_zero, List.set_cons_succ, List.drop_succ_cons, List.drop_zero, List.take_succ_cons, List.take_zero, putAt, ints_set, ints_push, List.getElem_toArray, List.getElem_cons_zero, List.getElem_cons_succ] at M'); replace M := Lib.hid M'; clear M')))
        rw [HL2.out] at M
        go_ret2
        exact ⟨V, _, _, _, rfl, by omega, l2, ⟨⟨i1, q1, i10, i11, M.out⟩, SLC.out⟩⟩
      go_wp2_with fail
      refine (below_m C.out hn (m : Int) (by omega)).mono ?_
      rintro e w1 ⟨⟨k, rfl, hk⟩, C1⟩
      replace C := Lib.hid C1
      clear C1
      obtain ⟨U, rfl⟩ : ∃ U : Nat, k = (U : Int) := ⟨k.toNat, by omega⟩
      have hU : U < m := by omega
      have hUI : (U : Int) < (m : Int) := by omega
      clear hk
      obtain ⟨i1, q1, i10, i11, M1⟩ := C.out.st
      have SLC := Lib.hid C.out.sl
      have M := Lib.hid M1
      clear M1 C
      obtain ⟨gB, rfl⟩ := M.out.addr 1 rfl (by omega)
      have hmd := own_cap (M.out.row_at 1 rfl)
      go_wp2
      refine Mine.region_head M.out 8 (by kernel_rfl) (by kernel_rfl) ?_
      intro w' M'
      replace M := Lib.hid M'
      clear M'
      refine HQ.take (i := 1) rfl (by kernel_rfl) (by kernel_rfl) (by kernel_rfl) (by omega) rfl (fun _ _ _ _ h => h) ?_
      intro K hK
      (first | (refine rd_from (k := U) 32 _ _ rfl 5 rfl rfl Try.underlying32 (by kernel_rfl) (by omega) ?_; intro Dq hDq; (try simp only [Act.put, List.setIfInBounds_toArray, List.set_cons_zero, List.set_cons_succ, List.drop_succ_cons, List.drop_zero, List.take_succ_cons, List.take_zero, putAt, ints_set, ints_push, List.getElem_toArray, List.getElem_cons_zero, List.getElem_cons_succ]); go_big_quiet_on) | (refine rd_to (k := U) 32 _ _ rfl 5 rfl rfl Try.underlying32 (by kernel_rfl) (by omega) ?_; (try simp only [Act.put, List.setIfInBounds_toArray, List.set_cons_zero, List.set_cons_succ, List.drop_succ_cons, List.drop_zero, List.take_succ_cons, List.take_zero, putAt, ints_set, ints_push, List.getElem_toArray, List.getElem_cons_zero, List.getElem_cons_succ]); go_big_quiet_on) | (unfold Reads; apply Exists.intro; refine ⟨fun wq hq => ?_, ?_⟩; (clear hq; go_simp; first | done | rfl); (try simp only [Act.put, List.setIfInBounds_toArray, List.set_cons_succ, List.set_cons_zero]); go_big_quiet_on))
      refine HQ.take (i := 2) rfl (by kernel_rfl) (by kernel_rfl) (by kernel_rfl) (by omega) rfl (fun _ _ _ _ h => h) ?_
      intro K hK
      (first | (refine rd_from (k := U) 32 _ _ rfl 5 rfl rfl Try.underlying32 (by kernel_rfl) (by omega) ?_; intro Dq hDq; (try simp only [Act.put, List.setIfInBounds_toArray, List.set_cons_zero, List.set_cons_succ, List.drop_succ_cons, List.drop_zero, List.take_succ_cons, List.take_zero, putAt, ints_set, ints_push, List.getElem_toArray, List.getElem_cons_zero, List.getElem_cons_succ]); go_big_quiet_on) | (refine rd_to (k := U) 32 _ _ rfl 5 rfl rfl Try.underlying32 (by kernel_rfl) (by omega) ?_; (try simp only [Act.put, List.setIfInBounds_toArray, List.set_cons_zero, List.set_cons_succ, List.drop_succ_cons, List.drop_zero, List.take_succ_cons, List.take_zero, putAt, ints_set, ints_push, List.getElem_toArray, List.getElem_cons_zero, List.getElem_cons_succ]); go_big_quiet_on) | (unfold Reads; apply Exists.intro; refine ⟨fun wq hq => ?_, ?_⟩; (clear hq; go_simp; first | done | rfl); (try simp only [Act.put, List.setIfInBounds_toArray, List.set_cons_succ, List.set_cons_zero]); go_big_quiet_on))
      refine HQ.take (i := 3) rfl (by kernel_rfl) (by kernel_rfl) (by kernel_rfl) (by omega) rfl (fun _ _ _ _ h => h) ?_
      intro K hK
      (first | (refine rd_from (k := U) 32 _ _ rfl 5 rfl rfl Try.underlying32 (by kernel_rfl) (by omega) ?_; intro Dq hDq; (try simp only [Act.put, List.setIfInBounds_toArray, List.set_cons_zero, List.set_cons_succ, List.drop_succ_cons, List.drop_zero, List.take_succ_cons, List.take_zero, putAt, ints_set, ints_push, List.getElem_toArray, List.getElem_cons_zero, List.getElem_cons_succ]); go_big_quiet_on) | (refine rd_to (k := U) 32 _ _ rfl 5 rfl rfl Try.underlying32 (by kernel_rfl) (by omega) ?_; (try simp only [Act.put, List.setIfInBounds_toArray, List.set_cons_zero, List.set_cons_succ, List.drop_succ_cons, List.drop_zero, List.take_succ_cons, List.take_zero, putAt, ints_set, ints_push, List.getElem_toArray, List.getElem_cons_zero, List.getElem_cons_succ]); go_big_quiet_on) | (unfold Reads; apply Exists.intro; refine ⟨fun wq hq => ?_, ?_⟩; (clear hq; go_simp; first | done | rfl); (try simp only [Act.put, List.setIfInBounds_toArray, List.set_cons_succ, List.set_cons_zero]); go_big_quiet_on))
      refine HQ.take (i := 5) rfl (by kernel_rfl) (by kernel_rfl) (by kernel_rfl) (by omega) rfl (fun _ _ _ _ h => h) ?_
      intro K hK
      (first | (refine rd_from (k := U) 32 _ _ rfl 5 rfl rfl Try.underlying32 (by kernel_rfl) (by omega) ?_; intro Dq hDq; (try simp only [Act.put, List.setIfInBounds_toArray, List.set_cons_zero, List.set_cons_succ, List.drop_succ_cons, List.drop_zero, List.take_succ_cons, List.take_zero, putAt, ints_set, ints_push, List.getElem_toArray, List.getElem_cons_zero, List.getElem_cons_succ]); go_big_quiet_on) | (refine rd_to (k := U) 32 _ _ rfl 5 rfl rfl Try.underlying32 (by kernel_rfl) (by omega) ?_; (try simp only [Act.put, List.setIfInBounds_toArray, List.set_cons_zero, List.set_cons_succ, List.drop_succ_cons, List.drop_zero, List.take_succ_cons, List.take_zero, putAt, ints_set, ints_push, List.getElem_toArray, List.getElem_cons_zero, List.getElem_cons_succ]); go_big_quiet_on) | (unfold Reads; apply Exists.intro; refine ⟨fun wq hq => ?_, ?_⟩; (clear hq; go_simp; first | done | rfl); (try simp only [Act.put, List.setIfInBounds_toArray, List.set_cons_succ, List.set_cons_zero]); go_big_quiet_on))
      refine HQ.take (i := 6) rfl (by kernel_rfl) (by kernel_rfl) (by kernel_rfl) (by omega) rfl (fun _ _ _ _ h => h) ?_
      intro K hK
      (first | (refine rd_from (k := U) 32 _ _ rfl 5 rfl rfl Try.underlying32 (by kernel_rfl) (by omega) ?_; intro Dq hDq; (try simp only [Act.put, List.setIfInBounds_toArray, List.set_cons_zero, List.set_cons_succ, List.drop_succ_cons, List.drop_zero, List.take_succ_cons, List.take_zero, putAt, ints_set, ints_push, List.getElem_toArray, List.getElem_cons_zero, List.getElem_cons_succ]); go_big_quiet_on) | (refine rd_to (k := U) 32 _ _ rfl 5 rfl rfl Try.underlying32 (by kernel_rfl) (by omega) ?_; (try simp only [Act.put, List.setIfInBounds_toArray, List.set_cons_zero, List.set_cons_succ, List.drop_succ_cons, List.drop_zero, List.take_succ_cons, List.take_zero, putAt, ints_set, ints_push, List.getElem_toArray, List.getElem_cons_zero, List.getElem_cons_succ]); go_big_quiet_on) | (unfold Reads; apply Exists.intro; refine ⟨fun wq hq => ?_, ?_⟩; (clear hq; go_simp; first | done | rfl); (try simp only [Act.put, List.setIfInBounds_toArray, List.set_cons_succ, List.set_cons_zero]); go_big_quiet_on))
      refine HQ.take (i := 7) rfl (by kernel_rfl) (by kernel_rfl) (by kernel_rfl) (by omega) rfl (fun _ _ _ _ h => h) ?_
      intro K hK
      (first | (refine rd_from (k := U) 32 _ _ rfl 5 rfl rfl Try.underlying32 (by kernel_rfl) (by omega) ?_; intro Dq hDq; (try simp only [Act.put, List.setIfInBounds_toArray, List.set_cons_zero, List.set_cons_succ, List.drop_succ_cons, List.drop_zero, List.take_succ_cons, List.take_zero, putAt, ints_set, ints_push, List.getElem_toArray, List.getElem_cons_zero, List.getElem_cons_succ]); go_big_quiet_on) | (refine rd_to (k := U) 32 _ _ rfl 5 rfl rfl Try.underlying32 (by kernel_rfl) (by omega) ?_; (try simp only [Act.put, List.setIfInBounds_toArray, List.set_cons_zero, List.set_cons_succ, List.drop_succ_cons, List.drop_zero, List.take_succ_cons, List.take_zero, putAt, ints_set, ints_push, List.getElem_toArray, List.getElem_cons_zero, List.getElem_cons_succ]); go_big_quiet_on) | (unfold Reads; apply Exists.intro; refine ⟨fun wq hq => ?_, ?_⟩; (clear hq; go_simp; first | done | rfl); (try simp only [Act.put, List.setIfInBounds_toArray, List.set_cons_succ, List.set_cons_zero]); go_big_quiet_on))
      refine HQ.noisy (rs := [0]) (by kernel_rfl) (by simp) (AllG.cons rfl (by omega) (fun K hK => ?_) AllG.nil)
      go_simp
      replace M := Lib.hid (M.out.own (own_emptyCl _) ((Ext.refl' _).al _))
      refine hK.out _ _ (M.out.tail) ?_
      clear hK K
      (try simp only [Act.put, List.setIfInBounds_toArray, List.set_cons_succ, List.set_cons_zero])
      refine HQ.noisy (rs := [4]) (by kernel_rfl) (by simp) (AllG.cons rfl (by omega) (fun K hK => ?_) AllG.nil)
      refine Mine.step_pour M.out (by rfl) _ _ _ (by rfl) 26 _ _ _ Try.underlying32 Try.infoCall (by rfl) (by omega) 0 (by rfl) (by rfl) (fun _ => True) _ (m - U) (d - U) _ (by rfl) (Sl.from_ (M.out.row_sl 2 rfl) (by omega) hmd hDq.out) (fun u hu => calls_one l u (List.mem_of_mem_drop hu)) (by omega) (by unfold maxLen; omega) ?_
      intro A2 c2 w' M'
      simp only [Act.put, List.setIfInBounds_toArray, List.set_cons_zero, List.set_cons_succ, List.drop_succ_cons, List.drop_zero, List.take_succ_cons, List.take_zero, putAt, ints_set, ints_push, List.getElem_toArray, List.getElem_cons_zero, List.getElem_cons_succ, List.flatMap_nil, List.nil_append, Nat.zero_add] at M' ⊢
      rw [calls_drop] at M'
      replace M := Lib.hid M'
      clear M'
      refine hK.out _ _ (M.out.tail) ?_
      clear hK K
      (try simp only [Act.put, List.setIfInBounds_toArray, List.set_cons_succ, List.set_cons_zero])
      refine HQ.end_ (by kernel_rfl) ?_
      simp only [List.drop_succ_cons, List.drop_zero]
      go_wp2_with (first | (at_builtin; refine Mine.wp_pour M.out rfl _ _ 32 rfl 26 _ _ _ Try.underlying32 Try.infoCall rfl (by omega) 0 rfl rfl (fun _ => True) _ U d _ rfl (ownSl (own_cut (M.out.row_at 2 rfl) (by omega))) (fun u hu => calls_one l u (List.mem_of_mem_take hu)) (by omega) (by unfold maxLen; omega) ?_; intro A3 c3 w' M'; (try simp only [Act.put, List.setIfInBounds_toArray, List.set_cons_zero, List.set_cons_succ, List.drop_succ_cons, List.drop_zero, List.take_succ_cons, List.take_zero, putAt, ints_set, ints_push, List.getElem_toArray, List.getElem_cons_zero, List.getElem_cons_succ] at M'); rw [calls_take, ← List.flatMap_append] at M'; replace M := Lib.hid M'; clear M'))
      generalize hm9 : m - U + U = m9 at M ⊢
      replace hm5 : m9 ≤ 5 := by omega
      replace h1 : (1 : Int) < (m9 : Int) := by omega
      generalize l.drop U ++ l.take U = l9 at M
      have M4 := (M.out.drop_at [_, _]).perm (List.Perm.swap _ _ _)
      replace M := Lib.hid M4
      clear M4 hm9 hDq hmd hU hUI
      clear l
      have C : Hid (CurM _ _ _ _ _ _ _ _) := ⟨⟨i1, q1, i10, i11, M.out⟩, SLC.out⟩
      clear M SLC i10 i11
      have hp : (0 : Int) < (m9 : Int) := by omega
      go_wp2_with fail
      refine (once_m C.out hn 3 (by omega)).mono ?_
      rintro e w1 ⟨⟨b1, rfl⟩, C1⟩
      replace C := Lib.hid C1
      clear C1
      cases b1
      · go_wp2
        go_ret2
        exact ⟨V, _, _, _, rfl, by omega, l9, C.out⟩
      go_wp2_with fail
      refine (below_m C.out hn (m9 : Int) (by omega)).mono ?_
      rintro e w1 ⟨⟨k, rfl, hk⟩, C1⟩
      replace C := Lib.hid C1
      clear C1
      obtain ⟨U, rfl⟩ : ∃ U : Nat, k = (U : Int) := ⟨k.toNat, by omega⟩
      have hU : U < m9 := by omega
      have hUI : (U : Int) < (m9 : Int) := by omega
      clear hk
      go_wp2_with fail
      refine (below_m C.out hn 4 (by omega)).mono ?_
      rintro e w1 ⟨⟨r, rfl, hr⟩, C1⟩
      replace C := Lib.hid C1
      clear C1
      clear hr
      obtain ⟨i1, q1, i10, i11, M1⟩ := C.out.st
      have SLC := Lib.hid C.out.sl
      have M := Lib.hid M1
      clear M1 C
      obtain ⟨gB, rfl⟩ := M.out.addr 1 rfl (by omega)
      have hl : l9.length = m9 := by have h := M.out.len 1 rfl; rw [flat_length Call.cells_length] at h; omega
      obtain ⟨l2, hl2, -⟩ := call_set (l := l9) (k := U) (f := 4) (by omega) (by omega) r
      have HL2 := Lib.hid hl2
      clear hl2 hl
      go_wp2_with (first | ((with_reducible show wpList _ _ _ (⟨_, _, _, _, _, none⟩ :: _) _ _); first | (refine Mine.wp_put M.out rfl _ _ _ rfl rfl 1 _ rfl rfl _ (by (conv => lhs; whnf) <;> rfl) (by omega) (by rfl) (by kernel_rfl) ?_; intro w' M'; (try simp only [Act.put, List.setIfInBounds_toArray, List.set_cons_zero, List.set_cons_succ, List.drop_succ_cons, List.drop_zero, List.take_succ_cons, List.take_zero, putAt, ints_set, ints_push, List.getElem_toArray, List.getElem_cons_zero, List.getElem_cons_succ] at M'); replace M := Lib.hid M'; clear M')))
      rw [HL2.out] at M
      go_ret2
      exact ⟨V, _, _, _, rfl, by omega, l2, ⟨⟨i1, q1, i10, i11, M.out⟩, SLC.out⟩⟩
    have HJ : Hid (0 < j) := hj
    have HJM : Hid ((m : Int) + j ≤ 5) := hjm
    have HT0 : Hid (0 ≤ T) := hT0
    have HT1 : Hid (T ≤ 10 + 3 * (m : Int)) := hT1
    have hm5 : m ≤ 5 := by omega
    have hj5 : j ≤ 5 := by omega
    have hT2 : T ≤ 40 := by omega
    clear hjm hj0 hT1
    go_wp2_with fail
    refine (below_m C.out hn 4 (by omega)).mono ?_
    rintro e w1 ⟨⟨x1, rfl, hx1⟩, C1⟩
    replace C := Lib.hid C1
    clear C1
    have hx1a : 0 ≤ x1 ∧ x1 ≤ 3 := by omega
    clear hx1
    obtain ⟨hx10, hx11⟩ := hx1a
    go_wp2_with fail
    refine (below_m C.out hn 4 (by omega)).mono ?_
    rintro e w1 ⟨⟨x2, rfl, hx2⟩, C1⟩
    replace C := Lib.hid C1
    clear C1
    clear hx2
    obtain ⟨i1, q1, i10, i11, M1⟩ := C.out.st
    have SLC := Lib.hid C.out.sl
    have M := Lib.hid M1
    clear M1 C
    by_cases hk : x1 = 1
    · subst hk
      go_wp2_with (first | (at_builtin; refine Mine.wp_push M.out rfl _ _ 32 rfl 26 _ _ _ Try.underlying32 Try.infoCall rfl (by omega) 2 rfl rfl _ _ rfl rfl rfl (by simp [Value.oneCell']) (by omega) (by unfold maxLen; omega) ?_; intro A2 c2 w' M'; (try simp only [Act.put, List.setIfInBounds_toArray, List.set_cons_zero, List.set_cons_succ, List.drop_succ_cons, List.drop_zero, List.take_succ_cons, List.take_zero, putAt, ints_set, ints_push, List.getElem_toArray, List.getElem_cons_zero, List.getElem_cons_succ] at M'); replace M := Lib.hid M'; clear M') | ((with_reducible show wpList _ _ _ (⟨_, _, _, _, _, none⟩ :: _) _ _); first | (refine Mine.wp_alloc M.out rfl 26 rfl (.agg #[.int .i64 0, .int .i64 0, .int .i64 0, .int .i64 0, .int .i64 0]) (by kernel_rfl) ?_; intro gx w' M'; (try simp only [Value.cells, Act.put, List.setIfInBounds_toArray, List.set_cons_zero, List.set_cons_succ, List.drop_succ_cons, List.drop_zero, List.take_succ_cons, List.take_zero, putAt, ints_set, ints_push, List.getElem_toArray, List.getElem_cons_zero, List.getElem_cons_succ] at M'); replace M := Lib.hid (M'.sink [_]); clear M'; simp only [List.cons_append, List.nil_append] at M; (try simp only [Act.put, List.setIfInBounds_toArray, List.set_cons_zero, List.set_cons_succ, List.drop_succ_cons, List.drop_zero, List.take_succ_cons, List.take_zero, putAt, ints_set, ints_push, List.getElem_toArray, List.getElem_cons_zero, List.getElem_cons_succ])) | (refine Mine.wp_sets M.out rfl 26 _ _ rfl rfl 1 _ rfl rfl _ rfl (Nat.le_of_ble_eq_true rfl) (by simp [Value.oneCell']) (by kernel_rfl) ?_; intro w' M'; (try simp only [Act.put, List.setIfInBounds_toArray, List.set_cons_zero, List.set_cons_succ, List.drop_succ_cons, List.drop_zero, List.take_succ_cons, List.take_zero, putAt, ints_set, ints_push, List.getElem_toArray, List.getElem_cons_zero, List.getElem_cons_succ] at M'); replace M := Lib.hid M'; clear M') | (refine Mine.wp_get M.out rfl _ _ rfl 1 _ rfl rfl _ rfl _ (by first | exact Try.underlying3) (by rfl) ?_; (try simp only [Act.put, List.setIfInBounds_toArray, List.set_cons_zero, List.set_cons_succ, List.drop_succ_cons, List.drop_zero, List.take_succ_cons, List.take_zero, putAt, ints_set, ints_push, List.getElem_toArray, List.getElem_cons_zero, List.getElem_cons_succ])) | (refine Mine.wp_set M.out rfl _ _ _ rfl rfl 1 _ rfl rfl _ (by (conv => lhs; whnf) <;> rfl) (Nat.le_of_ble_eq_true rfl) (by rfl) (by kernel_rfl) ?_; intro w' M'; (try simp only [Act.put, List.setIfInBounds_toArray, List.set_cons_zero, List.set_cons_succ, List.drop_succ_cons, List.drop_zero, List.take_succ_cons, List.take_zero, putAt, ints_set, ints_push, List.getElem_toArray, List.getElem_cons_zero, List.getElem_cons_succ] at M'); replace M := Lib.hid M'; clear M') | (refine Mine.wp_gets M.out rfl 26 _ rfl 1 _ 5 rfl rfl (Nat.le_of_ble_eq_true rfl) _ Try.underlying26 (by rfl) (by kernel_rfl) ?_; (try simp only [Act.put, List.setIfInBounds_toArray, List.set_cons_zero, List.set_cons_succ, List.drop_succ_cons, List.drop_zero, List.take_succ_cons, List.take_zero, putAt, ints_set, ints_push, List.getElem_toArray, List.getElem_cons_zero, List.getElem_cons_succ]))))
      refine (spec_CallDo N _ _ _ _ _ _).mono ?_
      rintro e w2 ⟨rfl, x9⟩
      replace M := Lib.hid (M.out.on x9)
      clear x9
      generalize (callDo N _ _).1 = N2
      generalize (callDo N _ _).2 = R2
      go_wp2_with (first | (at_builtin; refine Mine.wp_push M.out rfl _ _ 32 rfl 26 _ _ _ Try.underlying32 Try.infoCall rfl (by omega) 2 rfl rfl _ _ rfl rfl rfl (by simp [Value.oneCell']) (by omega) (by unfold maxLen; omega) ?_; intro A2 c2 w' M'; (try simp only [Act.put, List.setIfInBounds_toArray, List.set_cons_zero, List.set_cons_succ, List.drop_succ_cons, List.drop_zero, List.take_succ_cons, List.take_zero, putAt, ints_set, ints_push, List.getElem_toArray, List.getElem_cons_zero, List.getElem_cons_succ] at M'); replace M := Lib.hid M'; clear M') | ((with_reducible show wpList _ _ _ (⟨_, _, _, _, _, none⟩ :: _) _ _); first | (refine Mine.wp_alloc M.out rfl 26 rfl (.agg #[.int .i64 0, .int .i64 0, .int .i64 0, .int .i64 0, .int .i64 0]) (by kernel_rfl) ?_; intro gx w' M'; (try simp only [Value.cells, Act.put, List.setIfInBounds_toArray, List.set_cons_zero, List.set_cons_succ, List.drop_succ_cons, List.drop_zero, List.take_succ_cons, List.take_zero, putAt, ints_set, ints_push, List.getElem_toArray, List.getElem_cons_zero, List.getElem_cons_succ] at M'); replace M := Lib.hid (M'.sink [_]); clear M'; simp only [List.cons_append, List.nil_append] at M; (try simp only [Act.put, List.setIfInBounds_toArray, List.set_cons_zero, List.set_cons_succ, List.drop_succ_cons, List.drop_zero, List.take_succ_cons, List.take_zero, putAt, ints_set, ints_push, List.getElem_toArray, List.getElem_cons_zero, List.getElem_cons_succ])) | (refine Mine.wp_sets M.out rfl 26 _ _ rfl rfl 1 _ rfl rfl _ rfl (Nat.le_of_ble_eq_true rfl) (by simp [Value.oneCell']) (by kernel_rfl) ?_; intro w' M'; (try simp only [Act.put, List.setIfInBounds_toArray, List.set_cons_zero, List.set_cons_succ, List.drop_succ_cons, List.drop_zero, List.take_succ_cons, List.take_zero, putAt, ints_set, ints_push, List.getElem_toArray, List.getElem_cons_zero, List.getElem_cons_succ] at M'); replace M := Lib.hid M'; clear M') | (refine Mine.wp_get M.out rfl _ _ rfl 1 _ rfl rfl _ rfl _ (by first | exact Try.underlying3) (by rfl) ?_; (try simp only [Act.put, List.setIfInBounds_toArray, List.set_cons_zero, List.set_cons_succ, List.drop_succ_cons, List.drop_zero, List.take_succ_cons, List.take_zero, putAt, ints_set, ints_push, List.getElem_toArray, List.getElem_cons_zero, List.getElem_cons_succ])) | (refine Mine.wp_set M.out rfl _ _ _ rfl rfl 1 _ rfl rfl _ (by (conv => lhs; whnf) <;> rfl) (Nat.le_of_ble_eq_true rfl) (by rfl) (by kernel_rfl) ?_; intro w' M'; (try simp only [Act.put, List.setIfInBounds_toArray, List.set_cons_zero, List.set_cons_succ, List.drop_succ_cons, List.drop_zero, List.take_succ_cons, List.take_zero, putAt, ints_set, ints_push, List.getElem_toArray, List.getElem_cons_zero, List.getElem_cons_succ] at M'); replace M := Lib.hid M'; clear M') | (refine Mine.wp_gets M.out rfl 26 _ rfl 1 _ 5 rfl rfl (Nat.le_of_ble_eq_true rfl) _ Try.underlying26 (by rfl) (by kernel_rfl) ?_; (try simp only [Act.put, List.setIfInBounds_toArray, List.set_cons_zero, List.set_cons_succ, List.drop_succ_cons, List.drop_zero, List.take_succ_cons, List.take_zero, putAt, ints_set, ints_push, List.getElem_toArray, List.getElem_cons_zero, List.getElem_cons_succ]))))
      have MT : Mine b _ _ := M.out.sub (List.Sublist.cons _ (List.Sublist.cons_cons _ (List.nil_sublist _)))
      refine Mine.region_headS MT M.out 4 (by kernel_rfl) (by kernel_rfl) ?_
      intro w' M'
      replace M := Lib.hid M'
      clear M'
      clear MT
      refine HQ.take (i := 0) rfl (by kernel_rfl) (by kernel_rfl) (by kernel_rfl) (by omega) rfl (fun _ _ _ _ h => h) ?_
      intro K hK
      (first | (refine Mine.rd_get _ _ rfl 0 _ rfl rfl _ rfl _ (by first | exact Try.underlying3) (by rfl) ?_; (try simp only [Act.put, List.setIfInBounds_toArray, List.set_cons_zero, List.set_cons_succ, List.drop_succ_cons, List.drop_zero, List.take_succ_cons, List.take_zero, putAt, ints_set, ints_push, List.getElem_toArray, List.getElem_cons_zero, List.getElem_cons_succ]); go_big_quiet_on) | (unfold Reads; apply Exists.intro; refine ⟨fun wq hq => ?_, ?_⟩; (clear hq; go_simp; first | done | rfl); (try simp only [Act.put, List.setIfInBounds_toArray, List.set_cons_succ, List.set_cons_zero]); go_big_quiet_on))
      refine HQ.take (i := 1) rfl (by kernel_rfl) (by kernel_rfl) (by kernel_rfl) (by omega) rfl (fun _ _ _ _ h => h) ?_
      intro K hK
      (first | (refine Mine.rd_get _ _ rfl 0 _ rfl rfl _ rfl _ (by first | exact Try.underlying3) (by rfl) ?_; (try simp only [Act.put, List.setIfInBounds_toArray, List.set_cons_zero, List.set_cons_succ, List.drop_succ_cons, List.drop_zero, List.take_succ_cons, List.take_zero, putAt, ints_set, ints_push, List.getElem_toArray, List.getElem_cons_zero, List.getElem_cons_succ]); go_big_quiet_on) | (unfold Reads; apply Exists.intro; refine ⟨fun wq hq => ?_, ?_⟩; (clear hq; go_simp; first | done | rfl); (try simp only [Act.put, List.setIfInBounds_toArray, List.set_cons_succ, List.set_cons_zero]); go_big_quiet_on))
      refine HQ.take (i := 2) rfl (by kernel_rfl) (by kernel_rfl) (by kernel_rfl) (by omega) rfl (fun _ _ _ _ h => h) ?_
      intro K hK
      (first | (refine Mine.rd_get _ _ rfl 0 _ rfl rfl _ rfl _ (by first | exact Try.underlying3) (by rfl) ?_; (try simp only [Act.put, List.setIfInBounds_toArray, List.set_cons_zero, List.set_cons_succ, List.drop_succ_cons, List.drop_zero, List.take_succ_cons, List.take_zero, putAt, ints_set, ints_push, List.getElem_toArray, List.getElem_cons_zero, List.getElem_cons_succ]); go_big_quiet_on) | (unfold Reads; apply Exists.intro; refine ⟨fun wq hq => ?_, ?_⟩; (clear hq; go_simp; first | done | rfl); (try simp only [Act.put, List.setIfInBounds_toArray, List.set_cons_succ, List.set_cons_zero]); go_big_quiet_on))
      refine HQ.noisy (rs := [3]) (by kernel_rfl) (by simp) (AllG.cons rfl (by omega) (fun K hK => ?_) AllG.nil)
      have C : Hid (CurM _ _ _ _ _ _ _ _) := ⟨⟨i1, q1, i10, i11, M.out⟩, SLC.out⟩
      clear M SLC i10 i11
      go_simp
      go_at_call 59
      refine (below_m C.out hn 9 (by omega)).mono ?_
      rintro e w1 ⟨⟨y1, rfl, hy1⟩, C1⟩
      replace C := Lib.hid C1
      clear C1
      have hy1a : 0 ≤ y1 ∧ y1 ≤ 8 := by omega
      clear hy1
      obtain ⟨hy10, hy11⟩ := hy1a
      obtain ⟨i1, q1, i10, i11, M1⟩ := C.out.st
      have SLC := Lib.hid C.out.sl
      have M := Lib.hid M1
      clear M1 C
      refine hK.out _ _ (M.out.sub (List.Sublist.cons _ (List.Sublist.cons_cons _ (List.nil_sublist _)))) ?_
      clear hK K
      (try simp only [Act.put, List.setIfInBounds_toArray, List.set_cons_succ, List.set_cons_zero])
      refine HQ.end_ (by kernel_rfl) ?_
      simp only [List.drop_succ_cons, List.drop_zero]
      go_wp2_with (first | (at_builtin; refine Mine.wp_push M.out rfl _ _ 32 rfl 26 _ _ _ Try.underlying32 Try.infoCall rfl (by omega) 2 rfl rfl _ _ rfl rfl rfl (by simp [Value.oneCell']) (by omega) (by unfold maxLen; omega) ?_; intro A2 c2 w' M'; (try simp only [Act.put, List.setIfInBounds_toArray, List.set_cons_zero, List.set_cons_succ, List.drop_succ_cons, List.drop_zero, List.take_succ_cons, List.take_zero, putAt, ints_set, ints_push, List.getElem_toArray, List.getElem_cons_zero, List.getElem_cons_succ] at M'); replace M := Lib.hid M'; clear M') | ((with_reducible show wpList _ _ _ (⟨_, _, _, _, _, none⟩ :: _) _ _); first | (refine Mine.wp_alloc M.out rfl 26 rfl (.agg #[.int .i64 0, .int .i64 0, .int .i64 0, .int .i64 0, .int .i64 0]) (by kernel_rfl) ?_; intro gx w' M'; (try simp only [Value.cells, Act.put, List.setIfInBounds_toArray, List.set_cons_zero, List.set_cons_succ, List.drop_succ_cons, List.drop_zero, List.take_succ_cons, List.take_zero, putAt, ints_set, ints_push, List.getElem_toArray, List.getElem_cons_zero, List.getElem_cons_succ] at M'); replace M := Lib.hid (M'.sink [_]); clear M'; simp only [List.cons_append, List.nil_append] at M; (try simp only [Act.put, List.setIfInBounds_toArray, List.set_cons_zero, List.set_cons_succ, List.drop_succ_cons, List.drop_zero, List.take_succ_cons, List.take_zero, putAt, ints_set, ints_push, List.getElem_toArray, List.getElem_cons_zero, List.getElem_cons_succ])) | (refine Mine.wp_sets M.out rfl 26 _ _ rfl rfl 1 _ rfl rfl _ rfl (Nat.le_of_ble_eq_true rfl) (by simp [Value.oneCell']) (by kernel_rfl) ?_; intro w' M'; (try simp only [Act.put, List.setIfInBounds_toArray, List.set_cons_zero, List.set_cons_succ, List.drop_succ_cons, List.drop_zero, List.take_succ_cons, List.take_zero, putAt, ints_set, ints_push, List.getElem_toArray, List.getElem_cons_zero, List.getElem_cons_succ] at M'); replace M := Lib.hid M'; clear M') | (refine Mine.wp_get M.out rfl _ _ rfl 1 _ rfl rfl _ rfl _ (by first | exact Try.underlying3) (by rfl) ?_; (try simp only [Act.put, List.setIfInBounds_toArray, List.set_cons_zero, List.set_cons_succ, List.drop_succ_cons, List.drop_zero, List.take_succ_cons, List.take_zero, putAt, ints_set, ints_push, List.getElem_toArray, List.getElem_cons_zero, List.getElem_cons_succ])) | (refine Mine.wp_set M.out rfl _ _ _ rfl rfl 1 _ rfl rfl _ (by (conv => lhs; whnf) <;> rfl) (Nat.le_of_ble_eq_true rfl) (by rfl) (by kernel_rfl) ?_; intro w' M'; (try simp only [Act.put, List.setIfInBounds_toArray, List.set_cons_zero, List.set_cons_succ, List.drop_succ_cons, List.drop_zero, List.take_succ_cons, List.take_zero, putAt, ints_set, ints_push, List.getElem_toArray, List.getElem_cons_zero, List.getElem_cons_succ] at M'); replace M := Lib.hid M'; clear M') | (refine Mine.wp_gets M.out rfl 26 _ rfl 1 _ 5 rfl rfl (Nat.le_of_ble_eq_true rfl) _ Try.underlying26 (by rfl) (by kernel_rfl) ?_; (try simp only [Act.put, List.setIfInBounds_toArray, List.set_cons_zero, List.set_cons_succ, List.drop_succ_cons, List.drop_zero, List.take_succ_cons, List.take_zero, putAt, ints_set, ints_push, List.getElem_toArray, List.getElem_cons_zero, List.getElem_cons_succ]))))
      all_goals
        have MT : Mine b _ _ := M.out.sub (List.Sublist.cons _ (List.Sublist.cons_cons _ (List.nil_sublist _)))
        refine Mine.region_headS MT M.out 4 (by kernel_rfl) (by kernel_rfl) ?_
        intro w' M'
        replace M := Lib.hid M'
        clear M'
        clear MT
        refine HQ.take (i := 0) rfl (by kernel_rfl) (by kernel_rfl) (by kernel_rfl) (by omega) rfl (fun _ _ _ _ h => h) ?_
        intro K hK
        (first | (refine Mine.rd_get _ _ rfl 0 _ rfl rfl _ rfl _ (by first | exact Try.underlying3) (by rfl) ?_; (try simp only [Act.put, List.setIfInBounds_toArray, List.set_cons_zero, List.set_cons_succ, List.drop_succ_cons, List.drop_zero, List.take_succ_cons, List.take_zero, putAt, ints_set, ints_push, List.getElem_toArray, List.getElem_cons_zero, List.getElem_cons_succ]); go_big_quiet_on) | (unfold Reads; apply Exists.intro; refine ⟨fun wq hq => ?_, ?_⟩; (clear hq; go_simp; first | done | rfl); (try simp only [Act.put, List.setIfInBounds_toArray, List.set_cons_succ, List.set_cons_zero]); go_big_quiet_on))
        refine HQ.take (i := 1) rfl (by kernel_rfl) (by kernel_rfl) (by kernel_rfl) (by omega) rfl (fun _ _ _ _ h => h) ?_
        intro K hK
        (first | (refine Mine.rd_get _ _ rfl 0 _ rfl rfl _ rfl _ (by first | exact Try.underlying3) (by rfl) ?_; (try simp only [Act.put, List.setIfInBounds_toArray, List.set_cons_zero, List.set_cons_succ, List.drop_succ_cons, List.drop_zero, List.take_succ_cons, List.take_zero, putAt, ints_set, ints_push, List.getElem_toArray, List.getElem_cons_zero, List.getElem_cons_succ]); go_big_quiet_on) | (unfold Reads; apply Exists.intro; refine ⟨fun wq hq => ?_, ?_⟩; (clear hq; go_simp; first | done | rfl); (try simp only [Act.put, List.setIfInBounds_toArray, List.set_cons_succ, List.set_cons_zero]); go_big_quiet_on))
        refine HQ.take (i := 2) rfl (by kernel_rfl) (by kernel_rfl) (by kernel_rfl) (by omega) rfl (fun _ _ _ _ h => h) ?_
        intro K hK
        (first | (refine Mine.rd_get _ _ rfl 0 _ rfl rfl _ rfl _ (by first | exact Try.underlying3) (by rfl) ?_; (try simp only [Act.put, List.setIfInBounds_toArray, List.set_cons_zero, List.set_cons_succ, List.drop_succ_cons, List.drop_zero, List.take_succ_cons, List.take_zero, putAt, ints_set, ints_push, List.getElem_toArray, List.getElem_cons_zero, List.getElem_cons_succ]); go_big_quiet_on) | (unfold Reads; apply Exists.intro; refine ⟨fun wq hq => ?_, ?_⟩; (clear hq; go_simp; first | done | rfl); (try simp only [Act.put, List.setIfInBounds_toArray, List.set_cons_succ, List.set_cons_zero]); go_big_quiet_on))
        refine HQ.noisy (rs := [3]) (by kernel_rfl) (by simp) (AllG.cons rfl (by omega) (fun K hK => ?_) AllG.nil)
        have C : Hid (CurM _ _ _ _ _ _ _ _) := ⟨⟨i1, q1, i10, i11, M.out⟩, SLC.out⟩
        clear M SLC i10 i11
        go_simp
        go_at_call 59
        refine (below_m C.out hn 9 (by omega)).mono ?_
        rintro e w1 ⟨⟨y2, rfl, hy2⟩, C1⟩
        replace C := Lib.hid C1
        clear C1
        have hy2a : 0 ≤ y2 ∧ y2 ≤ 8 := by omega
        clear hy2
        obtain ⟨hy20, hy21⟩ := hy2a
        obtain ⟨i1, q1, i10, i11, M1⟩ := C.out.st
        have SLC := Lib.hid C.out.sl
        have M := Lib.hid M1
        clear M1 C
        refine hK.out _ _ (M.out.sub (List.Sublist.cons _ (List.Sublist.cons_cons _ (List.nil_sublist _)))) ?_
        clear hK K
        (try simp only [Act.put, List.setIfInBounds_toArray, List.set_cons_succ, List.set_cons_zero])
        refine HQ.end_ (by kernel_rfl) ?_
        simp only [List.drop_succ_cons, List.drop_zero]
        go_wp2_with (first | (at_builtin; refine Mine.wp_push M.out rfl _ _ 32 rfl 26 _ _ _ Try.underlying32 Try.infoCall rfl (by omega) 2 rfl rfl _ _ rfl rfl rfl (by simp [Value.oneCell']) (by omega) (by unfold maxLen; omega) ?_; intro A2 c2 w' M'; (try simp only [Act.put, List.setIfInBounds_toArray, List.set_cons_zero, List.set_cons_succ, List.drop_succ_cons, List.drop_zero, List.take_succ_cons, List.take_zero, putAt, ints_set, ints_push, List.getElem_toArray, List.getElem_cons_zero, List.getElem_cons_succ] at M'); replace M := Lib.hid M'; clear M') | ((with_reducible show wpList _ _ _ (⟨_, _, _, _, _, none⟩ :: _) _ _); first | (refine Mine.wp_alloc M.out rfl 26 rfl (.agg #[.int .i64 0, .int .i64 0, .int .i64 0, .int .i64 0, .int .i64 0]) (by kernel_rfl) ?_; intro gx w' M'; (try simp only [Value.cells, Act.put, List.setIfInBounds_toArray, List.set_cons_zero, List.set_cons_succ, List.drop_succ_cons, List.drop_zero, List.take_succ_cons, List.take_zero, putAt, ints_set, ints_push, List.getElem_toArray, List.getElem_cons_zero, List.getElem_cons_succ] at M'); replace M := Lib.hid (M'.sink [_]); clear M'; simp only [List.cons_append, List.nil_append] at M; (try simp only [Act.put, List.setIfInBounds_toArray, List.set_cons_zero, List.set_cons_succ, List.drop_succ_cons, List.drop_zero, List.take_succ_cons, List.take_zero, putAt, ints_set, ints_push, List.getElem_toArray, List.getElem_cons_zero, List.getElem_cons_succ])) | (refine Mine.wp_sets M.out rfl 26 _ _ rfl rfl 1 _ rfl rfl _ rfl (Nat.le_of_ble_eq_true rfl) (by simp [Value.oneCell']) (by kernel_rfl) ?_; intro w' M'; (try simp only [Act.put, List.setIfInBounds_toArray, List.set_cons_zero, List.set_cons_succ, List.drop_succ_cons, List.drop_zero, List.take_succ_cons, List.take_zero, putAt, ints_set, ints_push, List.getElem_toArray, List.getElem_cons_zero, List.getElem_cons_succ] at M'); replace M := Lib.hid M'; clear M') | (refine Mine.wp_get M.out rfl _ _ rfl 1 _ rfl rfl _ rfl _ (by first | exact Try.underlying3) (by rfl) ?_; (try simp only [Act.put, List.setIfInBounds_toArray, List.set_cons_zero, List.set_cons_succ, List.drop_succ_cons, List.drop_zero, List.take_succ_cons, List.take_zero, putAt, ints_set, ints_push, List.getElem_toArray, List.getElem_cons_zero, List.getElem_cons_succ])) | (refine Mine.wp_set M.out rfl _ _ _ rfl rfl 1 _ rfl rfl _ (by (conv => lhs; whnf) <;> rfl) (Nat.le_of_ble_eq_true rfl) (by rfl) (by kernel_rfl) ?_; intro w' M'; (try simp only [Act.put, List.setIfInBounds_toArray, List.set_cons_zero, List.set_cons_succ, List.drop_succ_cons, List.drop_zero, List.take_succ_cons, List.take_zero, putAt, ints_set, ints_push, List.getElem_toArray, List.getElem_cons_zero, List.getElem_cons_succ] at M'); replace M := Lib.hid M'; clear M') | (refine Mine.wp_gets M.out rfl 26 _ rfl 1 _ 5 rfl rfl (Nat.le_of_ble_eq_true rfl) _ Try.underlying26 (by rfl) (by kernel_rfl) ?_; (try simp only [Act.put, List.setIfInBounds_toArray, List.set_cons_zero, List.set_cons_succ, List.drop_succ_cons, List.drop_zero, List.take_succ_cons, List.take_zero, putAt, ints_set, ints_push, List.getElem_toArray, List.getElem_cons_zero, List.getElem_cons_succ]))))
        rw [calls_push] at M
        have M4 := M.out.drop_at [_]
        go_roundw
        case rel => exact ⟨_, _, _, _, _, _, rfl, rfl, by go_num, by go_num, by have := HJ.out; omega, by have := HJM.out; omega, by have := HT0.out; omega, by have := HT1.out; omega, _, ⟨⟨i1, q1, i10, i11, M4⟩, SLC.out⟩⟩
        case measure => have := HJ.out; simp [intOf]; omega
    have bk : ((1 + x1) == 2) = false := by simp; omega
    go_wp2_with (first | (at_builtin; refine Mine.wp_push M.out rfl _ _ 32 rfl 26 _ _ _ Try.underlying32 Try.infoCall rfl (by omega) 2 rfl rfl _ _ rfl rfl rfl (by simp [Value.oneCell']) (by omega) (by unfold maxLen; omega) ?_; intro A2 c2 w' M'; (try simp only [Act.put, List.setIfInBounds_toArray, List.set_cons_zero, List.set_cons_succ, List.drop_succ_cons, List.drop_zero, List.take_succ_cons, List.take_zero, putAt, ints_set, ints_push, List.getElem_toArray, List.getElem_cons_zero, List.getElem_cons_succ] at M'); replace M := Lib.hid M'; clear M') | ((with_reducible show wpList _ _ _ (⟨_, _, _, _, _, none⟩ :: _) _ _); first | (refine Mine.wp_alloc M.out rfl 26 rfl (.agg #[.int .i64 0, .int .i64 0, .int .i64 0, .int .i64 0, .int .i64 0]) (by kernel_rfl) ?_; intro gx w' M'; (try simp only [Value.cells, Act.put, List.setIfInBounds_toArray, List.set_cons_zero, List.set_cons_succ, List.drop_succ_cons, List.drop_zero, List.take_succ_cons, List.take_zero, putAt, ints_set, ints_push, List.getElem_toArray, List.getElem_cons_zero, List.getElem_cons_succ] at M'); replace M := Lib.hid (M'.sink [_]); clear M'; simp only [List.cons_append, List.nil_append] at M; (try simp only [Act.put, List.setIfInBounds_toArray, List.set_cons_zero, List.set_cons_succ, List.drop_succ_cons, List.drop_zero, List.take_succ_cons, List.take_zero, putAt, ints_set, ints_push, List.getElem_toArray, List.getElem_cons_zero, List.getElem_cons_succ])) | (refine Mine.wp_sets M.out rfl 26 _ _ rfl rfl 1 _ rfl rfl _ rfl (Nat.le_of_ble_eq_true rfl) (by simp [Value.oneCell']) (by kernel_rfl) ?_; intro w' M'; (try simp only [Act.put, List.setIfInBounds_toArray, List.set_cons_zero, List.set_cons_succ, List.drop_succ_cons, List.drop_zero, List.take_succ_cons, List.take_zero, putAt, ints_set, ints_push, List.getElem_toArray, List.getElem_cons_zero, List.getElem_cons_succ] at M'); replace M := Lib.hid M'; clear M') | (refine Mine.wp_get M.out rfl _ _ rfl 1 _ rfl rfl _ rfl _ (by first | exact Try.underlying3) (by rfl) ?_; (try simp only [Act.put, List.setIfInBounds_toArray, List.set_cons_zero, List.set_cons_succ, List.drop_succ_cons, List.drop_zero, List.take_succ_cons, List.take_zero, putAt, ints_set, ints_push, List.getElem_toArray, List.getElem_cons_zero, List.getElem_cons_succ])) | (refine Mine.wp_set M.out rfl _ _ _ rfl rfl 1 _ rfl rfl _ (by (conv => lhs; whnf) <;> rfl) (Nat.le_of_ble_eq_true rfl) (by rfl) (by kernel_rfl) ?_; intro w' M'; (try simp only [Act.put, List.setIfInBounds_toArray, List.set_cons_zero, List.set_cons_succ, List.drop_succ_cons, List.drop_zero, List.take_succ_cons, List.take_zero, putAt, ints_set, ints_push, List.getElem_toArray, List.getElem_cons_zero, List.getElem_cons_succ] at M'); replace M := Lib.hid M'; clear M') | (refine Mine.wp_gets M.out rfl 26 _ rfl 1 _ 5 rfl rfl (Nat.le_of_ble_eq_true rfl) _ Try.underlying26 (by rfl) (by kernel_rfl) ?_; (try simp only [Act.put, List.setIfInBounds_toArray, List.set_cons_zero, List.set_cons_succ, List.drop_succ_cons, List.drop_zero, List.take_succ_cons, List.take_zero, putAt, ints_set, ints_push, List.getElem_toArray, List.getElem_cons_zero, List.getElem_cons_succ]))))
    refine (spec_CallDo N _ _ _ _ _ _).mono ?_
    rintro e w2 ⟨rfl, x9⟩
    replace M := Lib.hid (M.out.on x9)
    clear x9
    generalize (callDo N _ _).1 = N2
    generalize (callDo N _ _).2 = R2
    go_wp2_with (first | (at_builtin; refine Mine.wp_push M.out rfl _ _ 32 rfl 26 _ _ _ Try.underlying32 Try.infoCall rfl (by omega) 2 rfl rfl _ _ rfl rfl rfl (by simp [Value.oneCell']) (by omega) (by unfold maxLen; omega) ?_; intro A2 c2 w' M'; (try simp only [Act.put, List.setIfInBounds_toArray, List.set_cons_zero, List.set_cons_succ, List.drop_succ_cons, List.drop_zero, List.take_succ_cons, List.take_zero, putAt, ints_set, ints_push, List.getElem_toArray, List.getElem_cons_zero, List.getElem_cons_succ] at M'); replace M := Lib.hid M'; clear M') | ((with_reducible show wpList _ _ _ (⟨_, _, _, _, _, none⟩ :: _) _ _); first | (refine Mine.wp_alloc M.out rfl 26 rfl (.agg #[.int .i64 0, .int .i64 0, .int .i64 0, .int .i64 0, .int .i64 0]) (by kernel_rfl) ?_; intro gx w' M'; (try simp only [Value.cells, Act.put, List.setIfInBounds_toArray, List.set_cons_zero, List.set_cons_succ, List.drop_succ_cons, List.drop_zero, List.take_succ_cons, List.take_zero, putAt, ints_set, ints_push, List.getElem_toArray, List.getElem_cons_zero, List.getElem_cons_succ] at M'); replace M := Lib.hid (M'.sink [_]); clear M'; simp only [List.cons_append, List.nil_append] at M; (try simp only [Act.put, List.setIfInBounds_toArray, List.set_cons_zero, List.set_cons_succ, List.drop_succ_cons, List.drop_zero, List.take_succ_cons, List.take_zero, putAt, ints_set, ints_push, List.getElem_toArray, List.getElem_cons_zero, List.getElem_cons_succ])) | (refine Mine.wp_sets M.out rfl 26 _ _ rfl rfl 1 _ rfl rfl _ rfl (Nat.le_of_ble_eq_true rfl) (by simp [Value.oneCell']) (by kernel_rfl) ?_; intro w' M'; (try simp only [Act.put, List.setIfInBounds_toArray, List.set_cons_zero, List.set_cons_succ, List.drop_succ_cons, List.drop_zero, List.take_succ_cons, List.take_zero, putAt, ints_set, ints_push, List.getElem_toArray, List.getElem_cons_zero, List.getElem_cons_succ] at M'); replace M := Lib.hid M'; clear M') | (refine Mine.wp_get M.out rfl _ _ rfl 1 _ rfl rfl _ rfl _ (by first | exact Try.underlying3) (by rfl) ?_; (try simp only [Act.put, List.setIfInBounds_toArray, List.set_cons_zero, List.set_cons_succ, List.drop_succ_cons, List.drop_zero, List.take_succ_cons, List.take_zero, putAt, ints_set, ints_push, List.getElem_toArray, List.getElem_cons_zero, List.getElem_cons_succ])) | (refine Mine.wp_set M.out rfl _ _ _ rfl rfl 1 _ rfl rfl _ (by (conv => lhs; whnf) <;> rfl) (Nat.le_of_ble_eq_true rfl) (by rfl) (by kernel_rfl) ?_; intro w' M'; (try simp only [Act.put, List.setIfInBounds_toArray, List.set_cons_zero, List.set_cons_succ, List.drop_succ_cons, List.drop_zero, List.take_succ_cons, List.take_zero, putAt, ints_set, ints_push, List.getElem_toArray, List.getElem_cons_zero, List.getElem_cons_succ] at M'); replace M := Lib.hid M'; clear M') | (refine Mine.wp_gets M.out rfl 26 _ rfl 1 _ 5 rfl rfl (Nat.le_of_ble_eq_true rfl) _ Try.underlying26 (by rfl) (by kernel_rfl) ?_; (try simp only [Act.put, List.setIfInBounds_toArray, List.set_cons_zero, List.set_cons_succ, List.drop_succ_cons, List.drop_zero, List.take_succ_cons, List.take_zero, putAt, ints_set, ints_push, List.getElem_toArray, List.getElem_cons_zero, List.getElem_cons_succ]))))
    have MT : Mine b _ _ := M.out.sub (List.Sublist.cons _ (List.Sublist.cons_cons _ (List.nil_sublist _)))
    refine Mine.region_headS MT M.out 4 (by kernel_rfl) (by kernel_rfl) ?_
    intro w' M'
    replace M := Lib.hid M'
    clear M'
    clear MT
    refine HQ.take (i := 0) rfl (by kernel_rfl) (by kernel_rfl) (by kernel_rfl) (by omega) rfl (fun _ _ _ _ h => h) ?_
    intro K hK
    (first | (refine Mine.rd_get _ _ rfl 0 _ rfl rfl _ rfl _ (by first | exact Try.underlying3) (by rfl) ?_; (try simp only [Act.put, List.setIfInBounds_toArray, List.set_cons_zero, List.set_cons_succ, List.drop_succ_cons, List.drop_zero, List.take_succ_cons, List.take_zero, putAt, ints_set, ints_push, List.getElem_toArray, List.getElem_cons_zero, List.getElem_cons_succ]); go_big_quiet_on) | (unfold Reads; apply Exists.intro; refine ⟨fun wq hq => ?_, ?_⟩; (clear hq; go_simp; first | done | rfl); (try simp only [Act.put, List.setIfInBounds_toArray, List.set_cons_succ, List.set_cons_zero]); go_big_quiet_on))
    refine HQ.take (i := 1) rfl (by kernel_rfl) (by kernel_rfl) (by kernel_rfl) (by omega) rfl (fun _ _ _ _ h => h) ?_
    intro K hK
    (first | (refine Mine.rd_get _ _ rfl 0 _ rfl rfl _ rfl _ (by first | exact Try.underlying3) (by rfl) ?_; (try simp only [Act.put, List.setIfInBounds_toArray, List.set_cons_zero, List.set_cons_succ, List.drop_succ_cons, List.drop_zero, List.take_succ_cons, List.take_zero, putAt, ints_set, ints_push, List.getElem_toArray, List.getElem_cons_zero, List.getElem_cons_succ]); go_big_quiet_on) | (unfold Reads; apply Exists.intro; refine ⟨fun wq hq => ?_, ?_⟩; (clear hq; go_simp; first | done | rfl); (try simp only [Act.put, List.setIfInBounds_toArray, List.set_cons_succ, List.set_cons_zero]); go_big_quiet_on))
    refine HQ.take (i := 2) rfl (by kernel_rfl) (by kernel_rfl) (by kernel_rfl) (by omega) rfl (fun _ _ _ _ h => h) ?_
    intro K hK
    (first | (refine Mine.rd_get _ _ rfl 0 _ rfl rfl _ rfl _ (by first | exact Try.underlying3) (by rfl) ?_; (try simp only [Act.put, List.setIfInBounds_toArray, List.set_cons_zero, List.set_cons_succ, List.drop_succ_cons, List.drop_zero, List.take_succ_cons, List.take_zero, putAt, ints_set, ints_push, List.getElem_toArray, List.getElem_cons_zero, List.getElem_cons_succ]); go_big_quiet_on) | (unfold Reads; apply Exists.intro; refine ⟨fun wq hq => ?_, ?_⟩; (clear hq; go_simp; first | done | rfl); (try simp only [Act.put, List.setIfInBounds_toArray, List.set_cons_succ, List.set_cons_zero]); go_big_quiet_on))
    refine HQ.noisy (rs := [3]) (by kernel_rfl) (by simp) (AllG.cons rfl (by omega) (fun K hK => ?_) AllG.nil)
    have C : Hid (CurM _ _ _ _ _ _ _ _) := ⟨⟨i1, q1, i10, i11, M.out⟩, SLC.out⟩
    clear M SLC i10 i11
    go_simp
    go_at_call 59
    refine (below_m C.out hn 9 (by omega)).mono ?_
    rintro e w1 ⟨⟨y1, rfl, hy1⟩, C1⟩
    replace C := Lib.hid C1
    clear C1
    have hy1a : 0 ≤ y1 ∧ y1 ≤ 8 := by omega
    clear hy1
    obtain ⟨hy10, hy11⟩ := hy1a
    obtain ⟨i1, q1, i10, i11, M1⟩ := C.out.st
    have SLC := Lib.hid C.out.sl
    have M := Lib.hid M1
    clear M1 C
    refine hK.out _ _ (M.out.sub (List.Sublist.cons _ (List.Sublist.cons_cons _ (List.nil_sublist _)))) ?_
    clear hK K
    (try simp only [Act.put, List.setIfInBounds_toArray, List.set_cons_succ, List.set_cons_zero])
    refine HQ.end_ (by kernel_rfl) ?_
    simp only [List.drop_succ_cons, List.drop_zero]
    go_wp2_with (first | (at_builtin; refine Mine.wp_push M.out rfl _ _ 32 rfl 26 _ _ _ Try.underlying32 Try.infoCall rfl (by omega) 2 rfl rfl _ _ rfl rfl rfl (by simp [Value.oneCell']) (by omega) (by unfold maxLen; omega) ?_; intro A2 c2 w' M'; (try simp only [Act.put, List.setIfInBounds_toArray, List.set_cons_zero, List.set_cons_succ, List.drop_succ_cons, List.drop_zero, List.take_succ_cons, List.take_zero, putAt, ints_set, ints_push, List.getElem_toArray, List.getElem_cons_zero, List.getElem_cons_succ] at M'); replace M := Lib.hid M'; clear M') | ((with_reducible show wpList _ _ _ (⟨_, _, _, _, _, none⟩ :: _) _ _); first | (refine Mine.wp_alloc M.out rfl 26 rfl (.agg #[.int .i64 0, .int .i64 0, .int .i64 0, .int .i64 0, .int .i64 0]) (by kernel_rfl) ?_; intro gx w' M'; (try simp only [Value.cells, Act.put, List.setIfInBounds_toArray, List.set_cons_zero, List.set_cons_succ, List.drop_succ_cons, List.drop_zero, List.take_succ_cons, List.take_zero, putAt, ints_set, ints_push, List.getElem_toArray, List.getElem_cons_zero, List.getElem_cons_succ] at M'); replace M := Lib.hid (M'.sink [_]); clear M'; simp only [List.cons_append, List.nil_append] at M; (try simp only [Act.put, List.setIfInBounds_toArray, List.set_cons_zero, List.set_cons_succ, List.drop_succ_cons, List.drop_zero, List.take_succ_cons, List.take_zero, putAt, ints_set, ints_push, List.getElem_toArray, List.getElem_cons_zero, List.getElem_cons_succ])) | (refine Mine.wp_sets M.out rfl 26 _ _ rfl rfl 1 _ rfl rfl _ rfl (Nat.le_of_ble_eq_true rfl) (by simp [Value.oneCell']) (by kernel_rfl) ?_; intro w' M'; (try simp only [Act.put, List.setIfInBounds_toArray, List.set_cons_zero, List.set_cons_succ, List.drop_succ_cons, List.drop_zero, List.take_succ_cons, List.take_zero, putAt, ints_set, ints_push, List.getElem_toArray, List.getElem_cons_zero, List.getElem_cons_succ] at M'); replace M := Lib.hid M'; clear M') | (refine Mine.wp_get M.out rfl _ _ rfl 1 _ rfl rfl _ rfl _ (by first | exact Try.underlying3) (by rfl) ?_; (try simp only [Act.put, List.setIfInBounds_toArray, List.set_cons_zero, List.set_cons_succ, List.drop_succ_cons, List.drop_zero, List.take_succ_cons, List.take_zero, putAt, ints_set, ints_push, List.getElem_toArray, List.getElem_cons_zero, List.getElem_cons_succ])) | (refine Mine.wp_set M.out rfl _ _ _ rfl rfl 1 _ rfl rfl _ (by (conv => lhs; whnf) <;> rfl) (Nat.le_of_ble_eq_true rfl) (by rfl) (by kernel_rfl) ?_; intro w' M'; (try simp only [Act.put, List.setIfInBounds_toArray, List.set_cons_zero, List.set_cons_succ, List.drop_succ_cons, List.drop_zero, List.take_succ_cons, List.take_zero, putAt, ints_set, ints_push, List.getElem_toArray, List.getElem_cons_zero, List.getElem_cons_succ] at M'); replace M := Lib.hid M'; clear M') | (refine Mine.wp_gets M.out rfl 26 _ rfl 1 _ 5 rfl rfl (Nat.le_of_ble_eq_true rfl) _ Try.underlying26 (by rfl) (by kernel_rfl) ?_; (try simp only [Act.put, List.setIfInBounds_toArray, List.set_cons_zero, List.set_cons_succ, List.drop_succ_cons, List.drop_zero, List.take_succ_cons, List.take_zero, putAt, ints_set, ints_push, List.getElem_toArray, List.getElem_cons_zero, List.getElem_cons_succ]))))
    all_goals
      have MT : Mine b _ _ := M.out.sub (List.Sublist.cons _ (List.Sublist.cons_cons _ (List.nil_sublist _)))
      refine Mine.region_headS MT M.out 4 (by kernel_rfl) (by kernel_rfl) ?_
      intro w' M'
      replace M := Lib.hid M'
      clear M'
      clear MT
      refine HQ.take (i := 0) rfl (by kernel_rfl) (by kernel_rfl) (by kernel_rfl) (by omega) rfl (fun _ _ _ _ h => h) ?_
      intro K hK
      (first | (refine Mine.rd_get _ _ rfl 0 _ rfl rfl _ rfl _ (by first | exact Try.underlying3) (by rfl) ?_; (try simp only [Act.put, List.setIfInBounds_toArray, List.set_cons_zero, List.set_cons_succ, List.drop_succ_cons, List.drop_zero, List.take_succ_cons, List.take_zero, putAt, ints_set, ints_push, List.getElem_toArray, List.getElem_cons_zero, List.getElem_cons_succ]); go_big_quiet_on) | (unfold Reads; apply Exists.intro; refine ⟨fun wq hq => ?_, ?_⟩; (clear hq; go_simp; first | done | rfl); (try simp only [Act.put, List.setIfInBounds_toArray, List.set_cons_succ, List.set_cons_zero]); go_big_quiet_on))
      refine HQ.take (i := 1) rfl (by kernel_rfl) (by kernel_rfl) (by kernel_rfl) (by omega) rfl (fun _ _ _ _ h => h) ?_
      intro K hK
      (first | (refine Mine.rd_get _ _ rfl 0 _ rfl rfl _ rfl _ (by first | exact Try.underlying3) (by rfl) ?_; (try simp only [Act.put, List.setIfInBounds_toArray, List.set_cons_zero, List.set_cons_succ, List.drop_succ_cons, List.drop_zero, List.take_succ_cons, List.take_zero, putAt, ints_set, ints_push, List.getElem_toArray, List.getElem_cons_zero, List.getElem_cons_succ]); go_big_quiet_on) | (unfold Reads; apply Exists.intro; refine ⟨fun wq hq => ?_, ?_⟩; (clear hq; go_simp; first | done | rfl); (try simp only [Act.put, List.setIfInBounds_toArray, List.set_cons_succ, List.set_cons_zero]); go_big_quiet_on))
      refine HQ.take (i := 2) rfl (by kernel_rfl) (by kernel_rfl) (by kernel_rfl) (by omega) rfl (fun _ _ _ _ h => h) ?_
      intro K hK
      (first | (refine Mine.rd_get _ _ rfl 0 _ rfl rfl _ rfl _ (by first | exact Try.underlying3) (by rfl) ?_; (try simp only [Act.put, List.setIfInBounds_toArray, List.set_cons_zero, List.set_cons_succ, List.drop_succ_cons, List.drop_zero, List.take_succ_cons, List.take_zero, putAt, ints_set, ints_push, List.getElem_toArray, List.getElem_cons_zero, List.getElem_cons_succ]); go_big_quiet_on) | (unfold Reads; apply Exists.intro; refine ⟨fun wq hq => ?_, ?_⟩; (clear hq; go_simp; first | done | rfl); (try simp only [Act.put, List.setIfInBounds_toArray, List.set_cons_succ, List.set_cons_zero]); go_big_quiet_on))
      refine HQ.noisy (rs := [3]) (by kernel_rfl) (by simp) (AllG.cons rfl (by omega) (fun K hK => ?_) AllG.nil)
      have C : Hid (CurM _ _ _ _ _ _ _ _) := ⟨⟨i1, q1, i10, i11, M.out⟩, SLC.out⟩
      clear M SLC i10 i11
      go_simp
      go_at_call 59
      refine (below_m C.out hn 9 (by omega)).mono ?_
      rintro e w1 ⟨⟨y2, rfl, hy2⟩, C1⟩
      replace C := Lib.hid C1
      clear C1
      have hy2a : 0 ≤ y2 ∧ y2 ≤ 8 := by omega
      clear hy2
      obtain ⟨hy20, hy21⟩ := hy2a
      obtain ⟨i1, q1, i10, i11, M1⟩ := C.out.st
      have SLC := Lib.hid C.out.sl
      have M := Lib.hid M1
      clear M1 C
      refine hK.out _ _ (M.out.sub (List.Sublist.cons _ (List.Sublist.cons_cons _ (List.nil_sublist _)))) ?_
      clear hK K
      (try simp only [Act.put, List.setIfInBounds_toArray, List.set_cons_succ, List.set_cons_zero])
      refine HQ.end_ (by kernel_rfl) ?_
      simp only [List.drop_succ_cons, List.drop_zero]
      go_wp2_with (first | (at_builtin; refine Mine.wp_push M.out rfl _ _ 32 rfl 26 _ _ _ Try.underlying32 Try.infoCall rfl (by omega) 2 rfl rfl _ _ rfl rfl rfl (by simp [Value.oneCell']) (by omega) (by unfold maxLen; omega) ?_; intro A2 c2 w' M'; (try simp only [Act.put, List.setIfInBounds_toArray, List.set_cons_zero, List.set_cons_succ, List.drop_succ_cons, List.drop_zero, List.take_succ_cons, List.take_zero, putAt, ints_set, ints_push, List.getElem_toArray, List.getElem_cons_zero, List.getElem_cons_succ] at M'); replace M := Lib.hid M'; clear M') | ((with_reducible show wpList _ _ _ (⟨_, _, _, _, _, none⟩ :: _) _ _); first | (refine Mine.wp_alloc M.out rfl 26 rfl (.agg #[.int .i64 0, .int .i64 0, .int .i64 0, .int .i64 0, .int .i64 0]) (by kernel_rfl) ?_; intro gx w' M'; (try simp only [Value.cells, Act.put, List.setIfInBounds_toArray, List.set_cons_zero, List.set_cons_succ, List.drop_succ_cons, List.drop_zero, List.take_succ_cons, List.take_zero, putAt, ints_set, ints_push, List.getElem_toArray, List.getElem_cons_zero, List.getElem_cons_succ] at M'); replace M := Lib.hid (M'.sink [_]); clear M'; simp only [List.cons_append, List.nil_append] at M; (try simp only [Act.put, List.setIfInBounds_toArray, List.set_cons_zero, List.set_cons_succ, List.drop_succ_cons, List.drop_zero, List.take_succ_cons, List.take_zero, putAt, ints_set, ints_push, List.getElem_toArray, List.getElem_cons_zero, List.getElem_cons_succ])) | (refine Mine.wp_sets M.out rfl 26 _ _ rfl rfl 1 _ rfl rfl _ rfl (Nat.le_of_ble_eq_true rfl) (by simp [Value.oneCell']) (by kernel_rfl) ?_; intro w' M'; (try simp only [Act.put, List.setIfInBounds_toArray, List.set_cons_zero, List.set_cons_succ, List.drop_succ_cons, List.drop_zero, List.take_succ_cons, List.take_zero, putAt, ints_set, ints_push, List.getElem_toArray, List.getElem_cons_zero, List.getElem_cons_succ] at M'); replace M := Lib.hid M'; clear M') | (refine Mine.wp_get M.out rfl _ _ rfl 1 _ rfl rfl _ rfl _ (by first | exact Try.underlying3) (by rfl) ?_; (try simp only [Act.put, List.setIfInBounds_toArray, List.set_cons_zero, List.set_cons_succ, List.drop_succ_cons, List.drop_zero, List.take_succ_cons, List.take_zero, putAt, ints_set, ints_push, List.getElem_toArray, List.getElem_cons_zero, List.getElem_cons_succ])) | (refine Mine.wp_set M.out rfl _ _ _ rfl rfl 1 _ rfl rfl _ (by (conv => lhs; whnf) <;> rfl) (Nat.le_of_ble_eq_true rfl) (by rfl) (by kernel_rfl) ?_; intro w' M'; (try simp only [Act.put, List.setIfInBounds_toArray, List.set_cons_zero, List.set_cons_succ, List.drop_succ_cons, List.drop_zero, List.take_succ_cons, List.take_zero, putAt, ints_set, ints_push, List.getElem_toArray, List.getElem_cons_zero, List.getElem_cons_succ] at M'); replace M := Lib.hid M'; clear M') | (refine Mine.wp_gets M.out rfl 26 _ rfl 1 _ 5 rfl rfl (Nat.le_of_ble_eq_true rfl) _ Try.underlying26 (by rfl) (by kernel_rfl) ?_; (try simp only [Act.put, List.setIfInBounds_toArray, List.set_cons_zero, List.set_cons_succ, List.drop_succ_cons, List.drop_zero, List.take_succ_cons, List.take_zero, putAt, ints_set, ints_push, List.getElem_toArray, List.getElem_cons_zero, List.getElem_cons_succ]))))
      rw [calls_push] at M
      have M4 := M.out.drop_at [_]
      go_roundw
      case rel => exact ⟨_, _, _, _, _, _, rfl, rfl, by go_num, by go_num, by have := HJ.out; omega, by have := HJM.out; omega, by have := HT0.out; omega, by have := HT1.out; omega, _, ⟨⟨i1, q1, i10, i11, M4⟩, SLC.out⟩⟩
      case measure => have := HJ.out; simp [intOf]; omega
end Go.Proofs.Ytcnkmbofpppfaaa
