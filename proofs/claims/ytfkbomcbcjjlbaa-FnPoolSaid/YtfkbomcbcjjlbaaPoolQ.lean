/- PoolPlay: words. No condition. -/
import Derived.Test.YtfkbomcbcjjlbaaPoolK
import Derived.Test.YtfkbomcbcjjlbaaGrow
import Derived.Test.YtfkbomcbcjjlbaaSzInts
import Derived.Deep.Cut
namespace Go.Proofs.Ytfkbomcbcjjlbaa
open Go.RowKit Go.Deep
set_option linter.unusedSimpArgs false
set_option linter.unusedVariables false

/-! ### Pick -/
structure Pick where
  worker_ : Int
  victim_ : Int
deriving Inhabited, DecidableEq
def Pick.cells (s : Pick) : List Value := [.int .i64 s.worker_, .int .i64 s.victim_]
theorem Pick.cells_length (s : Pick) : s.cells.length = 2 := rfl
/-- Its integers are integers of Go's. -/
def Pick.good (s : Pick) : Prop := (Lit.int .i64 s.worker_).wf = true ∧ (Lit.int .i64 s.victim_).wf = true
theorem opens_Pick : Opens Try.prog 67 (fun _ cs (s : Pick) => cs = s.cells ∧ s.good) := by
  intro H enc w base spare held fuel cs x h
  obtain ⟨hl, m, hf⟩ := trod_fields Try.underlying67 (by kernel_rfl) (by kernel_rfl) h
  obtain ⟨v0, y0, e0, t0⟩ := hf 0 _ rfl
  obtain ⟨f0, h0, -, g0⟩ := DataW.trod_int Try.underlying3 t0
  injection h0 with h0 _; subst h0
  obtain ⟨v1, y1, e1, t1⟩ := hf 1 _ rfl
  obtain ⟨f1, h1, -, g1⟩ := DataW.trod_int Try.underlying3 t1
  injection h1 with h1 _; subst h1
  refine ⟨⟨f0, f1⟩, ?_, ⟨g0, g1⟩⟩
  match cs, hl with
  | [c0, c1], _ =>
    simp only [List.getElem?_cons_succ, List.getElem?_cons_zero, Option.some.injEq] at e0 e1
    subst e0 e1
    rfl

theorem toPick_any (f0 : Int) (f1 : Int) (w : World) :
    Calls Try.prog 45 #[.agg #[.int .i64 f0, .int .i64 f1]] w fun e w' => e = .returned (.agg #[.int .i64 f0, .int .i64 f1]) ∧ Ext w w' := by
  go_enter Try.func45, Try.ntmps45
  go_wp2
  refine bodyPost_ret (v := .agg #[.int .i64 f0, .int .i64 f1]) (by simp [results, Try.results45, go_sem]) rfl ⟨rfl, ?_⟩
  repeat (first | exact Ext.refl' _ | refine Ext.al ?_ _ | refine Ext.sc ?_ (by simp) _)

theorem Try.infoPick : (Try.prog.info? 64).map (fun i => (i.zero, i.size, i.bytes)) = some (some (.agg #[.int .i64 0, .int .i64 0]), 2, 16) := by kernel_rfl

set_option maxHeartbeats 2000000 in
theorem toPickS_any (A : Option Addr) (n c : Nat) (l : List Pick) (w : World) (S : Nat → Prop) (hs : Sl w S 2 A n (l.flatMap Pick.cells)) (hm : n ≤ 1048576) :
    Calls Try.prog 24 #[.slice A n c] w fun e w' => ∃ B d, e = .returned (.slice B n d) ∧ w'.ownsRow w.heap.size 64 2 (.slice B n d) n (l.flatMap Pick.cells) ∧ Ext w w' := by
  obtain ⟨w1, cs0, hmk, hown, -, hx1, hlt⟩ := made_row (P := Try.prog) w 43 64 _ _ _ Try.underlying43 Try.infoPick n (by omega) (by unfold maxLen; omega)
  have HO := Lib.hid hown
  have HX := Lib.hid hx1
  clear hown hx1
  go_enter Try.func24, Try.ntmps24
  go_wp2
  go_loopw [4] (fun i wr => ∃ (k : Nat) (cs : List Value), k ≤ n ∧ i = .int .i64 k ∧ wr.ownsRow w.heap.size 64 2 (.slice (some ⟨w.heap.size, 0, none⟩) n n) n cs ∧ Upto cs (l.flatMap Pick.cells) (k * 2) ∧ Ext w wr) (fun i _ => n - (intOf i).toNat)
  case atStart => exact ⟨0, _, Nat.zero_le _, rfl, HO.out, Upto.zero _ _, HX.out⟩
  case round =>
    obtain ⟨k, cs, hk, rfl, ho, hu, hx⟩ := hrel
    by_cases hlt : k < n
    · obtain ⟨b, o, s, rfl, hb, hxk, hc⟩ := (hs.ext hx).flat_at Pick.cells_length (by omega) hlt
      obtain ⟨f0, f1⟩ := s
      have c0 := hc 0 (by omega)
      have c1 := hc 1 (by omega)
      simp only [Pick.cells, List.getElem?_cons_zero, List.getElem?_cons_succ, Nat.add_zero] at c0 c1
      have HX2 := Lib.hid hxk
      have HO2 := Lib.hid ho
      have HE2 := Lib.hid hx
      clear hxk ho hx hc
      go_wp2_with fail
      refine (toPick_any _ _ _).mono ?_
      rintro e w2 ⟨rfl, hx2⟩
      have ho2 := own_ext HO2.out hx2
      obtain ⟨g, hA, -, -, hg⟩ := own_flat ho2 hlt
      obtain rfl : w.heap.size = g := addr_inj hA
      obtain ⟨v0, g0, e0⟩ := hg 0 (by omega)
      obtain ⟨v1, g1, e1⟩ := hg 1 (by omega)
      rw [Nat.add_zero] at g0 e0
      have HX3 := Lib.hid hx2
      have HO3 := Lib.hid ho2
      clear hx2 ho2 hg
      go_wp2
      go_roundw
      case rel =>
        have t0 := HO3.out.stored (k * 2) (.int .i64 f0)
        have t1 := t0.1.stored (k * 2 + 1) (.int .i64 f1)
        have hl3 : cs.length = n * 2 := HO3.out.1
        have q0 := flat_get Pick.cells_length l k 0 _ HX2.out (by omega)
        have q1 := flat_get Pick.cells_length l k 1 _ HX2.out (by omega)
        refine ⟨k + 1, _, by omega, by go_num, t1.1, ?_, ?_⟩
        · rw [show (k + 1) * 2 = k * 2 + 1 + 1 by omega]
          refine Upto.set1 (Upto.set1 hu (by omega) ?_) (by simp; omega) ?_
          · exact q0
          · exact q1
        · exact (((HE2.out.tr HX3.out)).sc (p := ⟨w.heap.size, _, none⟩) (Nat.le_refl _) _).sc (p := ⟨w.heap.size, _, none⟩) (Nat.le_refl _) _
      case measure => simp [intOf]; omega
    · go_wp2
      go_ret
      refine ⟨_, _, rfl, ?_, hx⟩
      have : k = n := by omega
      subst this
      rw [← hu.all ho.1 hs.1]
      exact ho

set_option maxHeartbeats 1000000 in
theorem eqPick_same (f0 : Int) (f1 : Int) (w : World) :
    Calls Try.prog 47 #[.agg #[.int .i64 f0, .int .i64 f1], .agg #[.int .i64 f0, .int .i64 f1]] w fun e w' => e = .returned (.bool true) ∧ Ext w w' := by
  go_enter Try.func47, Try.ntmps47
  go_wp2
  go_ret
  refine ⟨rfl, ?_⟩
  repeat (first | exact Ext.refl' _ | refine Ext.al ?_ _)

set_option maxHeartbeats 2000000 in
theorem eqPickS_same (A B : Option Addr) (n c d : Nat) (l : List Pick) (w : World) (S T : Nat → Prop) (ha : Sl w S 2 A n (l.flatMap Pick.cells)) (hb : Sl w T 2 B n (l.flatMap Pick.cells)) (hm : n ≤ 9223372036854775807) :
    Calls Try.prog 26 #[.slice A n c, .slice B n d] w fun e w' => e = .returned (.bool true) ∧ Ext w w' := by
  go_enter Try.func26, Try.ntmps26
  go_wp2
  go_loopw [5] (fun i wr => ∃ (k : Nat), k ≤ n ∧ i = .int .i64 k ∧ Ext w wr) (fun i _ => n - (intOf i).toNat)
  case atStart => exact ⟨0, Nat.zero_le _, rfl, Ext.refl' _⟩
  case round =>
    obtain ⟨k, hk, rfl, hx⟩ := hrel
    by_cases hlt : k < n
    · obtain ⟨b1, o1, s, rfl, hb1, hxk, hc1⟩ := (ha.ext hx).flat_at Pick.cells_length (by omega) hlt
      obtain ⟨b2, o2, s', rfl, hb2, hyk, hc2⟩ := (hb.ext hx).flat_at Pick.cells_length (by omega) hlt
      rw [hxk] at hyk
      injection hyk with hyk
      subst hyk
      obtain ⟨f0, f1⟩ := s
      have c0 := hc1 0 (by omega)
      have c1 := hc1 1 (by omega)
      have d0 := hc2 0 (by omega)
      have d1 := hc2 1 (by omega)
      simp only [Pick.cells, List.getElem?_cons_zero, List.getElem?_cons_succ, Nat.add_zero] at c0 c1 d0 d1
      have HE2 := Lib.hid hx
      clear hxk hx hc1 hc2
      go_wp2
      go_region_with (go_at_call 47; refine (eqPick_same _ _ _).mono ?_; rintro e w2 ⟨rfl, hx2⟩)
      all_goals
        have HE3 := Lib.hid hx2
        clear hx2
        go_wp2
        go_roundw
        case rel => exact ⟨k + 1, by omega, by go_num, HE2.out.tr (Ext.tr (Ext.dr (Ext.refl' _)) HE3.out)⟩
        case measure => simp [intOf]; omega
    · go_wp2
      go_ret
      exact ⟨rfl, hx⟩

theorem szPickS_any (A : Option Addr) (n c : Nat) (q : Int) (w : World) (hq : 0 ≤ q) (hq2 : q ≤ 1048576) (hn : n ≤ 9223372036854775807) :
    Calls Try.prog 22 #[.slice A n c, .int .i64 q] w fun e w' => e = .returned (.int .i64 (if (n : Int) ≤ q then q - n else -1)) ∧ w = w' := by
  by_cases h : (n : Int) ≤ q
  · go_enter Try.func22, Try.ntmps22
    go_wp2
    go_ret
    exact ⟨by first | rfl | (simp; done) | simp [h], rfl⟩
  · go_enter Try.func22, Try.ntmps22
    go_wp2
    go_ret
    exact ⟨by first | rfl | (simp; done) | simp [h], rfl⟩

def Pick.mark (q : Int) : Pick := ⟨q, q + 1⟩
def Pick.marks (q : Int) (n : Nat) : List Pick := (List.range n).map fun i : Nat => Pick.mark (q + i * 2)
theorem Pick.marks_length (q : Int) (n : Nat) : (Pick.marks q n).length = n := by simp [Pick.marks]
theorem Pick.marks_get (q : Int) (n i : Nat) (h : i < n) : (Pick.marks q n)[i]? = some (Pick.mark (q + i * 2)) := by simp [Pick.marks, h]

set_option maxHeartbeats 2000000 in
theorem markPickS_any (A : Option Addr) (n c : Nat) (base : Nat) (cs0 : List Value) (q : Int) (w : World) (ho0 : w.ownsRow base 64 2 (.slice A n c) n cs0) (hq : 0 ≤ q) (hqn : q + n * 2 ≤ 9007199254740992) :
    Calls Try.prog 27 #[.slice A n c, .int .i64 q] w fun e w' => e = .returned (.int .i64 (q + n * 2)) ∧ w'.ownsRow base 64 2 (.slice A n c) n ((Pick.marks q n).flatMap Pick.cells) ∧ Chg (fun k => (Value.slice A n c).ownBlock = some k) w w' := by
  have HO := Lib.hid ho0
  clear ho0
  go_enter Try.func27, Try.ntmps27
  go_wp2
  go_loopw [1, 5] (fun r i wr => ∃ (k : Nat) (cs : List Value), k ≤ n ∧ i = .int .i64 k ∧ r = .int .i64 (q + k * 2) ∧ wr.ownsRow base 64 2 (.slice A n c) n cs ∧ Upto cs ((Pick.marks q n).flatMap Pick.cells) (k * 2) ∧ Chg (fun k => (Value.slice A n c).ownBlock = some k) w wr) (fun _ i _ => n - (intOf i).toNat)
  case atStart => exact ⟨0, _, Nat.zero_le _, rfl, by simp, HO.out, by rw [Nat.zero_mul]; exact Upto.zero _ _, Chg.refl _ _⟩
  case round =>
    obtain ⟨k, cs, hk, rfl, rfl, ho, hu, hx⟩ := hrel
    by_cases hlt : k < n
    · obtain ⟨g, rfl, -, -, hg⟩ := own_flat ho hlt
      obtain ⟨v0, g0, e0⟩ := hg 0 (by omega)
      obtain ⟨v1, g1, e1⟩ := hg 1 (by omega)
      rw [Nat.add_zero] at g0 e0
      have HO2 := Lib.hid ho
      have HE2 := Lib.hid hx
      clear ho hx hg
      go_wp2
      go_roundw
      case rel =>
        have t0 := HO2.out.stored (k * 2) (.int .i64 (q + k * 2))
        have t1 := t0.1.stored (k * 2 + 1) (.int .i64 (q + k * 2 + 1))
        have hl3 : cs.length = n * 2 := HO2.out.1
        have hmk := Pick.marks_get q n k hlt
        have q0 := flat_get Pick.cells_length _ k 0 _ hmk (by omega)
        have q1 := flat_get Pick.cells_length _ k 1 _ hmk (by omega)
        refine ⟨k + 1, _, by omega, by go_num, by go_num, t1.1, ?_, ?_⟩
        · rw [show (k + 1) * 2 = k * 2 + 1 + 1 by omega]
          refine Upto.set1 (Upto.set1 hu (by omega) ?_) (by simp; omega) ?_
          · exact q0
          · exact q1
        · exact ((HE2.out).grown t0.2 (fun j hj => .inl hj)).grown t1.2 (fun j hj => .inl hj)
      case measure => simp [intOf]; omega
    · go_wp2
      go_ret
      have : k = n := by omega
      subst this
      refine ⟨rfl, ?_, hx⟩
      rw [← hu.all ho.1 (by rw [flat_length Pick.cells_length, Pick.marks_length])]
      exact ho

def pzero : Pool := ⟨[], [], [], [], [], [], []⟩
def pks (l : List Pick) : List (Int × Int) := l.map fun x => (x.worker_, x.victim_)
noncomputable def poolPlay (ps : List Int) (wk : Int) (l : List Pick) : Pool := if tasksOk ps = true ∧ (1 ≤ wk ∧ wk ≤ 4) ∧ l.length ≤ 300 then pplay ps wk.toNat (pks l) l.length else pzero
theorem pks_get {l : List Pick} {k : Nat} {x : Pick} (h : l[k]? = some x) : (pks l)[k]? = some (x.worker_, x.victim_) := by simp [pks, h]
theorem made_ints (n : Nat) : (madeCells (Value.int .i64 0).cells (n * 1)).toList = ints (List.replicate n 0) := by
  have h := made_flat (α := Int) (cells := fun i => [Value.int .i64 i]) (size := 1) (fun _ => rfl) (by omega) (z := .int .i64 0) (a := 0) rfl n
  rw [h]
  clear h
  induction n with
  | zero => rfl
  | succ n ih => rw [List.replicate_succ, List.flatMap_cons, ih]; rfl
theorem made_qs (n : Nat) : (madeCells (Value.agg #[.slice none 0 0]).cells (n * 1)).toList = qcells (List.replicate n (none, 0, 0)) := by
  have h := made_flat (α := Hdr) (cells := fun t => [t.val]) (size := 1) (fun _ => rfl) (by omega) (z := .agg #[.slice none 0 0]) (a := (none, 0, 0)) rfl n
  rw [h]
  clear h
  induction n with
  | zero => rfl
  | succ n ih => rw [List.replicate_succ, List.flatMap_cons, ih]; rfl
theorem Mine.nilEnd {b w : World} {rs : List Res} (M : Mine b w rs) (e : TypeId) (size : Nat) : Mine b w (rs ++ [.row e size none 0 0 []]) := (M.nil e size).perm (List.perm_append_comm (l₁ := [_]))
theorem Mine.nils {b w : World} {rs : List Res} (M : Mine b w rs) : ∀ k : Nat, Mine b w (rs ++ qrows (List.replicate k (none, 0, 0)) (List.replicate k ⟨[]⟩))
  | 0 => by simpa [qrows] using M
  | k + 1 => by
    rw [List.replicate_succ, List.replicate_succ, qrows]
    exact ((Mine.nils M k).nil 3 1).perm List.perm_middle.symm
theorem rep_set {k n : Nat} (h : k < n) : (List.replicate k (-1 : Int) ++ List.replicate (n - k) 0).set k (-1) = List.replicate (k + 1) (-1) ++ List.replicate (n - (k + 1)) 0 := by
  rw [List.set_append_right _ _ (by simp), List.length_replicate, Nat.sub_self, show n - k = (n - (k + 1)) + 1 by omega, List.replicate_succ, List.set_cons_zero, List.replicate_succ']
  simp
theorem pinit_zero (ps : List Int) {wk : Nat} (h : 0 < wk) : pinit ps wk 0 = ⟨List.replicate wk ⟨[]⟩, List.replicate wk (-1), List.replicate ps.length 0, List.replicate ps.length 0, List.replicate ps.length 0, [], []⟩ := by
  unfold pinit
  have e1 : (⟨roots ps 0⟩ :: List.replicate (wk - 1) ⟨[]⟩ : List Order) = List.replicate wk ⟨[]⟩ := by
    obtain ⟨m, rfl⟩ : ∃ m, wk = m + 1 := ⟨wk - 1, by omega⟩
    rw [List.replicate_succ, Nat.add_sub_cancel]; rfl
  have e2 : rst ps 0 = List.replicate ps.length 0 := by
    unfold rst
    apply List.ext_getElem?
    intro i
    by_cases hi : i < ps.length
    · simp [hi]
    · simp [hi]
  rw [e1, e2]
theorem pinit_hit {ps : List Int} {wk k : Nat} (hk : k < ps.length) (h : gi ps k < 0) : pinit ps wk (k + 1) = { pinit ps wk k with queues_ := (pinit ps wk k).queues_.set 0 ⟨roots ps k ++ [(k : Int)]⟩, state_ := (rst ps k).set k 1 } := by
  unfold pinit
  rw [rst_hit hk h]
  simp only [List.set_cons_zero, roots, if_pos h]
theorem pinit_miss {ps : List Int} {wk k : Nat} (h : ¬ gi ps k < 0) : pinit ps wk (k + 1) = pinit ps wk k := by
  unfold pinit
  rw [← rst_miss h]
  simp only [roots, if_neg h]
theorem Mine.down2 {b w : World} {x y : Res} (l : List Res) {fr : List Res} (M : Mine b w (x :: y :: (l ++ fr))) : Mine b w (l ++ (x :: y :: fr)) := M.perm (List.perm_append_comm_assoc [x, y] l fr)
theorem Mine.up2 {b w : World} {x y : Res} (l : List Res) {fr : List Res} (M : Mine b w (l ++ (x :: y :: fr))) : Mine b w (x :: y :: (l ++ fr)) := M.perm (List.perm_append_comm_assoc l [x, y] fr)
theorem Mine.take2 {b w : World} {x y : Res} {fr : List Res} (M : Mine b w (x :: y :: fr)) : Mine b w [x, y] := M.sub (.cons_cons _ (.cons_cons _ (List.nil_sublist _)))
theorem Gro.imp {P : Program} {b : World} {o : Oper} {a : Act} {Φ Ψ : Value → Res → Prop} (h : Gro P b o a Φ) (k : ∀ v r, Φ v r → Ψ v r) : Gro P b o a Ψ := fun w rs' M => by
  obtain ⟨v, w', r, h1, h2, h3⟩ := h w rs' M
  exact ⟨v, w', r, h1, h2, k _ _ h3⟩
theorem dAt_zero (o : Oper) (l : List Oper) : dAt (o :: l) 0 = o.dst := rfl
theorem dAt_succ (o : Oper) (l : List Oper) (i : Nat) : dAt (o :: l) (i + 1) = dAt l i := by unfold dAt; simp
theorem HQ.takeL {P : Program} {md : Region.Mode} {l : List Oper} {Q : Exit → Act → World → Prop} {S : World → Prop} {n f : Nat} {listed : Array Bool} {a : Act} {w : World} {i : Nat} {oi : Oper} (hi : l[i]? = some oi) (hB : headB md l n = true) (hf : Region.free md l.toArray listed i = true) (hr : (Region.ready md l.toArray listed).contains i = true) (hin : i < n) (hg : oi.guard = none)
    (hQ : ∀ v c a w, Q (.panic c) (a.put oi.dst v) w → Q (.panic c) a w) (h : ∀ K : Act → Prop, (∀ a', HQ P md l Q S n f (listed.setIfInBounds i true) a' w → K a') → Reads P oi a S K) : HQ P md l Q S n (f + 1) listed a w :=
  HQ.take (by simpa using hi) hB hf hr hin hg hQ h
theorem play_zero {w wr : World} {gr g8 gQ gC gS gL gT K np : Nat} {ps : List Int} (hnp : ps.length = np) (hK1 : 0 < K) (M : Mine w wr (.box gr 36 #[.slice none 0 0, .slice none 0 0, .slice none 0 0, .slice none 0 0, .slice none 0 0, .slice none 0 0, .slice none 0 0] :: .box g8 36 #[.slice (some ⟨gQ, 0, none⟩) K K, .slice (some ⟨gC, 0, none⟩) K K, .slice (some ⟨gS, 0, none⟩) np np, .slice (some ⟨gL, 0, none⟩) np np, .slice (some ⟨gT, 0, none⟩) np np, .slice none 0 0, .slice none 0 0] :: .row 62 1 (some ⟨gQ, 0, none⟩) K K (qcells (List.replicate K (none, 0, 0))) :: .row 3 1 (some ⟨gC, 0, none⟩) K K (ints (List.replicate K (-1))) :: .row 3 1 (some ⟨gS, 0, none⟩) np np (ints (List.replicate np 0)) :: .row 3 1 (some ⟨gL, 0, none⟩) np np (ints (List.replicate np 0)) :: .row 3 1 (some ⟨gT, 0, none⟩) np np (ints (List.replicate np 0)) :: .row 3 1 none 0 0 ([]) :: .row 3 1 none 0 0 ([]) :: qrows (List.replicate K (none, 0, 0)) (List.replicate K ⟨[]⟩))) : ∃ (qs : List Hdr) (H0 HC HS HL HT HR HE : Hdr), qs.length = (pinit ps K 0).queues_.length ∧ Mine w wr (.box gr 36 #[.slice none 0 0, .slice none 0 0, .slice none 0 0, .slice none 0 0, .slice none 0 0, .slice none 0 0, .slice none 0 0] :: .box g8 36 (plc H0 HC HS HL HT HR HE).toArray :: .row 62 1 H0.1 H0.2.1 H0.2.2 (qcells qs) :: .row 3 1 HC.1 HC.2.1 HC.2.2 (ints (pinit ps K 0).cur_) :: .row 3 1 HS.1 HS.2.1 HS.2.2 (ints (pinit ps K 0).spawned_) :: .row 3 1 HL.1 HL.2.1 HL.2.2 (ints (pinit ps K 0).left_) :: .row 3 1 HT.1 HT.2.1 HT.2.2 (ints (pinit ps K 0).state_) :: .row 3 1 HR.1 HR.2.1 HR.2.2 (ints (pinit ps K 0).ran_) :: .row 3 1 HE.1 HE.2.1 HE.2.2 (ints (pinit ps K 0).ended_) :: (qrows qs (pinit ps K 0).queues_ ++ [])) := by
  rw [pinit_zero ps hK1, hnp]
  exact ⟨List.replicate K (none, 0, 0), (some ⟨gQ, 0, none⟩, K, K), (some ⟨gC, 0, none⟩, K, K), (some ⟨gS, 0, none⟩, np, np), (some ⟨gL, 0, none⟩, np, np), (some ⟨gT, 0, none⟩, np, np), (none, 0, 0), (none, 0, 0), by simp, by rw [List.append_nil]; exact M⟩
theorem pick_at {w : World} {S : Nat → Prop} {A : Option Addr} {n : Nat} {l : List Pick} (hs : Sl w S 2 A n (l.flatMap Pick.cells)) {k : Nat} (hk : k < n) : ∃ b o x, A = some ⟨b, o, none⟩ ∧ b < w.heap.size ∧ l[k]? = some x ∧ w.cell? ⟨b, o + k * 2, none⟩ = some (.int .i64 x.worker_) ∧ w.cell? ⟨b, o + k * 2 + 1, none⟩ = some (.int .i64 x.victim_) := by
  obtain ⟨b, o, x, e, hb, hx, hc⟩ := hs.flat_at Pick.cells_length (by omega) hk
  exact ⟨b, o, x, e, hb, hx, hc 0 (by omega), hc 1 (by omega)⟩
theorem Mine.wp_args {P : Program} {ops : Array Oper} {rest : List Oper} {o : Oper} {a : Act} {Q : Exit → Act → World → Prop} {b w : World} {rs : List Res} (M : Mine b w rs) (hgd : o.guard = none) (ty : TypeId) (x : Operand) (ho : o.op = .load ty x) (g j : Nat) (vs : List Value) (hg : g < b.heap.size) (hx : a.eval x = .pointer (some ⟨g, j, none⟩)) (hc : ∀ k v, vs[k]? = some v → b.cell? ⟨g, j + k, none⟩ = some v)
    (d : TypeDesc) (hu : P.underlying ty = some d) (hd : d.isRow = true) (hf : (P.info? ty).map (·.size) = some vs.length) (h : wpList P ops Q rest (a.put o.dst (.agg vs.toArray)) w) : wpList P ops Q (o :: rest) a w :=
  wpList_load_mid hgd ty x ho g j hx vs d (fun k v hv => (M.ext.cell (p := ⟨g, j + k, none⟩) hg).trans (hc k v hv)) hu hd hf h

end Go.Proofs.Ytfkbomcbcjjlbaa
