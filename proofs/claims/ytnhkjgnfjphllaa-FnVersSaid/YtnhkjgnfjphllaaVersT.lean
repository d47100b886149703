/- The laws' helpers on Ver and Row. No condition but lengths. -/
import Derived.Test.YtnhkjgnfjphllaaInts
import Derived.Deep.RegionWith
namespace Go.Proofs.Ytnhkjgnfjphllaa
open Go.RowKit Go.Deep

/-! ### Ver -/
structure Ver where
  cell : Int
  stamp : Int
  val : Int
deriving Inhabited, DecidableEq
def Ver.cells (s : Ver) : List Value := [.int .i64 s.cell, .int .i64 s.stamp, .int .i64 s.val]
theorem Ver.cells_length (s : Ver) : s.cells.length = 3 := rfl
/-- Its integers are integers of Go's. -/
def Ver.good (s : Ver) : Prop := (Lit.int .i64 s.cell).wf = true ∧ (Lit.int .i64 s.stamp).wf = true ∧ (Lit.int .i64 s.val).wf = true
theorem opens_Ver : Opens Try.prog 98 (fun _ cs (s : Ver) => cs = s.cells ∧ s.good) := by
  intro H enc w base spare held fuel cs x h
  obtain ⟨hl, m, hf⟩ := trod_fields Try.underlying98 (by kernel_rfl) (by kernel_rfl) h
  obtain ⟨v0, y0, e0, t0⟩ := hf 0 _ rfl
  obtain ⟨f0, h0, -, g0⟩ := DataW.trod_int Try.underlying3 t0
  injection h0 with h0 _; subst h0
  obtain ⟨v1, y1, e1, t1⟩ := hf 1 _ rfl
  obtain ⟨f1, h1, -, g1⟩ := DataW.trod_int Try.underlying3 t1
  injection h1 with h1 _; subst h1
  obtain ⟨v2, y2, e2, t2⟩ := hf 2 _ rfl
  obtain ⟨f2, h2, -, g2⟩ := DataW.trod_int Try.underlying3 t2
  injection h2 with h2 _; subst h2
  refine ⟨⟨f0, f1, f2⟩, ?_, ⟨g0, g1, g2⟩⟩
  match cs, hl with
  | [c0, c1, c2], _ =>
    simp only [List.getElem?_cons_succ, List.getElem?_cons_zero, Option.some.injEq] at e0 e1 e2
    subst e0 e1 e2
    rfl

theorem toVer_any (f0 : Int) (f1 : Int) (f2 : Int) (w : World) :
    Calls Try.prog 81 #[.agg #[.int .i64 f0, .int .i64 f1, .int .i64 f2]] w fun e w' => e = .returned (.agg #[.int .i64 f0, .int .i64 f1, .int .i64 f2]) ∧ Ext w w' := by
  go_enter Try.func81, Try.ntmps81
  go_wp2
  refine bodyPost_ret (v := .agg #[.int .i64 f0, .int .i64 f1, .int .i64 f2]) (by simp [results, Try.results81, go_sem]) rfl ⟨rfl, ?_⟩
  repeat (first | exact Ext.refl' _ | refine Ext.al ?_ _ | refine Ext.sc ?_ (by simp) _)

theorem Try.infoVer : (Try.prog.info? 73).map (fun i => (i.zero, i.size, i.bytes)) = some (some (.agg #[.int .i64 0, .int .i64 0, .int .i64 0]), 3, 24) := by kernel_rfl

set_option maxHeartbeats 2000000 in
theorem toVerS_any (A : Option Addr) (n c : Nat) (l : List Ver) (w : World) (S : Nat → Prop) (hs : Sl w S 3 A n (l.flatMap Ver.cells)) (hm : n ≤ 1048576) :
    Calls Try.prog 57 #[.slice A n c] w fun e w' => ∃ B d, e = .returned (.slice B n d) ∧ w'.ownsRow w.heap.size 73 3 (.slice B n d) n (l.flatMap Ver.cells) ∧ Ext w w' := by
  obtain ⟨w1, cs0, hmk, hown, -, hx1, hlt⟩ := made_row (P := Try.prog) w 23 73 _ _ _ Try.underlying23 Try.infoVer n (by omega) (by unfold maxLen; omega)
  have HO := Lib.hid hown
  have HX := Lib.hid hx1
  clear hown hx1
  go_enter Try.func57, Try.ntmps57
  go_wp2
  go_loopw [4] (fun i wr => ∃ (k : Nat) (cs : List Value), k ≤ n ∧ i = .int .i64 k ∧ wr.ownsRow w.heap.size 73 3 (.slice (some ⟨w.heap.size, 0, none⟩) n n) n cs ∧ Upto cs (l.flatMap Ver.cells) (k * 3) ∧ Ext w wr) (fun i _ => n - (intOf i).toNat)
  case atStart => exact ⟨0, _, Nat.zero_le _, rfl, HO.out, Upto.zero _ _, HX.out⟩
  case round =>
    obtain ⟨k, cs, hk, rfl, ho, hu, hx⟩ := hrel
    by_cases hlt : k < n
    · obtain ⟨b, o, s, rfl, hb, hxk, hc⟩ := (hs.ext hx).flat_at Ver.cells_length (by omega) hlt
      obtain ⟨f0, f1, f2⟩ := s
      have c0 := hc 0 (by omega)
      have c1 := hc 1 (by omega)
      have c2 := hc 2 (by omega)
      simp only [Ver.cells, List.getElem?_cons_zero, List.getElem?_cons_succ, Nat.add_zero] at c0 c1 c2
      have HX2 := Lib.hid hxk
      have HO2 := Lib.hid ho
      have HE2 := Lib.hid hx
      clear hxk ho hx hc
      go_wp2_with fail
      refine (toVer_any _ _ _ _).mono ?_
      rintro e w2 ⟨rfl, hx2⟩
      have ho2 := own_ext HO2.out hx2
      obtain ⟨g, hA, -, -, hg⟩ := own_flat ho2 hlt
      obtain rfl : w.heap.size = g := addr_inj hA
      obtain ⟨v0, g0, e0⟩ := hg 0 (by omega)
      obtain ⟨v1, g1, e1⟩ := hg 1 (by omega)
      obtain ⟨v2, g2, e2⟩ := hg 2 (by omega)
      rw [Nat.add_zero] at g0 e0
      have HX3 := Lib.hid hx2
      have HO3 := Lib.hid ho2
      clear hx2 ho2 hg
      go_wp2
      go_roundw
      case rel =>
        have t0 := HO3.out.stored (k * 3) (.int .i64 f0)
        have t1 := t0.1.stored (k * 3 + 1) (.int .i64 f1)
        have t2 := t1.1.stored (k * 3 + 2) (.int .i64 f2)
        have hl3 : cs.length = n * 3 := HO3.out.1
        have q0 := flat_get Ver.cells_length l k 0 _ HX2.out (by omega)
        have q1 := flat_get Ver.cells_length l k 1 _ HX2.out (by omega)
        have q2 := flat_get Ver.cells_length l k 2 _ HX2.out (by omega)
        refine ⟨k + 1, _, by omega, by go_num, t2.1, ?_, ?_⟩
        · rw [show (k + 1) * 3 = k * 3 + 2 + 1 by omega]
          refine Upto.set1 (Upto.set1 (Upto.set1 hu (by omega) ?_) (by simp; omega) ?_) (by simp; omega) ?_
          · exact q0
          · exact q1
          · exact q2
        · exact ((((HE2.out.tr HX3.out)).sc (p := ⟨w.heap.size, _, none⟩) (Nat.le_refl _) _).sc (p := ⟨w.heap.size, _, none⟩) (Nat.le_refl _) _).sc (p := ⟨w.heap.size, _, none⟩) (Nat.le_refl _) _
      case measure => simp [intOf]; omega
    · go_wp2
      go_ret
      refine ⟨_, _, rfl, ?_, hx⟩
      have : k = n := by omega
      subst this
      rw [← hu.all ho.1 hs.1]
      exact ho

set_option maxHeartbeats 1000000 in
theorem eqVer_same (f0 : Int) (f1 : Int) (f2 : Int) (w : World) :
    Calls Try.prog 80 #[.agg #[.int .i64 f0, .int .i64 f1, .int .i64 f2], .agg #[.int .i64 f0, .int .i64 f1, .int .i64 f2]] w fun e w' => e = .returned (.bool true) ∧ Ext w w' := by
  go_enter Try.func80, Try.ntmps80
  go_wp2
  go_ret
  refine ⟨rfl, ?_⟩
  repeat (first | exact Ext.refl' _ | refine Ext.al ?_ _)

set_option maxHeartbeats 2000000 in
theorem eqVerS_same (A B : Option Addr) (n c d : Nat) (l : List Ver) (w : World) (S T : Nat → Prop) (ha : Sl w S 3 A n (l.flatMap Ver.cells)) (hb : Sl w T 3 B n (l.flatMap Ver.cells)) (hm : n ≤ 9223372036854775807) :
    Calls Try.prog 49 #[.slice A n c, .slice B n d] w fun e w' => e = .returned (.bool true) ∧ Ext w w' := by
  go_enter Try.func49, Try.ntmps49
  go_wp2
  go_loopw [5] (fun i wr => ∃ (k : Nat), k ≤ n ∧ i = .int .i64 k ∧ Ext w wr) (fun i _ => n - (intOf i).toNat)
  case atStart => exact ⟨0, Nat.zero_le _, rfl, Ext.refl' _⟩
  case round =>
    obtain ⟨k, hk, rfl, hx⟩ := hrel
    by_cases hlt : k < n
    · obtain ⟨b1, o1, s, rfl, hb1, hxk, hc1⟩ := (ha.ext hx).flat_at Ver.cells_length (by omega) hlt
      obtain ⟨b2, o2, s', rfl, hb2, hyk, hc2⟩ := (hb.ext hx).flat_at Ver.cells_length (by omega) hlt
      rw [hxk] at hyk
      injection hyk with hyk
      subst hyk
      obtain ⟨f0, f1, f2⟩ := s
      have c0 := hc1 0 (by omega)
      have c1 := hc1 1 (by omega)
      have c2 := hc1 2 (by omega)
      have d0 := hc2 0 (by omega)
      have d1 := hc2 1 (by omega)
      have d2 := hc2 2 (by omega)
      simp only [Ver.cells, List.getElem?_cons_zero, List.getElem?_cons_succ, Nat.add_zero] at c0 c1 c2 d0 d1 d2
      have HE2 := Lib.hid hx
      clear hxk hx hc1 hc2
      go_wp2
      go_region_with (go_at_call 80; refine (eqVer_same _ _ _ _).mono ?_; rintro e w2 ⟨rfl, hx2⟩)
      all_goals
        have HE3 := Lib.hid hx2
        clear hx2
        go_wp2
        go_roundw
        case rel => exact ⟨k + 1, by omega, by go_num, HE2.out.tr (Ext.tr (Ext.dr (Ext.refl' _)) HE3.out)⟩
        case measure => simp [intOf]; omega
    · go_wp2
      go_ret
      exact ⟨rfl, hx⟩

theorem szVerS_any (A : Option Addr) (n c : Nat) (q : Int) (w : World) (hq : 0 ≤ q) (hq2 : q ≤ 1048576) (hn : n ≤ 9223372036854775807) :
    Calls Try.prog 53 #[.slice A n c, .int .i64 q] w fun e w' => e = .returned (.int .i64 (if (n : Int) ≤ q then q - n else -1)) ∧ w = w' := by
  by_cases h : (n : Int) ≤ q
  · go_enter Try.func53, Try.ntmps53
    go_wp2
    go_ret
    exact ⟨by first | rfl | (simp; done) | simp [h], rfl⟩
  · go_enter Try.func53, Try.ntmps53
    go_wp2
    go_ret
    exact ⟨by first | rfl | (simp; done) | simp [h], rfl⟩

def Ver.mark (q : Int) : Ver := ⟨q, q + 1, q + 1 + 1⟩
def Ver.marks (q : Int) (n : Nat) : List Ver := (List.range n).map fun i : Nat => Ver.mark (q + i * 3)
theorem Ver.marks_length (q : Int) (n : Nat) : (Ver.marks q n).length = n := by simp [Ver.marks]
theorem Ver.marks_get (q : Int) (n i : Nat) (h : i < n) : (Ver.marks q n)[i]? = some (Ver.mark (q + i * 3)) := by simp [Ver.marks, h]

set_option maxHeartbeats 2000000 in
theorem markVerS_any (A : Option Addr) (n c : Nat) (base : Nat) (cs0 : List Value) (q : Int) (w : World) (ho0 : w.ownsRow base 73 3 (.slice A n c) n cs0) (hq : 0 ≤ q) (hqn : q + n * 3 ≤ 9007199254740992) :
    Calls Try.prog 50 #[.slice A n c, .int .i64 q] w fun e w' => e = .returned (.int .i64 (q + n * 3)) ∧ w'.ownsRow base 73 3 (.slice A n c) n ((Ver.marks q n).flatMap Ver.cells) ∧ Chg (fun k => (Value.slice A n c).ownBlock = some k) w w' := by
  have HO := Lib.hid ho0
  clear ho0
  go_enter Try.func50, Try.ntmps50
  go_wp2
  go_loopw [1, 5] (fun r i wr => ∃ (k : Nat) (cs : List Value), k ≤ n ∧ i = .int .i64 k ∧ r = .int .i64 (q + k * 3) ∧ wr.ownsRow base 73 3 (.slice A n c) n cs ∧ Upto cs ((Ver.marks q n).flatMap Ver.cells) (k * 3) ∧ Chg (fun k => (Value.slice A n c).ownBlock = some k) w wr) (fun _ i _ => n - (intOf i).toNat)
  case atStart => exact ⟨0, _, Nat.zero_le _, rfl, by simp, HO.out, by rw [Nat.zero_mul]; exact Upto.zero _ _, Chg.refl _ _⟩
  case round =>
    obtain ⟨k, cs, hk, rfl, rfl, ho, hu, hx⟩ := hrel
    by_cases hlt : k < n
    · obtain ⟨g, rfl, -, -, hg⟩ := own_flat ho hlt
      obtain ⟨v0, g0, e0⟩ := hg 0 (by omega)
      obtain ⟨v1, g1, e1⟩ := hg 1 (by omega)
      obtain ⟨v2, g2, e2⟩ := hg 2 (by omega)
      rw [Nat.add_zero] at g0 e0
      have HO2 := Lib.hid ho
      have HE2 := Lib.hid hx
      clear ho hx hg
      go_wp2
      go_roundw
      case rel =>
        have t0 := HO2.out.stored (k * 3) (.int .i64 (q + k * 3))
        have t1 := t0.1.stored (k * 3 + 1) (.int .i64 (q + k * 3 + 1))
        have t2 := t1.1.stored (k * 3 + 2) (.int .i64 (q + k * 3 + 1 + 1))
        have hl3 : cs.length = n * 3 := HO2.out.1
        have hmk := Ver.marks_get q n k hlt
        have q0 := flat_get Ver.cells_length _ k 0 _ hmk (by omega)
        have q1 := flat_get Ver.cells_length _ k 1 _ hmk (by omega)
        have q2 := flat_get Ver.cells_length _ k 2 _ hmk (by omega)
        refine ⟨k + 1, _, by omega, by go_num, by go_num, t2.1, ?_, ?_⟩
        · rw [show (k + 1) * 3 = k * 3 + 2 + 1 by omega]
          refine Upto.set1 (Upto.set1 (Upto.set1 hu (by omega) ?_) (by simp; omega) ?_) (by simp; omega) ?_
          · exact q0
          · exact q1
          · exact q2
        · exact (((HE2.out).grown t0.2 (fun j hj => .inl hj)).grown t1.2 (fun j hj => .inl hj)).grown t2.2 (fun j hj => .inl hj)
      case measure => simp [intOf]; omega
    · go_wp2
      go_ret
      have : k = n := by omega
      subst this
      refine ⟨rfl, ?_, hx⟩
      rw [← hu.all ho.1 (by rw [flat_length Ver.cells_length, Ver.marks_length])]
      exact ho

set_option maxHeartbeats 2000000 in
theorem heldVerS_any (A : Option Addr) (n c : Nat) (q : Int) (w : World) (S : Nat → Prop) (hs : Sl w S 3 A n ((Ver.marks q n).flatMap Ver.cells)) (hq : 0 ≤ q) (hqn : q + n * 3 ≤ 9007199254740992) :
    Calls Try.prog 51 #[.slice A n c, .int .i64 q] w fun e w' => e = .returned (.int .i64 (q + n * 3)) ∧ Ext w w' := by
  go_enter Try.func51, Try.ntmps51
  go_wp2
  go_loopw [1, 5] (fun r i wr => ∃ (k : Nat), k ≤ n ∧ i = .int .i64 k ∧ r = .int .i64 (q + k * 3) ∧ Ext w wr) (fun _ i _ => n - (intOf i).toNat)
  case atStart => exact ⟨0, Nat.zero_le _, rfl, by simp, Ext.refl' _⟩
  case round =>
    obtain ⟨k, hk, rfl, rfl, hx⟩ := hrel
    by_cases hlt : k < n
    · obtain ⟨b, o, s, rfl, hb, hxk, hc⟩ := (hs.ext hx).flat_at Ver.cells_length (by omega) hlt
      rw [Ver.marks_get _ _ _ hlt] at hxk
      injection hxk with hxk
      subst hxk
      have c0 := hc 0 (by omega)
      have c1 := hc 1 (by omega)
      have c2 := hc 2 (by omega)
      simp only [Ver.cells, Ver.mark, List.getElem?_cons_zero, List.getElem?_cons_succ, Nat.add_zero] at c0 c1 c2

      have HE2 := Lib.hid hx
      clear hx hc
      go_wp2
      go_roundw
      case rel => exact ⟨k + 1, by omega, by go_num, by go_num, HE2.out⟩
      case measure => simp [intOf]; omega
    · go_wp2
      go_ret
      have : k = n := by omega
      subst this
      exact ⟨rfl, hx⟩

/-! ### Row -/
structure Row where
  cell : Int
  val : Int
deriving Inhabited, DecidableEq
def Row.cells (s : Row) : List Value := [.int .i64 s.cell, .int .i64 s.val]
theorem Row.cells_length (s : Row) : s.cells.length = 2 := rfl
/-- Its integers are integers of Go's. -/
def Row.good (s : Row) : Prop := (Lit.int .i64 s.cell).wf = true ∧ (Lit.int .i64 s.val).wf = true
theorem opens_Row : Opens Try.prog 86 (fun _ cs (s : Row) => cs = s.cells ∧ s.good) := by
  intro H enc w base spare held fuel cs x h
  obtain ⟨hl, m, hf⟩ := trod_fields Try.underlying86 (by kernel_rfl) (by kernel_rfl) h
  obtain ⟨v0, y0, e0, t0⟩ := hf 0 _ rfl
  obtain ⟨f0, h0, -, g0⟩ := DataW.trod_int Try.underlying3 t0
  injection h0 with h0 _; subst h0
  obtain ⟨v1, y1, e1, t1⟩ := hf 1 _ rfl
  obtain ⟨f1, h1, -, g1⟩ := DataW.trod_int Try.underlying3 t1
  injection h1 with h1 _; subst h1
  refine ⟨⟨f0, f1⟩, ?_, ⟨g0, g1⟩⟩
  match cs, hl with
  | [c0, c1], _ =>
    simp only [List.getElem?_cons_succ, List.getElem?_cons_zero, Option.some.injEq] at e0 e1
    subst e0 e1
    rfl

theorem toRow_any (f0 : Int) (f1 : Int) (w : World) :
    Calls Try.prog 69 #[.agg #[.int .i64 f0, .int .i64 f1]] w fun e w' => e = .returned (.agg #[.int .i64 f0, .int .i64 f1]) ∧ Ext w w' := by
  go_enter Try.func69, Try.ntmps69
  go_wp2
  refine bodyPost_ret (v := .agg #[.int .i64 f0, .int .i64 f1]) (by simp [results, Try.results69, go_sem]) rfl ⟨rfl, ?_⟩
  repeat (first | exact Ext.refl' _ | refine Ext.al ?_ _ | refine Ext.sc ?_ (by simp) _)

theorem Try.infoRow : (Try.prog.info? 84).map (fun i => (i.zero, i.size, i.bytes)) = some (some (.agg #[.int .i64 0, .int .i64 0]), 2, 16) := by kernel_rfl

set_option maxHeartbeats 2000000 in
theorem toRowS_any (A : Option Addr) (n c : Nat) (l : List Row) (w : World) (S : Nat → Prop) (hs : Sl w S 2 A n (l.flatMap Row.cells)) (hm : n ≤ 1048576) :
    Calls Try.prog 34 #[.slice A n c] w fun e w' => ∃ B d, e = .returned (.slice B n d) ∧ w'.ownsRow w.heap.size 84 2 (.slice B n d) n (l.flatMap Row.cells) ∧ Ext w w' := by
  obtain ⟨w1, cs0, hmk, hown, -, hx1, hlt⟩ := made_row (P := Try.prog) w 51 84 _ _ _ Try.underlying51 Try.infoRow n (by omega) (by unfold maxLen; omega)
  have HO := Lib.hid hown
  have HX := Lib.hid hx1
  clear hown hx1
  go_enter Try.func34, Try.ntmps34
  go_wp2
  go_loopw [4] (fun i wr => ∃ (k : Nat) (cs : List Value), k ≤ n ∧ i = .int .i64 k ∧ wr.ownsRow w.heap.size 84 2 (.slice (some ⟨w.heap.size, 0, none⟩) n n) n cs ∧ Upto cs (l.flatMap Row.cells) (k * 2) ∧ Ext w wr) (fun i _ => n - (intOf i).toNat)
  case atStart => exact ⟨0, _, Nat.zero_le _, rfl, HO.out, Upto.zero _ _, HX.out⟩
  case round =>
    obtain ⟨k, cs, hk, rfl, ho, hu, hx⟩ := hrel
    by_cases hlt : k < n
    · obtain ⟨b, o, s, rfl, hb, hxk, hc⟩ := (hs.ext hx).flat_at Row.cells_length (by omega) hlt
      obtain ⟨f0, f1⟩ := s
      have c0 := hc 0 (by omega)
      have c1 := hc 1 (by omega)
      simp only [Row.cells, List.getElem?_cons_zero, List.getElem?_cons_succ, Nat.add_zero] at c0 c1
      have HX2 := Lib.hid hxk
      have HO2 := Lib.hid ho
      have HE2 := Lib.hid hx
      clear hxk ho hx hc
      go_wp2_with fail
      refine (toRow_any _ _ _).mono ?_
      rintro e w2 ⟨rfl, hx2⟩
      have ho2 := own_ext HO2.out hx2
      obtain ⟨g, hA, -, -, hg⟩ := own_flat ho2 hlt
      obtain rfl : w.heap.size = g := addr_inj hA
      obtain ⟨v0, g0, e0⟩ := hg 0 (by omega)
      obtain ⟨v1, g1, e1⟩ := hg 1 (by omega)
      rw [Nat.add_zero] at g0 e0
      have HX3 := Lib.hid hx2
      have HO3 := Lib.hid ho2
      clear hx2 ho2 hg
      go_wp2
      go_roundw
      case rel =>
        have t0 := HO3.out.stored (k * 2) (.int .i64 f0)
        have t1 := t0.1.stored (k * 2 + 1) (.int .i64 f1)
        have hl3 : cs.length = n * 2 := HO3.out.1
        have q0 := flat_get Row.cells_length l k 0 _ HX2.out (by omega)
        have q1 := flat_get Row.cells_length l k 1 _ HX2.out (by omega)
        refine ⟨k + 1, _, by omega, by go_num, t1.1, ?_, ?_⟩
        · rw [show (k + 1) * 2 = k * 2 + 1 + 1 by omega]
          refine Upto.set1 (Upto.set1 hu (by omega) ?_) (by simp; omega) ?_
          · exact q0
          · exact q1
        · exact (((HE2.out.tr HX3.out)).sc (p := ⟨w.heap.size, _, none⟩) (Nat.le_refl _) _).sc (p := ⟨w.heap.size, _, none⟩) (Nat.le_refl _) _
      case measure => simp [intOf]; omega
    · go_wp2
      go_ret
      refine ⟨_, _, rfl, ?_, hx⟩
      have : k = n := by omega
      subst this
      rw [← hu.all ho.1 hs.1]
      exact ho

set_option maxHeartbeats 1000000 in
theorem eqRow_same (f0 : Int) (f1 : Int) (w : World) :
    Calls Try.prog 73 #[.agg #[.int .i64 f0, .int .i64 f1], .agg #[.int .i64 f0, .int .i64 f1]] w fun e w' => e = .returned (.bool true) ∧ Ext w w' := by
  go_enter Try.func73, Try.ntmps73
  go_wp2
  go_ret
  refine ⟨rfl, ?_⟩
  repeat (first | exact Ext.refl' _ | refine Ext.al ?_ _)

set_option maxHeartbeats 2000000 in
theorem eqRowS_same (A B : Option Addr) (n c d : Nat) (l : List Row) (w : World) (S T : Nat → Prop) (ha : Sl w S 2 A n (l.flatMap Row.cells)) (hb : Sl w T 2 B n (l.flatMap Row.cells)) (hm : n ≤ 9223372036854775807) :
    Calls Try.prog 36 #[.slice A n c, .slice B n d] w fun e w' => e = .returned (.bool true) ∧ Ext w w' := by
  go_enter Try.func36, Try.ntmps36
  go_wp2
  go_loopw [5] (fun i wr => ∃ (k : Nat), k ≤ n ∧ i = .int .i64 k ∧ Ext w wr) (fun i _ => n - (intOf i).toNat)
  case atStart => exact ⟨0, Nat.zero_le _, rfl, Ext.refl' _⟩
  case round =>
    obtain ⟨k, hk, rfl, hx⟩ := hrel
    by_cases hlt : k < n
    · obtain ⟨b1, o1, s, rfl, hb1, hxk, hc1⟩ := (ha.ext hx).flat_at Row.cells_length (by omega) hlt
      obtain ⟨b2, o2, s', rfl, hb2, hyk, hc2⟩ := (hb.ext hx).flat_at Row.cells_length (by omega) hlt
      rw [hxk] at hyk
      injection hyk with hyk
      subst hyk
      obtain ⟨f0, f1⟩ := s
      have c0 := hc1 0 (by omega)
      have c1 := hc1 1 (by omega)
      have d0 := hc2 0 (by omega)
      have d1 := hc2 1 (by omega)
      simp only [Row.cells, List.getElem?_cons_zero, List.getElem?_cons_succ, Nat.add_zero] at c0 c1 d0 d1
      have HE2 := Lib.hid hx
      clear hxk hx hc1 hc2
      go_wp2
      go_region_with (go_at_call 73; refine (eqRow_same _ _ _).mono ?_; rintro e w2 ⟨rfl, hx2⟩)
      all_goals
        have HE3 := Lib.hid hx2
        clear hx2
        go_wp2
        go_roundw
        case rel => exact ⟨k + 1, by omega, by go_num, HE2.out.tr (Ext.tr (Ext.dr (Ext.refl' _)) HE3.out)⟩
        case measure => simp [intOf]; omega
    · go_wp2
      go_ret
      exact ⟨rfl, hx⟩

theorem szRowS_any (A : Option Addr) (n c : Nat) (q : Int) (w : World) (hq : 0 ≤ q) (hq2 : q ≤ 1048576) (hn : n ≤ 9223372036854775807) :
    Calls Try.prog 32 #[.slice A n c, .int .i64 q] w fun e w' => e = .returned (.int .i64 (if (n : Int) ≤ q then q - n else -1)) ∧ w = w' := by
  by_cases h : (n : Int) ≤ q
  · go_enter Try.func32, Try.ntmps32
    go_wp2
    go_ret
    exact ⟨by first | rfl | (simp; done) | simp [h], rfl⟩
  · go_enter Try.func32, Try.ntmps32
    go_wp2
    go_ret
    exact ⟨by first | rfl | (simp; done) | simp [h], rfl⟩

def Row.mark (q : Int) : Row := ⟨q, q + 1⟩
def Row.marks (q : Int) (n : Nat) : List Row := (List.range n).map fun i : Nat => Row.mark (q + i * 2)
theorem Row.marks_length (q : Int) (n : Nat) : (Row.marks q n).length = n := by simp [Row.marks]
theorem Row.marks_get (q : Int) (n i : Nat) (h : i < n) : (Row.marks q n)[i]? = some (Row.mark (q + i * 2)) := by simp [Row.marks, h]

set_option maxHeartbeats 2000000 in
theorem markRowS_any (A : Option Addr) (n c : Nat) (base : Nat) (cs0 : List Value) (q : Int) (w : World) (ho0 : w.ownsRow base 84 2 (.slice A n c) n cs0) (hq : 0 ≤ q) (hqn : q + n * 2 ≤ 9007199254740992) :
    Calls Try.prog 37 #[.slice A n c, .int .i64 q] w fun e w' => e = .returned (.int .i64 (q + n * 2)) ∧ w'.ownsRow base 84 2 (.slice A n c) n ((Row.marks q n).flatMap Row.cells) ∧ Chg (fun k => (Value.slice A n c).ownBlock = some k) w w' := by
  have HO := Lib.hid ho0
  clear ho0
  go_enter Try.func37, Try.ntmps37
  go_wp2
  go_loopw [1, 5] (fun r i wr => ∃ (k : Nat) (cs : List Value), k ≤ n ∧ i = .int .i64 k ∧ r = .int .i64 (q + k * 2) ∧ wr.ownsRow base 84 2 (.slice A n c) n cs ∧ Upto cs ((Row.marks q n).flatMap Row.cells) (k * 2) ∧ Chg (fun k => (Value.slice A n c).ownBlock = some k) w wr) (fun _ i _ => n - (intOf i).toNat)
  case atStart => exact ⟨0, _, Nat.zero_le _, rfl, by simp, HO.out, by rw [Nat.zero_mul]; exact Upto.zero _ _, Chg.refl _ _⟩
  case round =>
    obtain ⟨k, cs, hk, rfl, rfl, ho, hu, hx⟩ := hrel
    by_cases hlt : k < n
    · obtain ⟨g, rfl, -, -, hg⟩ := own_flat ho hlt
      obtain ⟨v0, g0, e0⟩ := hg 0 (by omega)
      obtain ⟨v1, g1, e1⟩ := hg 1 (by omega)
      rw [Nat.add_zero] at g0 e0
      have HO2 := Lib.hid ho
      have HE2 := Lib.hid hx
      clear ho hx hg
      go_wp2
      go_roundw
      case rel =>
        have t0 := HO2.out.stored (k * 2) (.int .i64 (q + k * 2))
        have t1 := t0.1.stored (k * 2 + 1) (.int .i64 (q + k * 2 + 1))
        have hl3 : cs.length = n * 2 := HO2.out.1
        have hmk := Row.marks_get q n k hlt
        have q0 := flat_get Row.cells_length _ k 0 _ hmk (by omega)
        have q1 := flat_get Row.cells_length _ k 1 _ hmk (by omega)
        refine ⟨k + 1, _, by omega, by go_num, by go_num, t1.1, ?_, ?_⟩
        · rw [show (k + 1) * 2 = k * 2 + 1 + 1 by omega]
          refine Upto.set1 (Upto.set1 hu (by omega) ?_) (by simp; omega) ?_
          · exact q0
          · exact q1
        · exact ((HE2.out).grown t0.2 (fun j hj => .inl hj)).grown t1.2 (fun j hj => .inl hj)
      case measure => simp [intOf]; omega
    · go_wp2
      go_ret
      have : k = n := by omega
      subst this
      refine ⟨rfl, ?_, hx⟩
      rw [← hu.all ho.1 (by rw [flat_length Row.cells_length, Row.marks_length])]
      exact ho

end Go.Proofs.Ytnhkjgnfjphllaa
