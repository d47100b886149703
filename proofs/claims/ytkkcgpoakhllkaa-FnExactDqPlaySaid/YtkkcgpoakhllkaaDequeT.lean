/- The laws' helpers on Owner, Thief, Taken, DqAct. No condition but lengths. -/
import Derived.Test.YtkkcgpoakhllkaaInts
import Derived.Deep.RegionWith
namespace Go.Proofs.Ytkkcgpoakhllkaa
open Go.RowKit Go.Deep

/-! ### Owner -/
structure Owner where
  phase : Int
  b : Int
  t : Int
deriving Inhabited, DecidableEq
def Owner.cells (s : Owner) : List Value := [.int .i64 s.phase, .int .i64 s.b, .int .i64 s.t]
theorem Owner.cells_length (s : Owner) : s.cells.length = 3 := rfl
/-- Its integers are integers of Go's. -/
def Owner.good (s : Owner) : Prop := (Lit.int .i64 s.phase).wf = true ∧ (Lit.int .i64 s.b).wf = true ∧ (Lit.int .i64 s.t).wf = true
theorem opens_Owner : Opens Try.prog 31 (fun _ cs (s : Owner) => cs = s.cells ∧ s.good) := by
  intro H enc w base spare held fuel cs x h
  obtain ⟨hl, m, hf⟩ := trod_fields Try.underlying31 (by kernel_rfl) (by kernel_rfl) h
  obtain ⟨v0, y0, e0, t0⟩ := hf 0 _ rfl
  obtain ⟨f0, h0, -, g0⟩ := DataW.trod_int Try.underlying3 t0
  injection h0 with h0 _; subst h0
  obtain ⟨v1, y1, e1, t1⟩ := hf 1 _ rfl
  obtain ⟨f1, h1, -, g1⟩ := DataW.trod_int Try.underlying3 t1
  injection h1 with h1 _; subst h1
  obtain ⟨v2, y2, e2, t2⟩ := hf 2 _ rfl
  obtain ⟨f2, h2, -, g2⟩ := DataW.trod_int Try.underlying3 t2
  injection h2 with h2 _; subst h2
  refine ⟨⟨f0, f1, f2⟩, ?_, ⟨g0, g1, g2⟩⟩
  match cs, hl with
  | [c0, c1, c2], _ =>
    simp only [List.getElem?_cons_succ, List.getElem?_cons_zero, Option.some.injEq] at e0 e1 e2
    subst e0 e1 e2
    rfl

theorem toOwner_any (f0 : Int) (f1 : Int) (f2 : Int) (w : World) :
    Calls Try.prog 38 #[.agg #[.int .i64 f0, .int .i64 f1, .int .i64 f2]] w fun e w' => e = .returned (.agg #[.int .i64 f0, .int .i64 f1, .int .i64 f2]) ∧ Ext w w' := by
  go_enter Try.func38, Try.ntmps38
  go_wp2
  refine bodyPost_ret (v := .agg #[.int .i64 f0, .int .i64 f1, .int .i64 f2]) (by simp [results, Try.results38, go_sem]) rfl ⟨rfl, ?_⟩
  repeat (first | exact Ext.refl' _ | refine Ext.al ?_ _ | refine Ext.sc ?_ (by simp) _)

set_option maxHeartbeats 1000000 in
theorem eqOwner_same (f0 : Int) (f1 : Int) (f2 : Int) (w : World) :
    Calls Try.prog 43 #[.agg #[.int .i64 f0, .int .i64 f1, .int .i64 f2], .agg #[.int .i64 f0, .int .i64 f1, .int .i64 f2]] w fun e w' => e = .returned (.bool true) ∧ Ext w w' := by
  go_enter Try.func43, Try.ntmps43
  go_wp2
  go_ret
  refine ⟨rfl, ?_⟩
  repeat (first | exact Ext.refl' _ | refine Ext.al ?_ _)

/-! ### Thief -/
structure Thief where
  phase : Int
  t : Int
  item : Int
  lost : Int
deriving Inhabited, DecidableEq
def Thief.cells (s : Thief) : List Value := [.int .i64 s.phase, .int .i64 s.t, .int .i64 s.item, .int .i64 s.lost]
theorem Thief.cells_length (s : Thief) : s.cells.length = 4 := rfl
/-- Its integers are integers of Go's. -/
def Thief.good (s : Thief) : Prop := (Lit.int .i64 s.phase).wf = true ∧ (Lit.int .i64 s.t).wf = true ∧ (Lit.int .i64 s.item).wf = true ∧ (Lit.int .i64 s.lost).wf = true
theorem opens_Thief : Opens Try.prog 86 (fun _ cs (s : Thief) => cs = s.cells ∧ s.good) := by
  intro H enc w base spare held fuel cs x h
  obtain ⟨hl, m, hf⟩ := trod_fields Try.underlying86 (by kernel_rfl) (by kernel_rfl) h
  obtain ⟨v0, y0, e0, t0⟩ := hf 0 _ rfl
  obtain ⟨f0, h0, -, g0⟩ := DataW.trod_int Try.underlying3 t0
  injection h0 with h0 _; subst h0
  obtain ⟨v1, y1, e1, t1⟩ := hf 1 _ rfl
  obtain ⟨f1, h1, -, g1⟩ := DataW.trod_int Try.underlying3 t1
  injection h1 with h1 _; subst h1
  obtain ⟨v2, y2, e2, t2⟩ := hf 2 _ rfl
  obtain ⟨f2, h2, -, g2⟩ := DataW.trod_int Try.underlying3 t2
  injection h2 with h2 _; subst h2
  obtain ⟨v3, y3, e3, t3⟩ := hf 3 _ rfl
  obtain ⟨f3, h3, -, g3⟩ := DataW.trod_int Try.underlying3 t3
  injection h3 with h3 _; subst h3
  refine ⟨⟨f0, f1, f2, f3⟩, ?_, ⟨g0, g1, g2, g3⟩⟩
  match cs, hl with
  | [c0, c1, c2, c3], _ =>
    simp only [List.getElem?_cons_succ, List.getElem?_cons_zero, Option.some.injEq] at e0 e1 e2 e3
    subst e0 e1 e2 e3
    rfl

theorem toThief_any (f0 : Int) (f1 : Int) (f2 : Int) (f3 : Int) (w : World) :
    Calls Try.prog 58 #[.agg #[.int .i64 f0, .int .i64 f1, .int .i64 f2, .int .i64 f3]] w fun e w' => e = .returned (.agg #[.int .i64 f0, .int .i64 f1, .int .i64 f2, .int .i64 f3]) ∧ Ext w w' := by
  go_enter Try.func58, Try.ntmps58
  go_wp2
  refine bodyPost_ret (v := .agg #[.int .i64 f0, .int .i64 f1, .int .i64 f2, .int .i64 f3]) (by simp [results, Try.results58, go_sem]) rfl ⟨rfl, ?_⟩
  repeat (first | exact Ext.refl' _ | refine Ext.al ?_ _ | refine Ext.sc ?_ (by simp) _)

theorem Try.infoThief : (Try.prog.info? 67).map (fun i => (i.zero, i.size, i.bytes)) = some (some (.agg #[.int .i64 0, .int .i64 0, .int .i64 0, .int .i64 0]), 4, 32) := by kernel_rfl

set_option maxHeartbeats 2000000 in
theorem toThiefS_any (A : Option Addr) (n c : Nat) (l : List Thief) (w : World) (S : Nat → Prop) (hs : Sl w S 4 A n (l.flatMap Thief.cells)) (hm : n ≤ 1048576) :
    Calls Try.prog 39 #[.slice A n c] w fun e w' => ∃ B d, e = .returned (.slice B n d) ∧ w'.ownsRow w.heap.size 67 4 (.slice B n d) n (l.flatMap Thief.cells) ∧ Ext w w' := by
  obtain ⟨w1, cs0, hmk, hown, -, hx1, hlt⟩ := made_row (P := Try.prog) w 39 67 _ _ _ Try.underlying39 Try.infoThief n (by omega) (by unfold maxLen; omega)
  have HO := Lib.hid hown
  have HX := Lib.hid hx1
  clear hown hx1
  go_enter Try.func39, Try.ntmps39
  go_wp2
  go_loopw [4] (fun i wr => ∃ (k : Nat) (cs : List Value), k ≤ n ∧ i = .int .i64 k ∧ wr.ownsRow w.heap.size 67 4 (.slice (some ⟨w.heap.size, 0, none⟩) n n) n cs ∧ Upto cs (l.flatMap Thief.cells) (k * 4) ∧ Ext w wr) (fun i _ => n - (intOf i).toNat)
  case atStart => exact ⟨0, _, Nat.zero_le _, rfl, HO.out, Upto.zero _ _, HX.out⟩
  case round =>
    obtain ⟨k, cs, hk, rfl, ho, hu, hx⟩ := hrel
    by_cases hlt : k < n
    · obtain ⟨b, o, s, rfl, hb, hxk, hc⟩ := (hs.ext hx).flat_at Thief.cells_length (by omega) hlt
      obtain ⟨f0, f1, f2, f3⟩ := s
      have c0 := hc 0 (by omega)
      have c1 := hc 1 (by omega)
      have c2 := hc 2 (by omega)
      have c3 := hc 3 (by omega)
      simp only [Thief.cells, List.getElem?_cons_zero, List.getElem?_cons_succ, Nat.add_zero] at c0 c1 c2 c3
      have HX2 := Lib.hid hxk
      have HO2 := Lib.hid ho
      have HE2 := Lib.hid hx
      clear hxk ho hx hc
      go_wp2_with fail
      refine (toThief_any _ _ _ _ _).mono ?_
      rintro e w2 ⟨rfl, hx2⟩
      have ho2 := own_ext HO2.out hx2
      obtain ⟨g, hA, -, -, hg⟩ := own_flat ho2 hlt
      obtain rfl : w.heap.size = g := addr_inj hA
      obtain ⟨v0, g0, e0⟩ := hg 0 (by omega)
      obtain ⟨v1, g1, e1⟩ := hg 1 (by omega)
      obtain ⟨v2, g2, e2⟩ := hg 2 (by omega)
      obtain ⟨v3, g3, e3⟩ := hg 3 (by omega)
      rw [Nat.add_zero] at g0 e0
      have HX3 := Lib.hid hx2
      have HO3 := Lib.hid ho2
      clear hx2 ho2 hg
      go_wp2
      go_roundw
      case rel =>
        have t0 := HO3.out.stored (k * 4) (.int .i64 f0)
        have t1 := t0.1.stored (k * 4 + 1) (.int .i64 f1)
        have t2 := t1.1.stored (k * 4 + 2) (.int .i64 f2)
        have t3 := t2.1.stored (k * 4 + 3) (.int .i64 f3)
        have hl3 : cs.length = n * 4 := HO3.out.1
        have q0 := flat_get Thief.cells_length l k 0 _ HX2.out (by omega)
        have q1 := flat_get Thief.cells_length l k 1 _ HX2.out (by omega)
        have q2 := flat_get Thief.cells_length l k 2 _ HX2.out (by omega)
        have q3 := flat_get Thief.cells_length l k 3 _ HX2.out (by omega)
        refine ⟨k + 1, _, by omega, by go_num, t3.1, ?_, ?_⟩
        · rw [show (k + 1) * 4 = k * 4 + 3 + 1 by omega]
          refine Upto.set1 (Upto.set1 (Upto.set1 (Upto.set1 hu (by omega) ?_) (by simp; omega) ?_) (by simp; omega) ?_) (by simp; omega) ?_
          · exact q0
          · exact q1
          · exact q2
          · exact q3
        · exact (((((HE2.out.tr HX3.out)).sc (p := ⟨w.heap.size, _, none⟩) (Nat.le_refl _) _).sc (p := ⟨w.heap.size, _, none⟩) (Nat.le_refl _) _).sc (p := ⟨w.heap.size, _, none⟩) (Nat.le_refl _) _).sc (p := ⟨w.heap.size, _, none⟩) (Nat.le_refl _) _
      case measure => simp [intOf]; omega
    · go_wp2
      go_ret
      refine ⟨_, _, rfl, ?_, hx⟩
      have : k = n := by omega
      subst this
      rw [← hu.all ho.1 hs.1]
      exact ho

set_option maxHeartbeats 1000000 in
theorem eqThief_same (f0 : Int) (f1 : Int) (f2 : Int) (f3 : Int) (w : World) :
    Calls Try.prog 61 #[.agg #[.int .i64 f0, .int .i64 f1, .int .i64 f2, .int .i64 f3], .agg #[.int .i64 f0, .int .i64 f1, .int .i64 f2, .int .i64 f3]] w fun e w' => e = .returned (.bool true) ∧ Ext w w' := by
  go_enter Try.func61, Try.ntmps61
  go_wp2
  go_ret
  refine ⟨rfl, ?_⟩
  repeat (first | exact Ext.refl' _ | refine Ext.al ?_ _)

set_option maxHeartbeats 2000000 in
theorem eqThiefS_same (A B : Option Addr) (n c d : Nat) (l : List Thief) (w : World) (S T : Nat → Prop) (ha : Sl w S 4 A n (l.flatMap Thief.cells)) (hb : Sl w T 4 B n (l.flatMap Thief.cells)) (hm : n ≤ 9223372036854775807) :
    Calls Try.prog 44 #[.slice A n c, .slice B n d] w fun e w' => e = .returned (.bool true) ∧ Ext w w' := by
  go_enter Try.func44, Try.ntmps44
  go_wp2
  go_loopw [5] (fun i wr => ∃ (k : Nat), k ≤ n ∧ i = .int .i64 k ∧ Ext w wr) (fun i _ => n - (intOf i).toNat)
  case atStart => exact ⟨0, Nat.zero_le _, rfl, Ext.refl' _⟩
  case round =>
    obtain ⟨k, hk, rfl, hx⟩ := hrel
    by_cases hlt : k < n
    · obtain ⟨b1, o1, s, rfl, hb1, hxk, hc1⟩ := (ha.ext hx).flat_at Thief.cells_length (by omega) hlt
      obtain ⟨b2, o2, s', rfl, hb2, hyk, hc2⟩ := (hb.ext hx).flat_at Thief.cells_length (by omega) hlt
      rw [hxk] at hyk
      injection hyk with hyk
      subst hyk
      obtain ⟨f0, f1, f2, f3⟩ := s
      have c0 := hc1 0 (by omega)
      have c1 := hc1 1 (by omega)
      have c2 := hc1 2 (by omega)
      have c3 := hc1 3 (by omega)
      have d0 := hc2 0 (by omega)
      have d1 := hc2 1 (by omega)
      have d2 := hc2 2 (by omega)
      have d3 := hc2 3 (by omega)
      simp only [Thief.cells, List.getElem?_cons_zero, List.getElem?_cons_succ, Nat.add_zero] at c0 c1 c2 c3 d0 d1 d2 d3
      have HE2 := Lib.hid hx
      clear hxk hx hc1 hc2
      go_wp2
      go_region_with (go_at_call 61; refine (eqThief_same _ _ _ _ _).mono ?_; rintro e w2 ⟨rfl, hx2⟩)
      all_goals
        have HE3 := Lib.hid hx2
        clear hx2
        go_wp2
        go_roundw
        case rel => exact ⟨k + 1, by omega, by go_num, HE2.out.tr (Ext.tr (Ext.dr (Ext.refl' _)) HE3.out)⟩
        case measure => simp [intOf]; omega
    · go_wp2
      go_ret
      exact ⟨rfl, hx⟩

theorem szThiefS_any (A : Option Addr) (n c : Nat) (q : Int) (w : World) (hq : 0 ≤ q) (hq2 : q ≤ 1048576) (hn : n ≤ 9223372036854775807) :
    Calls Try.prog 35 #[.slice A n c, .int .i64 q] w fun e w' => e = .returned (.int .i64 (if (n : Int) ≤ q then q - n else -1)) ∧ w = w' := by
  by_cases h : (n : Int) ≤ q
  · go_enter Try.func35, Try.ntmps35
    go_wp2
    go_ret
    exact ⟨by first | rfl | (simp; done) | simp [h], rfl⟩
  · go_enter Try.func35, Try.ntmps35
    go_wp2
    go_ret
    exact ⟨by first | rfl | (simp; done) | simp [h], rfl⟩

def Thief.mark (q : Int) : Thief := ⟨q, q + 1, q + 1 + 1, q + 1 + 1 + 1⟩
def Thief.marks (q : Int) (n : Nat) : List Thief := (List.range n).map fun i : Nat => Thief.mark (q + i * 4)
theorem Thief.marks_length (q : Int) (n : Nat) : (Thief.marks q n).length = n := by simp [Thief.marks]
theorem Thief.marks_get (q : Int) (n i : Nat) (h : i < n) : (Thief.marks q n)[i]? = some (Thief.mark (q + i * 4)) := by simp [Thief.marks, h]

set_option maxHeartbeats 2000000 in
theorem markThiefS_any (A : Option Addr) (n c : Nat) (base : Nat) (cs0 : List Value) (q : Int) (w : World) (ho0 : w.ownsRow base 67 4 (.slice A n c) n cs0) (hq : 0 ≤ q) (hqn : q + n * 4 ≤ 9007199254740992) :
    Calls Try.prog 46 #[.slice A n c, .int .i64 q] w fun e w' => e = .returned (.int .i64 (q + n * 4)) ∧ w'.ownsRow base 67 4 (.slice A n c) n ((Thief.marks q n).flatMap Thief.cells) ∧ Chg (fun k => (Value.slice A n c).ownBlock = some k) w w' := by
  have HO := Lib.hid ho0
  clear ho0
  go_enter Try.func46, Try.ntmps46
  go_wp2
  go_loopw [1, 5] (fun r i wr => ∃ (k : Nat) (cs : List Value), k ≤ n ∧ i = .int .i64 k ∧ r = .int .i64 (q + k * 4) ∧ wr.ownsRow base 67 4 (.slice A n c) n cs ∧ Upto cs ((Thief.marks q n).flatMap Thief.cells) (k * 4) ∧ Chg (fun k => (Value.slice A n c).ownBlock = some k) w wr) (fun _ i _ => n - (intOf i).toNat)
  case atStart => exact ⟨0, _, Nat.zero_le _, rfl, by simp, HO.out, by rw [Nat.zero_mul]; exact Upto.zero _ _, Chg.refl _ _⟩
  case round =>
    obtain ⟨k, cs, hk, rfl, rfl, ho, hu, hx⟩ := hrel
    by_cases hlt : k < n
    · obtain ⟨g, rfl, -, -, hg⟩ := own_flat ho hlt
      obtain ⟨v0, g0, e0⟩ := hg 0 (by omega)
      obtain ⟨v1, g1, e1⟩ := hg 1 (by omega)
      obtain ⟨v2, g2, e2⟩ := hg 2 (by omega)
      obtain ⟨v3, g3, e3⟩ := hg 3 (by omega)
      rw [Nat.add_zero] at g0 e0
      have HO2 := Lib.hid ho
      have HE2 := Lib.hid hx
      clear ho hx hg
      go_wp2
      go_roundw
      case rel =>
        have t0 := HO2.out.stored (k * 4) (.int .i64 (q + k * 4))
        have t1 := t0.1.stored (k * 4 + 1) (.int .i64 (q + k * 4 + 1))
        have t2 := t1.1.stored (k * 4 + 2) (.int .i64 (q + k * 4 + 1 + 1))
        have t3 := t2.1.stored (k * 4 + 3) (.int .i64 (q + k * 4 + 1 + 1 + 1))
        have hl3 : cs.length = n * 4 := HO2.out.1
        have hmk := Thief.marks_get q n k hlt
        have q0 := flat_get Thief.cells_length _ k 0 _ hmk (by omega)
        have q1 := flat_get Thief.cells_length _ k 1 _ hmk (by omega)
        have q2 := flat_get Thief.cells_length _ k 2 _ hmk (by omega)
        have q3 := flat_get Thief.cells_length _ k 3 _ hmk (by omega)
        refine ⟨k + 1, _, by omega, by go_num, by go_num, t3.1, ?_, ?_⟩
        · rw [show (k + 1) * 4 = k * 4 + 3 + 1 by omega]
          refine Upto.set1 (Upto.set1 (Upto.set1 (Upto.set1 hu (by omega) ?_) (by simp; omega) ?_) (by simp; omega) ?_) (by simp; omega) ?_
          · exact q0
          · exact q1
          · exact q2
          · exact q3
        · exact ((((HE2.out).grown t0.2 (fun j hj => .inl hj)).grown t1.2 (fun j hj => .inl hj)).grown t2.2 (fun j hj => .inl hj)).grown t3.2 (fun j hj => .inl hj)
      case measure => simp [intOf]; omega
    · go_wp2
      go_ret
      have : k = n := by omega
      subst this
      refine ⟨rfl, ?_, hx⟩
      rw [← hu.all ho.1 (by rw [flat_length Thief.cells_length, Thief.marks_length])]
      exact ho

set_option maxHeartbeats 2000000 in
theorem heldThiefS_any (A : Option Addr) (n c : Nat) (q : Int) (w : World) (S : Nat → Prop) (hs : Sl w S 4 A n ((Thief.marks q n).flatMap Thief.cells)) (hq : 0 ≤ q) (hqn : q + n * 4 ≤ 9007199254740992) :
    Calls Try.prog 54 #[.slice A n c, .int .i64 q] w fun e w' => e = .returned (.int .i64 (q + n * 4)) ∧ Ext w w' := by
  go_enter Try.func54, Try.ntmps54
  go_wp2
  go_loopw [1, 5] (fun r i wr => ∃ (k : Nat), k ≤ n ∧ i = .int .i64 k ∧ r = .int .i64 (q + k * 4) ∧ Ext w wr) (fun _ i _ => n - (intOf i).toNat)
  case atStart => exact ⟨0, Nat.zero_le _, rfl, by simp, Ext.refl' _⟩
  case round =>
    obtain ⟨k, hk, rfl, rfl, hx⟩ := hrel
    by_cases hlt : k < n
    · obtain ⟨b, o, s, rfl, hb, hxk, hc⟩ := (hs.ext hx).flat_at Thief.cells_length (by omega) hlt
      rw [Thief.marks_get _ _ _ hlt] at hxk
      injection hxk with hxk
      subst hxk
      have c0 := hc 0 (by omega)
      have c1 := hc 1 (by omega)
      have c2 := hc 2 (by omega)
      have c3 := hc 3 (by omega)
      simp only [Thief.cells, Thief.mark, List.getElem?_cons_zero, List.getElem?_cons_succ, Nat.add_zero] at c0 c1 c2 c3

      have HE2 := Lib.hid hx
      clear hx hc
      go_wp2
      go_roundw
      case rel => exact ⟨k + 1, by omega, by go_num, by go_num, HE2.out⟩
      case measure => simp [intOf]; omega
    · go_wp2
      go_ret
      have : k = n := by omega
      subst this
      exact ⟨rfl, hx⟩

/-! ### Taken -/
structure Taken where
  who : Int
  item : Int
deriving Inhabited, DecidableEq
def Taken.cells (s : Taken) : List Value := [.int .i64 s.who, .int .i64 s.item]
theorem Taken.cells_length (s : Taken) : s.cells.length = 2 := rfl
/-- Its integers are integers of Go's. -/
def Taken.good (s : Taken) : Prop := (Lit.int .i64 s.who).wf = true ∧ (Lit.int .i64 s.item).wf = true
theorem opens_Taken : Opens Try.prog 88 (fun _ cs (s : Taken) => cs = s.cells ∧ s.good) := by
  intro H enc w base spare held fuel cs x h
  obtain ⟨hl, m, hf⟩ := trod_fields Try.underlying88 (by kernel_rfl) (by kernel_rfl) h
  obtain ⟨v0, y0, e0, t0⟩ := hf 0 _ rfl
  obtain ⟨f0, h0, -, g0⟩ := DataW.trod_int Try.underlying3 t0
  injection h0 with h0 _; subst h0
  obtain ⟨v1, y1, e1, t1⟩ := hf 1 _ rfl
  obtain ⟨f1, h1, -, g1⟩ := DataW.trod_int Try.underlying3 t1
  injection h1 with h1 _; subst h1
  refine ⟨⟨f0, f1⟩, ?_, ⟨g0, g1⟩⟩
  match cs, hl with
  | [c0, c1], _ =>
    simp only [List.getElem?_cons_succ, List.getElem?_cons_zero, Option.some.injEq] at e0 e1
    subst e0 e1
    rfl

theorem toTaken_any (f0 : Int) (f1 : Int) (w : World) :
    Calls Try.prog 59 #[.agg #[.int .i64 f0, .int .i64 f1]] w fun e w' => e = .returned (.agg #[.int .i64 f0, .int .i64 f1]) ∧ Ext w w' := by
  go_enter Try.func59, Try.ntmps59
  go_wp2
  refine bodyPost_ret (v := .agg #[.int .i64 f0, .int .i64 f1]) (by simp [results, Try.results59, go_sem]) rfl ⟨rfl, ?_⟩
  repeat (first | exact Ext.refl' _ | refine Ext.al ?_ _ | refine Ext.sc ?_ (by simp) _)

theorem Try.infoTaken : (Try.prog.info? 57).map (fun i => (i.zero, i.size, i.bytes)) = some (some (.agg #[.int .i64 0, .int .i64 0]), 2, 16) := by kernel_rfl

set_option maxHeartbeats 2000000 in
theorem toTakenS_any (A : Option Addr) (n c : Nat) (l : List Taken) (w : World) (S : Nat → Prop) (hs : Sl w S 2 A n (l.flatMap Taken.cells)) (hm : n ≤ 1048576) :
    Calls Try.prog 40 #[.slice A n c] w fun e w' => ∃ B d, e = .returned (.slice B n d) ∧ w'.ownsRow w.heap.size 57 2 (.slice B n d) n (l.flatMap Taken.cells) ∧ Ext w w' := by
  obtain ⟨w1, cs0, hmk, hown, -, hx1, hlt⟩ := made_row (P := Try.prog) w 40 57 _ _ _ Try.underlying40 Try.infoTaken n (by omega) (by unfold maxLen; omega)
  have HO := Lib.hid hown
  have HX := Lib.hid hx1
  clear hown hx1
  go_enter Try.func40, Try.ntmps40
  go_wp2
  go_loopw [4] (fun i wr => ∃ (k : Nat) (cs : List Value), k ≤ n ∧ i = .int .i64 k ∧ wr.ownsRow w.heap.size 57 2 (.slice (some ⟨w.heap.size, 0, none⟩) n n) n cs ∧ Upto cs (l.flatMap Taken.cells) (k * 2) ∧ Ext w wr) (fun i _ => n - (intOf i).toNat)
  case atStart => exact ⟨0, _, Nat.zero_le _, rfl, HO.out, Upto.zero _ _, HX.out⟩
  case round =>
    obtain ⟨k, cs, hk, rfl, ho, hu, hx⟩ := hrel
    by_cases hlt : k < n
    · obtain ⟨b, o, s, rfl, hb, hxk, hc⟩ := (hs.ext hx).flat_at Taken.cells_length (by omega) hlt
      obtain ⟨f0, f1⟩ := s
      have c0 := hc 0 (by omega)
      have c1 := hc 1 (by omega)
      simp only [Taken.cells, List.getElem?_cons_zero, List.getElem?_cons_succ, Nat.add_zero] at c0 c1
      have HX2 := Lib.hid hxk
      have HO2 := Lib.hid ho
      have HE2 := Lib.hid hx
      clear hxk ho hx hc
      go_wp2_with fail
      refine (toTaken_any _ _ _).mono ?_
      rintro e w2 ⟨rfl, hx2⟩
      have ho2 := own_ext HO2.out hx2
      obtain ⟨g, hA, -, -, hg⟩ := own_flat ho2 hlt
      obtain rfl : w.heap.size = g := addr_inj hA
      obtain ⟨v0, g0, e0⟩ := hg 0 (by omega)
      obtain ⟨v1, g1, e1⟩ := hg 1 (by omega)
      rw [Nat.add_zero] at g0 e0
      have HX3 := Lib.hid hx2
      have HO3 := Lib.hid ho2
      clear hx2 ho2 hg
      go_wp2
      go_roundw
      case rel =>
        have t0 := HO3.out.stored (k * 2) (.int .i64 f0)
        have t1 := t0.1.stored (k * 2 + 1) (.int .i64 f1)
        have hl3 : cs.length = n * 2 := HO3.out.1
        have q0 := flat_get Taken.cells_length l k 0 _ HX2.out (by omega)
        have q1 := flat_get Taken.cells_length l k 1 _ HX2.out (by omega)
        refine ⟨k + 1, _, by omega, by go_num, t1.1, ?_, ?_⟩
        · rw [show (k + 1) * 2 = k * 2 + 1 + 1 by omega]
          refine Upto.set1 (Upto.set1 hu (by omega) ?_) (by simp; omega) ?_
          · exact q0
          · exact q1
        · exact (((HE2.out.tr HX3.out)).sc (p := ⟨w.heap.size, _, none⟩) (Nat.le_refl _) _).sc (p := ⟨w.heap.size, _, none⟩) (Nat.le_refl _) _
      case measure => simp [intOf]; omega
    · go_wp2
      go_ret
      refine ⟨_, _, rfl, ?_, hx⟩
      have : k = n := by omega
      subst this
      rw [← hu.all ho.1 hs.1]
      exact ho

set_option maxHeartbeats 1000000 in
theorem eqTaken_same (f0 : Int) (f1 : Int) (w : World) :
    Calls Try.prog 62 #[.agg #[.int .i64 f0, .int .i64 f1], .agg #[.int .i64 f0, .int .i64 f1]] w fun e w' => e = .returned (.bool true) ∧ Ext w w' := by
  go_enter Try.func62, Try.ntmps62
  go_wp2
  go_ret
  refine ⟨rfl, ?_⟩
  repeat (first | exact Ext.refl' _ | refine Ext.al ?_ _)

set_option maxHeartbeats 2000000 in
theorem eqTakenS_same (A B : Option Addr) (n c d : Nat) (l : List Taken) (w : World) (S T : Nat → Prop) (ha : Sl w S 2 A n (l.flatMap Taken.cells)) (hb : Sl w T 2 B n (l.flatMap Taken.cells)) (hm : n ≤ 9223372036854775807) :
    Calls Try.prog 45 #[.slice A n c, .slice B n d] w fun e w' => e = .returned (.bool true) ∧ Ext w w' := by
  go_enter Try.func45, Try.ntmps45
  go_wp2
  go_loopw [5] (fun i wr => ∃ (k : Nat), k ≤ n ∧ i = .int .i64 k ∧ Ext w wr) (fun i _ => n - (intOf i).toNat)
  case atStart => exact ⟨0, Nat.zero_le _, rfl, Ext.refl' _⟩
  case round =>
    obtain ⟨k, hk, rfl, hx⟩ := hrel
    by_cases hlt : k < n
    · obtain ⟨b1, o1, s, rfl, hb1, hxk, hc1⟩ := (ha.ext hx).flat_at Taken.cells_length (by omega) hlt
      obtain ⟨b2, o2, s', rfl, hb2, hyk, hc2⟩ := (hb.ext hx).flat_at Taken.cells_length (by omega) hlt
      rw [hxk] at hyk
      injection hyk with hyk
      subst hyk
      obtain ⟨f0, f1⟩ := s
      have c0 := hc1 0 (by omega)
      have c1 := hc1 1 (by omega)
      have d0 := hc2 0 (by omega)
      have d1 := hc2 1 (by omega)
      simp only [Taken.cells, List.getElem?_cons_zero, List.getElem?_cons_succ, Nat.add_zero] at c0 c1 d0 d1
      have HE2 := Lib.hid hx
      clear hxk hx hc1 hc2
      go_wp2
      go_region_with (go_at_call 62; refine (eqTaken_same _ _ _).mono ?_; rintro e w2 ⟨rfl, hx2⟩)
      all_goals
        have HE3 := Lib.hid hx2
        clear hx2
        go_wp2
        go_roundw
        case rel => exact ⟨k + 1, by omega, by go_num, HE2.out.tr (Ext.tr (Ext.dr (Ext.refl' _)) HE3.out)⟩
        case measure => simp [intOf]; omega
    · go_wp2
      go_ret
      exact ⟨rfl, hx⟩

theorem szTakenS_any (A : Option Addr) (n c : Nat) (q : Int) (w : World) (hq : 0 ≤ q) (hq2 : q ≤ 1048576) (hn : n ≤ 9223372036854775807) :
    Calls Try.prog 36 #[.slice A n c, .int .i64 q] w fun e w' => e = .returned (.int .i64 (if (n : Int) ≤ q then q - n else -1)) ∧ w = w' := by
  by_cases h : (n : Int) ≤ q
  · go_enter Try.func36, Try.ntmps36
    go_wp2
    go_ret
    exact ⟨by first | rfl | (simp; done) | simp [h], rfl⟩
  · go_enter Try.func36, Try.ntmps36
    go_wp2
    go_ret
    exact ⟨by first | rfl | (simp; done) | simp [h], rfl⟩

def Taken.mark (q : Int) : Taken := ⟨q, q + 1⟩
def Taken.marks (q : Int) (n : Nat) : List Taken := (List.range n).map fun i : Nat => Taken.mark (q + i * 2)
theorem Taken.marks_length (q : Int) (n : Nat) : (Taken.marks q n).length = n := by simp [Taken.marks]
theorem Taken.marks_get (q : Int) (n i : Nat) (h : i < n) : (Taken.marks q n)[i]? = some (Taken.mark (q + i * 2)) := by simp [Taken.marks, h]

set_option maxHeartbeats 2000000 in
theorem markTakenS_any (A : Option Addr) (n c : Nat) (base : Nat) (cs0 : List Value) (q : Int) (w : World) (ho0 : w.ownsRow base 57 2 (.slice A n c) n cs0) (hq : 0 ≤ q) (hqn : q + n * 2 ≤ 9007199254740992) :
    Calls Try.prog 47 #[.slice A n c, .int .i64 q] w fun e w' => e = .returned (.int .i64 (q + n * 2)) ∧ w'.ownsRow base 57 2 (.slice A n c) n ((Taken.marks q n).flatMap Taken.cells) ∧ Chg (fun k => (Value.slice A n c).ownBlock = some k) w w' := by
  have HO := Lib.hid ho0
  clear ho0
  go_enter Try.func47, Try.ntmps47
  go_wp2
  go_loopw [1, 5] (fun r i wr => ∃ (k : Nat) (cs : List Value), k ≤ n ∧ i = .int .i64 k ∧ r = .int .i64 (q + k * 2) ∧ wr.ownsRow base 57 2 (.slice A n c) n cs ∧ Upto cs ((Taken.marks q n).flatMap Taken.cells) (k * 2) ∧ Chg (fun k => (Value.slice A n c).ownBlock = some k) w wr) (fun _ i _ => n - (intOf i).toNat)
  case atStart => exact ⟨0, _, Nat.zero_le _, rfl, by simp, HO.out, by rw [Nat.zero_mul]; exact Upto.zero _ _, Chg.refl _ _⟩
  case round =>
    obtain ⟨k, cs, hk, rfl, rfl, ho, hu, hx⟩ := hrel
    by_cases hlt : k < n
    · obtain ⟨g, rfl, -, -, hg⟩ := own_flat ho hlt
      obtain ⟨v0, g0, e0⟩ := hg 0 (by omega)
      obtain ⟨v1, g1, e1⟩ := hg 1 (by omega)
      rw [Nat.add_zero] at g0 e0
      have HO2 := Lib.hid ho
      have HE2 := Lib.hid hx
      clear ho hx hg
      go_wp2
      go_roundw
      case rel =>
        have t0 := HO2.out.stored (k * 2) (.int .i64 (q + k * 2))
        have t1 := t0.1.stored (k * 2 + 1) (.int .i64 (q + k * 2 + 1))
        have hl3 : cs.length = n * 2 := HO2.out.1
        have hmk := Taken.marks_get q n k hlt
        have q0 := flat_get Taken.cells_length _ k 0 _ hmk (by omega)
        have q1 := flat_get Taken.cells_length _ k 1 _ hmk (by omega)
        refine ⟨k + 1, _, by omega, by go_num, by go_num, t1.1, ?_, ?_⟩
        · rw [show (k + 1) * 2 = k * 2 + 1 + 1 by omega]
          refine Upto.set1 (Upto.set1 hu (by omega) ?_) (by simp; omega) ?_
          · exact q0
          · exact q1
        · exact ((HE2.out).grown t0.2 (fun j hj => .inl hj)).grown t1.2 (fun j hj => .inl hj)
      case measure => simp [intOf]; omega
    · go_wp2
      go_ret
      have : k = n := by omega
      subst this
      refine ⟨rfl, ?_, hx⟩
      rw [← hu.all ho.1 (by rw [flat_length Taken.cells_length, Taken.marks_length])]
      exact ho

set_option maxHeartbeats 2000000 in
theorem heldTakenS_any (A : Option Addr) (n c : Nat) (q : Int) (w : World) (S : Nat → Prop) (hs : Sl w S 2 A n ((Taken.marks q n).flatMap Taken.cells)) (hq : 0 ≤ q) (hqn : q + n * 2 ≤ 9007199254740992) :
    Calls Try.prog 55 #[.slice A n c, .int .i64 q] w fun e w' => e = .returned (.int .i64 (q + n * 2)) ∧ Ext w w' := by
  go_enter Try.func55, Try.ntmps55
  go_wp2
  go_loopw [1, 5] (fun r i wr => ∃ (k : Nat), k ≤ n ∧ i = .int .i64 k ∧ r = .int .i64 (q + k * 2) ∧ Ext w wr) (fun _ i _ => n - (intOf i).toNat)
  case atStart => exact ⟨0, Nat.zero_le _, rfl, by simp, Ext.refl' _⟩
  case round =>
    obtain ⟨k, hk, rfl, rfl, hx⟩ := hrel
    by_cases hlt : k < n
    · obtain ⟨b, o, s, rfl, hb, hxk, hc⟩ := (hs.ext hx).flat_at Taken.cells_length (by omega) hlt
      rw [Taken.marks_get _ _ _ hlt] at hxk
      injection hxk with hxk
      subst hxk
      have c0 := hc 0 (by omega)
      have c1 := hc 1 (by omega)
      simp only [Taken.cells, Taken.mark, List.getElem?_cons_zero, List.getElem?_cons_succ, Nat.add_zero] at c0 c1

      have HE2 := Lib.hid hx
      clear hx hc
      go_wp2
      go_roundw
      case rel => exact ⟨k + 1, by omega, by go_num, by go_num, HE2.out⟩
      case measure => simp [intOf]; omega
    · go_wp2
      go_ret
      have : k = n := by omega
      subst this
      exact ⟨rfl, hx⟩

/-! ### DqAct -/
structure DqAct where
  kind : Int
  thief : Int
deriving Inhabited, DecidableEq
def DqAct.cells (s : DqAct) : List Value := [.int .i64 s.kind, .int .i64 s.thief]
theorem DqAct.cells_length (s : DqAct) : s.cells.length = 2 := rfl
/-- Its integers are integers of Go's. -/
def DqAct.good (s : DqAct) : Prop := (Lit.int .i64 s.kind).wf = true ∧ (Lit.int .i64 s.thief).wf = true
theorem opens_DqAct : Opens Try.prog 62 (fun _ cs (s : DqAct) => cs = s.cells ∧ s.good) := by
  intro H enc w base spare held fuel cs x h
  obtain ⟨hl, m, hf⟩ := trod_fields Try.underlying62 (by kernel_rfl) (by kernel_rfl) h
  obtain ⟨v0, y0, e0, t0⟩ := hf 0 _ rfl
  obtain ⟨f0, h0, -, g0⟩ := DataW.trod_int Try.underlying3 t0
  injection h0 with h0 _; subst h0
  obtain ⟨v1, y1, e1, t1⟩ := hf 1 _ rfl
  obtain ⟨f1, h1, -, g1⟩ := DataW.trod_int Try.underlying3 t1
  injection h1 with h1 _; subst h1
  refine ⟨⟨f0, f1⟩, ?_, ⟨g0, g1⟩⟩
  match cs, hl with
  | [c0, c1], _ =>
    simp only [List.getElem?_cons_succ, List.getElem?_cons_zero, Option.some.injEq] at e0 e1
    subst e0 e1
    rfl

theorem toDqAct_any (f0 : Int) (f1 : Int) (w : World) :
    Calls Try.prog 31 #[.agg #[.int .i64 f0, .int .i64 f1]] w fun e w' => e = .returned (.agg #[.int .i64 f0, .int .i64 f1]) ∧ Ext w w' := by
  go_enter Try.func31, Try.ntmps31
  go_wp2
  refine bodyPost_ret (v := .agg #[.int .i64 f0, .int .i64 f1]) (by simp [results, Try.results31, go_sem]) rfl ⟨rfl, ?_⟩
  repeat (first | exact Ext.refl' _ | refine Ext.al ?_ _ | refine Ext.sc ?_ (by simp) _)

theorem Try.infoDqAct : (Try.prog.info? 60).map (fun i => (i.zero, i.size, i.bytes)) = some (some (.agg #[.int .i64 0, .int .i64 0]), 2, 16) := by kernel_rfl

set_option maxHeartbeats 2000000 in
theorem toDqActS_any (A : Option Addr) (n c : Nat) (l : List DqAct) (w : World) (S : Nat → Prop) (hs : Sl w S 2 A n (l.flatMap DqAct.cells)) (hm : n ≤ 1048576) :
    Calls Try.prog 10 #[.slice A n c] w fun e w' => ∃ B d, e = .returned (.slice B n d) ∧ w'.ownsRow w.heap.size 60 2 (.slice B n d) n (l.flatMap DqAct.cells) ∧ Ext w w' := by
  obtain ⟨w1, cs0, hmk, hown, -, hx1, hlt⟩ := made_row (P := Try.prog) w 25 60 _ _ _ Try.underlying25 Try.infoDqAct n (by omega) (by unfold maxLen; omega)
  have HO := Lib.hid hown
  have HX := Lib.hid hx1
  clear hown hx1
  go_enter Try.func10, Try.ntmps10
  go_wp2
  go_loopw [4] (fun i wr => ∃ (k : Nat) (cs : List Value), k ≤ n ∧ i = .int .i64 k ∧ wr.ownsRow w.heap.size 60 2 (.slice (some ⟨w.heap.size, 0, none⟩) n n) n cs ∧ Upto cs (l.flatMap DqAct.cells) (k * 2) ∧ Ext w wr) (fun i _ => n - (intOf i).toNat)
  case atStart => exact ⟨0, _, Nat.zero_le _, rfl, HO.out, Upto.zero _ _, HX.out⟩
  case round =>
    obtain ⟨k, cs, hk, rfl, ho, hu, hx⟩ := hrel
    by_cases hlt : k < n
    · obtain ⟨b, o, s, rfl, hb, hxk, hc⟩ := (hs.ext hx).flat_at DqAct.cells_length (by omega) hlt
      obtain ⟨f0, f1⟩ := s
      have c0 := hc 0 (by omega)
      have c1 := hc 1 (by omega)
      simp only [DqAct.cells, List.getElem?_cons_zero, List.getElem?_cons_succ, Nat.add_zero] at c0 c1
      have HX2 := Lib.hid hxk
      have HO2 := Lib.hid ho
      have HE2 := Lib.hid hx
      clear hxk ho hx hc
      go_wp2_with fail
      refine (toDqAct_any _ _ _).mono ?_
      rintro e w2 ⟨rfl, hx2⟩
      have ho2 := own_ext HO2.out hx2
      obtain ⟨g, hA, -, -, hg⟩ := own_flat ho2 hlt
      obtain rfl : w.heap.size = g := addr_inj hA
      obtain ⟨v0, g0, e0⟩ := hg 0 (by omega)
      obtain ⟨v1, g1, e1⟩ := hg 1 (by omega)
      rw [Nat.add_zero] at g0 e0
      have HX3 := Lib.hid hx2
      have HO3 := Lib.hid ho2
      clear hx2 ho2 hg
      go_wp2
      go_roundw
      case rel =>
        have t0 := HO3.out.stored (k * 2) (.int .i64 f0)
        have t1 := t0.1.stored (k * 2 + 1) (.int .i64 f1)
        have hl3 : cs.length = n * 2 := HO3.out.1
        have q0 := flat_get DqAct.cells_length l k 0 _ HX2.out (by omega)
        have q1 := flat_get DqAct.cells_length l k 1 _ HX2.out (by omega)
        refine ⟨k + 1, _, by omega, by go_num, t1.1, ?_, ?_⟩
        · rw [show (k + 1) * 2 = k * 2 + 1 + 1 by omega]
          refine Upto.set1 (Upto.set1 hu (by omega) ?_) (by simp; omega) ?_
          · exact q0
          · exact q1
        · exact (((HE2.out.tr HX3.out)).sc (p := ⟨w.heap.size, _, none⟩) (Nat.le_refl _) _).sc (p := ⟨w.heap.size, _, none⟩) (Nat.le_refl _) _
      case measure => simp [intOf]; omega
    · go_wp2
      go_ret
      refine ⟨_, _, rfl, ?_, hx⟩
      have : k = n := by omega
      subst this
      rw [← hu.all ho.1 hs.1]
      exact ho

set_option maxHeartbeats 1000000 in
theorem eqDqAct_same (f0 : Int) (f1 : Int) (w : World) :
    Calls Try.prog 33 #[.agg #[.int .i64 f0, .int .i64 f1], .agg #[.int .i64 f0, .int .i64 f1]] w fun e w' => e = .returned (.bool true) ∧ Ext w w' := by
  go_enter Try.func33, Try.ntmps33
  go_wp2
  go_ret
  refine ⟨rfl, ?_⟩
  repeat (first | exact Ext.refl' _ | refine Ext.al ?_ _)

set_option maxHeartbeats 2000000 in
theorem eqDqActS_same (A B : Option Addr) (n c d : Nat) (l : List DqAct) (w : World) (S T : Nat → Prop) (ha : Sl w S 2 A n (l.flatMap DqAct.cells)) (hb : Sl w T 2 B n (l.flatMap DqAct.cells)) (hm : n ≤ 9223372036854775807) :
    Calls Try.prog 12 #[.slice A n c, .slice B n d] w fun e w' => e = .returned (.bool true) ∧ Ext w w' := by
  go_enter Try.func12, Try.ntmps12
  go_wp2
  go_loopw [5] (fun i wr => ∃ (k : Nat), k ≤ n ∧ i = .int .i64 k ∧ Ext w wr) (fun i _ => n - (intOf i).toNat)
  case atStart => exact ⟨0, Nat.zero_le _, rfl, Ext.refl' _⟩
  case round =>
    obtain ⟨k, hk, rfl, hx⟩ := hrel
    by_cases hlt : k < n
    · obtain ⟨b1, o1, s, rfl, hb1, hxk, hc1⟩ := (ha.ext hx).flat_at DqAct.cells_length (by omega) hlt
      obtain ⟨b2, o2, s', rfl, hb2, hyk, hc2⟩ := (hb.ext hx).flat_at DqAct.cells_length (by omega) hlt
      rw [hxk] at hyk
      injection hyk with hyk
      subst hyk
      obtain ⟨f0, f1⟩ := s
      have c0 := hc1 0 (by omega)
      have c1 := hc1 1 (by omega)
      have d0 := hc2 0 (by omega)
      have d1 := hc2 1 (by omega)
      simp only [DqAct.cells, List.getElem?_cons_zero, List.getElem?_cons_succ, Nat.add_zero] at c0 c1 d0 d1
      have HE2 := Lib.hid hx
      clear hxk hx hc1 hc2
      go_wp2
      go_region_with (go_at_call 33; refine (eqDqAct_same _ _ _).mono ?_; rintro e w2 ⟨rfl, hx2⟩)
      all_goals
        have HE3 := Lib.hid hx2
        clear hx2
        go_wp2
        go_roundw
        case rel => exact ⟨k + 1, by omega, by go_num, HE2.out.tr (Ext.tr (Ext.dr (Ext.refl' _)) HE3.out)⟩
        case measure => simp [intOf]; omega
    · go_wp2
      go_ret
      exact ⟨rfl, hx⟩

theorem szDqActS_any (A : Option Addr) (n c : Nat) (q : Int) (w : World) (hq : 0 ≤ q) (hq2 : q ≤ 1048576) (hn : n ≤ 9223372036854775807) :
    Calls Try.prog 8 #[.slice A n c, .int .i64 q] w fun e w' => e = .returned (.int .i64 (if (n : Int) ≤ q then q - n else -1)) ∧ w = w' := by
  by_cases h : (n : Int) ≤ q
  · go_enter Try.func8, Try.ntmps8
    go_wp2
    go_ret
    exact ⟨by first | rfl | (simp; done) | simp [h], rfl⟩
  · go_enter Try.func8, Try.ntmps8
    go_wp2
    go_ret
    exact ⟨by first | rfl | (simp; done) | simp [h], rfl⟩

def DqAct.mark (q : Int) : DqAct := ⟨q, q + 1⟩
def DqAct.marks (q : Int) (n : Nat) : List DqAct := (List.range n).map fun i : Nat => DqAct.mark (q + i * 2)
theorem DqAct.marks_length (q : Int) (n : Nat) : (DqAct.marks q n).length = n := by simp [DqAct.marks]
theorem DqAct.marks_get (q : Int) (n i : Nat) (h : i < n) : (DqAct.marks q n)[i]? = some (DqAct.mark (q + i * 2)) := by simp [DqAct.marks, h]

set_option maxHeartbeats 2000000 in
theorem markDqActS_any (A : Option Addr) (n c : Nat) (base : Nat) (cs0 : List Value) (q : Int) (w : World) (ho0 : w.ownsRow base 60 2 (.slice A n c) n cs0) (hq : 0 ≤ q) (hqn : q + n * 2 ≤ 9007199254740992) :
    Calls Try.prog 26 #[.slice A n c, .int .i64 q] w fun e w' => e = .returned (.int .i64 (q + n * 2)) ∧ w'.ownsRow base 60 2 (.slice A n c) n ((DqAct.marks q n).flatMap DqAct.cells) ∧ Chg (fun k => (Value.slice A n c).ownBlock = some k) w w' := by
  have HO := Lib.hid ho0
  clear ho0
  go_enter Try.func26, Try.ntmps26
  go_wp2
  go_loopw [1, 5] (fun r i wr => ∃ (k : Nat) (cs : List Value), k ≤ n ∧ i = .int .i64 k ∧ r = .int .i64 (q + k * 2) ∧ wr.ownsRow base 60 2 (.slice A n c) n cs ∧ Upto cs ((DqAct.marks q n).flatMap DqAct.cells) (k * 2) ∧ Chg (fun k => (Value.slice A n c).ownBlock = some k) w wr) (fun _ i _ => n - (intOf i).toNat)
  case atStart => exact ⟨0, _, Nat.zero_le _, rfl, by simp, HO.out, by rw [Nat.zero_mul]; exact Upto.zero _ _, Chg.refl _ _⟩
  case round =>
    obtain ⟨k, cs, hk, rfl, rfl, ho, hu, hx⟩ := hrel
    by_cases hlt : k < n
    · obtain ⟨g, rfl, -, -, hg⟩ := own_flat ho hlt
      obtain ⟨v0, g0, e0⟩ := hg 0 (by omega)
      obtain ⟨v1, g1, e1⟩ := hg 1 (by omega)
      rw [Nat.add_zero] at g0 e0
      have HO2 := Lib.hid ho
      have HE2 := Lib.hid hx
      clear ho hx hg
      go_wp2
      go_roundw
      case rel =>
        have t0 := HO2.out.stored (k * 2) (.int .i64 (q + k * 2))
        have t1 := t0.1.stored (k * 2 + 1) (.int .i64 (q + k * 2 + 1))
        have hl3 : cs.length = n * 2 := HO2.out.1
        have hmk := DqAct.marks_get q n k hlt
        have q0 := flat_get DqAct.cells_length _ k 0 _ hmk (by omega)
        have q1 := flat_get DqAct.cells_length _ k 1 _ hmk (by omega)
        refine ⟨k + 1, _, by omega, by go_num, by go_num, t1.1, ?_, ?_⟩
        · rw [show (k + 1) * 2 = k * 2 + 1 + 1 by omega]
          refine Upto.set1 (Upto.set1 hu (by omega) ?_) (by simp; omega) ?_
          · exact q0
          · exact q1
        · exact ((HE2.out).grown t0.2 (fun j hj => .inl hj)).grown t1.2 (fun j hj => .inl hj)
      case measure => simp [intOf]; omega
    · go_wp2
      go_ret
      have : k = n := by omega
      subst this
      refine ⟨rfl, ?_, hx⟩
      rw [← hu.all ho.1 (by rw [flat_length DqAct.cells_length, DqAct.marks_length])]
      exact ho

end Go.Proofs.Ytkkcgpoakhllkaa
