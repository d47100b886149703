/- The laws' helpers on Word and Hold. No condition but lengths. -/
import Derived.Test.YtglplgbhhnmgbaaGreatWRoot
namespace Go.Proofs.YtglplgbhhnmgbaaGreat
open Go.RowKit Go.Deep

/-! ### Word -/
structure Word where
  val_ : Int
  ver_ : Int
  owner_ : Int
deriving Inhabited, DecidableEq
def Word.cells (s : Word) : List Value := [.int .i64 s.val_, .int .i64 s.ver_, .int .i64 s.owner_]
theorem Word.cells_length (s : Word) : s.cells.length = 3 := rfl
/-- Its integers are integers of Go's. -/
def Word.good (s : Word) : Prop := (Lit.int .i64 s.val_).wf = true ∧ (Lit.int .i64 s.ver_).wf = true ∧ (Lit.int .i64 s.owner_).wf = true
theorem opens_Word : Opens Tryz.prog 183 (fun _ cs (s : Word) => cs = s.cells ∧ s.good) := by
  intro H enc w base spare held fuel cs x h
  obtain ⟨hl, m, hf⟩ := trod_fields Tryz.underlying183 (by kernel_rfl) (by kernel_rfl) h
  obtain ⟨v0, y0, e0, t0⟩ := hf 0 _ rfl
  obtain ⟨f0, h0, -, g0⟩ := DataW.trod_int Tryz.underlying3 t0
  injection h0 with h0 _; subst h0
  obtain ⟨v1, y1, e1, t1⟩ := hf 1 _ rfl
  obtain ⟨f1, h1, -, g1⟩ := DataW.trod_int Tryz.underlying3 t1
  injection h1 with h1 _; subst h1
  obtain ⟨v2, y2, e2, t2⟩ := hf 2 _ rfl
  obtain ⟨f2, h2, -, g2⟩ := DataW.trod_int Tryz.underlying3 t2
  injection h2 with h2 _; subst h2
  refine ⟨⟨f0, f1, f2⟩, ?_, ⟨g0, g1, g2⟩⟩
  match cs, hl with
  | [c0, c1, c2], _ =>
    simp only [List.getElem?_cons_succ, List.getElem?_cons_zero, Option.some.injEq] at e0 e1 e2
    subst e0 e1 e2
    rfl

theorem toWord_any (f0 : Int) (f1 : Int) (f2 : Int) (w : World) :
    Calls Tryz.prog 95 #[.agg #[.int .i64 f0, .int .i64 f1, .int .i64 f2]] w fun e w' => e = .returned (.agg #[.int .i64 f0, .int .i64 f1, .int .i64 f2]) ∧ Ext w w' := by
  go_enter Tryz.func95, Tryz.ntmps95
  go_wp2
  refine bodyPost_ret (v := .agg #[.int .i64 f0, .int .i64 f1, .int .i64 f2]) (by simp [results, Tryz.results95, go_sem]) rfl ⟨rfl, ?_⟩
  repeat (first | exact Ext.refl' _ | refine Ext.al ?_ _ | refine Ext.sc ?_ (by simp) _)

theorem Tryz.infoWord : (Tryz.prog.info? 181).map (fun i => (i.zero, i.size, i.bytes)) = some (some (.agg #[.int .i64 0, .int .i64 0, .int .i64 0]), 3, 24) := by kernel_rfl

set_option maxHeartbeats 2000000 in
theorem toWordS_any (A : Option Addr) (n c : Nat) (l : List Word) (w : World) (S : Nat → Prop) (hs : Sl w S 3 A n (l.flatMap Word.cells)) (hm : n ≤ 1048576) :
    Calls Tryz.prog 61 #[.slice A n c] w fun e w' => ∃ B d, e = .returned (.slice B n d) ∧ w'.ownsRow w.heap.size 181 3 (.slice B n d) n (l.flatMap Word.cells) ∧ Ext w w' := by
  obtain ⟨w1, cs0, hmk, hown, -, hx1, hlt⟩ := made_row (P := Tryz.prog) w 48 181 _ _ _ Tryz.underlying48 Tryz.infoWord n (by omega) (by unfold maxLen; omega)
  have HO := Lib.hid hown
  have HX := Lib.hid hx1
  clear hown hx1
  go_enter Tryz.func61, Tryz.ntmps61
  go_wp2
  go_loopw [4] (fun i wr => ∃ (k : Nat) (cs : List Value), k ≤ n ∧ i = .int .i64 k ∧ wr.ownsRow w.heap.size 181 3 (.slice (some ⟨w.heap.size, 0, none⟩) n n) n cs ∧ Upto cs (l.flatMap Word.cells) (k * 3) ∧ Ext w wr) (fun i _ => n - (intOf i).toNat)
  case atStart => exact ⟨0, _, Nat.zero_le _, rfl, HO.out, Upto.zero _ _, HX.out⟩
  case round =>
    obtain ⟨k, cs, hk, rfl, ho, hu, hx⟩ := hrel
    by_cases hlt : k < n
    · obtain ⟨b, o, s, rfl, hb, hxk, hc⟩ := (hs.ext hx).flat_at Word.cells_length (by omega) hlt
      obtain ⟨f0, f1, f2⟩ := s
      have c0 := hc 0 (by omega)
      have c1 := hc 1 (by omega)
      have c2 := hc 2 (by omega)
      simp only [Word.cells, List.getElem?_cons_zero, List.getElem?_cons_succ, Nat.add_zero] at c0 c1 c2
      have HX2 := Lib.hid hxk
      have HO2 := Lib.hid ho
      have HE2 := Lib.hid hx
      clear hxk ho hx hc
      go_wp2_with fail
      refine (toWord_any _ _ _ _).mono ?_
      rintro e w2 ⟨rfl, hx2⟩
      have ho2 := own_ext HO2.out hx2
      obtain ⟨g, hA, -, -, hg⟩ := own_flat ho2 hlt
      obtain rfl : w.heap.size = g := addr_inj hA
      obtain ⟨v0, g0, e0⟩ := hg 0 (by omega)
      obtain ⟨v1, g1, e1⟩ := hg 1 (by omega)
      obtain ⟨v2, g2, e2⟩ := hg 2 (by omega)
      rw [Nat.add_zero] at g0 e0
      have HX3 := Lib.hid hx2
      have HO3 := Lib.hid ho2
      clear hx2 ho2 hg
      go_wp2
      go_roundw
      case rel =>
        have t0 := HO3.out.stored (k * 3) (.int .i64 f0)
        have t1 := t0.1.stored (k * 3 + 1) (.int .i64 f1)
        have t2 := t1.1.stored (k * 3 + 2) (.int .i64 f2)
        have hl3 : cs.length = n * 3 := HO3.out.1
        have q0 := flat_get Word.cells_length l k 0 _ HX2.out (by omega)
        have q1 := flat_get Word.cells_length l k 1 _ HX2.out (by omega)
        have q2 := flat_get Word.cells_length l k 2 _ HX2.out (by omega)
        refine ⟨k + 1, _, by omega, by go_num, t2.1, ?_, ?_⟩
        · rw [show (k + 1) * 3 = k * 3 + 2 + 1 by omega]
          refine Upto.set1 (Upto.set1 (Upto.set1 hu (by omega) ?_) (by simp; omega) ?_) (by simp; omega) ?_
          · exact q0
          · exact q1
          · exact q2
        · exact ((((HE2.out.tr HX3.out)).sc (p := ⟨w.heap.size, _, none⟩) (Nat.le_refl _) _).sc (p := ⟨w.heap.size, _, none⟩) (Nat.le_refl _) _).sc (p := ⟨w.heap.size, _, none⟩) (Nat.le_refl _) _
      case measure => simp [intOf]; omega
    · go_wp2
      go_ret
      refine ⟨_, _, rfl, ?_, hx⟩
      have : k = n := by omega
      subst this
      rw [← hu.all ho.1 hs.1]
      exact ho

set_option maxHeartbeats 1000000 in
theorem eqWord_same (f0 : Int) (f1 : Int) (f2 : Int) (w : World) :
    Calls Tryz.prog 108 #[.agg #[.int .i64 f0, .int .i64 f1, .int .i64 f2], .agg #[.int .i64 f0, .int .i64 f1, .int .i64 f2]] w fun e w' => e = .returned (.bool true) ∧ Ext w w' := by
  go_enter Tryz.func108, Tryz.ntmps108
  go_wp2
  go_ret
  refine ⟨rfl, ?_⟩
  repeat (first | exact Ext.refl' _ | refine Ext.al ?_ _)

set_option maxHeartbeats 2000000 in
theorem eqWordS_same (A B : Option Addr) (n c d : Nat) (l : List Word) (w : World) (S T : Nat → Prop) (ha : Sl w S 3 A n (l.flatMap Word.cells)) (hb : Sl w T 3 B n (l.flatMap Word.cells)) (hm : n ≤ 9223372036854775807) :
    Calls Tryz.prog 82 #[.slice A n c, .slice B n d] w fun e w' => e = .returned (.bool true) ∧ Ext w w' := by
  go_enter Tryz.func82, Tryz.ntmps82
  go_wp2
  go_loopw [5] (fun i wr => ∃ (k : Nat), k ≤ n ∧ i = .int .i64 k ∧ Ext w wr) (fun i _ => n - (intOf i).toNat)
  case atStart => exact ⟨0, Nat.zero_le _, rfl, Ext.refl' _⟩
  case round =>
    obtain ⟨k, hk, rfl, hx⟩ := hrel
    by_cases hlt : k < n
    · obtain ⟨b1, o1, s, rfl, hb1, hxk, hc1⟩ := (ha.ext hx).flat_at Word.cells_length (by omega) hlt
      obtain ⟨b2, o2, s', rfl, hb2, hyk, hc2⟩ := (hb.ext hx).flat_at Word.cells_length (by omega) hlt
      rw [hxk] at hyk
      injection hyk with hyk
      subst hyk
      obtain ⟨f0, f1, f2⟩ := s
      have c0 := hc1 0 (by omega)
      have c1 := hc1 1 (by omega)
      have c2 := hc1 2 (by omega)
      have d0 := hc2 0 (by omega)
      have d1 := hc2 1 (by omega)
      have d2 := hc2 2 (by omega)
      simp only [Word.cells, List.getElem?_cons_zero, List.getElem?_cons_succ, Nat.add_zero] at c0 c1 c2 d0 d1 d2
      have HE2 := Lib.hid hx
      clear hxk hx hc1 hc2
      go_wp2
      go_region_with (go_at_call 108; refine (eqWord_same _ _ _ _).mono ?_; rintro e w2 ⟨rfl, hx2⟩)
      all_goals
        have HE3 := Lib.hid hx2
        clear hx2
        go_wp2
        go_roundw
        case rel => exact ⟨k + 1, by omega, by go_num, HE2.out.tr (Ext.tr (Ext.dr (Ext.refl' _)) HE3.out)⟩
        case measure => simp [intOf]; omega
    · go_wp2
      go_ret
      exact ⟨rfl, hx⟩

theorem szWordS_any (A : Option Addr) (n c : Nat) (q : Int) (w : World) (hq : 0 ≤ q) (hq2 : q ≤ 1048576) (hn : n ≤ 9223372036854775807) :
    Calls Tryz.prog 48 #[.slice A n c, .int .i64 q] w fun e w' => e = .returned (.int .i64 (if (n : Int) ≤ q then q - n else -1)) ∧ w = w' := by
  by_cases h : (n : Int) ≤ q
  · go_enter Tryz.func48, Tryz.ntmps48
    go_wp2
    go_ret
    exact ⟨by first | rfl | (simp; done) | simp [h], rfl⟩
  · go_enter Tryz.func48, Tryz.ntmps48
    go_wp2
    go_ret
    exact ⟨by first | rfl | (simp; done) | simp [h], rfl⟩

/-! ### Hold -/
structure Hold where
  who_ : Int
  what_ : Int
  mode_ : Int
deriving Inhabited, DecidableEq
def Hold.cells (s : Hold) : List Value := [.int .i64 s.who_, .int .i64 s.what_, .int .i64 s.mode_]
theorem Hold.cells_length (s : Hold) : s.cells.length = 3 := rfl
/-- Its integers are integers of Go's. -/
def Hold.good (s : Hold) : Prop := (Lit.int .i64 s.who_).wf = true ∧ (Lit.int .i64 s.what_).wf = true ∧ (Lit.int .i64 s.mode_).wf = true
theorem opens_Hold : Opens Tryz.prog 155 (fun _ cs (s : Hold) => cs = s.cells ∧ s.good) := by
  intro H enc w base spare held fuel cs x h
  obtain ⟨hl, m, hf⟩ := trod_fields Tryz.underlying155 (by kernel_rfl) (by kernel_rfl) h
  obtain ⟨v0, y0, e0, t0⟩ := hf 0 _ rfl
  obtain ⟨f0, h0, -, g0⟩ := DataW.trod_int Tryz.underlying3 t0
  injection h0 with h0 _; subst h0
  obtain ⟨v1, y1, e1, t1⟩ := hf 1 _ rfl
  obtain ⟨f1, h1, -, g1⟩ := DataW.trod_int Tryz.underlying3 t1
  injection h1 with h1 _; subst h1
  obtain ⟨v2, y2, e2, t2⟩ := hf 2 _ rfl
  obtain ⟨f2, h2, -, g2⟩ := DataW.trod_int Tryz.underlying3 t2
  injection h2 with h2 _; subst h2
  refine ⟨⟨f0, f1, f2⟩, ?_, ⟨g0, g1, g2⟩⟩
  match cs, hl with
  | [c0, c1, c2], _ =>
    simp only [List.getElem?_cons_succ, List.getElem?_cons_zero, Option.some.injEq] at e0 e1 e2
    subst e0 e1 e2
    rfl

theorem toHold_any (f0 : Int) (f1 : Int) (f2 : Int) (w : World) :
    Calls Tryz.prog 62 #[.agg #[.int .i64 f0, .int .i64 f1, .int .i64 f2]] w fun e w' => e = .returned (.agg #[.int .i64 f0, .int .i64 f1, .int .i64 f2]) ∧ Ext w w' := by
  go_enter Tryz.func62, Tryz.ntmps62
  go_wp2
  refine bodyPost_ret (v := .agg #[.int .i64 f0, .int .i64 f1, .int .i64 f2]) (by simp [results, Tryz.results62, go_sem]) rfl ⟨rfl, ?_⟩
  repeat (first | exact Ext.refl' _ | refine Ext.al ?_ _ | refine Ext.sc ?_ (by simp) _)

theorem Tryz.infoHold : (Tryz.prog.info? 153).map (fun i => (i.zero, i.size, i.bytes)) = some (some (.agg #[.int .i64 0, .int .i64 0, .int .i64 0]), 3, 24) := by kernel_rfl

set_option maxHeartbeats 2000000 in
theorem toHoldS_any (A : Option Addr) (n c : Nat) (l : List Hold) (w : World) (S : Nat → Prop) (hs : Sl w S 3 A n (l.flatMap Hold.cells)) (hm : n ≤ 1048576) :
    Calls Tryz.prog 30 #[.slice A n c] w fun e w' => ∃ B d, e = .returned (.slice B n d) ∧ w'.ownsRow w.heap.size 153 3 (.slice B n d) n (l.flatMap Hold.cells) ∧ Ext w w' := by
  obtain ⟨w1, cs0, hmk, hown, -, hx1, hlt⟩ := made_row (P := Tryz.prog) w 52 153 _ _ _ Tryz.underlying52 Tryz.infoHold n (by omega) (by unfold maxLen; omega)
  have HO := Lib.hid hown
  have HX := Lib.hid hx1
  clear hown hx1
  go_enter Tryz.func30, Tryz.ntmps30
  go_wp2
  go_loopw [4] (fun i wr => ∃ (k : Nat) (cs : List Value), k ≤ n ∧ i = .int .i64 k ∧ wr.ownsRow w.heap.size 153 3 (.slice (some ⟨w.heap.size, 0, none⟩) n n) n cs ∧ Upto cs (l.flatMap Hold.cells) (k * 3) ∧ Ext w wr) (fun i _ => n - (intOf i).toNat)
  case atStart => exact ⟨0, _, Nat.zero_le _, rfl, HO.out, Upto.zero _ _, HX.out⟩
  case round =>
    obtain ⟨k, cs, hk, rfl, ho, hu, hx⟩ := hrel
    by_cases hlt : k < n
    · obtain ⟨b, o, s, rfl, hb, hxk, hc⟩ := (hs.ext hx).flat_at Hold.cells_length (by omega) hlt
      obtain ⟨f0, f1, f2⟩ := s
      have c0 := hc 0 (by omega)
      have c1 := hc 1 (by omega)
      have c2 := hc 2 (by omega)
      simp only [Hold.cells, List.getElem?_cons_zero, List.getElem?_cons_succ, Nat.add_zero] at c0 c1 c2
      have HX2 := Lib.hid hxk
      have HO2 := Lib.hid ho
      have HE2 := Lib.hid hx
      clear hxk ho hx hc
      go_wp2_with fail
      refine (toHold_any _ _ _ _).mono ?_
      rintro e w2 ⟨rfl, hx2⟩
      have ho2 := own_ext HO2.out hx2
      obtain ⟨g, hA, -, -, hg⟩ := own_flat ho2 hlt
      obtain rfl : w.heap.size = g := addr_inj hA
      obtain ⟨v0, g0, e0⟩ := hg 0 (by omega)
      obtain ⟨v1, g1, e1⟩ := hg 1 (by omega)
      obtain ⟨v2, g2, e2⟩ := hg 2 (by omega)
      rw [Nat.add_zero] at g0 e0
      have HX3 := Lib.hid hx2
      have HO3 := Lib.hid ho2
      clear hx2 ho2 hg
      go_wp2
      go_roundw
      case rel =>
        have t0 := HO3.out.stored (k * 3) (.int .i64 f0)
        have t1 := t0.1.stored (k * 3 + 1) (.int .i64 f1)
        have t2 := t1.1.stored (k * 3 + 2) (.int .i64 f2)
        have hl3 : cs.length = n * 3 := HO3.out.1
        have q0 := flat_get Hold.cells_length l k 0 _ HX2.out (by omega)
        have q1 := flat_get Hold.cells_length l k 1 _ HX2.out (by omega)
        have q2 := flat_get Hold.cells_length l k 2 _ HX2.out (by omega)
        refine ⟨k + 1, _, by omega, by go_num, t2.1, ?_, ?_⟩
        · rw [show (k + 1) * 3 = k * 3 + 2 + 1 by omega]
          refine Upto.set1 (Upto.set1 (Upto.set1 hu (by omega) ?_) (by simp; omega) ?_) (by simp; omega) ?_
          · exact q0
          · exact q1
          · exact q2
        · exact ((((HE2.out.tr HX3.out)).sc (p := ⟨w.heap.size, _, none⟩) (Nat.le_refl _) _).sc (p := ⟨w.heap.size, _, none⟩) (Nat.le_refl _) _).sc (p := ⟨w.heap.size, _, none⟩) (Nat.le_refl _) _
      case measure => simp [intOf]; omega
    · go_wp2
      go_ret
      refine ⟨_, _, rfl, ?_, hx⟩
      have : k = n := by omega
      subst this
      rw [← hu.all ho.1 hs.1]
      exact ho

set_option maxHeartbeats 1000000 in
theorem eqHold_same (f0 : Int) (f1 : Int) (f2 : Int) (w : World) :
    Calls Tryz.prog 83 #[.agg #[.int .i64 f0, .int .i64 f1, .int .i64 f2], .agg #[.int .i64 f0, .int .i64 f1, .int .i64 f2]] w fun e w' => e = .returned (.bool true) ∧ Ext w w' := by
  go_enter Tryz.func83, Tryz.ntmps83
  go_wp2
  go_ret
  refine ⟨rfl, ?_⟩
  repeat (first | exact Ext.refl' _ | refine Ext.al ?_ _)

set_option maxHeartbeats 2000000 in
theorem eqHoldS_same (A B : Option Addr) (n c d : Nat) (l : List Hold) (w : World) (S T : Nat → Prop) (ha : Sl w S 3 A n (l.flatMap Hold.cells)) (hb : Sl w T 3 B n (l.flatMap Hold.cells)) (hm : n ≤ 9223372036854775807) :
    Calls Tryz.prog 43 #[.slice A n c, .slice B n d] w fun e w' => e = .returned (.bool true) ∧ Ext w w' := by
  go_enter Tryz.func43, Tryz.ntmps43
  go_wp2
  go_loopw [5] (fun i wr => ∃ (k : Nat), k ≤ n ∧ i = .int .i64 k ∧ Ext w wr) (fun i _ => n - (intOf i).toNat)
  case atStart => exact ⟨0, Nat.zero_le _, rfl, Ext.refl' _⟩
  case round =>
    obtain ⟨k, hk, rfl, hx⟩ := hrel
    by_cases hlt : k < n
    · obtain ⟨b1, o1, s, rfl, hb1, hxk, hc1⟩ := (ha.ext hx).flat_at Hold.cells_length (by omega) hlt
      obtain ⟨b2, o2, s', rfl, hb2, hyk, hc2⟩ := (hb.ext hx).flat_at Hold.cells_length (by omega) hlt
      rw [hxk] at hyk
      injection hyk with hyk
      subst hyk
      obtain ⟨f0, f1, f2⟩ := s
      have c0 := hc1 0 (by omega)
      have c1 := hc1 1 (by omega)
      have c2 := hc1 2 (by omega)
      have d0 := hc2 0 (by omega)
      have d1 := hc2 1 (by omega)
      have d2 := hc2 2 (by omega)
      simp only [Hold.cells, List.getElem?_cons_zero, List.getElem?_cons_succ, Nat.add_zero] at c0 c1 c2 d0 d1 d2
      have HE2 := Lib.hid hx
      clear hxk hx hc1 hc2
      go_wp2
      go_region_with (go_at_call 83; refine (eqHold_same _ _ _ _).mono ?_; rintro e w2 ⟨rfl, hx2⟩)
      all_goals
        have HE3 := Lib.hid hx2
        clear hx2
        go_wp2
        go_roundw
        case rel => exact ⟨k + 1, by omega, by go_num, HE2.out.tr (Ext.tr (Ext.dr (Ext.refl' _)) HE3.out)⟩
        case measure => simp [intOf]; omega
    · go_wp2
      go_ret
      exact ⟨rfl, hx⟩

theorem szHoldS_any (A : Option Addr) (n c : Nat) (q : Int) (w : World) (hq : 0 ≤ q) (hq2 : q ≤ 1048576) (hn : n ≤ 9223372036854775807) :
    Calls Tryz.prog 17 #[.slice A n c, .int .i64 q] w fun e w' => e = .returned (.int .i64 (if (n : Int) ≤ q then q - n else -1)) ∧ w = w' := by
  by_cases h : (n : Int) ≤ q
  · go_enter Tryz.func17, Tryz.ntmps17
    go_wp2
    go_ret
    exact ⟨by first | rfl | (simp; done) | simp [h], rfl⟩
  · go_enter Tryz.func17, Tryz.ntmps17
    go_wp2
    go_ret
    exact ⟨by first | rfl | (simp; done) | simp [h], rfl⟩


end Go.Proofs.YtglplgbhhnmgbaaGreat
