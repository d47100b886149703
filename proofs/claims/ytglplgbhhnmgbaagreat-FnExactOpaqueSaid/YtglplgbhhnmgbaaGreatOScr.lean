/- The laws' helpers on a script's structs. No condition but sizes. -/
import Derived.Test.YtglplgbhhnmgbaaGreatWWorld
namespace Go.Proofs.YtglplgbhhnmgbaaGreat
open Go.RowKit Go.Deep

/-! ### GOp -/
structure GOp where
  kind_ : Int
  a_ : Int
  b_ : Int
  c_ : Int
deriving Inhabited, DecidableEq
def GOp.cells (s : GOp) : List Value := [.int .i64 s.kind_, .int .i64 s.a_, .int .i64 s.b_, .int .i64 s.c_]
theorem GOp.cells_length (s : GOp) : s.cells.length = 4 := rfl
/-- Its integers are integers of Go's. -/
def GOp.good (s : GOp) : Prop := (Lit.int .i64 s.kind_).wf = true ∧ (Lit.int .i64 s.a_).wf = true ∧ (Lit.int .i64 s.b_).wf = true ∧ (Lit.int .i64 s.c_).wf = true
theorem opens_GOp : Opens Tryz.prog 215 (fun _ cs (s : GOp) => cs = s.cells ∧ s.good) := by
  intro H enc w base spare held fuel cs x h
  obtain ⟨hl, m, hf⟩ := trod_fields Tryz.underlying215 (by kernel_rfl) (by kernel_rfl) h
  obtain ⟨v0, y0, e0, t0⟩ := hf 0 _ rfl
  obtain ⟨f0, h0, -, g0⟩ := DataW.trod_int Tryz.underlying3 t0
  injection h0 with h0 _; subst h0
  obtain ⟨v1, y1, e1, t1⟩ := hf 1 _ rfl
  obtain ⟨f1, h1, -, g1⟩ := DataW.trod_int Tryz.underlying3 t1
  injection h1 with h1 _; subst h1
  obtain ⟨v2, y2, e2, t2⟩ := hf 2 _ rfl
  obtain ⟨f2, h2, -, g2⟩ := DataW.trod_int Tryz.underlying3 t2
  injection h2 with h2 _; subst h2
  obtain ⟨v3, y3, e3, t3⟩ := hf 3 _ rfl
  obtain ⟨f3, h3, -, g3⟩ := DataW.trod_int Tryz.underlying3 t3
  injection h3 with h3 _; subst h3
  refine ⟨⟨f0, f1, f2, f3⟩, ?_, ⟨g0, g1, g2, g3⟩⟩
  match cs, hl with
  | [c0, c1, c2, c3], _ =>
    simp only [List.getElem?_cons_succ, List.getElem?_cons_zero, Option.some.injEq] at e0 e1 e2 e3
    subst e0 e1 e2 e3
    rfl

theorem toGOp_any (f0 : Int) (f1 : Int) (f2 : Int) (f3 : Int) (w : World) :
    Calls Tryz.prog 119 #[.agg #[.int .i64 f0, .int .i64 f1, .int .i64 f2, .int .i64 f3]] w fun e w' => e = .returned (.agg #[.int .i64 f0, .int .i64 f1, .int .i64 f2, .int .i64 f3]) ∧ Ext w w' := by
  go_enter Tryz.func119, Tryz.ntmps119
  go_wp2
  refine bodyPost_ret (v := .agg #[.int .i64 f0, .int .i64 f1, .int .i64 f2, .int .i64 f3]) (by simp [results, Tryz.results119, go_sem]) rfl ⟨rfl, ?_⟩
  repeat (first | exact Ext.refl' _ | refine Ext.al ?_ _ | refine Ext.sc ?_ (by simp) _)

theorem Tryz.infoGOp : (Tryz.prog.info? 213).map (fun i => (i.zero, i.size, i.bytes)) = some (some (.agg #[.int .i64 0, .int .i64 0, .int .i64 0, .int .i64 0]), 4, 32) := by kernel_rfl

set_option maxHeartbeats 2000000 in
theorem toGOpS_any (A : Option Addr) (n c : Nat) (l : List GOp) (w : World) (S : Nat → Prop) (hs : Sl w S 4 A n (l.flatMap GOp.cells)) (hm : n ≤ 1048576) :
    Calls Tryz.prog 93 #[.slice A n c] w fun e w' => ∃ B d, e = .returned (.slice B n d) ∧ w'.ownsRow w.heap.size 213 4 (.slice B n d) n (l.flatMap GOp.cells) ∧ Ext w w' := by
  obtain ⟨w1, cs0, hmk, hown, -, hx1, hlt⟩ := made_row (P := Tryz.prog) w 142 213 _ _ _ Tryz.underlying142 Tryz.infoGOp n (by omega) (by unfold maxLen; omega)
  have HO := Lib.hid hown
  have HX := Lib.hid hx1
  clear hown hx1
  go_enter Tryz.func93, Tryz.ntmps93
  go_wp2
  go_loopw [4] (fun i wr => ∃ (k : Nat) (cs : List Value), k ≤ n ∧ i = .int .i64 k ∧ wr.ownsRow w.heap.size 213 4 (.slice (some ⟨w.heap.size, 0, none⟩) n n) n cs ∧ Upto cs (l.flatMap GOp.cells) (k * 4) ∧ Ext w wr) (fun i _ => n - (intOf i).toNat)
  case atStart => exact ⟨0, _, Nat.zero_le _, rfl, HO.out, Upto.zero _ _, HX.out⟩
  case round =>
    obtain ⟨k, cs, hk, rfl, ho, hu, hx⟩ := hrel
    by_cases hlt : k < n
    · obtain ⟨b, o, s, rfl, hb, hxk, hc⟩ := (hs.ext hx).flat_at GOp.cells_length (by omega) hlt
      obtain ⟨f0, f1, f2, f3⟩ := s
      have c0 := hc 0 (by omega)
      have c1 := hc 1 (by omega)
      have c2 := hc 2 (by omega)
      have c3 := hc 3 (by omega)
      simp only [GOp.cells, List.getElem?_cons_zero, List.getElem?_cons_succ, Nat.add_zero] at c0 c1 c2 c3
      have HX2 := Lib.hid hxk
      have HO2 := Lib.hid ho
      have HE2 := Lib.hid hx
      clear hxk ho hx hc
      go_wp2_with fail
      refine (toGOp_any _ _ _ _ _).mono ?_
      rintro e w2 ⟨rfl, hx2⟩
      have ho2 := own_ext HO2.out hx2
      obtain ⟨g, hA, -, -, hg⟩ := own_flat ho2 hlt
      obtain rfl : w.heap.size = g := addr_inj hA
      obtain ⟨v0, g0, e0⟩ := hg 0 (by omega)
      obtain ⟨v1, g1, e1⟩ := hg 1 (by omega)
      obtain ⟨v2, g2, e2⟩ := hg 2 (by omega)
      obtain ⟨v3, g3, e3⟩ := hg 3 (by omega)
      rw [Nat.add_zero] at g0 e0
      have HX3 := Lib.hid hx2
      have HO3 := Lib.hid ho2
      clear hx2 ho2 hg
      go_wp2
      go_roundw
      case rel =>
        have t0 := HO3.out.stored (k * 4) (.int .i64 f0)
        have t1 := t0.1.stored (k * 4 + 1) (.int .i64 f1)
        have t2 := t1.1.stored (k * 4 + 2) (.int .i64 f2)
        have t3 := t2.1.stored (k * 4 + 3) (.int .i64 f3)
        have hl3 : cs.length = n * 4 := HO3.out.1
        have q0 := flat_get GOp.cells_length l k 0 _ HX2.out (by omega)
        have q1 := flat_get GOp.cells_length l k 1 _ HX2.out (by omega)
        have q2 := flat_get GOp.cells_length l k 2 _ HX2.out (by omega)
        have q3 := flat_get GOp.cells_length l k 3 _ HX2.out (by omega)
        refine ⟨k + 1, _, by omega, by go_num, t3.1, ?_, ?_⟩
        · rw [show (k + 1) * 4 = k * 4 + 3 + 1 by omega]
          refine Upto.set1 (Upto.set1 (Upto.set1 (Upto.set1 hu (by omega) ?_) (by simp; omega) ?_) (by simp; omega) ?_) (by simp; omega) ?_
          · exact q0
          · exact q1
          · exact q2
          · exact q3
        · exact (((((HE2.out.tr HX3.out)).sc (p := ⟨w.heap.size, _, none⟩) (Nat.le_refl _) _).sc (p := ⟨w.heap.size, _, none⟩) (Nat.le_refl _) _).sc (p := ⟨w.heap.size, _, none⟩) (Nat.le_refl _) _).sc (p := ⟨w.heap.size, _, none⟩) (Nat.le_refl _) _
      case measure => simp [intOf]; omega
    · go_wp2
      go_ret
      refine ⟨_, _, rfl, ?_, hx⟩
      have : k = n := by omega
      subst this
      rw [← hu.all ho.1 hs.1]
      exact ho

set_option maxHeartbeats 1000000 in
theorem eqGOp_same (f0 : Int) (f1 : Int) (f2 : Int) (f3 : Int) (w : World) :
    Calls Tryz.prog 136 #[.agg #[.int .i64 f0, .int .i64 f1, .int .i64 f2, .int .i64 f3], .agg #[.int .i64 f0, .int .i64 f1, .int .i64 f2, .int .i64 f3]] w fun e w' => e = .returned (.bool true) ∧ Ext w w' := by
  go_enter Tryz.func136, Tryz.ntmps136
  go_wp2
  go_ret
  refine ⟨rfl, ?_⟩
  repeat (first | exact Ext.refl' _ | refine Ext.al ?_ _)

set_option maxHeartbeats 2000000 in
theorem eqGOpS_same (A B : Option Addr) (n c d : Nat) (l : List GOp) (w : World) (S T : Nat → Prop) (ha : Sl w S 4 A n (l.flatMap GOp.cells)) (hb : Sl w T 4 B n (l.flatMap GOp.cells)) (hm : n ≤ 9223372036854775807) :
    Calls Tryz.prog 106 #[.slice A n c, .slice B n d] w fun e w' => e = .returned (.bool true) ∧ Ext w w' := by
  go_enter Tryz.func106, Tryz.ntmps106
  go_wp2
  go_loopw [5] (fun i wr => ∃ (k : Nat), k ≤ n ∧ i = .int .i64 k ∧ Ext w wr) (fun i _ => n - (intOf i).toNat)
  case atStart => exact ⟨0, Nat.zero_le _, rfl, Ext.refl' _⟩
  case round =>
    obtain ⟨k, hk, rfl, hx⟩ := hrel
    by_cases hlt : k < n
    · obtain ⟨b1, o1, s, rfl, hb1, hxk, hc1⟩ := (ha.ext hx).flat_at GOp.cells_length (by omega) hlt
      obtain ⟨b2, o2, s', rfl, hb2, hyk, hc2⟩ := (hb.ext hx).flat_at GOp.cells_length (by omega) hlt
      rw [hxk] at hyk
      injection hyk with hyk
      subst hyk
      obtain ⟨f0, f1, f2, f3⟩ := s
      have c0 := hc1 0 (by omega)
      have c1 := hc1 1 (by omega)
      have c2 := hc1 2 (by omega)
      have c3 := hc1 3 (by omega)
      have d0 := hc2 0 (by omega)
      have d1 := hc2 1 (by omega)
      have d2 := hc2 2 (by omega)
      have d3 := hc2 3 (by omega)
      simp only [GOp.cells, List.getElem?_cons_zero, List.getElem?_cons_succ, Nat.add_zero] at c0 c1 c2 c3 d0 d1 d2 d3
      have HE2 := Lib.hid hx
      clear hxk hx hc1 hc2
      go_wp2
      go_region_with (go_at_call 136; refine (eqGOp_same _ _ _ _ _).mono ?_; rintro e w2 ⟨rfl, hx2⟩)
      all_goals
        have HE3 := Lib.hid hx2
        clear hx2
        go_wp2
        go_roundw
        case rel => exact ⟨k + 1, by omega, by go_num, HE2.out.tr (Ext.tr (Ext.dr (Ext.refl' _)) HE3.out)⟩
        case measure => simp [intOf]; omega
    · go_wp2
      go_ret
      exact ⟨rfl, hx⟩

theorem szGOpS_any (A : Option Addr) (n c : Nat) (q : Int) (w : World) (hq : 0 ≤ q) (hq2 : q ≤ 1048576) (hn : n ≤ 9223372036854775807) :
    Calls Tryz.prog 86 #[.slice A n c, .int .i64 q] w fun e w' => e = .returned (.int .i64 (if (n : Int) ≤ q then q - n else -1)) ∧ w = w' := by
  by_cases h : (n : Int) ≤ q
  · go_enter Tryz.func86, Tryz.ntmps86
    go_wp2
    go_ret
    exact ⟨by first | rfl | (simp; done) | simp [h], rfl⟩
  · go_enter Tryz.func86, Tryz.ntmps86
    go_wp2
    go_ret
    exact ⟨by first | rfl | (simp; done) | simp [h], rfl⟩

/-! ### GAct -/
structure GAct where
  kind_ : Int
  root_ : Int
  kid_ : Int
deriving Inhabited, DecidableEq
def GAct.cells (s : GAct) : List Value := [.int .i64 s.kind_, .int .i64 s.root_, .int .i64 s.kid_]
theorem GAct.cells_length (s : GAct) : s.cells.length = 3 := rfl
/-- Its integers are integers of Go's. -/
def GAct.good (s : GAct) : Prop := (Lit.int .i64 s.kind_).wf = true ∧ (Lit.int .i64 s.root_).wf = true ∧ (Lit.int .i64 s.kid_).wf = true
theorem opens_GAct : Opens Tryz.prog 150 (fun _ cs (s : GAct) => cs = s.cells ∧ s.good) := by
  intro H enc w base spare held fuel cs x h
  obtain ⟨hl, m, hf⟩ := trod_fields Tryz.underlying150 (by kernel_rfl) (by kernel_rfl) h
  obtain ⟨v0, y0, e0, t0⟩ := hf 0 _ rfl
  obtain ⟨f0, h0, -, g0⟩ := DataW.trod_int Tryz.underlying3 t0
  injection h0 with h0 _; subst h0
  obtain ⟨v1, y1, e1, t1⟩ := hf 1 _ rfl
  obtain ⟨f1, h1, -, g1⟩ := DataW.trod_int Tryz.underlying3 t1
  injection h1 with h1 _; subst h1
  obtain ⟨v2, y2, e2, t2⟩ := hf 2 _ rfl
  obtain ⟨f2, h2, -, g2⟩ := DataW.trod_int Tryz.underlying3 t2
  injection h2 with h2 _; subst h2
  refine ⟨⟨f0, f1, f2⟩, ?_, ⟨g0, g1, g2⟩⟩
  match cs, hl with
  | [c0, c1, c2], _ =>
    simp only [List.getElem?_cons_succ, List.getElem?_cons_zero, Option.some.injEq] at e0 e1 e2
    subst e0 e1 e2
    rfl

theorem toGAct_any (f0 : Int) (f1 : Int) (f2 : Int) (w : World) :
    Calls Tryz.prog 60 #[.agg #[.int .i64 f0, .int .i64 f1, .int .i64 f2]] w fun e w' => e = .returned (.agg #[.int .i64 f0, .int .i64 f1, .int .i64 f2]) ∧ Ext w w' := by
  go_enter Tryz.func60, Tryz.ntmps60
  go_wp2
  refine bodyPost_ret (v := .agg #[.int .i64 f0, .int .i64 f1, .int .i64 f2]) (by simp [results, Tryz.results60, go_sem]) rfl ⟨rfl, ?_⟩
  repeat (first | exact Ext.refl' _ | refine Ext.al ?_ _ | refine Ext.sc ?_ (by simp) _)

theorem Tryz.infoGAct : (Tryz.prog.info? 148).map (fun i => (i.zero, i.size, i.bytes)) = some (some (.agg #[.int .i64 0, .int .i64 0, .int .i64 0]), 3, 24) := by kernel_rfl

set_option maxHeartbeats 2000000 in
theorem toGActS_any (A : Option Addr) (n c : Nat) (l : List GAct) (w : World) (S : Nat → Prop) (hs : Sl w S 3 A n (l.flatMap GAct.cells)) (hm : n ≤ 1048576) :
    Calls Tryz.prog 27 #[.slice A n c] w fun e w' => ∃ B d, e = .returned (.slice B n d) ∧ w'.ownsRow w.heap.size 148 3 (.slice B n d) n (l.flatMap GAct.cells) ∧ Ext w w' := by
  obtain ⟨w1, cs0, hmk, hown, -, hx1, hlt⟩ := made_row (P := Tryz.prog) w 44 148 _ _ _ Tryz.underlying44 Tryz.infoGAct n (by omega) (by unfold maxLen; omega)
  have HO := Lib.hid hown
  have HX := Lib.hid hx1
  clear hown hx1
  go_enter Tryz.func27, Tryz.ntmps27
  go_wp2
  go_loopw [4] (fun i wr => ∃ (k : Nat) (cs : List Value), k ≤ n ∧ i = .int .i64 k ∧ wr.ownsRow w.heap.size 148 3 (.slice (some ⟨w.heap.size, 0, none⟩) n n) n cs ∧ Upto cs (l.flatMap GAct.cells) (k * 3) ∧ Ext w wr) (fun i _ => n - (intOf i).toNat)
  case atStart => exact ⟨0, _, Nat.zero_le _, rfl, HO.out, Upto.zero _ _, HX.out⟩
  case round =>
    obtain ⟨k, cs, hk, rfl, ho, hu, hx⟩ := hrel
    by_cases hlt : k < n
    · obtain ⟨b, o, s, rfl, hb, hxk, hc⟩ := (hs.ext hx).flat_at GAct.cells_length (by omega) hlt
      obtain ⟨f0, f1, f2⟩ := s
      have c0 := hc 0 (by omega)
      have c1 := hc 1 (by omega)
      have c2 := hc 2 (by omega)
      simp only [GAct.cells, List.getElem?_cons_zero, List.getElem?_cons_succ, Nat.add_zero] at c0 c1 c2
      have HX2 := Lib.hid hxk
      have HO2 := Lib.hid ho
      have HE2 := Lib.hid hx
      clear hxk ho hx hc
      go_wp2_with fail
      refine (toGAct_any _ _ _ _).mono ?_
      rintro e w2 ⟨rfl, hx2⟩
      have ho2 := own_ext HO2.out hx2
      obtain ⟨g, hA, -, -, hg⟩ := own_flat ho2 hlt
      obtain rfl : w.heap.size = g := addr_inj hA
      obtain ⟨v0, g0, e0⟩ := hg 0 (by omega)
      obtain ⟨v1, g1, e1⟩ := hg 1 (by omega)
      obtain ⟨v2, g2, e2⟩ := hg 2 (by omega)
      rw [Nat.add_zero] at g0 e0
      have HX3 := Lib.hid hx2
      have HO3 := Lib.hid ho2
      clear hx2 ho2 hg
      go_wp2
      go_roundw
      case rel =>
        have t0 := HO3.out.stored (k * 3) (.int .i64 f0)
        have t1 := t0.1.stored (k * 3 + 1) (.int .i64 f1)
        have t2 := t1.1.stored (k * 3 + 2) (.int .i64 f2)
        have hl3 : cs.length = n * 3 := HO3.out.1
        have q0 := flat_get GAct.cells_length l k 0 _ HX2.out (by omega)
        have q1 := flat_get GAct.cells_length l k 1 _ HX2.out (by omega)
        have q2 := flat_get GAct.cells_length l k 2 _ HX2.out (by omega)
        refine ⟨k + 1, _, by omega, by go_num, t2.1, ?_, ?_⟩
        · rw [show (k + 1) * 3 = k * 3 + 2 + 1 by omega]
          refine Upto.set1 (Upto.set1 (Upto.set1 hu (by omega) ?_) (by simp; omega) ?_) (by simp; omega) ?_
          · exact q0
          · exact q1
          · exact q2
        · exact ((((HE2.out.tr HX3.out)).sc (p := ⟨w.heap.size, _, none⟩) (Nat.le_refl _) _).sc (p := ⟨w.heap.size, _, none⟩) (Nat.le_refl _) _).sc (p := ⟨w.heap.size, _, none⟩) (Nat.le_refl _) _
      case measure => simp [intOf]; omega
    · go_wp2
      go_ret
      refine ⟨_, _, rfl, ?_, hx⟩
      have : k = n := by omega
      subst this
      rw [← hu.all ho.1 hs.1]
      exact ho

set_option maxHeartbeats 1000000 in
theorem eqGAct_same (f0 : Int) (f1 : Int) (f2 : Int) (w : World) :
    Calls Tryz.prog 81 #[.agg #[.int .i64 f0, .int .i64 f1, .int .i64 f2], .agg #[.int .i64 f0, .int .i64 f1, .int .i64 f2]] w fun e w' => e = .returned (.bool true) ∧ Ext w w' := by
  go_enter Tryz.func81, Tryz.ntmps81
  go_wp2
  go_ret
  refine ⟨rfl, ?_⟩
  repeat (first | exact Ext.refl' _ | refine Ext.al ?_ _)

set_option maxHeartbeats 2000000 in
theorem eqGActS_same (A B : Option Addr) (n c d : Nat) (l : List GAct) (w : World) (S T : Nat → Prop) (ha : Sl w S 3 A n (l.flatMap GAct.cells)) (hb : Sl w T 3 B n (l.flatMap GAct.cells)) (hm : n ≤ 9223372036854775807) :
    Calls Tryz.prog 40 #[.slice A n c, .slice B n d] w fun e w' => e = .returned (.bool true) ∧ Ext w w' := by
  go_enter Tryz.func40, Tryz.ntmps40
  go_wp2
  go_loopw [5] (fun i wr => ∃ (k : Nat), k ≤ n ∧ i = .int .i64 k ∧ Ext w wr) (fun i _ => n - (intOf i).toNat)
  case atStart => exact ⟨0, Nat.zero_le _, rfl, Ext.refl' _⟩
  case round =>
    obtain ⟨k, hk, rfl, hx⟩ := hrel
    by_cases hlt : k < n
    · obtain ⟨b1, o1, s, rfl, hb1, hxk, hc1⟩ := (ha.ext hx).flat_at GAct.cells_length (by omega) hlt
      obtain ⟨b2, o2, s', rfl, hb2, hyk, hc2⟩ := (hb.ext hx).flat_at GAct.cells_length (by omega) hlt
      rw [hxk] at hyk
      injection hyk with hyk
      subst hyk
      obtain ⟨f0, f1, f2⟩ := s
      have c0 := hc1 0 (by omega)
      have c1 := hc1 1 (by omega)
      have c2 := hc1 2 (by omega)
      have d0 := hc2 0 (by omega)
      have d1 := hc2 1 (by omega)
      have d2 := hc2 2 (by omega)
      simp only [GAct.cells, List.getElem?_cons_zero, List.getElem?_cons_succ, Nat.add_zero] at c0 c1 c2 d0 d1 d2
      have HE2 := Lib.hid hx
      clear hxk hx hc1 hc2
      go_wp2
      go_region_with (go_at_call 81; refine (eqGAct_same _ _ _ _).mono ?_; rintro e w2 ⟨rfl, hx2⟩)
      all_goals
        have HE3 := Lib.hid hx2
        clear hx2
        go_wp2
        go_roundw
        case rel => exact ⟨k + 1, by omega, by go_num, HE2.out.tr (Ext.tr (Ext.dr (Ext.refl' _)) HE3.out)⟩
        case measure => simp [intOf]; omega
    · go_wp2
      go_ret
      exact ⟨rfl, hx⟩

theorem szGActS_any (A : Option Addr) (n c : Nat) (q : Int) (w : World) (hq : 0 ≤ q) (hq2 : q ≤ 1048576) (hn : n ≤ 9223372036854775807) :
    Calls Tryz.prog 14 #[.slice A n c, .int .i64 q] w fun e w' => e = .returned (.int .i64 (if (n : Int) ≤ q then q - n else -1)) ∧ w = w' := by
  by_cases h : (n : Int) ≤ q
  · go_enter Tryz.func14, Tryz.ntmps14
    go_wp2
    go_ret
    exact ⟨by first | rfl | (simp; done) | simp [h], rfl⟩
  · go_enter Tryz.func14, Tryz.ntmps14
    go_wp2
    go_ret
    exact ⟨by first | rfl | (simp; done) | simp [h], rfl⟩

/-! ### Things -/
structure Things where
  cells_ : List Int
  map_ : List Int
  count_ : Int
deriving Inhabited
def Things.wt (x : Things) : Nat := x.cells_.length + x.map_.length
def Things.R (w : World) (S : Nat → Prop) (cs : List Value) (x : Things) : Prop := ∃ (A0 : Option Addr) (n0 c0 : Nat) (A1 : Option Addr) (n1 c1 : Nat), cs = [.slice A0 n0 c0, .slice A1 n1 c1, .int .i64 x.count_] ∧ (n0 ≤ c0 ∧ n0 ≤ 9223372036854775807 ∧ Sl w S 1 A0 n0 (ints x.cells_)) ∧ (n1 ≤ c1 ∧ n1 ≤ 9223372036854775807 ∧ Sl w S 1 A1 n1 (ints x.map_))
def Things.W (w : World) (S : Nat → Prop) (cs : List Value) (x : Things) : Prop := ∃ (A0 : Option Addr) (n0 c0 : Nat) (A1 : Option Addr) (n1 c1 : Nat) (lab : Nat → Nat), cs = [.slice A0 n0 c0, .slice A1 n1 c1, .int .i64 x.count_] ∧ (n0 ≤ c0 ∧ n0 ≤ 9223372036854775807 ∧ OwS w (fun g => S g ∧ lab g = 0) 3 1 A0 n0 c0 (ints x.cells_)) ∧ (n1 ≤ c1 ∧ n1 ≤ 9223372036854775807 ∧ OwS w (fun g => S g ∧ lab g = 1) 3 1 A1 n1 c1 (ints x.map_))
theorem Things.R_good : Good Things.R 3 := ⟨fun {_ _ _ _} h => by
    obtain ⟨A0, n0, c0, A1, n1, c1, rfl, ⟨kh0, mh0, h0⟩, ⟨kh1, mh1, h1⟩⟩ := h
    rfl,
  fun {_ _ _ _ _ _} h k hd => by
    obtain ⟨A0, n0, c0, A1, n1, c1, rfl, ⟨kh0, mh0, h0⟩, ⟨kh1, mh1, h1⟩⟩ := h
    exact ⟨_, _, _, _, _, _, rfl, ⟨kh0, mh0, h0.chg k hd⟩, ⟨kh1, mh1, h1.chg k hd⟩⟩,
  fun {_ _ _ _ _} h hs => by
    obtain ⟨A0, n0, c0, A1, n1, c1, rfl, ⟨kh0, mh0, h0⟩, ⟨kh1, mh1, h1⟩⟩ := h
    exact ⟨_, _, _, _, _, _, rfl, ⟨kh0, mh0, h0.mono hs⟩, ⟨kh1, mh1, h1.mono hs⟩⟩⟩
theorem Things.W_good : Good Things.W 3 := ⟨fun {_ _ _ _} h => by
    obtain ⟨A0, n0, c0, A1, n1, c1, lab, rfl, ⟨kh0, mh0, h0⟩, ⟨kh1, mh1, h1⟩⟩ := h
    rfl,
  fun {_ _ _ _ _ _} h k hd => by
    obtain ⟨A0, n0, c0, A1, n1, c1, lab, rfl, ⟨kh0, mh0, h0⟩, ⟨kh1, mh1, h1⟩⟩ := h
    exact ⟨_, _, _, _, _, _, lab, rfl, ⟨kh0, mh0, h0.chg k fun i hi => hd i hi.1⟩, ⟨kh1, mh1, h1.chg k fun i hi => hd i hi.1⟩⟩,
  fun {_ _ _ _ _} h hs => by
    obtain ⟨A0, n0, c0, A1, n1, c1, lab, rfl, ⟨kh0, mh0, h0⟩, ⟨kh1, mh1, h1⟩⟩ := h
    exact ⟨_, _, _, _, _, _, lab, rfl, ⟨kh0, mh0, h0.mono fun i _ hi => ⟨hs i hi.1, hi.2⟩⟩, ⟨kh1, mh1, h1.mono fun i _ hi => ⟨hs i hi.1, hi.2⟩⟩⟩⟩
theorem Things.W_R {w : World} {S : Nat → Prop} {cs : List Value} {x : Things} (h : Things.W w S cs x) : Things.R w S cs x := by
  obtain ⟨A0, n0, c0, A1, n1, c1, lab, rfl, ⟨kh0, mh0, h0⟩, ⟨kh1, mh1, h1⟩⟩ := h
  exact ⟨_, _, _, _, _, _, rfl, ⟨kh0, mh0, h0.sl.mono fun i hi => hi.1⟩, ⟨kh1, mh1, h1.sl.mono fun i hi => hi.1⟩⟩
theorem Things.R_cells {w : World} {S : Nat → Prop} {cs : List Value} {x : Things} (h : Things.R w S cs x) : ∃ (A0 : Option Addr) (n0 c0 : Nat) (A1 : Option Addr) (n1 c1 : Nat), cs = [.slice A0 n0 c0, .slice A1 n1 c1, .int .i64 x.count_] := by
  obtain ⟨A0, n0, c0, A1, n1, c1, rfl, ⟨kh0, mh0, h0⟩, ⟨kh1, mh1, h1⟩⟩ := h
  exact ⟨A0, n0, c0, A1, n1, c1, rfl⟩
theorem Things.W_cells {w : World} {S : Nat → Prop} {cs : List Value} {x : Things} (h : Things.W w S cs x) : ∃ (A0 : Option Addr) (n0 c0 : Nat) (A1 : Option Addr) (n1 c1 : Nat), cs = [.slice A0 n0 c0, .slice A1 n1 c1, .int .i64 x.count_] := by
  obtain ⟨A0, n0, c0, A1, n1, c1, lab, rfl, ⟨kh0, mh0, h0⟩, ⟨kh1, mh1, h1⟩⟩ := h
  exact ⟨A0, n0, c0, A1, n1, c1, rfl⟩
set_option maxRecDepth 8000 in
set_option maxHeartbeats 4000000 in
theorem opens_Things : Opens Tryz.prog 24 (fun w cs (x : Things) => Things.R w (fun _ => True) cs x) := by
  intro H enc w base spare held fuel cs x h
  obtain ⟨xs, n, _, _, hlen, hxl, hf⟩ := DataW.trod_struct Tryz.underlying24 h
  rw [show Tryz.prog.cellsOf 24 = 3 from by kernel_rfl] at hlen
  have hxl' : xs.length = 3 := hxl
  have h0 : DataW.trod enc Tryz.prog w base spare held n 22 ((cs.drop 0).take (Tryz.prog.cellsOf 22)) = xs[0]? := hf 0 _ rfl
  rw [show Tryz.prog.cellsOf 22 = 1 from by kernel_rfl, List.getElem?_eq_getElem (show 0 < xs.length by omega)] at h0
  obtain ⟨f0, A0, n0, c0, e0, g0, g0', -, -, s0⟩ := opens_ints Tryz.underlying22 Tryz.underlying3 (by kernel_rfl) H enc w base spare held n _ _ h0
  have h1 : DataW.trod enc Tryz.prog w base spare held n 22 ((cs.drop 1).take (Tryz.prog.cellsOf 22)) = xs[1]? := hf 1 _ rfl
  rw [show Tryz.prog.cellsOf 22 = 1 from by kernel_rfl, List.getElem?_eq_getElem (show 1 < xs.length by omega)] at h1
  obtain ⟨f1, A1, n1, c1, e1, g1, g1', -, -, s1⟩ := opens_ints Tryz.underlying22 Tryz.underlying3 (by kernel_rfl) H enc w base spare held n _ _ h1
  have h2 : DataW.trod enc Tryz.prog w base spare held n 3 ((cs.drop 2).take (Tryz.prog.cellsOf 3)) = xs[2]? := hf 2 _ rfl
  rw [show Tryz.prog.cellsOf 3 = 1 from by kernel_rfl, List.getElem?_eq_getElem (show 2 < xs.length by omega)] at h2
  obtain ⟨f2, e2, -, -⟩ := DataW.trod_int Tryz.underlying3 h2
  clear h0 h1 h2 hf h hxl hxl'
  match cs, hlen with
  | [q0, q1, q2], _ =>
    simp only [List.drop_succ_cons, List.drop_zero, List.take_succ_cons, List.take_zero, List.cons.injEq, and_true] at e0 e1 e2
    subst e0
    subst e1
    subst e2
    exact ⟨⟨f0, f1, f2⟩, _, _, _, _, _, _, rfl, ⟨g0, Nat.le_trans g0 g0', s0⟩, ⟨g1, Nat.le_trans g1 g1', s1⟩⟩
set_option maxRecDepth 8000 in
set_option maxHeartbeats 4000000 in
theorem szThings_any (x : Things) (cs : List Value) (q : Int) (w : World) (S : Nat → Prop) (h : Things.R w S cs x) (hq0 : 0 ≤ q) (hq2 : q ≤ 1048576) :
    Calls Tryz.prog 12 #[.agg cs.toArray, .int .i64 q] w fun e w' => ∃ r : Int, e = .returned (.int .i64 r) ∧ Left r q (Things.wt x) ∧ Ext w w' := by
  obtain ⟨A0, n0, c0, A1, n1, c1, rfl, ⟨kh0, mh0, h0⟩, ⟨kh1, mh1, h1⟩⟩ := h
  have H0 := Lib.hid h0
  have H1 := Lib.hid h1
  clear h0 h1
  show Calls Tryz.prog _ #[.agg #[.slice A0 n0 c0, .slice A1 n1 c1, .int .i64 x.count_], .int .i64 q] w _
  go_enter Tryz.func12, Tryz.ntmps12
  go_wp2_with fail
  have L0 := Lib.hid (H0.out.len)
  refine (szIntS_any _ _ _ (q) _ hq0 hq2 mh0).mono ?_
  rintro e w1 ⟨rfl, xq⟩
  have x1 := Ext.of_eq xq
  clear xq
  have Q0 : Hid (Left (if (n0 : Int) ≤ q then q - n0 else -1) q (x.cells_.length)) := by show Left _ _ _; rw [L0.out]; exact Left.of_if
  generalize (if (n0 : Int) ≤ q then q - n0 else -1) = r0 at Q0
  have X1 : Ext w w1 := Ext.tr (((Ext.refl' w).al _)) x1
  have b1 : Hid (Bx w1 w.heap.size 24 #[.slice A0 n0 c0, .slice A1 n1 c1, .int .i64 x.count_]) := Bx.ext (Bx.new' _ _ _ rfl) x1
  clear x1
  have R0 : Hid (Left r0 q (x.cells_.length)) := Q0
  by_cases g0 : 0 ≤ r0
  rotate_left
  · have e0 : r0 = -1 := by have a := R0.out; unfold Left at a; omega
    subst e0
    clear g0
    go_wp2
    go_ret
    exact ⟨-1, rfl, by have a := R0.out; unfold Left Things.wt at *; omega, X1⟩
  have u0 : r0 ≤ 1048576 := by have a := R0.out; unfold Left at a; omega
  have ca1_1 : w1.cell? ⟨w.heap.size, 1, none⟩ = some (.slice A1 n1 c1) := b1.out.cell 1
  go_wp2_with fail
  have L1 := Lib.hid (H1.out.len)
  refine (szIntS_any _ _ _ (r0) _ g0 u0 mh1).mono ?_
  rintro e w2 ⟨rfl, xq⟩
  have x2 := Ext.of_eq xq
  clear xq
  have Q1 : Hid (Left (if (n1 : Int) ≤ r0 then r0 - n1 else -1) r0 (x.map_.length)) := by show Left _ _ _; rw [L1.out]; exact Left.of_if
  generalize (if (n1 : Int) ≤ r0 then r0 - n1 else -1) = r1 at Q1
  have X2 : Ext w w2 := Ext.tr (X1) x2
  have b2 : Hid (Bx w2 w.heap.size 24 #[.slice A0 n0 c0, .slice A1 n1 c1, .int .i64 x.count_]) := Bx.ext (b1.out) x2
  clear x2
  have R1 : Hid (Left r1 q (x.cells_.length + x.map_.length)) := by show Left _ _ _; have a := R0.out; have b := Q1.out; unfold Left at *; omega
  by_cases g1 : 0 ≤ r1
  rotate_left
  · have e1 : r1 = -1 := by have a := R1.out; unfold Left at a; omega
    subst e1
    clear g1
    go_wp2
    go_ret
    exact ⟨-1, rfl, by have a := R1.out; unfold Left Things.wt at *; omega, X2⟩
  have u1 : r1 ≤ 1048576 := by have a := R1.out; unfold Left at a; omega
  go_wp2
  go_ret
  exact ⟨r1, rfl, R1.out, X2⟩
set_option maxRecDepth 8000 in
set_option maxHeartbeats 8000000 in
theorem toThings_any (x : Things) (cs : List Value) (w : World) (S : Nat → Prop) (h : Things.R w S cs x) (hw : Things.wt x ≤ 1048576) :
    Calls Tryz.prog 25 #[.agg cs.toArray] w fun e w' => ∃ cs', e = .returned (.agg cs'.toArray) ∧ Things.W w' (fun g => w.heap.size ≤ g ∧ g < w'.heap.size) cs' x ∧ Ext w w' := by
  obtain ⟨A0, n0, c0, A1, n1, c1, rfl, ⟨kh0, mh0, h0⟩, ⟨kh1, mh1, h1⟩⟩ := h
  unfold Things.wt at hw
  have l0 := h0.len
  have n_0 : n0 ≤ 1048576 := by omega
  have l1 := h1.len
  have n_1 : n1 ≤ 1048576 := by omega
  have H0 := Lib.hid h0
  have H1 := Lib.hid h1
  clear h0 h1 hw l0 l1
  show Calls Tryz.prog _ #[.agg #[.slice A0 n0 c0, .slice A1 n1 c1, .int .i64 x.count_]] w _
  go_enter Tryz.func25, Tryz.ntmps25
  go_wp2_with fail
  refine (toIntS_any _ _ _ _ _ S (H0.out.ext ((((Ext.refl' w).al _).al _).al _)) n_0).mono ?_
  rintro e w1 ⟨B0, d0, rfl, o0, x1⟩
  have K0 : Hid (n0 ≤ d0) := own_cap o0
  replace o0 := Lib.hid (OwS.of_own o0)
  have z1 : w.heap.size + 3 ≤ w1.heap.size := by have h := x1.size; (try simp at h); omega
  have ba1 : Hid (Bx w1 (w.heap.size) 24 #[.slice A0 n0 c0, .slice A1 n1 c1, .int .i64 x.count_]) := Bx.ext (((Bx.new' _ _ _ rfl).al _).al _) x1
  have br1 : Hid (Bx w1 (w.heap.size + 1) 42 #[.slice none 0 0, .slice none 0 0, .int .i64 0]) := Bx.ext ((Bx.new' _ _ _ (by simp)).al _) x1
  have bo1 : Hid (Bx w1 (w.heap.size + 2) 42 #[.slice none 0 0, .slice none 0 0, .int .i64 0]) := Bx.ext (Bx.new' _ _ _ (by simp)) x1
  have X1 : Ext w w1 := Ext.tr ((((Ext.refl' w).al _).al _).al _) x1
  replace o0 : Hid (OwS w1 (fun g => w.heap.size + 3 ≤ g ∧ g < w1.heap.size) 3 1 B0 n0 d0 (ints x.cells_)) := o0.out.mono (fun g _ hg => by have h1 := hg.1; have h2 := hg.2; constructor <;> (try simp at h1) <;> omega)
  clear x1
  have ca1_1 : w1.cell? ⟨w.heap.size, 1, none⟩ = some (.slice A1 n1 c1) := ba1.out.cell 1
  have co1_0 : w1.cell? ⟨w.heap.size + 2, 0, none⟩ = some (.slice none 0 0) := bo1.out.cell 0
  have fo1_0 : w1.frozen? ⟨w.heap.size + 2, 0, none⟩ = false := bo1.out.frozen 0
  go_wp2_with fail
  refine (toIntS_any _ _ _ _ _ S (H1.out.ext ((X1).sc (by first | (simp; done) | (simp; omega)) _)) n_1).mono ?_
  rintro e w2 ⟨B1, d1, rfl, o1, x2⟩
  have K1 : Hid (n1 ≤ d1) := own_cap o1
  replace o1 := Lib.hid (OwS.of_own o1)
  have z2 : w.heap.size + 3 ≤ w2.heap.size := by have h := x2.size; (try simp at h); omega
  have y2 : w1.heap.size ≤ w2.heap.size := by have h := x2.size; (try simp at h); exact h
  have ba2 : Hid (Bx w2 (w.heap.size) 24 #[.slice A0 n0 c0, .slice A1 n1 c1, .int .i64 x.count_]) := Bx.ext ((ba1.out).far (by first | (simp; done) | (simp; omega)) _) x2
  have br2 : Hid (Bx w2 (w.heap.size + 1) 42 #[.slice none 0 0, .slice none 0 0, .int .i64 0]) := Bx.ext ((br1.out).far (by first | (simp; done) | (simp; omega)) _) x2
  have bo2 : Hid (Bx w2 (w.heap.size + 2) 42 #[.slice B0 n0 d0, .slice none 0 0, .int .i64 0]) := Bx.ext (((bo1.out).set_ _ _).cast (by first | rfl | simp only [List.setIfInBounds_toArray, List.set_cons_succ, List.set_cons_zero])) x2
  have X2 : Ext w w2 := Ext.tr ((X1).sc (by first | (simp; done) | (simp; omega)) _) x2
  replace o0 := Lib.hid (o0.out.chg (Chg.trans ((Chg.refl (fun g => g = w.heap.size + 2) _).sc rfl _) (x2.chg _)) (fun g hg q => by have h1 := hg.1; have hq3 : g = w.heap.size + 2 := q; omega))
  replace o1 : Hid (OwS w2 (fun g => w1.heap.size ≤ g ∧ g < w2.heap.size) 3 1 B1 n1 d1 (ints x.map_)) := o1.out.mono (fun g _ hg => by have h1 := hg.1; have h2 := hg.2; constructor <;> (try simp at h1) <;> omega)
  clear x2
  have ca2_2 : w2.cell? ⟨w.heap.size, 2, none⟩ = some (.int .i64 x.count_) := ba2.out.cell 2
  have co2_0 : w2.cell? ⟨w.heap.size + 2, 0, none⟩ = some (.slice B0 n0 d0) := bo2.out.cell 0
  have co2_1 : w2.cell? ⟨w.heap.size + 2, 1, none⟩ = some (.slice none 0 0) := bo2.out.cell 1
  have co2_2 : w2.cell? ⟨w.heap.size + 2, 2, none⟩ = some (.int .i64 0) := bo2.out.cell 2
  have fo2_1 : w2.frozen? ⟨w.heap.size + 2, 1, none⟩ = false := bo2.out.frozen 1
  have fo2_2 : w2.frozen? ⟨w.heap.size + 2, 2, none⟩ = false := bo2.out.frozen 2
  have cr2_0 : w2.cell? ⟨w.heap.size + 1, 0, none⟩ = some (.slice none 0 0) := br2.out.cell 0
  have fr2_0 : w2.frozen? ⟨w.heap.size + 1, 0, none⟩ = false := br2.out.frozen 0
  have cr2_1 : w2.cell? ⟨w.heap.size + 1, 1, none⟩ = some (.slice none 0 0) := br2.out.cell 1
  have fr2_1 : w2.frozen? ⟨w.heap.size + 1, 1, none⟩ = false := br2.out.frozen 1
  have cr2_2 : w2.cell? ⟨w.heap.size + 1, 2, none⟩ = some (.int .i64 0) := br2.out.cell 2
  have fr2_2 : w2.frozen? ⟨w.heap.size + 1, 2, none⟩ = false := br2.out.frozen 2
  go_wp2
  refine bodyPost_ret (v := .agg #[.slice B0 n0 d0, .slice B1 n1 d1, .int .i64 x.count_]) (by simp [results, Tryz.results25, go_sem, cr2_0, cr2_1, cr2_2]) rfl ⟨[.slice B0 n0 d0, .slice B1 n1 d1, .int .i64 x.count_], rfl, ?_, ?_⟩
  · refine (?_ : ∀ wz, Chg (fun g => g = w.heap.size + 2 ∨ g = w.heap.size + 1) w2 wz → Things.W wz (fun g => w.heap.size ≤ g ∧ g < wz.heap.size) [.slice B0 n0 d0, .slice B1 n1 d1, .int .i64 x.count_] x) _ ((((((Chg.refl (fun g => g = w.heap.size + 2 ∨ g = w.heap.size + 1) _).sc (by first | (simp; done) | (simp; omega)) _).sc (by first | (simp; done) | (simp; omega)) _).sc (by first | (simp; done) | (simp; omega)) _).sc (by first | (simp; done) | (simp; omega)) _).sc (by first | (simp; done) | (simp; omega)) _)
    intro wz cc
    have zz := cc.size
    exact ⟨B0, n0, d0, B1, n1, d1, lb [w1.heap.size, w2.heap.size], rfl, ⟨K0.out, mh0, (o0.out.chg cc (fun g hg q => by have h1 := hg.1; have hq3 : g = w.heap.size + 2 ∨ g = w.heap.size + 1 := q; omega)).mono (fun g _ hg => ⟨⟨by have h1 := hg.1; omega, by have h2 := hg.2; omega⟩, by have h1 := hg.1; have h2 := hg.2; exact lb_here (by omega)⟩)⟩, ⟨K1.out, mh1, (o1.out.chg cc (fun g hg q => by have h1 := hg.1; have hq3 : g = w.heap.size + 2 ∨ g = w.heap.size + 1 := q; omega)).mono (fun g _ hg => ⟨⟨by have h1 := hg.1; omega, by have h2 := hg.2; omega⟩, by have h1 := hg.1; have h2 := hg.2; exact lb_next (by omega) (lb_here (by omega))⟩)⟩⟩
  · exact (((((X2).sc (by first | (simp; done) | (simp; omega)) _).sc (by first | (simp; done) | (simp; omega)) _).sc (by first | (simp; done) | (simp; omega)) _).sc (by first | (simp; done) | (simp; omega)) _).sc (by first | (simp; done) | (simp; omega)) _
set_option maxRecDepth 8000 in
set_option maxHeartbeats 8000000 in
theorem eqThings_same (x : Things) (cs cs' : List Value) (w : World) (S S' : Nat → Prop) (h : Things.R w S cs x) (u : Things.R w S' cs' x) :
    Calls Tryz.prog 38 #[.agg cs.toArray, .agg cs'.toArray] w fun e w' => e = .returned (.bool true) ∧ Ext w w' := by
  obtain ⟨A0, n0, c0, A1, n1, c1, rfl, ⟨kh0, mh0, h0⟩, ⟨kh1, mh1, h1⟩⟩ := h
  obtain ⟨B0, p0, d0, B1, p1, d1, rfl, ⟨ku0, mu0, u0⟩, ⟨ku1, mu1, u1⟩⟩ := u
  obtain rfl : n0 = p0 := by have a := h0.len; have b := u0.len; omega
  obtain rfl : n1 = p1 := by have a := h1.len; have b := u1.len; omega
  have H0 := Lib.hid h0
  have U0 := Lib.hid u0
  have H1 := Lib.hid h1
  have U1 := Lib.hid u1
  clear h0 u0 h1 u1
  show Calls Tryz.prog _ #[.agg #[.slice A0 n0 c0, .slice A1 n1 c1, .int .i64 x.count_], .agg #[.slice B0 n0 d0, .slice B1 n1 d1, .int .i64 x.count_]] w _
  go_enter Tryz.func38, Tryz.ntmps38
  go_wp2_with fail
  refine (eqIntS_same _ _ _ _ _ _ _ S S' (H0.out.ext (((Ext.refl' w).al _).al _)) (U0.out.ext (((Ext.refl' w).al _).al _)) mh0).mono ?_
  rintro e w1 ⟨rfl, x1⟩
  have z1 : w.heap.size + 2 ≤ w1.heap.size := by have h := x1.size; (try simp at h); omega
  have ba1 : Hid (Bx w1 (w.heap.size) 42 #[.slice A0 n0 c0, .slice A1 n1 c1, .int .i64 x.count_]) := Bx.ext ((Bx.new' _ _ _ rfl).al _) x1
  have bb1 : Hid (Bx w1 (w.heap.size + 1) 42 #[.slice B0 n0 d0, .slice B1 n1 d1, .int .i64 x.count_]) := Bx.ext (Bx.new' _ _ _ (by simp)) x1
  have X1 : Ext w w1 := Ext.tr (((Ext.refl' w).al _).al _) x1
  clear x1
  have ca1_1 : w1.cell? ⟨w.heap.size, 1, none⟩ = some (.slice A1 n1 c1) := ba1.out.cell 1
  have cb1_1 : w1.cell? ⟨w.heap.size + 1, 1, none⟩ = some (.slice B1 n1 d1) := bb1.out.cell 1
  go_wp2_with fail
  refine (eqIntS_same _ _ _ _ _ _ _ S S' (H1.out.ext (X1)) (U1.out.ext (X1)) mh1).mono ?_
  rintro e w2 ⟨rfl, x2⟩
  have z2 : w.heap.size + 2 ≤ w2.heap.size := by have h := x2.size; (try simp at h); omega
  have ba2 : Hid (Bx w2 (w.heap.size) 42 #[.slice A0 n0 c0, .slice A1 n1 c1, .int .i64 x.count_]) := Bx.ext (ba1.out) x2
  have bb2 : Hid (Bx w2 (w.heap.size + 1) 42 #[.slice B0 n0 d0, .slice B1 n1 d1, .int .i64 x.count_]) := Bx.ext (bb1.out) x2
  have X2 : Ext w w2 := Ext.tr (X1) x2
  clear x2
  have ca2_2 : w2.cell? ⟨w.heap.size, 2, none⟩ = some (.int .i64 x.count_) := ba2.out.cell 2
  have cb2_2 : w2.cell? ⟨w.heap.size + 1, 2, none⟩ = some (.int .i64 x.count_) := bb2.out.cell 2
  go_wp2
  go_ret
  exact ⟨rfl, X2⟩
/-! ### Kid -/
structure Kid where
  code_ : List GOp
deriving Inhabited
def Kid.wt (x : Kid) : Nat := x.code_.length
def Kid.R (w : World) (S : Nat → Prop) (cs : List Value) (x : Kid) : Prop := ∃ (A0 : Option Addr) (n0 c0 : Nat), cs = [.slice A0 n0 c0] ∧ (n0 ≤ c0 ∧ n0 ≤ 9223372036854775807 ∧ Sl w S 4 A0 n0 (x.code_.flatMap GOp.cells))
def Kid.W (w : World) (S : Nat → Prop) (cs : List Value) (x : Kid) : Prop := ∃ (A0 : Option Addr) (n0 c0 : Nat) (lab : Nat → Nat), cs = [.slice A0 n0 c0] ∧ (n0 ≤ c0 ∧ n0 ≤ 9223372036854775807 ∧ OwS w (fun g => S g ∧ lab g = 0) 213 4 A0 n0 c0 (x.code_.flatMap GOp.cells))
theorem Kid.R_good : Good Kid.R 1 := ⟨fun {_ _ _ _} h => by
    obtain ⟨A0, n0, c0, rfl, ⟨kh0, mh0, h0⟩⟩ := h
    rfl,
  fun {_ _ _ _ _ _} h k hd => by
    obtain ⟨A0, n0, c0, rfl, ⟨kh0, mh0, h0⟩⟩ := h
    exact ⟨_, _, _, rfl, ⟨kh0, mh0, h0.chg k hd⟩⟩,
  fun {_ _ _ _ _} h hs => by
    obtain ⟨A0, n0, c0, rfl, ⟨kh0, mh0, h0⟩⟩ := h
    exact ⟨_, _, _, rfl, ⟨kh0, mh0, h0.mono hs⟩⟩⟩
theorem Kid.W_good : Good Kid.W 1 := ⟨fun {_ _ _ _} h => by
    obtain ⟨A0, n0, c0, lab, rfl, ⟨kh0, mh0, h0⟩⟩ := h
    rfl,
  fun {_ _ _ _ _ _} h k hd => by
    obtain ⟨A0, n0, c0, lab, rfl, ⟨kh0, mh0, h0⟩⟩ := h
    exact ⟨_, _, _, lab, rfl, ⟨kh0, mh0, h0.chg k fun i hi => hd i hi.1⟩⟩,
  fun {_ _ _ _ _} h hs => by
    obtain ⟨A0, n0, c0, lab, rfl, ⟨kh0, mh0, h0⟩⟩ := h
    exact ⟨_, _, _, lab, rfl, ⟨kh0, mh0, h0.mono fun i _ hi => ⟨hs i hi.1, hi.2⟩⟩⟩⟩
theorem Kid.W_R {w : World} {S : Nat → Prop} {cs : List Value} {x : Kid} (h : Kid.W w S cs x) : Kid.R w S cs x := by
  obtain ⟨A0, n0, c0, lab, rfl, ⟨kh0, mh0, h0⟩⟩ := h
  exact ⟨_, _, _, rfl, ⟨kh0, mh0, h0.sl.mono fun i hi => hi.1⟩⟩
theorem Kid.R_cells {w : World} {S : Nat → Prop} {cs : List Value} {x : Kid} (h : Kid.R w S cs x) : ∃ (A0 : Option Addr) (n0 c0 : Nat), cs = [.slice A0 n0 c0] := by
  obtain ⟨A0, n0, c0, rfl, ⟨kh0, mh0, h0⟩⟩ := h
  exact ⟨A0, n0, c0, rfl⟩
theorem Kid.W_cells {w : World} {S : Nat → Prop} {cs : List Value} {x : Kid} (h : Kid.W w S cs x) : ∃ (A0 : Option Addr) (n0 c0 : Nat), cs = [.slice A0 n0 c0] := by
  obtain ⟨A0, n0, c0, lab, rfl, ⟨kh0, mh0, h0⟩⟩ := h
  exact ⟨A0, n0, c0, rfl⟩
set_option maxRecDepth 8000 in
set_option maxHeartbeats 4000000 in
theorem opens_Kid : Opens Tryz.prog 206 (fun w cs (x : Kid) => Kid.R w (fun _ => True) cs x) := by
  intro H enc w base spare held fuel cs x h
  obtain ⟨xs, n, _, _, hlen, hxl, hf⟩ := DataW.trod_struct Tryz.underlying206 h
  rw [show Tryz.prog.cellsOf 206 = 1 from by kernel_rfl] at hlen
  have hxl' : xs.length = 1 := hxl
  have h0 : DataW.trod enc Tryz.prog w base spare held n 107 ((cs.drop 0).take (Tryz.prog.cellsOf 107)) = xs[0]? := hf 0 _ rfl
  rw [show Tryz.prog.cellsOf 107 = 1 from by kernel_rfl, List.getElem?_eq_getElem (show 0 < xs.length by omega)] at h0
  obtain ⟨f0, A0, n0, c0, e0, g0, g0', -, -, s0⟩ := opens_flat Tryz.underlying107 (by kernel_rfl) (by omega) GOp.cells_length opens_GOp H enc w base spare held n _ _ h0
  clear h0 hf h hxl hxl'
  match cs, hlen with
  | [q0], _ =>
    simp only [List.drop_succ_cons, List.drop_zero, List.take_succ_cons, List.take_zero, List.cons.injEq, and_true] at e0
    subst e0
    exact ⟨⟨f0⟩, _, _, _, rfl, ⟨g0, Nat.le_trans g0 g0', s0⟩⟩
set_option maxRecDepth 8000 in
set_option maxHeartbeats 4000000 in
theorem szKid_any (x : Kid) (cs : List Value) (q : Int) (w : World) (S : Nat → Prop) (h : Kid.R w S cs x) (hq0 : 0 ≤ q) (hq2 : q ≤ 1048576) :
    Calls Tryz.prog 115 #[.agg cs.toArray, .int .i64 q] w fun e w' => ∃ r : Int, e = .returned (.int .i64 r) ∧ Left r q (Kid.wt x) ∧ Ext w w' := by
  obtain ⟨A0, n0, c0, rfl, ⟨kh0, mh0, h0⟩⟩ := h
  have H0 := Lib.hid h0
  clear h0
  show Calls Tryz.prog _ #[.agg #[.slice A0 n0 c0], .int .i64 q] w _
  go_enter Tryz.func115, Tryz.ntmps115
  go_wp2_with fail
  have L0 := Lib.hid (H0.out.flen GOp.cells_length (by omega))
  refine (szGOpS_any _ _ _ (q) _ hq0 hq2 mh0).mono ?_
  rintro e w1 ⟨rfl, xq⟩
  have x1 := Ext.of_eq xq
  clear xq
  have Q0 : Hid (Left (if (n0 : Int) ≤ q then q - n0 else -1) q (x.code_.length)) := by show Left _ _ _; rw [L0.out]; exact Left.of_if
  generalize (if (n0 : Int) ≤ q then q - n0 else -1) = r0 at Q0
  have X1 : Ext w w1 := Ext.tr (((Ext.refl' w).al _)) x1
  have b1 : Hid (Bx w1 w.heap.size 206 #[.slice A0 n0 c0]) := Bx.ext (Bx.new' _ _ _ rfl) x1
  clear x1
  have R0 : Hid (Left r0 q (x.code_.length)) := Q0
  by_cases g0 : 0 ≤ r0
  rotate_left
  · have e0 : r0 = -1 := by have a := R0.out; unfold Left at a; omega
    subst e0
    clear g0
    go_wp2
    go_ret
    exact ⟨-1, rfl, by have a := R0.out; unfold Left Kid.wt at *; omega, X1⟩
  have u0 : r0 ≤ 1048576 := by have a := R0.out; unfold Left at a; omega
  go_wp2
  go_ret
  exact ⟨r0, rfl, R0.out, X1⟩
set_option maxRecDepth 8000 in
set_option maxHeartbeats 4000000 in
theorem szKidS_any (A : Option Addr) (n c : Nat) (l : List Kid) (q : Int) (w : World) (S : Nat → Prop) (hs : SlR Kid.R 1 w S A n l) (hm : n ≤ 9223372036854775807) (hq0 : 0 ≤ q) (hq2 : q ≤ 1048576) :
    Calls Tryz.prog 87 #[.slice A n c, .int .i64 q] w fun e w' => ∃ r : Int, e = .returned (.int .i64 r) ∧ Left r q (wtl Kid.wt l) ∧ Ext w w' := by
  have H := Lib.hid hs.1
  have HL := Lib.hid (wtl_len Kid.wt l)
  by_cases hn : (n : Int) ≤ q
  rotate_left
  · go_enter Tryz.func87, Tryz.ntmps87
    go_wp2
    go_ret
    exact ⟨-1, by first | rfl | (simp; done) | simp [hn], .inr ⟨by have a := H.out; have b := HL.out; omega, rfl⟩, Ext.refl' _⟩
  have HS := Lib.hid hs
  clear hs
  go_enter Tryz.func87, Tryz.ntmps87
  go_wp2
  go_loopw [1, 5] (fun u i wr => ∃ (k : Nat) (r : Int), k ≤ n ∧ i = .int .i64 k ∧ u = .int .i64 r ∧ 0 ≤ r ∧ r ≤ 1048576 ∧ Hid (r = q - n + k - wtl Kid.wt (l.take k)) ∧ Ext w wr) (fun _ i _ => n - (intOf i).toNat)
  case atStart => exact ⟨0, q - n, Nat.zero_le _, rfl, rfl, by omega, by omega, by show _ = _; simp [wtl], Ext.refl' _⟩
  case round =>
    obtain ⟨k, r, hk, rfl, rfl, hr0, hr2, HR, hx⟩ := hrel
    have HX := Lib.hid hx
    clear hx
    by_cases hlt : (k : Int) < (n : Int)
    rotate_left
    · have e : Hid (k = n) := by show k = n; omega
      go_wp2
      go_ret
      exact ⟨r, rfl, .inl (by have h1 := HR.out; rw [e.out, ← H.out, List.take_length] at h1; have h2 := H.out; omega), HX.out⟩
    obtain ⟨b, o, rfl⟩ := HS.out.addr (by omega)
    obtain ⟨x, row, hxk, -, hrw, hc⟩ := (HS.out.ext Kid.R_good HX.out).at_ (k := k) (by omega)
    have HRW := Lib.hid hrw
    obtain ⟨A0, n0, c0, rfl⟩ := Kid.R_cells hrw

    have c_0 := hc 0 (by omega)
    simp only [List.getElem?_cons_zero, List.getElem?_cons_succ, Nat.add_zero, Nat.mul_one] at c_0
    have HW := Lib.hid (wtl_take Kid.wt hxk)
    have HLE := Lib.hid (wtl_le Kid.wt l (k + 1))
    have HTL := Lib.hid (wtl_len Kid.wt (l.drop (k + 1)))
    clear hrw hc hxk
    go_wp2_with fail
    refine (szKid_any x _ r _ S HRW.out hr0 hr2).mono ?_
    rintro e w2 ⟨r2, rfl, Q, x2⟩
    have X2 := Lib.hid (HX.out.tr x2)
    have HQ := Lib.hid Q
    clear x2 Q
    by_cases g : 0 ≤ r2
    rotate_left
    · have e : r2 = -1 := by have a := HQ.out; unfold Left at a; omega
      subst e
      clear g
      go_wp2
      go_ret
      exact ⟨-1, rfl, .inr ⟨by have a := HQ.out; have b := HW.out; have c := HR.out; have d := HLE.out; have e := H.out; have f := wtl_rest Kid.wt l (k + 1); unfold Left at a; omega, rfl⟩, X2.out⟩
    have g2 : r2 ≤ 1048576 := by have a := HQ.out; unfold Left at a; omega
    go_wp2
    go_roundw
    case rel => exact ⟨k + 1, r2, by omega, by go_num, rfl, g, g2, by show _ = _; have a := HQ.out; have b := HW.out; have c := HR.out; unfold Left at a; omega, X2.out⟩
    case measure => simp [intOf]; omega
set_option maxRecDepth 8000 in
set_option maxHeartbeats 8000000 in
theorem toKid_any (x : Kid) (cs : List Value) (w : World) (S : Nat → Prop) (h : Kid.R w S cs x) (hw : Kid.wt x ≤ 1048576) :
    Calls Tryz.prog 120 #[.agg cs.toArray] w fun e w' => ∃ cs', e = .returned (.agg cs'.toArray) ∧ Kid.W w' (fun g => w.heap.size ≤ g ∧ g < w'.heap.size) cs' x ∧ Ext w w' := by
  obtain ⟨A0, n0, c0, rfl, ⟨kh0, mh0, h0⟩⟩ := h
  unfold Kid.wt at hw
  have l0 := h0.flen GOp.cells_length (by omega)
  have n_0 : n0 ≤ 1048576 := by omega
  have H0 := Lib.hid h0
  clear h0 hw l0
  show Calls Tryz.prog _ #[.agg #[.slice A0 n0 c0]] w _
  go_enter Tryz.func120, Tryz.ntmps120
  go_wp2_with fail
  refine (toGOpS_any _ _ _ _ _ S (H0.out.ext ((((Ext.refl' w).al _).al _).al _)) n_0).mono ?_
  rintro e w1 ⟨B0, d0, rfl, o0, x1⟩
  have K0 : Hid (n0 ≤ d0) := own_cap o0
  replace o0 := Lib.hid (OwS.of_own o0)
  have z1 : w.heap.size + 3 ≤ w1.heap.size := by have h := x1.size; (try simp at h); omega
  have ba1 : Hid (Bx w1 (w.heap.size) 206 #[.slice A0 n0 c0]) := Bx.ext (((Bx.new' _ _ _ rfl).al _).al _) x1
  have br1 : Hid (Bx w1 (w.heap.size + 1) 217 #[.slice none 0 0]) := Bx.ext ((Bx.new' _ _ _ (by simp)).al _) x1
  have bo1 : Hid (Bx w1 (w.heap.size + 2) 217 #[.slice none 0 0]) := Bx.ext (Bx.new' _ _ _ (by simp)) x1
  have X1 : Ext w w1 := Ext.tr ((((Ext.refl' w).al _).al _).al _) x1
  replace o0 : Hid (OwS w1 (fun g => w.heap.size + 3 ≤ g ∧ g < w1.heap.size) 213 4 B0 n0 d0 (x.code_.flatMap GOp.cells)) := o0.out.mono (fun g _ hg => by have h1 := hg.1; have h2 := hg.2; constructor <;> (try simp at h1) <;> omega)
  clear x1
  have co1_0 : w1.cell? ⟨w.heap.size + 2, 0, none⟩ = some (.slice none 0 0) := bo1.out.cell 0
  have fo1_0 : w1.frozen? ⟨w.heap.size + 2, 0, none⟩ = false := bo1.out.frozen 0
  have cr1_0 : w1.cell? ⟨w.heap.size + 1, 0, none⟩ = some (.slice none 0 0) := br1.out.cell 0
  have fr1_0 : w1.frozen? ⟨w.heap.size + 1, 0, none⟩ = false := br1.out.frozen 0
  go_wp2
  refine bodyPost_ret (v := .agg #[.slice B0 n0 d0]) (by simp [results, Tryz.results120, go_sem, cr1_0]) rfl ⟨[.slice B0 n0 d0], rfl, ?_, ?_⟩
  · refine (?_ : ∀ wz, Chg (fun g => g = w.heap.size + 2 ∨ g = w.heap.size + 1) w1 wz → Kid.W wz (fun g => w.heap.size ≤ g ∧ g < wz.heap.size) [.slice B0 n0 d0] x) _ (((Chg.refl (fun g => g = w.heap.size + 2 ∨ g = w.heap.size + 1) _).sc (by first | (simp; done) | (simp; omega)) _).sc (by first | (simp; done) | (simp; omega)) _)
    intro wz cc
    have zz := cc.size
    exact ⟨B0, n0, d0, lb [w1.heap.size], rfl, ⟨K0.out, mh0, (o0.out.chg cc (fun g hg q => by have h1 := hg.1; have hq3 : g = w.heap.size + 2 ∨ g = w.heap.size + 1 := q; omega)).mono (fun g _ hg => ⟨⟨by have h1 := hg.1; omega, by have h2 := hg.2; omega⟩, by have h1 := hg.1; have h2 := hg.2; exact lb_here (by omega)⟩)⟩⟩
  · exact ((X1).sc (by first | (simp; done) | (simp; omega)) _).sc (by first | (simp; done) | (simp; omega)) _
theorem Tryz.infoKid : (Tryz.prog.info? 217).map (fun i => (i.zero, i.size, i.bytes)) = some (some (.agg #[.slice none 0 0]), 1, 24) := by kernel_rfl
set_option maxRecDepth 8000 in
set_option maxHeartbeats 8000000 in
theorem toKidS_any (A : Option Addr) (n c : Nat) (l : List Kid) (w : World) (S : Nat → Prop) (hs : SlR Kid.R 1 w S A n l) (hm : n ≤ 1048576) (hw : wtl Kid.wt l ≤ 1048576) :
    Calls Tryz.prog 94 #[.slice A n c] w fun e w' => ∃ B d, e = .returned (.slice B n d) ∧ SlW Kid.W 217 1 w' (fun g => w.heap.size ≤ g ∧ g < w'.heap.size) B n d l ∧ Ext w w' := by
  obtain ⟨w1, cs0, hmk, hown, -, hx1, hlt⟩ := made_row (P := Tryz.prog) w 143 217 _ _ _ Tryz.underlying143 Tryz.infoKid n (by omega) (by unfold maxLen; omega)
  have HO := Lib.hid hown
  have HX := Lib.hid hx1
  have HS := Lib.hid hs
  have HLL := Lib.hid hs.1
  have HW0 := Lib.hid hw
  clear hown hx1 hs hw
  go_enter Tryz.func94, Tryz.ntmps94
  go_wp2
  go_loopw [4] (fun i wr => ∃ (k : Nat) (cs : List Value) (lab : Nat → Nat), k ≤ n ∧ i = .int .i64 k ∧ Hid (wr.ownsRow w.heap.size 217 1 (.slice (some ⟨w.heap.size, 0, none⟩) n n) n cs) ∧ Hid (WRows Kid.W 1 wr (fun g => w.heap.size < g ∧ g < wr.heap.size) lab cs l k) ∧ Ext w wr) (fun i _ => n - (intOf i).toNat)
  case atStart => exact ⟨0, _, fun _ => 0, Nat.zero_le _, rfl, HO, WRows.zero _ _ _ _ _ _ _, HX.out⟩
  case round =>
    obtain ⟨k, cs, lab, hk, rfl, HO2, HU, hx⟩ := hrel
    have HX2 := Lib.hid hx
    clear hx
    by_cases hlt : (k : Int) < (n : Int)
    rotate_left
    · have e : Hid (k = n) := by show k = n; omega
      go_wp2
      go_ret
      refine ⟨_, _, rfl, ⟨HLL.out, cs, fun g => if w.heap.size < g then lab g else 0, ⟨own_base HO2.out (Nat.zero_le _), fun g hg => ?_⟩, fun i hi x hxi => ?_⟩, HX2.out⟩
      · have e : some w.heap.size = some g := hg
        injection e with e
        subst e
        exact ⟨⟨Nat.le_refl _, (HO2.out.lt _ rfl).2⟩, if_neg (Nat.lt_irrefl _)⟩
      · obtain ⟨row, hr, hj⟩ := HU.out i (by have h := e.out; omega) x hxi
        exact ⟨row, Kid.W_good.mono hr fun g hg => ⟨⟨by have h := hg.1.1; omega, hg.1.2⟩, (if_pos hg.1.1).trans hg.2⟩, hj⟩
    obtain ⟨b, o, rfl⟩ := HS.out.addr (by omega)
    obtain ⟨x, row, hxk, -, hrw, hc⟩ := (HS.out.ext Kid.R_good HX2.out).at_ (k := k) (by omega)
    have HRW := Lib.hid hrw
    obtain ⟨A0, n0, c0, rfl⟩ := Kid.R_cells hrw
    have c_0 := hc 0 (by omega)
    simp only [List.getElem?_cons_zero, List.getElem?_cons_succ, Nat.add_zero, Nat.mul_one] at c_0
    have HXK := Lib.hid hxk
    have HKW := Lib.hid (Nat.le_trans (wtl_at Kid.wt hxk) HW0.out)
    have HLT : Hid (k < n) := by show k < n; omega
    clear hrw hc hxk
    go_wp2_with fail
    refine (toKid_any x _ _ S HRW.out HKW.out).mono ?_
    rintro e w2 ⟨cv, rfl, hW, hx2⟩
    have HWW := Lib.hid hW
    obtain ⟨B0, p0, d0, rfl⟩ := Kid.W_cells hW
    have ho2 := own_ext HO2.out hx2
    have z0 : w.heap.size < wr.heap.size := (HO2.out.lt _ rfl).2
    have z1 : wr.heap.size ≤ w2.heap.size := hx2.size
    obtain ⟨g, hA, -, -, hg⟩ := own_flat ho2 HLT.out
    obtain rfl : w.heap.size = g := addr_inj hA
    obtain ⟨v0, g0, e0⟩ := hg 0 (by omega)
    rw [Nat.add_zero, Nat.mul_one] at g0 e0
    have HX3 := Lib.hid hx2
    have HO3 := Lib.hid ho2
    clear hx2 ho2 hg hW
    go_wp2
    go_roundw
    case rel =>
      have t0 := HO3.out.stored (k) (.slice B0 p0 d0)
      have hl3 : cs.length = n * 1 := HO3.out.1
      have hkn := HLT.out
      have pp := (Put.zero cs (k * 1) [.slice B0 p0 d0]).next (q := k) (by omega) (by omega) rfl
      have cc := (Chg.refl (fun g => g = w.heap.size) w2).sc (p := ⟨w.heap.size, k, none⟩) rfl (.slice B0 p0 d0)
      refine ⟨k + 1, _, _, by omega, by go_num, Lib.hid t0.1, Lib.hid (WRows.step (b := wr.heap.size) Kid.W_good HU.out (fun g hg => hg.2) (Chg.trans (HX3.out.chg _) cc) (fun g hg q => by have h1 := hg.1; have h2 : g = w.heap.size := q; omega) (fun g hg => ⟨hg.1, by have h := hg.2; simp; omega⟩) HXK.out (Kid.W_good.mono (Kid.W_good.chg HWW.out cc (fun g hg q => by have h1 := hg.1; have h2 : g = w.heap.size := q; omega)) (fun g hg => ⟨⟨by have h1 := hg.1; omega, by have h := hg.2; simp; omega⟩, hg.1⟩)) pp.2.1 pp.2.2), ?_⟩
      exact ((HX2.out.tr HX3.out)).sc (p := ⟨w.heap.size, _, none⟩) (Nat.le_refl _) _
    case measure => have h := HLT.out; simp [intOf]; omega
set_option maxRecDepth 8000 in
set_option maxHeartbeats 8000000 in
theorem eqKid_same (x : Kid) (cs cs' : List Value) (w : World) (S S' : Nat → Prop) (h : Kid.R w S cs x) (u : Kid.R w S' cs' x) :
    Calls Tryz.prog 137 #[.agg cs.toArray, .agg cs'.toArray] w fun e w' => e = .returned (.bool true) ∧ Ext w w' := by
  obtain ⟨A0, n0, c0, rfl, ⟨kh0, mh0, h0⟩⟩ := h
  obtain ⟨B0, p0, d0, rfl, ⟨ku0, mu0, u0⟩⟩ := u
  obtain rfl : n0 = p0 := by have a := h0.flen GOp.cells_length (by omega); have b := u0.flen GOp.cells_length (by omega); omega
  have H0 := Lib.hid h0
  have U0 := Lib.hid u0
  clear h0 u0
  show Calls Tryz.prog _ #[.agg #[.slice A0 n0 c0], .agg #[.slice B0 n0 d0]] w _
  go_enter Tryz.func137, Tryz.ntmps137
  go_wp2_with fail
  refine (eqGOpS_same _ _ _ _ _ _ _ S S' (H0.out.ext (((Ext.refl' w).al _).al _)) (U0.out.ext (((Ext.refl' w).al _).al _)) mh0).mono ?_
  rintro e w1 ⟨rfl, x1⟩
  have z1 : w.heap.size + 2 ≤ w1.heap.size := by have h := x1.size; (try simp at h); omega
  have ba1 : Hid (Bx w1 (w.heap.size) 217 #[.slice A0 n0 c0]) := Bx.ext ((Bx.new' _ _ _ rfl).al _) x1
  have bb1 : Hid (Bx w1 (w.heap.size + 1) 217 #[.slice B0 n0 d0]) := Bx.ext (Bx.new' _ _ _ (by simp)) x1
  have X1 : Ext w w1 := Ext.tr (((Ext.refl' w).al _).al _) x1
  clear x1
  go_wp2
  go_ret
  exact ⟨rfl, X1⟩
set_option maxRecDepth 8000 in
set_option maxHeartbeats 8000000 in
theorem eqKidS_same (A B : Option Addr) (n c d : Nat) (l : List Kid) (w : World) (S S' : Nat → Prop) (ha : SlR Kid.R 1 w S A n l) (hb : SlR Kid.R 1 w S' B n l) (hm : n ≤ 9223372036854775807) :
    Calls Tryz.prog 107 #[.slice A n c, .slice B n d] w fun e w' => e = .returned (.bool true) ∧ Ext w w' := by
  have HA := Lib.hid ha
  have HB := Lib.hid hb
  clear ha hb
  go_enter Tryz.func107, Tryz.ntmps107
  go_wp2
  go_loopw [5] (fun i wr => ∃ (k : Nat), k ≤ n ∧ i = .int .i64 k ∧ Ext w wr) (fun i _ => n - (intOf i).toNat)
  case atStart => exact ⟨0, Nat.zero_le _, rfl, Ext.refl' _⟩
  case round =>
    obtain ⟨k, hk, rfl, hx⟩ := hrel
    have HX := Lib.hid hx
    clear hx
    by_cases hlt : (k : Int) < (n : Int)
    rotate_left
    · go_wp2
      go_ret
      exact ⟨rfl, HX.out⟩
    obtain ⟨b, o, rfl⟩ := HA.out.addr (by omega)
    obtain ⟨b2, o2, rfl⟩ := HB.out.addr (by omega)
    obtain ⟨x, row, hxk, -, hrw, hc⟩ := (HA.out.ext Kid.R_good HX.out).at_ (k := k) (by omega)
    obtain ⟨y, row2, hyk, -, hrw2, hc2⟩ := (HB.out.ext Kid.R_good HX.out).at_ (k := k) (by omega)
    rw [hxk] at hyk
    injection hyk with hyk
    subst hyk
    have RX := Lib.hid hrw
    have RY := Lib.hid hrw2
    obtain ⟨A0, n0, c0, rfl⟩ := Kid.R_cells hrw
    obtain ⟨B0, p0, d0, rfl⟩ := Kid.R_cells hrw2
    have a_0 := hc 0 (by omega)
    have b_0 := hc2 0 (by omega)
    simp only [List.getElem?_cons_zero, List.getElem?_cons_succ, Nat.add_zero, Nat.mul_one] at a_0 b_0
    have KS : Hid (∀ w', Ext wr w' → Ext wr w' ∧ w'.cell? ⟨b, o + k, none⟩ = some (.slice A0 n0 c0) ∧ w'.cell? ⟨b2, o2 + k, none⟩ = some (.slice B0 p0 d0)) := fun w' x => ⟨x, x.co a_0, x.co b_0⟩
    have hk0 : (0 : Int) ≤ (k : Int) := by omega
    clear hrw hrw2 hc hc2 hxk
    go_wp2
    refine region_class (fun w' => Ext wr w' ∧ w'.cell? ⟨b, o + k, none⟩ = some (.slice A0 n0 c0) ∧ w'.cell? ⟨b2, o2 + k, none⟩ = some (.slice B0 p0 d0)) (by kernel_rfl) (by kernel_rfl) (KS.out _ ((Ext.refl' _).dr)) ?_
    repeat (first | go_big_quiet_skip | (go_big_quiet_want; unfold Oper.quiet; apply Exists.intro; refine ⟨fun wq hq => ?_, ?_⟩; (obtain ⟨qx, q0, q1⟩ := hq; go_simp; first | done | rfl | (go_at_call 137; exact (eqKid_same x [.slice A0 n0 c0] [.slice B0 p0 d0] _ S S' (Kid.R_good.ext RX.out qx) (Kid.R_good.ext RY.out qx)).mono fun e w2 h2 => ⟨h2.1, KS.out _ (qx.tr h2.2)⟩)); (try simp only [Act.put, List.setIfInBounds_toArray, List.set_cons_zero, List.set_cons_succ]); go_big_quiet_on))
    refine wpQuiet_nil ?_
    intro wq hq
    have XE := Lib.hid hq.1
    clear hq
    go_wp2
    go_roundw
    case rel => exact ⟨k + 1, by omega, by go_num, HX.out.tr XE.out⟩
    case measure => simp [intOf]; omega
/-! ### Prog -/
structure Prog where
  code_ : List GOp
  kids_ : List Kid
deriving Inhabited
def Prog.wt (x : Prog) : Nat := x.code_.length + wtl Kid.wt x.kids_
def Prog.R (w : World) (S : Nat → Prop) (cs : List Value) (x : Prog) : Prop := ∃ (A0 : Option Addr) (n0 c0 : Nat) (A1 : Option Addr) (n1 c1 : Nat), cs = [.slice A0 n0 c0, .slice A1 n1 c1] ∧ (n0 ≤ c0 ∧ n0 ≤ 9223372036854775807 ∧ Sl w S 4 A0 n0 (x.code_.flatMap GOp.cells)) ∧ (n1 ≤ c1 ∧ n1 ≤ 9223372036854775807 ∧ SlR Kid.R 1 w S A1 n1 x.kids_)
def Prog.W (w : World) (S : Nat → Prop) (cs : List Value) (x : Prog) : Prop := ∃ (A0 : Option Addr) (n0 c0 : Nat) (A1 : Option Addr) (n1 c1 : Nat) (lab : Nat → Nat), cs = [.slice A0 n0 c0, .slice A1 n1 c1] ∧ (n0 ≤ c0 ∧ n0 ≤ 9223372036854775807 ∧ OwS w (fun g => S g ∧ lab g = 0) 213 4 A0 n0 c0 (x.code_.flatMap GOp.cells)) ∧ (n1 ≤ c1 ∧ n1 ≤ 9223372036854775807 ∧ SlW Kid.W 217 1 w (fun g => S g ∧ lab g = 1) A1 n1 c1 x.kids_)
theorem Prog.R_good : Good Prog.R 2 := ⟨fun {_ _ _ _} h => by
    obtain ⟨A0, n0, c0, A1, n1, c1, rfl, ⟨kh0, mh0, h0⟩, ⟨kh1, mh1, h1⟩⟩ := h
    rfl,
  fun {_ _ _ _ _ _} h k hd => by
    obtain ⟨A0, n0, c0, A1, n1, c1, rfl, ⟨kh0, mh0, h0⟩, ⟨kh1, mh1, h1⟩⟩ := h
    exact ⟨_, _, _, _, _, _, rfl, ⟨kh0, mh0, h0.chg k hd⟩, ⟨kh1, mh1, h1.chg Kid.R_good k hd⟩⟩,
  fun {_ _ _ _ _} h hs => by
    obtain ⟨A0, n0, c0, A1, n1, c1, rfl, ⟨kh0, mh0, h0⟩, ⟨kh1, mh1, h1⟩⟩ := h
    exact ⟨_, _, _, _, _, _, rfl, ⟨kh0, mh0, h0.mono hs⟩, ⟨kh1, mh1, h1.mono Kid.R_good hs⟩⟩⟩
theorem Prog.W_good : Good Prog.W 2 := ⟨fun {_ _ _ _} h => by
    obtain ⟨A0, n0, c0, A1, n1, c1, lab, rfl, ⟨kh0, mh0, h0⟩, ⟨kh1, mh1, h1⟩⟩ := h
    rfl,
  fun {_ _ _ _ _ _} h k hd => by
    obtain ⟨A0, n0, c0, A1, n1, c1, lab, rfl, ⟨kh0, mh0, h0⟩, ⟨kh1, mh1, h1⟩⟩ := h
    exact ⟨_, _, _, _, _, _, lab, rfl, ⟨kh0, mh0, h0.chg k fun i hi => hd i hi.1⟩, ⟨kh1, mh1, h1.chg Kid.W_good k fun i hi => hd i hi.1⟩⟩,
  fun {_ _ _ _ _} h hs => by
    obtain ⟨A0, n0, c0, A1, n1, c1, lab, rfl, ⟨kh0, mh0, h0⟩, ⟨kh1, mh1, h1⟩⟩ := h
    exact ⟨_, _, _, _, _, _, lab, rfl, ⟨kh0, mh0, h0.mono fun i _ hi => ⟨hs i hi.1, hi.2⟩⟩, ⟨kh1, mh1, h1.mono Kid.W_good fun i hi => ⟨hs i hi.1, hi.2⟩⟩⟩⟩
theorem Prog.W_R {w : World} {S : Nat → Prop} {cs : List Value} {x : Prog} (h : Prog.W w S cs x) : Prog.R w S cs x := by
  obtain ⟨A0, n0, c0, A1, n1, c1, lab, rfl, ⟨kh0, mh0, h0⟩, ⟨kh1, mh1, h1⟩⟩ := h
  exact ⟨_, _, _, _, _, _, rfl, ⟨kh0, mh0, h0.sl.mono fun i hi => hi.1⟩, ⟨kh1, mh1, (h1.slr Kid.R_good Kid.W_R).mono Kid.R_good fun i hi => hi.1⟩⟩
theorem Prog.R_cells {w : World} {S : Nat → Prop} {cs : List Value} {x : Prog} (h : Prog.R w S cs x) : ∃ (A0 : Option Addr) (n0 c0 : Nat) (A1 : Option Addr) (n1 c1 : Nat), cs = [.slice A0 n0 c0, .slice A1 n1 c1] := by
  obtain ⟨A0, n0, c0, A1, n1, c1, rfl, ⟨kh0, mh0, h0⟩, ⟨kh1, mh1, h1⟩⟩ := h
  exact ⟨A0, n0, c0, A1, n1, c1, rfl⟩
theorem Prog.W_cells {w : World} {S : Nat → Prop} {cs : List Value} {x : Prog} (h : Prog.W w S cs x) : ∃ (A0 : Option Addr) (n0 c0 : Nat) (A1 : Option Addr) (n1 c1 : Nat), cs = [.slice A0 n0 c0, .slice A1 n1 c1] := by
  obtain ⟨A0, n0, c0, A1, n1, c1, lab, rfl, ⟨kh0, mh0, h0⟩, ⟨kh1, mh1, h1⟩⟩ := h
  exact ⟨A0, n0, c0, A1, n1, c1, rfl⟩theorem Prog.size_info : (Tryz.prog.info? 145).map (·.size) = some 2 := by kernel_rfl
theorem Prog.size_laws : (Tryz.prog.info? 110).map (·.size) = some 2 := by kernel_rfl
theorem Prog.W_one {w : World} {S : Nat → Prop} {cs : List Value} {x : Prog} (h : Prog.W w S cs x) : ∀ v ∈ cs, v.oneCell' = true := by
  obtain ⟨A0, n0, c0, A1, n1, c1, rfl⟩ := Prog.W_cells h
  simp [Value.oneCell']
set_option maxRecDepth 8000 in
set_option maxHeartbeats 4000000 in
theorem opens_Prog : Opens Tryz.prog 110 (fun w cs (x : Prog) => Prog.R w (fun _ => True) cs x) := by
  intro H enc w base spare held fuel cs x h
  obtain ⟨xs, n, _, _, hlen, hxl, hf⟩ := DataW.trod_struct Tryz.underlying110 h
  rw [show Tryz.prog.cellsOf 110 = 2 from by kernel_rfl] at hlen
  have hxl' : xs.length = 2 := hxl
  have h0 : DataW.trod enc Tryz.prog w base spare held n 107 ((cs.drop 0).take (Tryz.prog.cellsOf 107)) = xs[0]? := hf 0 _ rfl
  rw [show Tryz.prog.cellsOf 107 = 1 from by kernel_rfl, List.getElem?_eq_getElem (show 0 < xs.length by omega)] at h0
  obtain ⟨f0, A0, n0, c0, e0, g0, g0', -, -, s0⟩ := opens_flat Tryz.underlying107 (by kernel_rfl) (by omega) GOp.cells_length opens_GOp H enc w base spare held n _ _ h0
  have h1 : DataW.trod enc Tryz.prog w base spare held n 108 ((cs.drop 1).take (Tryz.prog.cellsOf 108)) = xs[1]? := hf 1 _ rfl
  rw [show Tryz.prog.cellsOf 108 = 1 from by kernel_rfl, List.getElem?_eq_getElem (show 1 < xs.length by omega)] at h1
  obtain ⟨f1, A1, n1, c1, e1, g1, g1', s1⟩ := opens_deep Kid.R_good Tryz.underlying108 (by kernel_rfl) (by omega) opens_Kid H enc w base spare held n _ _ h1
  clear h0 h1 hf h hxl hxl'
  match cs, hlen with
  | [q0, q1], _ =>
    simp only [List.drop_succ_cons, List.drop_zero, List.take_succ_cons, List.take_zero, List.cons.injEq, and_true] at e0 e1
    subst e0
    subst e1
    exact ⟨⟨f0, f1⟩, _, _, _, _, _, _, rfl, ⟨g0, Nat.le_trans g0 g0', s0⟩, ⟨g1, Nat.le_trans g1 g1', s1⟩⟩
set_option maxRecDepth 8000 in
set_option maxHeartbeats 4000000 in
theorem szProg_any (x : Prog) (cs : List Value) (q : Int) (w : World) (S : Nat → Prop) (h : Prog.R w S cs x) (hq0 : 0 ≤ q) (hq2 : q ≤ 1048576) :
    Calls Tryz.prog 47 #[.agg cs.toArray, .int .i64 q] w fun e w' => ∃ r : Int, e = .returned (.int .i64 r) ∧ Left r q (Prog.wt x) ∧ Ext w w' := by
  obtain ⟨A0, n0, c0, A1, n1, c1, rfl, ⟨kh0, mh0, h0⟩, ⟨kh1, mh1, h1⟩⟩ := h
  have H0 := Lib.hid h0
  have H1 := Lib.hid h1
  clear h0 h1
  show Calls Tryz.prog _ #[.agg #[.slice A0 n0 c0, .slice A1 n1 c1], .int .i64 q] w _
  go_enter Tryz.func47, Tryz.ntmps47
  go_wp2_with fail
  have L0 := Lib.hid (H0.out.flen GOp.cells_length (by omega))
  refine (szGOpS_any _ _ _ (q) _ hq0 hq2 mh0).mono ?_
  rintro e w1 ⟨rfl, xq⟩
  have x1 := Ext.of_eq xq
  clear xq
  have Q0 : Hid (Left (if (n0 : Int) ≤ q then q - n0 else -1) q (x.code_.length)) := by show Left _ _ _; rw [L0.out]; exact Left.of_if
  generalize (if (n0 : Int) ≤ q then q - n0 else -1) = r0 at Q0
  have X1 : Ext w w1 := Ext.tr (((Ext.refl' w).al _)) x1
  have b1 : Hid (Bx w1 w.heap.size 110 #[.slice A0 n0 c0, .slice A1 n1 c1]) := Bx.ext (Bx.new' _ _ _ rfl) x1
  clear x1
  have R0 : Hid (Left r0 q (x.code_.length)) := Q0
  by_cases g0 : 0 ≤ r0
  rotate_left
  · have e0 : r0 = -1 := by have a := R0.out; unfold Left at a; omega
    subst e0
    clear g0
    go_wp2
    go_ret
    exact ⟨-1, rfl, by have a := R0.out; unfold Left Prog.wt at *; omega, X1⟩
  have u0 : r0 ≤ 1048576 := by have a := R0.out; unfold Left at a; omega
  have ca1_1 : w1.cell? ⟨w.heap.size, 1, none⟩ = some (.slice A1 n1 c1) := b1.out.cell 1
  go_wp2_with fail
  refine (szKidS_any _ _ _ x.kids_ (r0) _ S (SlR.ext Kid.R_good H1.out (X1)) mh1 g0 u0).mono ?_
  rintro e w2 ⟨r1, rfl, Q1, x2⟩
  replace Q1 := Lib.hid Q1
  have X2 : Ext w w2 := Ext.tr (X1) x2
  have b2 : Hid (Bx w2 w.heap.size 110 #[.slice A0 n0 c0, .slice A1 n1 c1]) := Bx.ext (b1.out) x2
  clear x2
  have R1 : Hid (Left r1 q (x.code_.length + wtl Kid.wt x.kids_)) := by show Left _ _ _; have a := R0.out; have b := Q1.out; unfold Left at *; omega
  by_cases g1 : 0 ≤ r1
  rotate_left
  · have e1 : r1 = -1 := by have a := R1.out; unfold Left at a; omega
    subst e1
    clear g1
    go_wp2
    go_ret
    exact ⟨-1, rfl, by have a := R1.out; unfold Left Prog.wt at *; omega, X2⟩
  have u1 : r1 ≤ 1048576 := by have a := R1.out; unfold Left at a; omega
  go_wp2
  go_ret
  exact ⟨r1, rfl, R1.out, X2⟩
set_option maxRecDepth 8000 in
set_option maxHeartbeats 4000000 in
theorem szProgS_any (A : Option Addr) (n c : Nat) (l : List Prog) (q : Int) (w : World) (S : Nat → Prop) (hs : SlR Prog.R 2 w S A n l) (hm : n ≤ 9223372036854775807) (hq0 : 0 ≤ q) (hq2 : q ≤ 1048576) :
    Calls Tryz.prog 13 #[.slice A n c, .int .i64 q] w fun e w' => ∃ r : Int, e = .returned (.int .i64 r) ∧ Left r q (wtl Prog.wt l) ∧ Ext w w' := by
  have H := Lib.hid hs.1
  have HL := Lib.hid (wtl_len Prog.wt l)
  by_cases hn : (n : Int) ≤ q
  rotate_left
  · go_enter Tryz.func13, Tryz.ntmps13
    go_wp2
    go_ret
    exact ⟨-1, by first | rfl | (simp; done) | simp [hn], .inr ⟨by have a := H.out; have b := HL.out; omega, rfl⟩, Ext.refl' _⟩
  have HS := Lib.hid hs
  clear hs
  go_enter Tryz.func13, Tryz.ntmps13
  go_wp2
  go_loopw [1, 5] (fun u i wr => ∃ (k : Nat) (r : Int), k ≤ n ∧ i = .int .i64 k ∧ u = .int .i64 r ∧ 0 ≤ r ∧ r ≤ 1048576 ∧ Hid (r = q - n + k - wtl Prog.wt (l.take k)) ∧ Ext w wr) (fun _ i _ => n - (intOf i).toNat)
  case atStart => exact ⟨0, q - n, Nat.zero_le _, rfl, rfl, by omega, by omega, by show _ = _; simp [wtl], Ext.refl' _⟩
  case round =>
    obtain ⟨k, r, hk, rfl, rfl, hr0, hr2, HR, hx⟩ := hrel
    have HX := Lib.hid hx
    clear hx
    by_cases hlt : (k : Int) < (n : Int)
    rotate_left
    · have e : Hid (k = n) := by show k = n; omega
      go_wp2
      go_ret
      exact ⟨r, rfl, .inl (by have h1 := HR.out; rw [e.out, ← H.out, List.take_length] at h1; have h2 := H.out; omega), HX.out⟩
    obtain ⟨b, o, rfl⟩ := HS.out.addr (by omega)
    obtain ⟨x, row, hxk, -, hrw, hc⟩ := (HS.out.ext Prog.R_good HX.out).at_ (k := k) (by omega)
    have hrg := Lib.hid (SlR.range Prog.R_good hrw hc)
    have hln : Hid ((Tryz.prog.info? 110).map (·.size) = some row.length) := by show _ = _; rw [Prog.R_good.len hrw]; exact Prog.size_laws
    have HRW := Lib.hid hrw
    have HW := Lib.hid (wtl_take Prog.wt hxk)
    have HLE := Lib.hid (wtl_le Prog.wt l (k + 1))
    have HTL := Lib.hid (wtl_len Prog.wt (l.drop (k + 1)))
    clear hrw hc hxk
    go_wp2_with (refine wpList_load_mid rfl 110 _ rfl b (o + k * 2) rfl row _ hrg.out Tryz.underlying110 rfl hln.out ?_)
    refine (szProg_any x _ r _ S HRW.out hr0 hr2).mono ?_
    rintro e w2 ⟨r2, rfl, Q, x2⟩
    have X2 := Lib.hid (HX.out.tr x2)
    have HQ := Lib.hid Q
    clear x2 Q
    by_cases g : 0 ≤ r2
    rotate_left
    · have e : r2 = -1 := by have a := HQ.out; unfold Left at a; omega
      subst e
      clear g
      go_wp2
      go_ret
      exact ⟨-1, rfl, .inr ⟨by have a := HQ.out; have b := HW.out; have c := HR.out; have d := HLE.out; have e := H.out; have f := wtl_rest Prog.wt l (k + 1); unfold Left at a; omega, rfl⟩, X2.out⟩
    have g2 : r2 ≤ 1048576 := by have a := HQ.out; unfold Left at a; omega
    go_wp2
    go_roundw
    case rel => exact ⟨k + 1, r2, by omega, by go_num, rfl, g, g2, by show _ = _; have a := HQ.out; have b := HW.out; have c := HR.out; unfold Left at a; omega, X2.out⟩
    case measure => simp [intOf]; omega
set_option maxRecDepth 8000 in
set_option maxHeartbeats 8000000 in
theorem toProg_any (x : Prog) (cs : List Value) (w : World) (S : Nat → Prop) (h : Prog.R w S cs x) (hw : Prog.wt x ≤ 1048576) :
    Calls Tryz.prog 59 #[.agg cs.toArray] w fun e w' => ∃ cs', e = .returned (.agg cs'.toArray) ∧ Prog.W w' (fun g => w.heap.size ≤ g ∧ g < w'.heap.size) cs' x ∧ Ext w w' := by
  obtain ⟨A0, n0, c0, A1, n1, c1, rfl, ⟨kh0, mh0, h0⟩, ⟨kh1, mh1, h1⟩⟩ := h
  unfold Prog.wt at hw
  have l0 := h0.flen GOp.cells_length (by omega)
  have n_0 : n0 ≤ 1048576 := by omega
  have l1 := h1.1
  have t1 := wtl_len Kid.wt x.kids_
  have n_1 : n1 ≤ 1048576 := by omega
  have W_1 : wtl Kid.wt x.kids_ ≤ 1048576 := by omega
  have H0 := Lib.hid h0
  have H1 := Lib.hid h1
  clear h0 h1 hw l0 l1 t1
  show Calls Tryz.prog _ #[.agg #[.slice A0 n0 c0, .slice A1 n1 c1]] w _
  go_enter Tryz.func59, Tryz.ntmps59
  go_wp2_with fail
  refine (toGOpS_any _ _ _ _ _ S (H0.out.ext ((((Ext.refl' w).al _).al _).al _)) n_0).mono ?_
  rintro e w1 ⟨B0, d0, rfl, o0, x1⟩
  have K0 : Hid (n0 ≤ d0) := own_cap o0
  replace o0 := Lib.hid (OwS.of_own o0)
  have z1 : w.heap.size + 3 ≤ w1.heap.size := by have h := x1.size; (try simp at h); omega
  have ba1 : Hid (Bx w1 (w.heap.size) 110 #[.slice A0 n0 c0, .slice A1 n1 c1]) := Bx.ext (((Bx.new' _ _ _ rfl).al _).al _) x1
  have br1 : Hid (Bx w1 (w.heap.size + 1) 145 #[.slice none 0 0, .slice none 0 0]) := Bx.ext ((Bx.new' _ _ _ (by simp)).al _) x1
  have bo1 : Hid (Bx w1 (w.heap.size + 2) 145 #[.slice none 0 0, .slice none 0 0]) := Bx.ext (Bx.new' _ _ _ (by simp)) x1
  have X1 : Ext w w1 := Ext.tr ((((Ext.refl' w).al _).al _).al _) x1
  replace o0 : Hid (OwS w1 (fun g => w.heap.size + 3 ≤ g ∧ g < w1.heap.size) 213 4 B0 n0 d0 (x.code_.flatMap GOp.cells)) := o0.out.mono (fun g _ hg => by have h1 := hg.1; have h2 := hg.2; constructor <;> (try simp at h1) <;> omega)
  clear x1
  have ca1_1 : w1.cell? ⟨w.heap.size, 1, none⟩ = some (.slice A1 n1 c1) := ba1.out.cell 1
  have co1_0 : w1.cell? ⟨w.heap.size + 2, 0, none⟩ = some (.slice none 0 0) := bo1.out.cell 0
  have fo1_0 : w1.frozen? ⟨w.heap.size + 2, 0, none⟩ = false := bo1.out.frozen 0
  go_wp2_with fail
  refine (toKidS_any _ _ _ x.kids_ _ S (SlR.ext Kid.R_good H1.out ((X1).sc (by first | (simp; done) | (simp; omega)) _)) n_1 W_1).mono ?_
  rintro e w2 ⟨B1, d1, rfl, o1, x2⟩
  replace o1 := Lib.hid o1
  have z2 : w.heap.size + 3 ≤ w2.heap.size := by have h := x2.size; (try simp at h); omega
  have y2 : w1.heap.size ≤ w2.heap.size := by have h := x2.size; (try simp at h); exact h
  have ba2 : Hid (Bx w2 (w.heap.size) 110 #[.slice A0 n0 c0, .slice A1 n1 c1]) := Bx.ext ((ba1.out).far (by first | (simp; done) | (simp; omega)) _) x2
  have br2 : Hid (Bx w2 (w.heap.size + 1) 145 #[.slice none 0 0, .slice none 0 0]) := Bx.ext ((br1.out).far (by first | (simp; done) | (simp; omega)) _) x2
  have bo2 : Hid (Bx w2 (w.heap.size + 2) 145 #[.slice B0 n0 d0, .slice none 0 0]) := Bx.ext (((bo1.out).set_ _ _).cast (by first | rfl | simp only [List.setIfInBounds_toArray, List.set_cons_succ, List.set_cons_zero])) x2
  have X2 : Ext w w2 := Ext.tr ((X1).sc (by first | (simp; done) | (simp; omega)) _) x2
  replace o0 := Lib.hid (o0.out.chg (Chg.trans ((Chg.refl (fun g => g = w.heap.size + 2) _).sc rfl _) (x2.chg _)) (fun g hg q => by have h1 := hg.1; have hq3 : g = w.heap.size + 2 := q; omega))
  replace o1 : Hid (SlW Kid.W 217 1 w2 (fun g => w1.heap.size ≤ g ∧ g < w2.heap.size) B1 n1 d1 x.kids_) := o1.out.mono Kid.W_good (fun g hg => by have h1 := hg.1; have h2 := hg.2; constructor <;> (try simp at h1) <;> omega)
  clear x2
  have co2_0 : w2.cell? ⟨w.heap.size + 2, 0, none⟩ = some (.slice B0 n0 d0) := bo2.out.cell 0
  have co2_1 : w2.cell? ⟨w.heap.size + 2, 1, none⟩ = some (.slice none 0 0) := bo2.out.cell 1
  have fo2_1 : w2.frozen? ⟨w.heap.size + 2, 1, none⟩ = false := bo2.out.frozen 1
  have cr2_0 : w2.cell? ⟨w.heap.size + 1, 0, none⟩ = some (.slice none 0 0) := br2.out.cell 0
  have fr2_0 : w2.frozen? ⟨w.heap.size + 1, 0, none⟩ = false := br2.out.frozen 0
  have cr2_1 : w2.cell? ⟨w.heap.size + 1, 1, none⟩ = some (.slice none 0 0) := br2.out.cell 1
  have fr2_1 : w2.frozen? ⟨w.heap.size + 1, 1, none⟩ = false := br2.out.frozen 1
  go_wp2
  refine bodyPost_ret (v := .agg #[.slice B0 n0 d0, .slice B1 n1 d1]) (by simp [results, Tryz.results59, go_sem, cr2_0, cr2_1]) rfl ⟨[.slice B0 n0 d0, .slice B1 n1 d1], rfl, ?_, ?_⟩
  · refine (?_ : ∀ wz, Chg (fun g => g = w.heap.size + 2 ∨ g = w.heap.size + 1) w2 wz → Prog.W wz (fun g => w.heap.size ≤ g ∧ g < wz.heap.size) [.slice B0 n0 d0, .slice B1 n1 d1] x) _ ((((Chg.refl (fun g => g = w.heap.size + 2 ∨ g = w.heap.size + 1) _).sc (by first | (simp; done) | (simp; omega)) _).sc (by first | (simp; done) | (simp; omega)) _).sc (by first | (simp; done) | (simp; omega)) _)
    intro wz cc
    have zz := cc.size
    exact ⟨B0, n0, d0, B1, n1, d1, lb [w1.heap.size, w2.heap.size], rfl, ⟨K0.out, mh0, (o0.out.chg cc (fun g hg q => by have h1 := hg.1; have hq3 : g = w.heap.size + 2 ∨ g = w.heap.size + 1 := q; omega)).mono (fun g _ hg => ⟨⟨by have h1 := hg.1; omega, by have h2 := hg.2; omega⟩, by have h1 := hg.1; have h2 := hg.2; exact lb_here (by omega)⟩)⟩, ⟨SlW.cap o1.out, mh1, (o1.out.chg Kid.W_good cc (fun g hg q => by have h1 := hg.1; have hq3 : g = w.heap.size + 2 ∨ g = w.heap.size + 1 := q; omega)).mono Kid.W_good (fun g hg => ⟨⟨by have h1 := hg.1; omega, by have h2 := hg.2; omega⟩, by have h1 := hg.1; have h2 := hg.2; exact lb_next (by omega) (lb_here (by omega))⟩)⟩⟩
  · exact (((X2).sc (by first | (simp; done) | (simp; omega)) _).sc (by first | (simp; done) | (simp; omega)) _).sc (by first | (simp; done) | (simp; omega)) _
theorem Tryz.infoProg : (Tryz.prog.info? 145).map (fun i => (i.zero, i.size, i.bytes)) = some (some (.agg #[.slice none 0 0, .slice none 0 0]), 2, 48) := by kernel_rfl
set_option maxRecDepth 8000 in
set_option maxHeartbeats 8000000 in
theorem toProgS_any (A : Option Addr) (n c : Nat) (l : List Prog) (w : World) (S : Nat → Prop) (hs : SlR Prog.R 2 w S A n l) (hm : n ≤ 1048576) (hw : wtl Prog.wt l ≤ 1048576) :
    Calls Tryz.prog 26 #[.slice A n c] w fun e w' => ∃ B d, e = .returned (.slice B n d) ∧ SlW Prog.W 145 2 w' (fun g => w.heap.size ≤ g ∧ g < w'.heap.size) B n d l ∧ Ext w w' := by
  obtain ⟨w1, cs0, hmk, hown, -, hx1, hlt⟩ := made_row (P := Tryz.prog) w 43 145 _ _ _ Tryz.underlying43 Tryz.infoProg n (by omega) (by unfold maxLen; omega)
  have HO := Lib.hid hown
  have HX := Lib.hid hx1
  have HS := Lib.hid hs
  have HLL := Lib.hid hs.1
  have HW0 := Lib.hid hw
  clear hown hx1 hs hw
  go_enter Tryz.func26, Tryz.ntmps26
  go_wp2
  go_loopw [4] (fun i wr => ∃ (k : Nat) (cs : List Value) (lab : Nat → Nat), k ≤ n ∧ i = .int .i64 k ∧ Hid (wr.ownsRow w.heap.size 145 2 (.slice (some ⟨w.heap.size, 0, none⟩) n n) n cs) ∧ Hid (WRows Prog.W 2 wr (fun g => w.heap.size < g ∧ g < wr.heap.size) lab cs l k) ∧ Ext w wr) (fun i _ => n - (intOf i).toNat)
  case atStart => exact ⟨0, _, fun _ => 0, Nat.zero_le _, rfl, HO, WRows.zero _ _ _ _ _ _ _, HX.out⟩
  case round =>
    obtain ⟨k, cs, lab, hk, rfl, HO2, HU, hx⟩ := hrel
    have HX2 := Lib.hid hx
    clear hx
    by_cases hlt : (k : Int) < (n : Int)
    rotate_left
    · have e : Hid (k = n) := by show k = n; omega
      go_wp2
      go_ret
      refine ⟨_, _, rfl, ⟨HLL.out, cs, fun g => if w.heap.size < g then lab g else 0, ⟨own_base HO2.out (Nat.zero_le _), fun g hg => ?_⟩, fun i hi x hxi => ?_⟩, HX2.out⟩
      · have e : some w.heap.size = some g := hg
        injection e with e
        subst e
        exact ⟨⟨Nat.le_refl _, (HO2.out.lt _ rfl).2⟩, if_neg (Nat.lt_irrefl _)⟩
      · obtain ⟨row, hr, hj⟩ := HU.out i (by have h := e.out; omega) x hxi
        exact ⟨row, Prog.W_good.mono hr fun g hg => ⟨⟨by have h := hg.1.1; omega, hg.1.2⟩, (if_pos hg.1.1).trans hg.2⟩, hj⟩
    obtain ⟨b, o, rfl⟩ := HS.out.addr (by omega)
    obtain ⟨x, row, hxk, -, hrw, hc⟩ := (HS.out.ext Prog.R_good HX2.out).at_ (k := k) (by omega)
    have hrg := Lib.hid (SlR.range Prog.R_good hrw hc)
    have hln : Hid ((Tryz.prog.info? 110).map (·.size) = some row.length) := by show _ = _; rw [Prog.R_good.len hrw]; exact Prog.size_laws
    have HRW := Lib.hid hrw
    have HXK := Lib.hid hxk
    have HKW := Lib.hid (Nat.le_trans (wtl_at Prog.wt hxk) HW0.out)
    have HLT : Hid (k < n) := by show k < n; omega
    clear hrw hc hxk
    go_wp2_with (refine wpList_load_mid rfl 110 _ rfl b (o + k * 2) rfl row _ hrg.out Tryz.underlying110 rfl hln.out ?_)
    refine (toProg_any x _ _ S HRW.out HKW.out).mono ?_
    rintro e w2 ⟨cv, rfl, hW, hx2⟩
    have HWW := Lib.hid hW
    have HO3 := Lib.hid (own_ext HO2.out hx2)
    have z0 : w.heap.size < wr.heap.size := (HO2.out.lt _ rfl).2
    have z1 : wr.heap.size ≤ w2.heap.size := hx2.size
    have HX3 := Lib.hid hx2
    have hcz : cv.toArray.size = 2 := Eq.trans (List.size_toArray ..) (Prog.W_good.len hW)
    have hth : Hid (w2.there w.heap.size (k * 2) cv.toArray.size) := by show World.there _ _ _ _; rw [hcz]; exact own_there HO3.out HLT.out
    have hsz : Hid ((Tryz.prog.info? 145).map (·.size) = some cv.toArray.size) := by show _ = _; rw [hcz]; exact Prog.size_info
    have hon : Hid (cv.toArray.all (·.oneCell') = true) := all_oneCell_toArray (Prog.W_one hW)
    clear hx2 hW hcz
    go_wp2_with (refine wpList_store_mid rfl 145 _ _ rfl w.heap.size (k * 2) cv.toArray rfl rfl hth.out hsz.out hon.out ?_)
    go_roundw
    case rel =>
      have hl3 : cs.length = n * 2 := HO2.out.1
      have hkn := HLT.out
      have hcl := Prog.W_good.len HWW.out
      have cc : Chg (fun g => g = w.heap.size) w2 (w2.setCells w.heap.size (k * 2) cv) := Chg.cells (S := fun g => g = w.heap.size) rfl cv _ (Chg.refl _ _)
      have hsize : w2.heap.size ≤ (w2.setCells w.heap.size (k * 2) cv).heap.size := cc.size
      refine ⟨k + 1, putAt cs (k * 2) cv, _, by omega, by go_num, Lib.hid (own_cells cv (k * 2) HO3.out), Lib.hid (WRows.step (b := wr.heap.size) Prog.W_good HU.out (fun g hg => hg.2) (Chg.trans (HX3.out.chg _) cc) (fun g hg q => by have h1 := hg.1; have h2 : g = w.heap.size := q; omega) (fun g hg => ⟨hg.1, by have h := hg.2; show g < (w2.setCells _ _ cv).heap.size; omega⟩) HXK.out (Prog.W_good.mono (Prog.W_good.chg HWW.out cc (fun g hg q => by have h1 := hg.1; have h2 : g = w.heap.size := q; omega)) (fun g hg => ⟨⟨by have h1 := hg.1; omega, by have h := hg.2; show g < (w2.setCells _ _ cv).heap.size; omega⟩, hg.1⟩)) (fun j hj => putAt_lt _ _ _ _ hj) (fun j hj => putAt_at _ _ _ _ (by omega) (by omega))), ?_⟩
      exact (HX2.out.tr HX3.out).cells (Nat.le_refl _) cv _
    case measure => have h := HLT.out; simp [intOf]; omega
set_option maxRecDepth 8000 in
set_option maxHeartbeats 8000000 in
theorem eqProg_same (x : Prog) (cs cs' : List Value) (w : World) (S S' : Nat → Prop) (h : Prog.R w S cs x) (u : Prog.R w S' cs' x) :
    Calls Tryz.prog 80 #[.agg cs.toArray, .agg cs'.toArray] w fun e w' => e = .returned (.bool true) ∧ Ext w w' := by
  obtain ⟨A0, n0, c0, A1, n1, c1, rfl, ⟨kh0, mh0, h0⟩, ⟨kh1, mh1, h1⟩⟩ := h
  obtain ⟨B0, p0, d0, B1, p1, d1, rfl, ⟨ku0, mu0, u0⟩, ⟨ku1, mu1, u1⟩⟩ := u
  obtain rfl : n0 = p0 := by have a := h0.flen GOp.cells_length (by omega); have b := u0.flen GOp.cells_length (by omega); omega
  obtain rfl : n1 = p1 := by have a := h1.1; have b := u1.1; omega
  have H0 := Lib.hid h0
  have U0 := Lib.hid u0
  have H1 := Lib.hid h1
  have U1 := Lib.hid u1
  clear h0 u0 h1 u1
  show Calls Tryz.prog _ #[.agg #[.slice A0 n0 c0, .slice A1 n1 c1], .agg #[.slice B0 n0 d0, .slice B1 n1 d1]] w _
  go_enter Tryz.func80, Tryz.ntmps80
  go_wp2_with fail
  refine (eqGOpS_same _ _ _ _ _ _ _ S S' (H0.out.ext (((Ext.refl' w).al _).al _)) (U0.out.ext (((Ext.refl' w).al _).al _)) mh0).mono ?_
  rintro e w1 ⟨rfl, x1⟩
  have z1 : w.heap.size + 2 ≤ w1.heap.size := by have h := x1.size; (try simp at h); omega
  have ba1 : Hid (Bx w1 (w.heap.size) 145 #[.slice A0 n0 c0, .slice A1 n1 c1]) := Bx.ext ((Bx.new' _ _ _ rfl).al _) x1
  have bb1 : Hid (Bx w1 (w.heap.size + 1) 145 #[.slice B0 n0 d0, .slice B1 n1 d1]) := Bx.ext (Bx.new' _ _ _ (by simp)) x1
  have X1 : Ext w w1 := Ext.tr (((Ext.refl' w).al _).al _) x1
  clear x1
  have ca1_1 : w1.cell? ⟨w.heap.size, 1, none⟩ = some (.slice A1 n1 c1) := ba1.out.cell 1
  have cb1_1 : w1.cell? ⟨w.heap.size + 1, 1, none⟩ = some (.slice B1 n1 d1) := bb1.out.cell 1
  go_wp2_with fail
  refine (eqKidS_same _ _ _ _ _ x.kids_ _ S S' (SlR.ext Kid.R_good H1.out (X1)) (SlR.ext Kid.R_good U1.out (X1)) mh1).mono ?_
  rintro e w2 ⟨rfl, x2⟩
  have z2 : w.heap.size + 2 ≤ w2.heap.size := by have h := x2.size; (try simp at h); omega
  have ba2 : Hid (Bx w2 (w.heap.size) 145 #[.slice A0 n0 c0, .slice A1 n1 c1]) := Bx.ext (ba1.out) x2
  have bb2 : Hid (Bx w2 (w.heap.size + 1) 145 #[.slice B0 n0 d0, .slice B1 n1 d1]) := Bx.ext (bb1.out) x2
  have X2 : Ext w w2 := Ext.tr (X1) x2
  clear x2
  go_wp2
  go_ret
  exact ⟨rfl, X2⟩
set_option maxRecDepth 8000 in
set_option maxHeartbeats 8000000 in
theorem eqProgS_same (A B : Option Addr) (n c d : Nat) (l : List Prog) (w : World) (S S' : Nat → Prop) (ha : SlR Prog.R 2 w S A n l) (hb : SlR Prog.R 2 w S' B n l) (hm : n ≤ 9223372036854775807) :
    Calls Tryz.prog 39 #[.slice A n c, .slice B n d] w fun e w' => e = .returned (.bool true) ∧ Ext w w' := by
  have HA := Lib.hid ha
  have HB := Lib.hid hb
  clear ha hb
  go_enter Tryz.func39, Tryz.ntmps39
  go_wp2
  go_loopw [5] (fun i wr => ∃ (k : Nat), k ≤ n ∧ i = .int .i64 k ∧ Ext w wr) (fun i _ => n - (intOf i).toNat)
  case atStart => exact ⟨0, Nat.zero_le _, rfl, Ext.refl' _⟩
  case round =>
    obtain ⟨k, hk, rfl, hx⟩ := hrel
    have HX := Lib.hid hx
    clear hx
    by_cases hlt : (k : Int) < (n : Int)
    rotate_left
    · go_wp2
      go_ret
      exact ⟨rfl, HX.out⟩
    obtain ⟨b, o, rfl⟩ := HA.out.addr (by omega)
    obtain ⟨b2, o2, rfl⟩ := HB.out.addr (by omega)
    obtain ⟨x, row, hxk, -, hrw, hc⟩ := (HA.out.ext Prog.R_good HX.out).at_ (k := k) (by omega)
    obtain ⟨y, row2, hyk, -, hrw2, hc2⟩ := (HB.out.ext Prog.R_good HX.out).at_ (k := k) (by omega)
    rw [hxk] at hyk
    injection hyk with hyk
    subst hyk
    have rx := Lib.hid (SlR.range Prog.R_good hrw hc)
    have ry := Lib.hid (SlR.range Prog.R_good hrw2 hc2)
    have RX := Lib.hid hrw
    have RY := Lib.hid hrw2
    have l1 : Hid ((Tryz.prog.info? 145).map (·.size) = some row.length) := by show _ = _; rw [Prog.R_good.len hrw]; exact Prog.size_info
    have l2 : Hid ((Tryz.prog.info? 145).map (·.size) = some row2.length) := by show _ = _; rw [Prog.R_good.len hrw2]; exact Prog.size_info
    have KX : Hid (∀ wq, Ext wr wq → wq.rangeAt b (o + k * 2) row) := fun wq q j v hv => q.co (rx.out j v hv)
    have KY : Hid (∀ wq, Ext wr wq → wq.rangeAt b2 (o2 + k * 2) row2) := fun wq q j v hv => q.co (ry.out j v hv)
    have hk0 : (0 : Int) ≤ (k : Int) := by omega
    clear hrw hrw2 hc hc2 hxk
    go_wp2
    refine region_class (fun w' => Ext wr w') (by kernel_rfl) (by kernel_rfl) ((Ext.refl' _).dr) ?_
    repeat (first | go_big_quiet_skip | (go_big_quiet_want; first | (refine quiet_load 145 _ rfl b (o + k * 2) rfl row _ KX.out Tryz.underlying145 rfl l1.out ?_; (try simp only [Act.put, List.setIfInBounds_toArray, List.set_cons_zero, List.set_cons_succ]); go_big_quiet_on) | (refine quiet_load 145 _ rfl b2 (o2 + k * 2) rfl row2 _ KY.out Tryz.underlying145 rfl l2.out ?_; (try simp only [Act.put, List.setIfInBounds_toArray, List.set_cons_zero, List.set_cons_succ]); go_big_quiet_on) | (unfold Oper.quiet; apply Exists.intro; refine ⟨fun wq hq => ?_, ?_⟩; (go_simp; first | done | rfl | (go_at_call 80; exact (eqProg_same x row row2 _ S S' (Prog.R_good.ext RX.out hq) (Prog.R_good.ext RY.out hq)).mono fun e w2 h2 => ⟨h2.1, hq.tr h2.2⟩)); (try simp only [Act.put, List.setIfInBounds_toArray, List.set_cons_zero, List.set_cons_succ]); go_big_quiet_on)))
    refine wpQuiet_nil ?_
    intro wq hq
    have XE := Lib.hid hq
    clear hq
    go_wp2
    go_roundw
    case rel => exact ⟨k + 1, by omega, by go_num, HX.out.tr XE.out⟩
    case measure => simp [intOf]; omega
/-! ### Script -/
structure Script where
  start_ : Things
  progs_ : List Prog
  acts_ : List GAct
deriving Inhabited
def Script.wt (x : Script) : Nat := Things.wt x.start_ + wtl Prog.wt x.progs_ + x.acts_.length
def Script.R (w : World) (S : Nat → Prop) (cs : List Value) (x : Script) : Prop := ∃ (v0 : List Value) (A1 : Option Addr) (n1 c1 : Nat) (A2 : Option Addr) (n2 c2 : Nat), cs = v0 ++ [.slice A1 n1 c1, .slice A2 n2 c2] ∧ Things.R w S v0 x.start_ ∧ (n1 ≤ c1 ∧ n1 ≤ 9223372036854775807 ∧ SlR Prog.R 2 w S A1 n1 x.progs_) ∧ (n2 ≤ c2 ∧ n2 ≤ 9223372036854775807 ∧ Sl w S 3 A2 n2 (x.acts_.flatMap GAct.cells))
def Script.W (w : World) (S : Nat → Prop) (cs : List Value) (x : Script) : Prop := ∃ (v0 : List Value) (A1 : Option Addr) (n1 c1 : Nat) (A2 : Option Addr) (n2 c2 : Nat) (lab : Nat → Nat), cs = v0 ++ [.slice A1 n1 c1, .slice A2 n2 c2] ∧ Things.W w (fun g => S g ∧ lab g = 0) v0 x.start_ ∧ (n1 ≤ c1 ∧ n1 ≤ 9223372036854775807 ∧ SlW Prog.W 145 2 w (fun g => S g ∧ lab g = 1) A1 n1 c1 x.progs_) ∧ (n2 ≤ c2 ∧ n2 ≤ 9223372036854775807 ∧ OwS w (fun g => S g ∧ lab g = 2) 148 3 A2 n2 c2 (x.acts_.flatMap GAct.cells))
theorem Script.R_good : Good Script.R 5 := ⟨fun {_ _ _ _} h => by
    obtain ⟨v0, A1, n1, c1, A2, n2, c2, rfl, h0, ⟨kh1, mh1, h1⟩, ⟨kh2, mh2, h2⟩⟩ := h
    simp [Things.R_good.len h0],
  fun {_ _ _ _ _ _} h k hd => by
    obtain ⟨v0, A1, n1, c1, A2, n2, c2, rfl, h0, ⟨kh1, mh1, h1⟩, ⟨kh2, mh2, h2⟩⟩ := h
    exact ⟨_, _, _, _, _, _, _, rfl, Things.R_good.chg h0 k hd, ⟨kh1, mh1, h1.chg Prog.R_good k hd⟩, ⟨kh2, mh2, h2.chg k hd⟩⟩,
  fun {_ _ _ _ _} h hs => by
    obtain ⟨v0, A1, n1, c1, A2, n2, c2, rfl, h0, ⟨kh1, mh1, h1⟩, ⟨kh2, mh2, h2⟩⟩ := h
    exact ⟨_, _, _, _, _, _, _, rfl, Things.R_good.mono h0 hs, ⟨kh1, mh1, h1.mono Prog.R_good hs⟩, ⟨kh2, mh2, h2.mono hs⟩⟩⟩
theorem Script.W_good : Good Script.W 5 := ⟨fun {_ _ _ _} h => by
    obtain ⟨v0, A1, n1, c1, A2, n2, c2, lab, rfl, h0, ⟨kh1, mh1, h1⟩, ⟨kh2, mh2, h2⟩⟩ := h
    simp [Things.W_good.len h0],
  fun {_ _ _ _ _ _} h k hd => by
    obtain ⟨v0, A1, n1, c1, A2, n2, c2, lab, rfl, h0, ⟨kh1, mh1, h1⟩, ⟨kh2, mh2, h2⟩⟩ := h
    exact ⟨_, _, _, _, _, _, _, lab, rfl, Things.W_good.chg h0 k fun i hi => hd i hi.1, ⟨kh1, mh1, h1.chg Prog.W_good k fun i hi => hd i hi.1⟩, ⟨kh2, mh2, h2.chg k fun i hi => hd i hi.1⟩⟩,
  fun {_ _ _ _ _} h hs => by
    obtain ⟨v0, A1, n1, c1, A2, n2, c2, lab, rfl, h0, ⟨kh1, mh1, h1⟩, ⟨kh2, mh2, h2⟩⟩ := h
    exact ⟨_, _, _, _, _, _, _, lab, rfl, Things.W_good.mono h0 fun i hi => ⟨hs i hi.1, hi.2⟩, ⟨kh1, mh1, h1.mono Prog.W_good fun i hi => ⟨hs i hi.1, hi.2⟩⟩, ⟨kh2, mh2, h2.mono fun i _ hi => ⟨hs i hi.1, hi.2⟩⟩⟩⟩
theorem Script.W_R {w : World} {S : Nat → Prop} {cs : List Value} {x : Script} (h : Script.W w S cs x) : Script.R w S cs x := by
  obtain ⟨v0, A1, n1, c1, A2, n2, c2, lab, rfl, h0, ⟨kh1, mh1, h1⟩, ⟨kh2, mh2, h2⟩⟩ := h
  exact ⟨_, _, _, _, _, _, _, rfl, Things.R_good.mono (Things.W_R h0) fun i hi => hi.1, ⟨kh1, mh1, (h1.slr Prog.R_good Prog.W_R).mono Prog.R_good fun i hi => hi.1⟩, ⟨kh2, mh2, h2.sl.mono fun i hi => hi.1⟩⟩
theorem Script.R_cells {w : World} {S : Nat → Prop} {cs : List Value} {x : Script} (h : Script.R w S cs x) : ∃ (A0 : Option Addr) (n0 c0 : Nat) (A1 : Option Addr) (n1 c1 : Nat) (A2 : Option Addr) (n2 c2 : Nat) (A3 : Option Addr) (n3 c3 : Nat), cs = [.slice A0 n0 c0, .slice A1 n1 c1, .int .i64 x.start_.count_, .slice A2 n2 c2, .slice A3 n3 c3] := by
  obtain ⟨v0, A1, n1, c1, A2, n2, c2, rfl, h0, ⟨kh1, mh1, h1⟩, ⟨kh2, mh2, h2⟩⟩ := h
  obtain ⟨P0_0, p0_0, q0_0, P0_1, p0_1, q0_1, rfl⟩ := Things.R_cells h0
  exact ⟨P0_0, p0_0, q0_0, P0_1, p0_1, q0_1, A1, n1, c1, A2, n2, c2, rfl⟩
theorem Script.W_cells {w : World} {S : Nat → Prop} {cs : List Value} {x : Script} (h : Script.W w S cs x) : ∃ (A0 : Option Addr) (n0 c0 : Nat) (A1 : Option Addr) (n1 c1 : Nat) (A2 : Option Addr) (n2 c2 : Nat) (A3 : Option Addr) (n3 c3 : Nat), cs = [.slice A0 n0 c0, .slice A1 n1 c1, .int .i64 x.start_.count_, .slice A2 n2 c2, .slice A3 n3 c3] := by
  obtain ⟨v0, A1, n1, c1, A2, n2, c2, lab, rfl, h0, ⟨kh1, mh1, h1⟩, ⟨kh2, mh2, h2⟩⟩ := h
  obtain ⟨P0_0, p0_0, q0_0, P0_1, p0_1, q0_1, rfl⟩ := Things.W_cells h0
  exact ⟨P0_0, p0_0, q0_0, P0_1, p0_1, q0_1, A1, n1, c1, A2, n2, c2, rfl⟩
set_option maxRecDepth 8000 in
set_option maxHeartbeats 4000000 in
theorem opens_Script : Opens Tryz.prog 28 (fun w cs (x : Script) => Script.R w (fun _ => True) cs x) := by
  intro H enc w base spare held fuel cs x h
  obtain ⟨xs, n, _, _, hlen, hxl, hf⟩ := DataW.trod_struct Tryz.underlying28 h
  rw [show Tryz.prog.cellsOf 28 = 5 from by kernel_rfl] at hlen
  have hxl' : xs.length = 3 := hxl
  have h0 : DataW.trod enc Tryz.prog w base spare held n 24 ((cs.drop 0).take (Tryz.prog.cellsOf 24)) = xs[0]? := hf 0 _ rfl
  rw [show Tryz.prog.cellsOf 24 = 3 from by kernel_rfl, List.getElem?_eq_getElem (show 0 < xs.length by omega)] at h0
  obtain ⟨f0, r0⟩ := opens_Things H enc w base spare held n _ _ h0
  have h1 : DataW.trod enc Tryz.prog w base spare held n 25 ((cs.drop 3).take (Tryz.prog.cellsOf 25)) = xs[1]? := hf 1 _ rfl
  rw [show Tryz.prog.cellsOf 25 = 1 from by kernel_rfl, List.getElem?_eq_getElem (show 1 < xs.length by omega)] at h1
  obtain ⟨f1, A1, n1, c1, e1, g1, g1', s1⟩ := opens_deep Prog.R_good Tryz.underlying25 (by kernel_rfl) (by omega) opens_Prog H enc w base spare held n _ _ h1
  have h2 : DataW.trod enc Tryz.prog w base spare held n 26 ((cs.drop 4).take (Tryz.prog.cellsOf 26)) = xs[2]? := hf 2 _ rfl
  rw [show Tryz.prog.cellsOf 26 = 1 from by kernel_rfl, List.getElem?_eq_getElem (show 2 < xs.length by omega)] at h2
  obtain ⟨f2, A2, n2, c2, e2, g2, g2', -, -, s2⟩ := opens_flat Tryz.underlying26 (by kernel_rfl) (by omega) GAct.cells_length opens_GAct H enc w base spare held n _ _ h2
  clear h0 h1 h2 hf h hxl hxl'
  match cs, hlen with
  | [q0, q1, q2, q3, q4], _ =>
    simp only [List.drop_succ_cons, List.drop_zero, List.take_succ_cons, List.take_zero, List.cons.injEq, and_true] at e1 e2
    simp only [List.drop_succ_cons, List.drop_zero, List.take_succ_cons, List.take_zero] at r0
    subst e1
    subst e2
    exact ⟨⟨f0, f1, f2⟩, _, _, _, _, _, _, _, rfl, r0, ⟨g1, Nat.le_trans g1 g1', s1⟩, ⟨g2, Nat.le_trans g2 g2', s2⟩⟩
set_option maxRecDepth 8000 in
set_option maxHeartbeats 4000000 in
theorem szScript_any (x : Script) (cs : List Value) (q : Int) (w : World) (S : Nat → Prop) (h : Script.R w S cs x) (hq0 : 0 ≤ q) (hq2 : q ≤ 1048576) :
    Calls Tryz.prog 4 #[.agg cs.toArray, .int .i64 q] w fun e w' => ∃ r : Int, e = .returned (.int .i64 r) ∧ Left r q (Script.wt x) ∧ Ext w w' := by
  obtain ⟨v0, A2, n2, c2, A3, n3, c3, rfl, h0, ⟨kh1, mh1, h1⟩, ⟨kh2, mh2, h2⟩⟩ := h
  obtain ⟨A0, n0, c0, A1, n1, c1, rfl⟩ := Things.R_cells h0
  have H0 := Lib.hid h0
  have H1 := Lib.hid h1
  have H2 := Lib.hid h2
  clear h0 h1 h2
  simp only [List.cons_append, List.nil_append]
  go_enter Tryz.func4, Tryz.ntmps4
  go_wp2_with fail
  refine (szThings_any x.start_ _ (q) _ S (Things.R_good.ext H0.out (((Ext.refl' w).al _))) hq0 hq2).mono ?_
  rintro e w1 ⟨r0, rfl, Q0, x1⟩
  replace Q0 := Lib.hid Q0
  have X1 : Ext w w1 := Ext.tr (((Ext.refl' w).al _)) x1
  have b1 : Hid (Bx w1 w.heap.size 28 #[.slice A0 n0 c0, .slice A1 n1 c1, .int .i64 x.start_.count_, .slice A2 n2 c2, .slice A3 n3 c3]) := Bx.ext (Bx.new' _ _ _ rfl) x1
  clear x1
  have R0 : Hid (Left r0 q (Things.wt x.start_)) := Q0
  by_cases g0 : 0 ≤ r0
  rotate_left
  · have e0 : r0 = -1 := by have a := R0.out; unfold Left at a; omega
    subst e0
    clear g0
    go_wp2
    go_ret
    exact ⟨-1, rfl, by have a := R0.out; unfold Left Script.wt at *; omega, X1⟩
  have u0 : r0 ≤ 1048576 := by have a := R0.out; unfold Left at a; omega
  have ca1_3 : w1.cell? ⟨w.heap.size, 3, none⟩ = some (.slice A2 n2 c2) := b1.out.cell 3
  go_wp2_with fail
  refine (szProgS_any _ _ _ x.progs_ (r0) _ S (SlR.ext Prog.R_good H1.out (X1)) mh1 g0 u0).mono ?_
  rintro e w2 ⟨r1, rfl, Q1, x2⟩
  replace Q1 := Lib.hid Q1
  have X2 : Ext w w2 := Ext.tr (X1) x2
  have b2 : Hid (Bx w2 w.heap.size 28 #[.slice A0 n0 c0, .slice A1 n1 c1, .int .i64 x.start_.count_, .slice A2 n2 c2, .slice A3 n3 c3]) := Bx.ext (b1.out) x2
  clear x2
  have R1 : Hid (Left r1 q (Things.wt x.start_ + wtl Prog.wt x.progs_)) := by show Left _ _ _; have a := R0.out; have b := Q1.out; unfold Left at *; omega
  by_cases g1 : 0 ≤ r1
  rotate_left
  · have e1 : r1 = -1 := by have a := R1.out; unfold Left at a; omega
    subst e1
    clear g1
    go_wp2
    go_ret
    exact ⟨-1, rfl, by have a := R1.out; unfold Left Script.wt at *; omega, X2⟩
  have u1 : r1 ≤ 1048576 := by have a := R1.out; unfold Left at a; omega
  have ca2_4 : w2.cell? ⟨w.heap.size, 4, none⟩ = some (.slice A3 n3 c3) := b2.out.cell 4
  go_wp2_with fail
  have L2 := Lib.hid (H2.out.flen GAct.cells_length (by omega))
  refine (szGActS_any _ _ _ (r1) _ g1 u1 mh2).mono ?_
  rintro e w3 ⟨rfl, xq⟩
  have x3 := Ext.of_eq xq
  clear xq
  have Q2 : Hid (Left (if (n3 : Int) ≤ r1 then r1 - n3 else -1) r1 (x.acts_.length)) := by show Left _ _ _; rw [L2.out]; exact Left.of_if
  generalize (if (n3 : Int) ≤ r1 then r1 - n3 else -1) = r2 at Q2
  have X3 : Ext w w3 := Ext.tr (X2) x3
  have b3 : Hid (Bx w3 w.heap.size 28 #[.slice A0 n0 c0, .slice A1 n1 c1, .int .i64 x.start_.count_, .slice A2 n2 c2, .slice A3 n3 c3]) := Bx.ext (b2.out) x3
  clear x3
  have R2 : Hid (Left r2 q (Things.wt x.start_ + wtl Prog.wt x.progs_ + x.acts_.length)) := by show Left _ _ _; have a := R1.out; have b := Q2.out; unfold Left at *; omega
  by_cases g2 : 0 ≤ r2
  rotate_left
  · have e2 : r2 = -1 := by have a := R2.out; unfold Left at a; omega
    subst e2
    clear g2
    go_wp2
    go_ret
    exact ⟨-1, rfl, by have a := R2.out; unfold Left Script.wt at *; omega, X3⟩
  have u2 : r2 ≤ 1048576 := by have a := R2.out; unfold Left at a; omega
  go_wp2
  go_ret
  exact ⟨r2, rfl, R2.out, X3⟩
set_option maxRecDepth 8000 in
set_option maxHeartbeats 8000000 in
theorem toScript_any (x : Script) (cs : List Value) (w : World) (S : Nat → Prop) (h : Script.R w S cs x) (hw : Script.wt x ≤ 1048576) :
    Calls Tryz.prog 7 #[.agg cs.toArray] w fun e w' => ∃ cs', e = .returned (.agg cs'.toArray) ∧ Script.W w' (fun g => w.heap.size ≤ g ∧ g < w'.heap.size) cs' x ∧ Ext w w' := by
  obtain ⟨v0, A2, n2, c2, A3, n3, c3, rfl, h0, ⟨kh1, mh1, h1⟩, ⟨kh2, mh2, h2⟩⟩ := h
  obtain ⟨A0, n0, c0, A1, n1, c1, rfl⟩ := Things.R_cells h0
  unfold Script.wt at hw
  have W_0 : Things.wt x.start_ ≤ 1048576 := by omega
  have l1 := h1.1
  have t1 := wtl_len Prog.wt x.progs_
  have n_1 : n2 ≤ 1048576 := by omega
  have W_1 : wtl Prog.wt x.progs_ ≤ 1048576 := by omega
  have l2 := h2.flen GAct.cells_length (by omega)
  have n_2 : n3 ≤ 1048576 := by omega
  have H0 := Lib.hid h0
  have H1 := Lib.hid h1
  have H2 := Lib.hid h2
  clear h0 h1 h2 hw l1 l2 t1
  simp only [List.cons_append, List.nil_append]
  go_enter Tryz.func7, Tryz.ntmps7
  go_wp2_with fail
  refine (toThings_any x.start_ _ _ S (Things.R_good.ext H0.out ((((Ext.refl' w).al _).al _).al _)) W_0).mono ?_
  rintro e w1 ⟨cv, rfl, o0, x1⟩
  replace o0 := Lib.hid o0
  obtain ⟨B0, p0, d0, B1, p1, d1, rfl⟩ := Things.W_cells o0.out
  have z1 : w.heap.size + 3 ≤ w1.heap.size := by have h := x1.size; (try simp at h); omega
  have ba1 : Hid (Bx w1 (w.heap.size) 28 #[.slice A0 n0 c0, .slice A1 n1 c1, .int .i64 x.start_.count_, .slice A2 n2 c2, .slice A3 n3 c3]) := Bx.ext (((Bx.new' _ _ _ rfl).al _).al _) x1
  have br1 : Hid (Bx w1 (w.heap.size + 1) 46 #[.slice none 0 0, .slice none 0 0, .int .i64 0, .slice none 0 0, .slice none 0 0]) := Bx.ext ((Bx.new' _ _ _ (by simp)).al _) x1
  have bo1 : Hid (Bx w1 (w.heap.size + 2) 46 #[.slice none 0 0, .slice none 0 0, .int .i64 0, .slice none 0 0, .slice none 0 0]) := Bx.ext (Bx.new' _ _ _ (by simp)) x1
  have X1 : Ext w w1 := Ext.tr ((((Ext.refl' w).al _).al _).al _) x1
  replace o0 : Hid (Things.W w1 (fun g => w.heap.size + 3 ≤ g ∧ g < w1.heap.size) _ x.start_) := Things.W_good.mono o0.out (fun g hg => by have h1 := hg.1; have h2 := hg.2; constructor <;> (try simp at h1) <;> omega)
  clear x1
  have ca1_3 : w1.cell? ⟨w.heap.size, 3, none⟩ = some (.slice A2 n2 c2) := ba1.out.cell 3
  have co1_0 : w1.cell? ⟨w.heap.size + 2, 0, none⟩ = some (.slice none 0 0) := bo1.out.cell 0
  have co1_1 : w1.cell? ⟨w.heap.size + 2, 1, none⟩ = some (.slice none 0 0) := bo1.out.cell 1
  have co1_2 : w1.cell? ⟨w.heap.size + 2, 2, none⟩ = some (.int .i64 0) := bo1.out.cell 2
  have fo1_0 : w1.frozen? ⟨w.heap.size + 2, 0, none⟩ = false := bo1.out.frozen 0
  have fo1_1 : w1.frozen? ⟨w.heap.size + 2, 1, none⟩ = false := bo1.out.frozen 1
  have fo1_2 : w1.frozen? ⟨w.heap.size + 2, 2, none⟩ = false := bo1.out.frozen 2
  go_wp2_with fail
  refine (toProgS_any _ _ _ x.progs_ _ S (SlR.ext Prog.R_good H1.out ((((X1).sc (by first | (simp; done) | (simp; omega)) _).sc (by first | (simp; done) | (simp; omega)) _).sc (by first | (simp; done) | (simp; omega)) _)) n_1 W_1).mono ?_
  rintro e w2 ⟨B2, d2, rfl, o1, x2⟩
  replace o1 := Lib.hid o1
  have z2 : w.heap.size + 3 ≤ w2.heap.size := by have h := x2.size; (try simp at h); omega
  have y2 : w1.heap.size ≤ w2.heap.size := by have h := x2.size; (try simp at h); exact h
  have ba2 : Hid (Bx w2 (w.heap.size) 28 #[.slice A0 n0 c0, .slice A1 n1 c1, .int .i64 x.start_.count_, .slice A2 n2 c2, .slice A3 n3 c3]) := Bx.ext ((((ba1.out).far (by first | (simp; done) | (simp; omega)) _).far (by first | (simp; done) | (simp; omega)) _).far (by first | (simp; done) | (simp; omega)) _) x2
  have br2 : Hid (Bx w2 (w.heap.size + 1) 46 #[.slice none 0 0, .slice none 0 0, .int .i64 0, .slice none 0 0, .slice none 0 0]) := Bx.ext ((((br1.out).far (by first | (simp; done) | (simp; omega)) _).far (by first | (simp; done) | (simp; omega)) _).far (by first | (simp; done) | (simp; omega)) _) x2
  have bo2 : Hid (Bx w2 (w.heap.size + 2) 46 #[.slice B0 p0 d0, .slice B1 p1 d1, .int .i64 x.start_.count_, .slice none 0 0, .slice none 0 0]) := Bx.ext (((((bo1.out).set_ _ _).set_ _ _).set_ _ _).cast (by first | rfl | simp only [List.setIfInBounds_toArray, List.set_cons_succ, List.set_cons_zero])) x2
  have X2 : Ext w w2 := Ext.tr ((((X1).sc (by first | (simp; done) | (simp; omega)) _).sc (by first | (simp; done) | (simp; omega)) _).sc (by first | (simp; done) | (simp; omega)) _) x2
  replace o0 := Lib.hid (Things.W_good.chg o0.out (Chg.trans ((((Chg.refl (fun g => g = w.heap.size + 2) _).sc rfl _).sc rfl _).sc rfl _) (x2.chg _)) (fun g hg q => by have h1 := hg.1; have hq3 : g = w.heap.size + 2 := q; omega))
  replace o1 : Hid (SlW Prog.W 145 2 w2 (fun g => w1.heap.size ≤ g ∧ g < w2.heap.size) B2 n2 d2 x.progs_) := o1.out.mono Prog.W_good (fun g hg => by have h1 := hg.1; have h2 := hg.2; constructor <;> (try simp at h1) <;> omega)
  clear x2
  have ca2_4 : w2.cell? ⟨w.heap.size, 4, none⟩ = some (.slice A3 n3 c3) := ba2.out.cell 4
  have co2_3 : w2.cell? ⟨w.heap.size + 2, 3, none⟩ = some (.slice none 0 0) := bo2.out.cell 3
  have fo2_3 : w2.frozen? ⟨w.heap.size + 2, 3, none⟩ = false := bo2.out.frozen 3
  go_wp2_with fail
  refine (toGActS_any _ _ _ _ _ S (H2.out.ext ((X2).sc (by first | (simp; done) | (simp; omega)) _)) n_2).mono ?_
  rintro e w3 ⟨B3, d3, rfl, o2, x3⟩
  have K2 : Hid (n3 ≤ d3) := own_cap o2
  replace o2 := Lib.hid (OwS.of_own o2)
  have z3 : w.heap.size + 3 ≤ w3.heap.size := by have h := x3.size; (try simp at h); omega
  have y3 : w2.heap.size ≤ w3.heap.size := by have h := x3.size; (try simp at h); exact h
  have ba3 : Hid (Bx w3 (w.heap.size) 28 #[.slice A0 n0 c0, .slice A1 n1 c1, .int .i64 x.start_.count_, .slice A2 n2 c2, .slice A3 n3 c3]) := Bx.ext ((ba2.out).far (by first | (simp; done) | (simp; omega)) _) x3
  have br3 : Hid (Bx w3 (w.heap.size + 1) 46 #[.slice none 0 0, .slice none 0 0, .int .i64 0, .slice none 0 0, .slice none 0 0]) := Bx.ext ((br2.out).far (by first | (simp; done) | (simp; omega)) _) x3
  have bo3 : Hid (Bx w3 (w.heap.size + 2) 46 #[.slice B0 p0 d0, .slice B1 p1 d1, .int .i64 x.start_.count_, .slice B2 n2 d2, .slice none 0 0]) := Bx.ext (((bo2.out).set_ _ _).cast (by first | rfl | simp only [List.setIfInBounds_toArray, List.set_cons_succ, List.set_cons_zero])) x3
  have X3 : Ext w w3 := Ext.tr ((X2).sc (by first | (simp; done) | (simp; omega)) _) x3
  replace o0 := Lib.hid (Things.W_good.chg o0.out (Chg.trans ((Chg.refl (fun g => g = w.heap.size + 2) _).sc rfl _) (x3.chg _)) (fun g hg q => by have h1 := hg.1; have hq3 : g = w.heap.size + 2 := q; omega))
  replace o1 := Lib.hid (o1.out.chg Prog.W_good (Chg.trans ((Chg.refl (fun g => g = w.heap.size + 2) _).sc rfl _) (x3.chg _)) (fun g hg q => by have h1 := hg.1; have hq3 : g = w.heap.size + 2 := q; omega))
  replace o2 : Hid (OwS w3 (fun g => w2.heap.size ≤ g ∧ g < w3.heap.size) 148 3 B3 n3 d3 (x.acts_.flatMap GAct.cells)) := o2.out.mono (fun g _ hg => by have h1 := hg.1; have h2 := hg.2; constructor <;> (try simp at h1) <;> omega)
  clear x3
  have co3_0 : w3.cell? ⟨w.heap.size + 2, 0, none⟩ = some (.slice B0 p0 d0) := bo3.out.cell 0
  have co3_1 : w3.cell? ⟨w.heap.size + 2, 1, none⟩ = some (.slice B1 p1 d1) := bo3.out.cell 1
  have co3_2 : w3.cell? ⟨w.heap.size + 2, 2, none⟩ = some (.int .i64 x.start_.count_) := bo3.out.cell 2
  have co3_3 : w3.cell? ⟨w.heap.size + 2, 3, none⟩ = some (.slice B2 n2 d2) := bo3.out.cell 3
  have co3_4 : w3.cell? ⟨w.heap.size + 2, 4, none⟩ = some (.slice none 0 0) := bo3.out.cell 4
  have fo3_4 : w3.frozen? ⟨w.heap.size + 2, 4, none⟩ = false := bo3.out.frozen 4
  have cr3_0 : w3.cell? ⟨w.heap.size + 1, 0, none⟩ = some (.slice none 0 0) := br3.out.cell 0
  have fr3_0 : w3.frozen? ⟨w.heap.size + 1, 0, none⟩ = false := br3.out.frozen 0
  have cr3_1 : w3.cell? ⟨w.heap.size + 1, 1, none⟩ = some (.slice none 0 0) := br3.out.cell 1
  have fr3_1 : w3.frozen? ⟨w.heap.size + 1, 1, none⟩ = false := br3.out.frozen 1
  have cr3_2 : w3.cell? ⟨w.heap.size + 1, 2, none⟩ = some (.int .i64 0) := br3.out.cell 2
  have fr3_2 : w3.frozen? ⟨w.heap.size + 1, 2, none⟩ = false := br3.out.frozen 2
  have cr3_3 : w3.cell? ⟨w.heap.size + 1, 3, none⟩ = some (.slice none 0 0) := br3.out.cell 3
  have fr3_3 : w3.frozen? ⟨w.heap.size + 1, 3, none⟩ = false := br3.out.frozen 3
  have cr3_4 : w3.cell? ⟨w.heap.size + 1, 4, none⟩ = some (.slice none 0 0) := br3.out.cell 4
  have fr3_4 : w3.frozen? ⟨w.heap.size + 1, 4, none⟩ = false := br3.out.frozen 4
  go_wp2
  refine bodyPost_ret (v := .agg #[.slice B0 p0 d0, .slice B1 p1 d1, .int .i64 x.start_.count_, .slice B2 n2 d2, .slice B3 n3 d3]) (by simp [results, Tryz.results7, go_sem, cr3_0, cr3_1, cr3_2, cr3_3, cr3_4]) rfl ⟨[.slice B0 p0 d0, .slice B1 p1 d1, .int .i64 x.start_.count_, .slice B2 n2 d2, .slice B3 n3 d3], rfl, ?_, ?_⟩
  · refine (?_ : ∀ wz, Chg (fun g => g = w.heap.size + 2 ∨ g = w.heap.size + 1) w3 wz → Script.W wz (fun g => w.heap.size ≤ g ∧ g < wz.heap.size) [.slice B0 p0 d0, .slice B1 p1 d1, .int .i64 x.start_.count_, .slice B2 n2 d2, .slice B3 n3 d3] x) _ (((((((Chg.refl (fun g => g = w.heap.size + 2 ∨ g = w.heap.size + 1) _).sc (by first | (simp; done) | (simp; omega)) _).sc (by first | (simp; done) | (simp; omega)) _).sc (by first | (simp; done) | (simp; omega)) _).sc (by first | (simp; done) | (simp; omega)) _).sc (by first | (simp; done) | (simp; omega)) _).sc (by first | (simp; done) | (simp; omega)) _)
    intro wz cc
    have zz := cc.size
    exact ⟨[.slice B0 p0 d0, .slice B1 p1 d1, .int .i64 x.start_.count_], B2, n2, d2, B3, n3, d3, lb [w1.heap.size, w2.heap.size, w3.heap.size], rfl, Things.W_good.mono (Things.W_good.chg o0.out cc (fun g hg q => by have h1 := hg.1; have hq3 : g = w.heap.size + 2 ∨ g = w.heap.size + 1 := q; omega)) (fun g hg => ⟨⟨by have h1 := hg.1; omega, by have h2 := hg.2; omega⟩, by have h1 := hg.1; have h2 := hg.2; exact lb_here (by omega)⟩), ⟨SlW.cap o1.out, mh1, (o1.out.chg Prog.W_good cc (fun g hg q => by have h1 := hg.1; have hq3 : g = w.heap.size + 2 ∨ g = w.heap.size + 1 := q; omega)).mono Prog.W_good (fun g hg => ⟨⟨by have h1 := hg.1; omega, by have h2 := hg.2; omega⟩, by have h1 := hg.1; have h2 := hg.2; exact lb_next (by omega) (lb_here (by omega))⟩)⟩, ⟨K2.out, mh2, (o2.out.chg cc (fun g hg q => by have h1 := hg.1; have hq3 : g = w.heap.size + 2 ∨ g = w.heap.size + 1 := q; omega)).mono (fun g _ hg => ⟨⟨by have h1 := hg.1; omega, by have h2 := hg.2; omega⟩, by have h1 := hg.1; have h2 := hg.2; exact lb_next (by omega) (lb_next (by omega) (lb_here (by omega)))⟩)⟩⟩
  · exact ((((((X3).sc (by first | (simp; done) | (simp; omega)) _).sc (by first | (simp; done) | (simp; omega)) _).sc (by first | (simp; done) | (simp; omega)) _).sc (by first | (simp; done) | (simp; omega)) _).sc (by first | (simp; done) | (simp; omega)) _).sc (by first | (simp; done) | (simp; omega)) _
set_option maxRecDepth 8000 in
set_option maxHeartbeats 8000000 in
theorem eqScript_same (x : Script) (cs cs' : List Value) (w : World) (S S' : Nat → Prop) (h : Script.R w S cs x) (u : Script.R w S' cs' x) :
    Calls Tryz.prog 10 #[.agg cs.toArray, .agg cs'.toArray] w fun e w' => e = .returned (.bool true) ∧ Ext w w' := by
  obtain ⟨v0, A2, n2, c2, A3, n3, c3, rfl, h0, ⟨kh1, mh1, h1⟩, ⟨kh2, mh2, h2⟩⟩ := h
  obtain ⟨A0, n0, c0, A1, n1, c1, rfl⟩ := Things.R_cells h0
  obtain ⟨z0, B2, p2, d2, B3, p3, d3, rfl, u0, ⟨ku1, mu1, u1⟩, ⟨ku2, mu2, u2⟩⟩ := u
  obtain ⟨B0, p0, d0, B1, p1, d1, rfl⟩ := Things.R_cells u0
  obtain rfl : n2 = p2 := by have a := h1.1; have b := u1.1; omega
  obtain rfl : n3 = p3 := by have a := h2.flen GAct.cells_length (by omega); have b := u2.flen GAct.cells_length (by omega); omega
  have H0 := Lib.hid h0
  have U0 := Lib.hid u0
  have H1 := Lib.hid h1
  have U1 := Lib.hid u1
  have H2 := Lib.hid h2
  have U2 := Lib.hid u2
  clear h0 u0 h1 u1 h2 u2
  simp only [List.cons_append, List.nil_append]
  go_enter Tryz.func10, Tryz.ntmps10
  go_wp2_with fail
  refine (eqThings_same x.start_ _ _ _ S S' (Things.R_good.ext H0.out (((Ext.refl' w).al _).al _)) (Things.R_good.ext U0.out (((Ext.refl' w).al _).al _))).mono ?_
  rintro e w1 ⟨rfl, x1⟩
  have z1 : w.heap.size + 2 ≤ w1.heap.size := by have h := x1.size; (try simp at h); omega
  have ba1 : Hid (Bx w1 (w.heap.size) 46 #[.slice A0 n0 c0, .slice A1 n1 c1, .int .i64 x.start_.count_, .slice A2 n2 c2, .slice A3 n3 c3]) := Bx.ext ((Bx.new' _ _ _ rfl).al _) x1
  have bb1 : Hid (Bx w1 (w.heap.size + 1) 46 #[.slice B0 p0 d0, .slice B1 p1 d1, .int .i64 x.start_.count_, .slice B2 n2 d2, .slice B3 n3 d3]) := Bx.ext (Bx.new' _ _ _ (by simp)) x1
  have X1 : Ext w w1 := Ext.tr (((Ext.refl' w).al _).al _) x1
  clear x1
  have ca1_3 : w1.cell? ⟨w.heap.size, 3, none⟩ = some (.slice A2 n2 c2) := ba1.out.cell 3
  have cb1_3 : w1.cell? ⟨w.heap.size + 1, 3, none⟩ = some (.slice B2 n2 d2) := bb1.out.cell 3
  go_wp2_with fail
  refine (eqProgS_same _ _ _ _ _ x.progs_ _ S S' (SlR.ext Prog.R_good H1.out (X1)) (SlR.ext Prog.R_good U1.out (X1)) mh1).mono ?_
  rintro e w2 ⟨rfl, x2⟩
  have z2 : w.heap.size + 2 ≤ w2.heap.size := by have h := x2.size; (try simp at h); omega
  have ba2 : Hid (Bx w2 (w.heap.size) 46 #[.slice A0 n0 c0, .slice A1 n1 c1, .int .i64 x.start_.count_, .slice A2 n2 c2, .slice A3 n3 c3]) := Bx.ext (ba1.out) x2
  have bb2 : Hid (Bx w2 (w.heap.size + 1) 46 #[.slice B0 p0 d0, .slice B1 p1 d1, .int .i64 x.start_.count_, .slice B2 n2 d2, .slice B3 n3 d3]) := Bx.ext (bb1.out) x2
  have X2 : Ext w w2 := Ext.tr (X1) x2
  clear x2
  have ca2_4 : w2.cell? ⟨w.heap.size, 4, none⟩ = some (.slice A3 n3 c3) := ba2.out.cell 4
  have cb2_4 : w2.cell? ⟨w.heap.size + 1, 4, none⟩ = some (.slice B3 n3 d3) := bb2.out.cell 4
  go_wp2_with fail
  refine (eqGActS_same _ _ _ _ _ _ _ S S' (H2.out.ext (X2)) (U2.out.ext (X2)) mh2).mono ?_
  rintro e w3 ⟨rfl, x3⟩
  have z3 : w.heap.size + 2 ≤ w3.heap.size := by have h := x3.size; (try simp at h); omega
  have ba3 : Hid (Bx w3 (w.heap.size) 46 #[.slice A0 n0 c0, .slice A1 n1 c1, .int .i64 x.start_.count_, .slice A2 n2 c2, .slice A3 n3 c3]) := Bx.ext (ba2.out) x3
  have bb3 : Hid (Bx w3 (w.heap.size + 1) 46 #[.slice B0 p0 d0, .slice B1 p1 d1, .int .i64 x.start_.count_, .slice B2 n2 d2, .slice B3 n3 d3]) := Bx.ext (bb2.out) x3
  have X3 : Ext w w3 := Ext.tr (X2) x3
  clear x3
  go_wp2
  go_ret
  exact ⟨rfl, X3⟩

end Go.Proofs.YtglplgbhhnmgbaaGreat
