/- ReadsFrom of program and reference; the contract of laws.FnExactReadsFrom. No condition. -/
import Derived.Test.YtheclckjgjaecaaAccOk
namespace Go.Proofs.Ytheclckjgjaecaa
open Go.RowKit Go.Deep

/-- The last write of a cell among the first k accesses, or -1. -/
def wb (l : List Access) (cell : Int) : Nat → Int
  | 0 => -1
  | k + 1 => match l[k]? with
    | some a => if a.write = true ∧ a.cell = cell then (k : Int) else wb l cell k
    | none => wb l cell k
theorem wb_hit {l : List Access} {cell : Int} {k : Nat} {a : Access} (h : l[k]? = some a) (h1 : a.write = true) (h2 : a.cell = cell) : wb l cell (k + 1) = k := by
  rw [wb, h]; simp [h1, h2]
theorem wb_miss {l : List Access} {cell : Int} {k : Nat} {a : Access} (h : l[k]? = some a) (h1 : ¬ (a.write = true ∧ a.cell = cell)) : wb l cell (k + 1) = wb l cell k := by
  rw [wb, h]; simp only [h1, if_false]
theorem wb_lt (l : List Access) (cell : Int) : ∀ k : Nat, -1 ≤ wb l cell k ∧ wb l cell k < (k : Int)
  | 0 => by rw [wb]; omega
  | k + 1 => by
    have ih := wb_lt l cell k
    rw [wb]
    split
    · split <;> omega
    · omega

/-- What access i reads from. -/
def rd (l : List Access) (i : Nat) : Int := match l[i]? with
  | some a => if a.write = true then -2 else wb l a.cell i
  | none => -1
theorem rd_w {l : List Access} {i : Nat} {a : Access} (h : l[i]? = some a) (h1 : a.write = true) : rd l i = -2 := by simp [rd, h, h1]
theorem rd_r {l : List Access} {i : Nat} {a : Access} (h : l[i]? = some a) (h1 : a.write = false) : rd l i = wb l a.cell i := by simp [rd, h, h1]
def rdTo (l : List Access) (k : Nat) : List Int := (List.range k).map (rd l)
theorem rdTo_succ (l : List Access) (k : Nat) : rdTo l (k + 1) = rdTo l k ++ [rd l k] := by simp [rdTo, List.range_succ]
noncomputable def reads (l : List Access) : List Int := if accOk l = true then rdTo l l.length else []
theorem reads_yes {l : List Access} (h : accOk l = true) : reads l = rdTo l l.length := if_pos h
theorem reads_no {l : List Access} (h : accOk l = false) : reads l = [] := if_neg (by simp [h])
theorem reads_le (l : List Access) : (reads l).length ≤ l.length := by
  cases h : accOk l
  · rw [reads_no h]; simp
  · rw [reads_yes h]; simp [rdTo]

theorem own_empty (w : World) : (w.alloc (.cells #[] 3)).ownsRow w.heap.size 3 1 (.slice (some ⟨w.heap.size, 0, none⟩) 0 0) 0 (ints []) :=
  World.ownsRow_lit w #[] 0 (Nat.le_refl _) (Nat.zero_le _) (by simp)

set_option maxHeartbeats 2000000 in
theorem spec_ReadsFrom (A : Option Addr) (n c : Nat) (l : List Access) (w : World) (S : Nat → Prop) (hs : Sl w S 3 A n (l.flatMap Access.cells)) (hm : n ≤ 1048576) :
    Calls Try.prog 30 #[.slice A n c] w fun e w' => ∃ B m d, e = .returned (.slice B m d) ∧ w'.ownsRow w.heap.size 3 1 (.slice B m d) m (ints (reads l)) ∧ Ext w w' := by
  have H := Lib.hid (hs.flen Access.cells_length (by omega))
  have oe := Lib.hid (own_empty w)
  go_enter Try.func30, Try.ntmps30
  go_wp2_with fail
  refine (spec_AccessOk A n c l _ S (hs.ext ((Ext.refl' w).al _)) (by omega)).mono ?_
  rintro e w1 ⟨rfl, x1⟩
  have X1 := Lib.hid (((Ext.refl' w).al _).tr x1)
  have O1 := Lib.hid (own_ext oe.out x1)
  clear x1
  cases hok : accOk l
  · have HN := Lib.hid (reads_no hok)
    clear hok
    go_wp2
    go_ret
    exact ⟨_, _, _, rfl, by rw [HN.out]; exact O1.out, X1.out⟩
  · have HY := Lib.hid (reads_yes hok)
    clear hok
    go_wp2
    go_loopw [3, 4] (fun u i wr => ∃ (k : Nat) (B : Option Addr) (d : Nat), k ≤ n ∧ i = .int .i64 k ∧ u = .slice B k d ∧ wr.ownsRow w.heap.size 3 1 (.slice B k d) k (ints (rdTo l k)) ∧ Ext w wr) (fun _ i _ => n - (intOf i).toNat)
    case atStart => exact ⟨0, _, _, Nat.zero_le _, rfl, rfl, O1.out, X1.out⟩
    case round =>
      obtain ⟨k, B, d, hk, rfl, rfl, ho, hx⟩ := hrel
      obtain ⟨wo, rfl⟩ : ∃ wo : World, wo = wr := ⟨_, rfl⟩
      have HX := Lib.hid hx
      have HO := Lib.hid ho
      clear ho
      by_cases hlt : k < n
      · obtain ⟨b, o, rfl⟩ := hs.addr (by omega)
        obtain ⟨s, hsk, hb, hc⟩ := (hs.ext hx).flat_cell Access.cells_length (by omega) hlt
        obtain ⟨f0, f1, f2⟩ := s
        have HS := Lib.hid (hs.ext hx)
        have HSK := Lib.hid hsk
        clear hx hsk hs
        go_wp2
        go_loopw [5, 6] (fun v i wi => ∃ j : Nat, j ≤ k ∧ i = .int .i64 j ∧ v = .int .i64 (wb l f1 j) ∧ Ext wo wi) (fun _ i _ => k - (intOf i).toNat)
        case atStart => exact ⟨0, Nat.zero_le _, rfl, rfl, Ext.refl' _⟩
        case round =>
          obtain ⟨j, hj, rfl, rfl, hxi⟩ := hrel
          have HXI := Lib.hid hxi
          obtain ⟨sk, hskk, -, hck⟩ := (HS.out.ext hxi).flat_cell Access.cells_length (by omega) hlt
          rw [HSK.out] at hskk
          injection hskk with hskk
          subst hskk
          have k1 := hck 1 (by omega)
          have k2 := hck 2 (by omega)
          simp only [Access.cells, List.getElem?_cons_zero, List.getElem?_cons_succ] at k1 k2
          by_cases hjk : j < k
          · obtain ⟨sj, hsj, -, hcj⟩ := (HS.out.ext hxi).flat_cell (k := j) Access.cells_length (by omega) (by omega)
            obtain ⟨g0, g1, g2⟩ := sj
            have j1 := hcj 1 (by omega)
            have j2 := hcj 2 (by omega)
            simp only [Access.cells, List.getElem?_cons_zero, List.getElem?_cons_succ] at j1 j2
            have HSJ := Lib.hid hsj
            clear hsj hcj hck hxi hc
            cases g2
            · have e1 := Lib.hid (wb_miss (cell := f1) HSJ.out (by simp))
              go_wp2
              go_quiet (fail)
              go_wp2
              go_roundw
              case rel => exact ⟨j + 1, by omega, by go_num, by rw [e1.out], HXI.out.drN _⟩
              case measure => simp [intOf]; omega
            · by_cases he : g1 = f1
              · have e1 := Lib.hid (wb_hit (cell := f1) HSJ.out rfl he)
                have hbe : (g1 == f1) = true := by simp [he]
                clear he
                go_wp2
                go_quiet (fail)
                go_wp2
                go_roundw
                case rel => exact ⟨j + 1, by omega, by go_num, by rw [e1.out], HXI.out.drN _⟩
                case measure => simp [intOf]; omega
              · have e1 := Lib.hid (wb_miss (cell := f1) HSJ.out (by simp [he]))
                have hbe : (g1 == f1) = false := by simp [he]
                clear he
                go_wp2
                go_quiet (fail)
                go_wp2
                go_roundw
                case rel => exact ⟨j + 1, by omega, by go_num, by rw [e1.out], HXI.out.drN _⟩
                case measure => simp [intOf]; omega
          · obtain rfl : j = k := by omega
            have HO2 := Lib.hid (own_ext HO.out hxi)
            clear hck hxi hc
            cases f2
            · have e1 := Lib.hid (rd_r HSK.out rfl)
              go_wp2_with (at_builtin; refine wp_push rfl (.tmp 47) (.tmp 49) _ rfl w.heap.size 3 _ _ _ Try.underlying36 Try.infoInt rfl (by omega) B j d _ rfl HO2.out [.int .i64 (wb l f1 j)] _ (by simp) rfl rfl (by simp [Value.oneCell']) (by omega) (by unfold maxLen; omega) (HX.out.tr HXI.out).size ?_; intro A' c' w' hown' hchg' hat')
              go_roundw
              case rel => exact ⟨j + 1, A', c', by omega, by go_num, rfl, by rw [rdTo_succ, e1.out]; simpa [ints] using hown', hchg'.ext (HX.out.tr HXI.out) fun g hg => (HO2.out.lt g hg).1⟩
              case measure => simp [intOf]; omega
            · have e1 := Lib.hid (rd_w HSK.out rfl)
              go_wp2_with (at_builtin; refine wp_push rfl (.tmp 47) (.tmp 49) _ rfl w.heap.size 3 _ _ _ Try.underlying36 Try.infoInt rfl (by omega) B j d _ rfl HO2.out [.int .i64 (-2)] _ (by simp) rfl rfl (by simp [Value.oneCell']) (by omega) (by unfold maxLen; omega) (HX.out.tr HXI.out).size ?_; intro A' c' w' hown' hchg' hat')
              go_roundw
              case rel => exact ⟨j + 1, A', c', by omega, by go_num, rfl, by rw [rdTo_succ, e1.out]; simpa [ints] using hown', hchg'.ext (HX.out.tr HXI.out) fun g hg => (HO2.out.lt g hg).1⟩
              case measure => simp [intOf]; omega
      · clear hx
        go_wp2
        go_ret
        have e : k = l.length := by rw [H.out]; omega
        exact ⟨_, _, _, rfl, by rw [HY.out, ← e]; exact HO.out, HX.out⟩
set_option maxHeartbeats 2000000 in
theorem writeBefore_any (A : Option Addr) (n c : Nat) (l : List Access) (cell : Int) (at_ : Nat) (w : World) (S : Nat → Prop) (hs : Sl w S 3 A n (l.flatMap Access.cells)) (hm : n ≤ 1048576) (hat : at_ ≤ n) :
    Calls Try.prog 55 #[.slice A n c, .int .i64 cell, .int .i64 at_] w fun e w' => e = .returned (.int .i64 (wb l cell at_)) ∧ Ext w w' := by
  go_enter Try.func55, Try.ntmps55
  go_wp2
  go_loopw [7] (fun i wr => ∃ j : Nat, j ≤ at_ ∧ i = .int .i64 ((j : Int) - 1) ∧ Hid (wb l cell j = wb l cell at_) ∧ Ext w wr) (fun i _ => (intOf i + 1).toNat)
  case atStart => exact ⟨at_, Nat.le_refl _, rfl, rfl, Ext.refl' _⟩
  case round =>
    obtain ⟨j, hj, rfl, hw, hx⟩ := hrel
    rcases j with _ | j
    · rw [show (((0 : Nat) : Int) - 1) = -1 from rfl]
      go_wp2
      go_ret
      exact ⟨by rw [← hw.out]; rfl, hx⟩
    · rw [show (((j + 1 : Nat) : Int) - 1) = (j : Int) by omega]
      obtain ⟨b, o, rfl⟩ := hs.addr (by omega)
      obtain ⟨sj, hsj, -, hcj⟩ := (hs.ext hx).flat_cell (k := j) Access.cells_length (by omega) (by omega)
      obtain ⟨g0, g1, g2⟩ := sj
      have j1 := hcj 1 (by omega)
      have j2 := hcj 2 (by omega)
      simp only [Access.cells, List.getElem?_cons_zero, List.getElem?_cons_succ] at j1 j2
      have HSJ := Lib.hid hsj
      have HX := Lib.hid hx
      clear hsj hcj hx
      cases g2
      · have e1 := Lib.hid (wb_miss (cell := cell) HSJ.out (by simp))
        go_wp2
        go_roundw
        case rel => exact ⟨j, by omega, rfl, by rw [← hw.out, e1.out]; exact rfl, HX.out⟩
        case measure => simp [intOf]
      · by_cases he : g1 = cell
        · have e1 := Lib.hid (wb_hit (cell := cell) HSJ.out rfl he)
          have hbe : (g1 == cell) = true := by simp [he]
          clear he
          go_wp2
          go_ret
          exact ⟨by rw [← hw.out, e1.out]; rfl, HX.out⟩
        · have e1 := Lib.hid (wb_miss (cell := cell) HSJ.out (by simp [he]))
          have hbe : (g1 == cell) = false := by simp [he]
          clear he
          go_wp2
          go_roundw
          case rel => exact ⟨j, by omega, rfl, by rw [← hw.out, e1.out]; exact rfl, HX.out⟩
          case measure => simp [intOf]

set_option maxHeartbeats 2000000 in
theorem impl_ReadsFrom (A : Option Addr) (n c : Nat) (l : List Access) (w : World) (S : Nat → Prop) (hs : Sl w S 3 A n (l.flatMap Access.cells)) (hm : n ≤ 1048576) :
    Calls Try.prog 31 #[.slice A n c] w fun e w' => ∃ B m d, e = .returned (.slice B m d) ∧ w'.ownsRow w.heap.size 3 1 (.slice B m d) m (ints (reads l)) ∧ Ext w w' := by
  have H := Lib.hid (hs.flen Access.cells_length (by omega))
  go_enter Try.func31, Try.ntmps31
  go_wp2_with fail
  refine (impl_AccessOk A n c l _ S hs (by omega)).mono ?_
  rintro e w1 ⟨rfl, x1⟩
  have X1 := Lib.hid x1
  clear x1
  cases hok : accOk l
  · have HN := Lib.hid (reads_no hok)
    clear hok
    go_wp2
    go_ret
    exact ⟨_, _, _, rfl, by rw [HN.out]; exact World.ownsRow_nil _ _ _ _, X1.out⟩
  · have HY := Lib.hid (reads_yes hok)
    have oe := Lib.hid (own_base (own_empty w1) X1.out.size)
    clear hok
    go_wp2
    go_loopw [3, 12] (fun u i wr => ∃ (k : Nat) (B : Option Addr) (d : Nat), k ≤ n ∧ i = .int .i64 k ∧ u = .slice B k d ∧ wr.ownsRow w.heap.size 3 1 (.slice B k d) k (ints (rdTo l k)) ∧ Ext w wr) (fun _ i _ => n - (intOf i).toNat)
    case atStart => exact ⟨0, _, _, Nat.zero_le _, rfl, rfl, oe.out, X1.out.al _⟩
    case round =>
      obtain ⟨k, B, d, hk, rfl, rfl, ho, hx⟩ := hrel
      have HX := Lib.hid hx
      have HO := Lib.hid ho
      clear ho
      by_cases hlt : k < n
      · obtain ⟨b, o, rfl⟩ := hs.addr (by omega)
        obtain ⟨s, hsk, hb, hc⟩ := (hs.ext hx).flat_cell Access.cells_length (by omega) hlt
        obtain ⟨f0, f1, f2⟩ := s
        have k0 := hc 0 (by omega)
        have k1 := hc 1 (by omega)
        have k2 := hc 2 (by omega)
        simp only [Access.cells, List.getElem?_cons_zero, List.getElem?_cons_succ, Nat.add_zero] at k0 k1 k2
        have HSK := Lib.hid hsk
        clear hx hsk hc
        cases f2
        · have e1 := Lib.hid (rd_r HSK.out rfl)
          go_wp2_with fail
          refine (writeBefore_any _ _ _ l f1 k _ S (hs.ext (HX.out.al _)) hm (by omega)).mono ?_
          rintro e w2 ⟨rfl, x2⟩
          have X2 := Lib.hid ((HX.out.al _).tr x2)
          have HO2 := Lib.hid (own_ext (HO.out.alloc _) x2)
          clear x2
          go_wp2_with (at_builtin; refine wp_push rfl (.tmp 22) (.tmp 28) _ rfl w.heap.size 3 _ _ _ Try.underlying36 Try.infoInt rfl (by omega) B k d _ rfl HO2.out [.int .i64 (wb l f1 k)] _ (by simp) rfl rfl (by simp [Value.oneCell']) (by omega) (by unfold maxLen; omega) X2.out.size ?_; intro A' c' w' hown' hchg' hat')
          go_roundw
          case rel => exact ⟨k + 1, A', c', by omega, by go_num, rfl, by rw [rdTo_succ, e1.out]; simpa [ints] using hown', hchg'.ext X2.out fun g hg => (HO2.out.lt g hg).1⟩
          case measure => simp [intOf]; omega
        · have e1 := Lib.hid (rd_w HSK.out rfl)
          have X2 := Lib.hid (HX.out.al (Obj.cells #[Value.int .i64 f0, .int .i64 f1, .bool true] 54))
          have HO2 := Lib.hid (HO.out.alloc (Obj.cells #[Value.int .i64 f0, .int .i64 f1, .bool true] 54))
          go_wp2_with (at_builtin; refine wp_push rfl (.tmp 19) (.tmp 20) _ rfl w.heap.size 3 _ _ _ Try.underlying36 Try.infoInt rfl (by omega) B k d _ rfl HO2.out [.int .i64 (-2)] _ (by simp) rfl rfl (by simp [Value.oneCell']) (by omega) (by unfold maxLen; omega) X2.out.size ?_; intro A' c' w' hown' hchg' hat')
          go_roundw
          case rel => exact ⟨k + 1, A', c', by omega, by go_num, rfl, by rw [rdTo_succ, e1.out]; simpa [ints] using hown', hchg'.ext X2.out fun g hg => (HO2.out.lt g hg).1⟩
          case measure => simp [intOf]; omega
      · clear hx
        go_wp2
        go_ret
        have e : k = l.length := by rw [H.out]; omega
        exact ⟨_, _, _, rfl, by rw [HY.out, ← e]; exact HO.out, HX.out⟩
set_option maxHeartbeats 4000000 in
theorem law_ReadsFrom (A0 : Option Addr) (n0 c0 : Nat) (l0 : List Access) (w : World) (hs0 : Sl w (fun _ => True) 3 A0 n0 (l0.flatMap Access.cells)) (hm0 : n0 ≤ 9223372036854775807) :
    Calls Try.prog 6 #[.slice A0 n0 c0] w fun e w' => e = .returned (.bool true) ∧ Ext w w' := by
  by_cases hn0 : (n0 : Int) ≤ (1048576 : Int)
  rotate_left
  · go_enter Try.func6, Try.ntmps6
    go_wp2_with fail
    refine (szAccessS_any _ _ _ _ _ (by omega) (by omega) hm0).mono ?_
    rintro e w' ⟨rfl, rfl⟩
    rw [if_neg (by omega)]
    go_wp2
    go_ret
    exact ⟨rfl, Ext.refl' _⟩
  have hsO0 := hs0
  have hN0 : n0 ≤ 1048576 := by omega
  go_enter Try.func6, Try.ntmps6
  go_wp2_with fail
  refine (szAccessS_any _ _ _ _ _ (by omega) (by omega) hm0).mono ?_
  rintro e w' ⟨rfl, rfl⟩
  rw [if_pos (by omega)]
  go_wp2_with fail
  refine (toAccessS_any _ _ _ _ _ _ hs0 hN0).mono ?_
  rintro e w1 ⟨B1, d1, rfl, o1, x1⟩
  replace hs0 := hs0.ext x1
  have xx := x1
  have z1 : w.heap.size ≤ w1.heap.size := x1.size
  have r1 := Lib.hid o1.lt
  go_wp2_with fail
  refine (spec_ReadsFrom _ _ _ _ _ _ (ownSl o1) hN0).mono ?_
  rintro e w2 ⟨B2_0, m2_0, d2_0, rfl, o2_0, x2⟩
  replace o1 := own_ext o1 x2
  replace hs0 := hs0.ext x2
  replace xx := xx.tr x2
  have z2 : w1.heap.size ≤ w2.heap.size := x2.size
  have r2_0 := Lib.hid o2_0.lt
  have b2_0 : m2_0 ≤ 1048576 := by have h1 := own_len o2_0; have h2 := reads_le l0; have h3 := hsO0.flen Access.cells_length (by omega); rw [ints_length] at h1; omega
  go_wp2_with fail
  refine (toAccessS_any _ _ _ _ _ _ hs0 hN0).mono ?_
  rintro e w3 ⟨B3, d3, rfl, o3, x3⟩
  replace o2_0 := own_ext o2_0 x3
  replace hs0 := hs0.ext x3
  replace xx := xx.tr x3
  have z3 : w2.heap.size ≤ w3.heap.size := x3.size
  have r3 := Lib.hid o3.lt
  go_wp2_with fail
  refine (impl_ReadsFrom _ _ _ _ _ _ (ownSl o3) hN0).mono ?_
  rintro e w4 ⟨B4_0, m4_0, d4_0, rfl, o4_0, x4⟩
  replace o2_0 := own_ext o2_0 x4
  replace o3 := own_ext o3 x4
  replace hs0 := hs0.ext x4
  replace xx := xx.tr x4
  have z4 : w3.heap.size ≤ w4.heap.size := x4.size
  have r4_0 := Lib.hid o4_0.lt
  obtain rfl : m2_0 = m4_0 := by rw [← own_len o2_0, ← own_len o4_0]
  go_wp2_with fail
  refine (eqIntS_same _ _ _ _ _ _ _ _ _ (ownSl o4_0) (ownSl o2_0) (by omega)).mono ?_
  rintro e w5 ⟨rfl, x5⟩
  replace o2_0 := own_ext o2_0 x5
  replace o3 := own_ext o3 x5
  replace o4_0 := own_ext o4_0 x5
  replace hs0 := hs0.ext x5
  replace xx := xx.tr x5
  have z5 : w4.heap.size ≤ w5.heap.size := x5.size
  go_wp2_with fail
  refine (toAccessS_any _ _ _ _ _ _ hs0 hN0).mono ?_
  rintro e w6 ⟨B6, d6, rfl, o6, x6⟩
  replace o2_0 := own_ext o2_0 x6
  replace o3 := own_ext o3 x6
  replace o4_0 := own_ext o4_0 x6
  replace hs0 := hs0.ext x6
  replace xx := xx.tr x6
  have z6 : w5.heap.size ≤ w6.heap.size := x6.size
  have r6 := Lib.hid o6.lt
  go_wp2_with fail
  refine (eqAccessS_same _ _ _ _ _ _ _ _ _ (ownSl o3) (ownSl o6) (by omega)).mono ?_
  rintro e w7 ⟨rfl, x7⟩
  replace o2_0 := own_ext o2_0 x7
  replace o3 := own_ext o3 x7
  replace o4_0 := own_ext o4_0 x7
  replace o6 := own_ext o6 x7
  replace hs0 := hs0.ext x7
  replace xx := xx.tr x7
  have z7 : w6.heap.size ≤ w7.heap.size := x7.size
  go_wp2_with fail
  refine (markAccessS_any _ _ _ _ _ 1 _ o3 (by omega) (by omega)).mono ?_
  rintro e w8 ⟨rfl, o8, c8⟩
  have z8 : w7.heap.size ≤ w8.heap.size := c8.size
  replace o2_0 := own_chg o2_0 c8 (fun g hg q => by have h1 := r2_0.out g hg; have h2 := r3.out g q; omega)
  replace o4_0 := own_chg o4_0 c8 (fun g hg q => by have h1 := r4_0.out g hg; have h2 := r3.out g q; omega)
  replace xx : Ext w w8 := c8.ext xx (fun g hg => by have h2 := r3.out g hg; omega)
  replace hs0 : Sl w8 (fun _ => True) 3 A0 n0 (l0.flatMap Access.cells) := hsO0.ext xx
  clear c8
  clear o8
  have hq1 : (0 : Int) ≤ 1 + (n0 : Int) * 3 := by omega
  go_wp2_with fail
  refine (eqIntS_same _ _ _ _ _ _ _ _ _ (ownSl o4_0) (ownSl o2_0) (by omega)).mono ?_
  rintro e w9 ⟨rfl, x9⟩
  replace o2_0 := own_ext o2_0 x9
  replace o4_0 := own_ext o4_0 x9
  replace hs0 := hs0.ext x9
  replace xx := xx.tr x9
  have z9 : w8.heap.size ≤ w9.heap.size := x9.size
  go_wp2_with fail
  refine (markIntS_any _ _ _ _ _ 1 _ o4_0 (by omega) (by omega)).mono ?_
  rintro e w10 ⟨rfl, o10, c10⟩
  have z10 : w9.heap.size ≤ w10.heap.size := c10.size
  replace o2_0 := own_chg o2_0 c10 (fun g hg q => by have h1 := r2_0.out g hg; have h2 := r4_0.out g q; omega)
  replace xx : Ext w w10 := c10.ext xx (fun g hg => by have h2 := r4_0.out g hg; omega)
  replace hs0 : Sl w10 (fun _ => True) 3 A0 n0 (l0.flatMap Access.cells) := hsO0.ext xx
  clear c10
  have r10 := r4_0
  have hq2_0 : (0 : Int) ≤ 1 + (m2_0 : Int) := by omega
  have hq3 : ((1 + (m2_0 : Int)) != (1 + (m2_0 : Int))) = false := by simp
  go_wp2_with fail
  refine (heldIntS_any _ _ _ (1) _ _ (ownSl o10) (by omega) (by omega)).mono ?_
  rintro e w11 ⟨rfl, rfl⟩
  go_wp2_with fail
  refine (toAccessS_any _ _ _ _ _ _ hs0 hN0).mono ?_
  rintro e w11 ⟨B11, d11, rfl, o11, x11⟩
  replace o2_0 := own_ext o2_0 x11
  replace o10 := own_ext o10 x11
  replace hs0 := hs0.ext x11
  replace xx := xx.tr x11
  have z11 : w10.heap.size ≤ w11.heap.size := x11.size
  have r11 := Lib.hid o11.lt
  go_wp2_with fail
  refine (impl_ReadsFrom _ _ _ _ _ _ (ownSl o11) hN0).mono ?_
  rintro e w12 ⟨B12_0, m12_0, d12_0, rfl, o12_0, x12⟩
  replace o2_0 := own_ext o2_0 x12
  replace o10 := own_ext o10 x12
  replace o11 := own_ext o11 x12
  replace hs0 := hs0.ext x12
  replace xx := xx.tr x12
  have z12 : w11.heap.size ≤ w12.heap.size := x12.size
  have r12_0 := Lib.hid o12_0.lt
  obtain rfl : m2_0 = m12_0 := by rw [← own_len o2_0, ← own_len o12_0]
  go_wp2_with fail
  refine (eqIntS_same _ _ _ _ _ _ _ _ _ (ownSl o12_0) (ownSl o2_0) (by omega)).mono ?_
  rintro e w13 ⟨rfl, x13⟩
  replace o2_0 := own_ext o2_0 x13
  replace o10 := own_ext o10 x13
  replace o12_0 := own_ext o12_0 x13
  replace hs0 := hs0.ext x13
  replace xx := xx.tr x13
  have z13 : w12.heap.size ≤ w13.heap.size := x13.size
  go_wp2_with fail
  refine (heldIntS_any _ _ _ (1) _ _ (ownSl o10) (by omega) (by omega)).mono ?_
  rintro e w14 ⟨rfl, rfl⟩
  go_wp2
  go_ret
  exact ⟨rfl, xx⟩
end Go.Proofs.Ytheclckjgjaecaa
