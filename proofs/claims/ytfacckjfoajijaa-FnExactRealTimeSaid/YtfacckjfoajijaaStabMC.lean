/- slices.symMergeCmpFunc. No condition but lengths. -/
import Derived.Test.YtfacckjfoajijaaStabMB
namespace Go.Proofs.Ytfacckjfoajijaa
open Go.RowKit Go.Deep
set_option linter.unusedSimpArgs false
set_option linter.unusedVariables false

theorem rotate_i {b w : World} {g n c : Nat} {fr : List Res} {P U V Q : List Int} {cl : Value} {s' m' e' : Int} (M0 : Mine b w (.row 3 1 (some ⟨g, 0, none⟩) n c (ints (P ++ (U ++ (V ++ Q)))) :: fr)) (hs : s' = P.length) (hm : m' = P.length + U.length) (he : e' = P.length + U.length + V.length) (hu : 0 < U.length) (hv : 0 < V.length) (hn : n ≤ 1048576) :
    Calls Try.prog 130 #[.slice (some ⟨g, 0, none⟩) n c, .int .i64 s', .int .i64 m', .int .i64 e', cl] w fun e w' => e = .returned (.tuple #[]) ∧ Mine b w' (.row 3 1 (some ⟨g, 0, none⟩) n c (ints (P ++ (V ++ (U ++ Q)))) :: fr) := by
  have h := rotate_m (gw := 0) (cl := cl) M0 P.length (P.length + U.length) (P.length + U.length + V.length) rfl rfl rfl hu hv hn
  have e1 : ((P.length + U.length : Nat) : Int) = m' := by omega
  have e2 : ((P.length + U.length + V.length : Nat) : Int) = e' := by omega
  rw [e1, e2, ← hs] at h
  exact h
abbrev SymOk (b : World) (g n c gw : Nat) (fr : List Res) (K : Keys) (E : List Int) (N : Nat) : Prop := ∀ (w : World) (P L R Q : List Int) (a m e0 : Int), Mine b w (.row 3 1 (some ⟨g, 0, none⟩) n c (ints (P ++ (L ++ (R ++ Q)))) :: fr) → Two K L R → (∀ x ∈ L, x ∈ E) → (∀ x ∈ R, x ∈ E) → a = P.length → m = P.length + L.length → e0 = P.length + L.length + R.length → 0 < L.length → 0 < R.length → L.length + R.length ≤ N →
  Calls Try.prog 126 #[.slice (some ⟨g, 0, none⟩) n c, .int .i64 a, .int .i64 m, .int .i64 e0, .func (.func 111) #[] #[.pointer (some ⟨gw, 0, none⟩)]] w fun e w' => e = .returned (.tuple #[]) ∧ ∃ X : List Int, Merged K L R X ∧ Mine b w' (.row 3 1 (some ⟨g, 0, none⟩) n c (ints (P ++ (X ++ Q))) :: fr)
set_option maxRecDepth 4000 in
set_option maxHeartbeats 4000000 in
theorem symC_m {b w : World} {g n c gw : Nat} {fr : List Res} {P L R Q E : List Int} {K : Keys} {a m e0 : Int} {N : Nat} (M0 : Mine b w (.row 3 1 (some ⟨g, 0, none⟩) n c (ints (P ++ (L ++ (R ++ Q)))) :: fr)) (HC0 : CmpC b fr K E gw) (hT : Two K L R) (hEL : ∀ x ∈ L, x ∈ E) (hER : ∀ x ∈ R, x ∈ E) (ha : a = P.length) (hm : m = P.length + L.length) (he : e0 = P.length + L.length + R.length) (hl0 : 0 < L.length) (hr0 : 0 < R.length) (hn : n ≤ 1048576) (h1 : ¬ L.length = 1) (h2 : ¬ R.length = 1) (hN : L.length + R.length ≤ N + 1) (ih : SymOk b g n c gw fr K E N) :
    Calls Try.prog 126 #[.slice (some ⟨g, 0, none⟩) n c, .int .i64 a, .int .i64 m, .int .i64 e0, .func (.func 111) #[] #[.pointer (some ⟨gw, 0, none⟩)]] w fun e w' => e = .returned (.tuple #[]) ∧ ∃ X : List Int, Merged K L R X ∧ Mine b w' (.row 3 1 (some ⟨g, 0, none⟩) n c (ints (P ++ (X ++ Q))) :: fr) := by
  have hl : P.length + L.length + R.length + Q.length = n := by have h := M0.len1 0 rfl; rw [ints_length] at h; rw [← h]; simp; omega
  have M := Lib.hid M0
  have HC := Lib.hid HC0
  have HT := Lib.hid hT
  have HEL := Lib.hid hEL
  have HER := Lib.hid hER
  have HA : Hid (a = (P.length : Int)) := ha
  have HM : Hid (m = (P.length : Int) + (L.length : Int)) := hm
  have HE0 : Hid (e0 = (P.length : Int) + (L.length : Int) + (R.length : Int)) := he
  have ha0 : 0 ≤ a := by omega
  have ham : a < m := by omega
  have hme : m < e0 := by omega
  have hen : e0 ≤ (n : Int) := by omega
  have IH := Lib.hid ih
  have bA : (m - a == 1) = false := by simp; rw [hm, ha]; omega
  have bB : (e0 - m == 1) = false := by simp; rw [hm, he]; omega
  have HNN : Hid (L.length + R.length ≤ N + 1) := hN
  have ham2 : a + 2 ≤ m := by omega
  have hme2 : m + 2 ≤ e0 := by omega
  obtain ⟨D, hD⟩ : ∃ D, D = P ++ (L ++ (R ++ Q)) := ⟨_, rfl⟩
  rw [← hD] at M
  have HD := Lib.hid hD
  obtain ⟨MD, hMD⟩ : ∃ MD, MD = (a + e0) / 2 := ⟨_, rfl⟩
  have HMD := Lib.hid hMD
  have hd1 : a + e0 ≤ 2 * MD + 1 := by omega
  have hd2 : 2 * MD ≤ a + e0 := by omega
  clear ha hm he hl0 hr0 hl M0 HC0 hT hEL hER h1 h2 hD hMD ih hN
  by_cases hmm : MD < m
  · skip
    have htest : (a + e0) / 2 < m := by rw [← HMD.out]; exact hmm
    have hn0 : 0 ≤ MD + m := by omega
    have hn1 : MD + m ≤ 4194304 := by omega
    go_enter Try.func126, Try.ntmps126
    go_wp2
    rw [← HMD.out]
    obtain ⟨NN, hNN⟩ : ∃ NN, NN = MD + m := ⟨_, rfl⟩
    rw [← hNN]
    obtain ⟨PP, hPP⟩ : ∃ PP, PP = NN - 1 := ⟨_, rfl⟩
    rw [← hPP]
    have HPP := Lib.hid hPP
    have HNE := Lib.hid hNN
    obtain ⟨lo, hlo⟩ : ∃ lo, lo = NN - e0 := ⟨_, rfl⟩
    obtain ⟨hi, hhi⟩ : ∃ hi, hi = MD := ⟨_, rfl⟩
    have HB : Hid (a ≤ lo ∧ lo ≤ hi ∧ hi ≤ m ∧ hi ≤ MD ∧ MD + m - e0 ≤ lo ∧ (lo = a ∨ lo = MD + m - e0) ∧ (hi = m ∨ hi = MD)) := by show _ ∧ _; omega
    have HLOE := Lib.hid hlo
    have HHIE := Lib.hid hhi
    clear hlo hhi hNN hPP hmm htest hn0 hn1
    go_loopw [20, 21] (fun sv rv wr => ∃ S Y : Int, sv = .int .i64 S ∧ rv = .int .i64 Y ∧ Hid (lo ≤ S ∧ S ≤ Y ∧ Y ≤ hi) ∧ Hid (∀ (q : Int) (x y : Int), lo ≤ q → q < S → L[(q - a).toNat]? = some x → R[(MD - 1 - q).toNat]? = some y → ¬ K.lt y x) ∧ Hid (∀ (q : Int) (x y : Int), Y ≤ q → q < hi → L[(q - a).toNat]? = some x → R[(MD - 1 - q).toNat]? = some y → K.lt y x) ∧ Hid (Mine b wr (.row 3 1 (some ⟨g, 0, none⟩) n c (ints (D)) :: fr))) (fun sv rv _ => (intOf rv - intOf sv).toNat)
    case atStart => exact ⟨lo, hi, by rw [HLOE.out], by rw [HHIE.out], ⟨Int.le_refl _, HB.out.2.1, Int.le_refl _⟩, fun q x y h1 h2 => absurd h2 (by omega), fun q x y h1 h2 => absurd h2 (by omega), M⟩
    case round =>
      clear M
      obtain ⟨S, Y, rfl, rfl, HSY, HLO, HHI, M⟩ := hrel
      by_cases hlt : S < Y
      · have hb := HB.out
        have hsy := HSY.out
        have hS0 : 0 ≤ S := by omega
        have hSYm : S + Y ≤ 4194304 := by omega
        go_wp2
        obtain ⟨C, hC⟩ : ∃ C, C = (S + Y) / 2 := ⟨_, rfl⟩
        have hC1 : S ≤ C := by omega
        have hC2 : C < Y := by omega
        rw [← hC]
        clear hC
        have hC0 : 0 ≤ C := by omega
        have hCn : C < (n : Int) := by omega
        obtain ⟨x, hx⟩ : ∃ x, L[(C - a).toNat]? = some x := ⟨_, List.getElem?_eq_getElem (by have h1 := HM.out; have h2 := HA.out; omega)⟩
        obtain ⟨y, hy⟩ : ∃ y, R[(MD - 1 - C).toNat]? = some y := ⟨_, List.getElem?_eq_getElem (by have h1 := HM.out; have h2 := HE0.out; omega)⟩
        have hXE := Lib.hid (HEL.out x (List.mem_of_getElem? hx))
        have hYE := Lib.hid (HER.out y (List.mem_of_getElem? hy))
        have hPC : 0 ≤ PP - C := by have h1 := HPP.out; have h2 := HNE.out; omega
        have hPC2 : C ≤ PP := by omega
        have hPCn : PP - C < (n : Int) := by have h1 := HPP.out; have h2 := HNE.out; omega
        have WP : IntKind.i64.wrap (PP - C) = PP - C := Go.IntWalk.i64_in _ (by omega)
        have hx1 : (ints D)[C.toNat]? = some (.int .i64 x) := by rw [HD.out]; exact ints_at (at_part (by have h2 := HA.out; omega) hx)
        have hy1 : (ints D)[(PP - C).toNat]? = some (.int .i64 y) := by rw [HD.out, ← List.append_assoc]; exact ints_at (at_part (by have h1 := HM.out; have h2 := HPP.out; have h3 := HNE.out; rw [List.length_append]; omega) hy)
        have HXX := Lib.hid hx
        have HYY := Lib.hid hy
        clear hx hy
        by_cases hlz : K.lt y x
        · have hc := Keys.z_yes hlz
          have HLZ := Lib.hid hlz
          clear hlz
          refine Mine.region_quiet M.out (by kernel_rfl) (by kernel_rfl) ?_
          repeat (first | go_big_quiet_skip | (go_big_quiet_want; first | (refine Mine.oq_getr _ _ rfl 0 _ rfl rfl _ (by exact hy1) _ (by first | exact Try.underlying3) (by rfl) ?_; (try simp only [Act.put, List.setIfInBounds_toArray, List.set_cons_zero, List.set_cons_succ, List.drop_succ_cons, List.drop_zero, List.take_succ_cons, List.take_zero, putAt, ints_set, ints_push, List.getElem_toArray, List.getElem_cons_zero, List.getElem_cons_succ]); go_big_quiet_on) | (refine Mine.oq_getr _ _ rfl 0 _ rfl rfl _ (by exact hx1) _ (by first | exact Try.underlying3) (by rfl) ?_; (try simp only [Act.put, List.setIfInBounds_toArray, List.set_cons_zero, List.set_cons_succ, List.drop_succ_cons, List.drop_zero, List.take_succ_cons, List.take_zero, putAt, ints_set, ints_push, List.getElem_toArray, List.getElem_cons_zero, List.getElem_cons_succ]); go_big_quiet_on) | (unfold Oper.quiet; apply Exists.intro; refine ⟨fun wq hq => ?_, ?_⟩; (go_simp; (with_reducible refine (HC.out wq y x hq.tail hYE.out hXE.out).mono ?_); rintro e w2 ⟨rfl, x2⟩; exact ⟨rfl, hq.on x2⟩); (try simp only [Act.put, List.setIfInBounds_toArray, List.set_cons_succ, List.set_cons_zero]); go_big_quiet_on) | (unfold Oper.quiet; apply Exists.intro; refine ⟨fun wq hq => ?_, ?_⟩; (clear hq; go_simp; first | done | rfl | exact ⟨rfl, rfl⟩); (try simp only [Act.put, List.setIfInBounds_toArray, List.set_cons_succ, List.set_cons_zero]); go_big_quiet_on)))
          refine wpQuiet_nil ?_
          intro w' M'
          replace M := Lib.hid M'
          clear M'
          clear hx1 hy1 WP
          go_wp2
          go_roundw
          case rel => exact ⟨S, C, rfl, rfl, ⟨hsy.1, hC1, by omega⟩, HLO, fun q x2 y2 h1 h2 hx2 hy2 => Classical.byContradiction fun hno => search_lo HT.out hx2 hy2 hno HXX.out HYY.out (by omega) (by omega) HLZ.out, M⟩
          case measure => simp [intOf]; omega
        have hc := Keys.z_no hlz
        have HLZ := Lib.hid hlz
        clear hlz
        refine Mine.region_quiet M.out (by kernel_rfl) (by kernel_rfl) ?_
        repeat (first | go_big_quiet_skip | (go_big_quiet_want; first | (refine Mine.oq_getr _ _ rfl 0 _ rfl rfl _ (by exact hy1) _ (by first | exact Try.underlying3) (by rfl) ?_; (try simp only [Act.put, List.setIfInBounds_toArray, List.set_cons_zero, List.set_cons_succ, List.drop_succ_cons, List.drop_zero, List.take_succ_cons, List.take_zero, putAt, ints_set, ints_push, List.getElem_toArray, List.getElem_cons_zero, List.getElem_cons_succ]); go_big_quiet_on) | (refine Mine.oq_getr _ _ rfl 0 _ rfl rfl _ (by exact hx1) _ (by first | exact Try.underlying3) (by rfl) ?_; (try simp only [Act.put, List.setIfInBounds_toArray, List.set_cons_zero, List.set_cons_succ, List.drop_succ_cons, List.drop_zero, List.take_succ_cons, List.take_zero, putAt, ints_set, ints_push, List.getElem_toArray, List.getElem_cons_zero, List.getElem_cons_succ]); go_big_quiet_on) | (unfold Oper.quiet; apply Exists.intro; refine ⟨fun wq hq => ?_, ?_⟩; (go_simp; (with_reducible refine (HC.out wq y x hq.tail hYE.out hXE.out).mono ?_); rintro e w2 ⟨rfl, x2⟩; exact ⟨rfl, hq.on x2⟩); (try simp only [Act.put, List.setIfInBounds_toArray, List.set_cons_succ, List.set_cons_zero]); go_big_quiet_on) | (unfold Oper.quiet; apply Exists.intro; refine ⟨fun wq hq => ?_, ?_⟩; (clear hq; go_simp; first | done | rfl | exact ⟨rfl, rfl⟩); (try simp only [Act.put, List.setIfInBounds_toArray, List.set_cons_succ, List.set_cons_zero]); go_big_quiet_on)))
        refine wpQuiet_nil ?_
        intro w' M'
        replace M := Lib.hid M'
        clear M'
        clear hx1 hy1 WP
        go_wp2
        go_roundw
        case rel => exact ⟨C + 1, Y, rfl, rfl, ⟨by omega, by omega, hsy.2.2⟩, fun q x2 y2 h1 h2 hx2 hy2 => search_lo HT.out HXX.out HYY.out HLZ.out hx2 hy2 (by omega) (by omega), HHI, M⟩
        case measure => simp [intOf]; omega
      have hsy := HSY.out
      obtain rfl : S = Y := by omega
      have hb := HB.out
      have h1 := HM.out
      have h2 := HA.out
      have h3 := HE0.out
      obtain ⟨pL, hpL⟩ : ∃ pL : Nat, S = a + pL := ⟨(S - a).toNat, by omega⟩
      obtain ⟨q, hq⟩ : ∃ q : Nat, MD = S + q := ⟨(MD - S).toNat, by omega⟩
      have hpl : pL ≤ L.length := by omega
      have hql : q ≤ R.length := by omega
      have HH1 : Hid (∀ (x y : Int), 0 < pL → L[pL - 1]? = some x → R[q]? = some y → ¬ K.lt y x) := fun x y h0 hx hy => by
        have hyl := (List.getElem?_eq_some_iff.1 hy).1
        exact HLO.out (S - 1) x y (by omega) (by omega) (by rw [show (S - 1 - a).toNat = pL - 1 by omega]; exact hx) (by rw [show (MD - 1 - (S - 1)).toNat = q by omega]; exact hy)
      have HH2 : Hid (∀ (x y : Int), 0 < q → L[pL]? = some x → R[q - 1]? = some y → K.lt y x) := fun x y h0 hx hy => by
        have hxl := (List.getElem?_eq_some_iff.1 hx).1
        exact HHI.out S x y (Int.le_refl _) (by omega) (by rw [show (S - a).toNat = pL by omega]; exact hx) (by rw [show (MD - 1 - S).toNat = q - 1 by omega]; exact hy)
      have HMG : Hid (∀ X Z : List Int, Merged K (L.take pL) (R.take q) X → Merged K (L.drop pL) (R.drop q) Z → Merged K L R (X ++ Z)) := fun X Z hX hZ => merge_halves HT.out hpl hql HH1.out HH2.out hX hZ
      have eD : D = P ++ (L.take pL ++ (L.drop pL ++ (R.take q ++ (R.drop q ++ Q)))) := by rw [HD.out, ← List.append_assoc (R.take q), List.take_append_drop, ← List.append_assoc (L.take pL), List.take_append_drop]
      rw [eD] at M
      have HQ1 : Hid ((L.take pL).length = pL) := by show _ = _; rw [List.length_take]; omega
      have HQ2 : Hid ((L.drop pL).length = L.length - pL) := List.length_drop
      have HQ3 : Hid ((R.take q).length = q) := by show _ = _; rw [List.length_take]; omega
      have HQ4 : Hid ((R.drop q).length = R.length - q) := List.length_drop
      have HTT := Lib.hid (HT.out.take pL q)
      have HTD := Lib.hid (HT.out.drop pL q)
      have HpL := Lib.hid hpL
      have Hq := Lib.hid hq
      have hS0 : 0 ≤ S := by omega
      generalize hL1 : L.take pL = L1 at *
      generalize hL2 : L.drop pL = L2 at *
      generalize hR1 : R.take q = R1 at *
      generalize hR2 : R.drop q = R2 at *
      have HI1 : Hid ((∀ x ∈ L1, x ∈ E) ∧ (∀ x ∈ L2, x ∈ E) ∧ (∀ x ∈ R1, x ∈ E) ∧ (∀ x ∈ R2, x ∈ E)) := ⟨fun x h => HEL.out x (List.mem_of_mem_take (hL1 ▸ h)), fun x h => HEL.out x (List.mem_of_mem_drop (hL2 ▸ h)), fun x h => HER.out x (List.mem_of_mem_take (hR1 ▸ h)), fun x h => HER.out x (List.mem_of_mem_drop (hR2 ▸ h))⟩
      clear hL1 hL2 hR1 hR2 eD HLO HHI HH1 HH2 hpL hq h1 h2 h3
      have HARI : Hid (NN = MD + m ∧ a + 2 ≤ m ∧ m + 2 ≤ e0 ∧ a ≤ S ∧ S ≤ m ∧ S ≤ MD ∧ MD + m - e0 ≤ S ∧ a + e0 ≤ 2 * MD + 1 ∧ 2 * MD ≤ a + e0) := by have h9 := HNE.out; show _ ∧ _; omega
      clear hb hsy hlt
      by_cases c1 : S < m
      · skip
        by_cases c2 : S < MD
        · skip
          by_cases c3 : a < S
          · skip
            by_cases c4 : MD + m - e0 < S
            · skip
              have hns1 : S ≤ NN := by have h := HARI.out; omega
              have hns2 : NN ≤ 4194304 := by have h := HARI.out; omega
              have t1 : S < m := by have h := HARI.out; omega
              have t2 : m < NN - S := by have h := HARI.out; omega
              have t3 : a < S := by have h := HARI.out; omega
              have t4 : S < MD := by have h := HARI.out; omega
              have t5 : MD < NN - S := by have h := HARI.out; omega
              have t6 : NN - S < e0 := by have h := HARI.out; omega
              go_wp2_with fail
              have M9 : Mine b wr (.row 3 1 (some ⟨g, 0, none⟩) n c (ints ((P ++ L1) ++ (L2 ++ (R1 ++ (R2 ++ Q))))) :: fr) := by have h := M.out; rwa [← List.append_assoc P] at h
              refine (rotate_i M9 (by have l1 := HQ1.out; have l2 := HQ2.out; have l3 := HQ3.out; have l4 := HQ4.out; have l5 := HM.out; have l6 := HA.out; have l7 := HE0.out; have l8 := HpL.out; have l9 := Hq.out; have l10 := HNE.out; rw [List.length_append]; omega) (by have l1 := HQ1.out; have l2 := HQ2.out; have l3 := HQ3.out; have l4 := HQ4.out; have l5 := HM.out; have l6 := HA.out; have l7 := HE0.out; have l8 := HpL.out; have l9 := Hq.out; have l10 := HNE.out; rw [List.length_append]; omega) (by have l1 := HQ1.out; have l2 := HQ2.out; have l3 := HQ3.out; have l4 := HQ4.out; have l5 := HM.out; have l6 := HA.out; have l7 := HE0.out; have l8 := HpL.out; have l9 := Hq.out; have l10 := HNE.out; rw [List.length_append]; omega) (by have l1 := HQ1.out; have l2 := HQ2.out; have l3 := HQ3.out; have l4 := HQ4.out; have l5 := HM.out; have l6 := HA.out; have l7 := HE0.out; have l8 := HpL.out; have l9 := Hq.out; have l10 := HNE.out; omega) (by have l1 := HQ1.out; have l2 := HQ2.out; have l3 := HQ3.out; have l4 := HQ4.out; have l5 := HM.out; have l6 := HA.out; have l7 := HE0.out; have l8 := HpL.out; have l9 := Hq.out; have l10 := HNE.out; omega) hn).mono ?_
              rintro e w1 ⟨rfl, M1⟩
              rw [List.append_assoc P] at M1
              replace M := Lib.hid M1
              clear M1 M9
              go_wp2_with fail
              refine (IH.out _ P L1 R1 (L2 ++ (R2 ++ Q)) _ _ _ M.out HTT.out HI1.out.1 HI1.out.2.2.1 (by have l1 := HQ1.out; have l2 := HQ2.out; have l3 := HQ3.out; have l4 := HQ4.out; have l5 := HM.out; have l6 := HA.out; have l7 := HE0.out; have l8 := HpL.out; have l9 := Hq.out; have l10 := HNE.out; omega) (by have l1 := HQ1.out; have l2 := HQ2.out; have l3 := HQ3.out; have l4 := HQ4.out; have l5 := HM.out; have l6 := HA.out; have l7 := HE0.out; have l8 := HpL.out; have l9 := Hq.out; have l10 := HNE.out; omega) (by have l1 := HQ1.out; have l2 := HQ2.out; have l3 := HQ3.out; have l4 := HQ4.out; have l5 := HM.out; have l6 := HA.out; have l7 := HE0.out; have l8 := HpL.out; have l9 := Hq.out; have l10 := HNE.out; omega) (by have l1 := HQ1.out; have l2 := HQ2.out; have l3 := HQ3.out; have l4 := HQ4.out; have l5 := HM.out; have l6 := HA.out; have l7 := HE0.out; have l8 := HpL.out; have l9 := Hq.out; have l10 := HNE.out; omega) (by have l1 := HQ1.out; have l2 := HQ2.out; have l3 := HQ3.out; have l4 := HQ4.out; have l5 := HM.out; have l6 := HA.out; have l7 := HE0.out; have l8 := HpL.out; have l9 := Hq.out; have l10 := HNE.out; omega) (by have l1 := HQ1.out; have l2 := HQ2.out; have l3 := HQ3.out; have l4 := HQ4.out; have l5 := HM.out; have l6 := HA.out; have l7 := HE0.out; have l8 := HpL.out; have l9 := Hq.out; have l10 := HNE.out; have l11 := HNN.out; have l12 := HARI.out; omega)).mono ?_
              rintro e w2 ⟨rfl, X1, hX1, M1⟩
              replace M := Lib.hid M1
              have HX1 := Lib.hid hX1
              clear M1 hX1
              have HXL : Hid (X1.length = L1.length + R1.length) := by have h := HX1.out.perm.length_eq; rw [List.length_append] at h; exact h
              go_wp2_with fail
              have M9 : Mine b w2 (.row 3 1 (some ⟨g, 0, none⟩) n c (ints ((P ++ X1) ++ (L2 ++ (R2 ++ Q)))) :: fr) := by have h := M.out; rwa [← List.append_assoc P] at h
              refine (IH.out _ (P ++ X1) L2 R2 Q _ _ _ M9 HTD.out HI1.out.2.1 HI1.out.2.2.2 (by have l1 := HQ1.out; have l2 := HQ2.out; have l3 := HQ3.out; have l4 := HQ4.out; have l5 := HM.out; have l6 := HA.out; have l7 := HE0.out; have l8 := HpL.out; have l9 := Hq.out; have l10 := HNE.out; have l13 := HXL.out; rw [List.length_append]; omega) (by have l1 := HQ1.out; have l2 := HQ2.out; have l3 := HQ3.out; have l4 := HQ4.out; have l5 := HM.out; have l6 := HA.out; have l7 := HE0.out; have l8 := HpL.out; have l9 := Hq.out; have l10 := HNE.out; have l13 := HXL.out; rw [List.length_append]; omega) (by have l1 := HQ1.out; have l2 := HQ2.out; have l3 := HQ3.out; have l4 := HQ4.out; have l5 := HM.out; have l6 := HA.out; have l7 := HE0.out; have l8 := HpL.out; have l9 := Hq.out; have l10 := HNE.out; have l13 := HXL.out; rw [List.length_append]; omega) (by have l1 := HQ1.out; have l2 := HQ2.out; have l3 := HQ3.out; have l4 := HQ4.out; have l5 := HM.out; have l6 := HA.out; have l7 := HE0.out; have l8 := HpL.out; have l9 := Hq.out; have l10 := HNE.out; omega) (by have l1 := HQ1.out; have l2 := HQ2.out; have l3 := HQ3.out; have l4 := HQ4.out; have l5 := HM.out; have l6 := HA.out; have l7 := HE0.out; have l8 := HpL.out; have l9 := Hq.out; have l10 := HNE.out; omega) (by have l1 := HQ1.out; have l2 := HQ2.out; have l3 := HQ3.out; have l4 := HQ4.out; have l5 := HM.out; have l6 := HA.out; have l7 := HE0.out; have l8 := HpL.out; have l9 := Hq.out; have l10 := HNE.out; have l11 := HNN.out; have l12 := HARI.out; omega)).mono ?_
              rintro e w3 ⟨rfl, X2, hX2, M1⟩
              rw [List.append_assoc P] at M1
              replace M := Lib.hid M1
              have HX2 := Lib.hid hX2
              clear M1 hX2 M9
              have M8 : Hid (Mine b w3 (.row 3 1 (some ⟨g, 0, none⟩) n c (ints (P ++ ((X1 ++ X2) ++ Q))) :: fr)) := Lib.hid (by have h := M.out; rwa [← List.append_assoc X1] at h)
              clear M
              go_wp2
              first | refine bodyPost_ret (v := .tuple #[]) (by simp [results, Try.results126, go_sem]) rfl ?_ | refine bodyPost_end (v := .tuple #[]) (by simp [results, Try.results126, go_sem]) rfl ?_
              exact ⟨rfl, _, HMG.out _ _ HX1.out HX2.out, M8.out⟩
            · skip
              have hns1 : S ≤ NN := by have h := HARI.out; omega
              have hns2 : NN ≤ 4194304 := by have h := HARI.out; omega
              have t1 : S < m := by have h := HARI.out; omega
              have t2 : m < NN - S := by have h := HARI.out; omega
              have t3 : a < S := by have h := HARI.out; omega
              have t4 : S < MD := by have h := HARI.out; omega
              have t5 : MD < NN - S := by have h := HARI.out; omega
              have t6 : ¬ NN - S < e0 := by have h := HARI.out; omega
              go_wp2_with fail
              have M9 : Mine b wr (.row 3 1 (some ⟨g, 0, none⟩) n c (ints ((P ++ L1) ++ (L2 ++ (R1 ++ (R2 ++ Q))))) :: fr) := by have h := M.out; rwa [← List.append_assoc P] at h
              refine (rotate_i M9 (by have l1 := HQ1.out; have l2 := HQ2.out; have l3 := HQ3.out; have l4 := HQ4.out; have l5 := HM.out; have l6 := HA.out; have l7 := HE0.out; have l8 := HpL.out; have l9 := Hq.out; have l10 := HNE.out; rw [List.length_append]; omega) (by have l1 := HQ1.out; have l2 := HQ2.out; have l3 := HQ3.out; have l4 := HQ4.out; have l5 := HM.out; have l6 := HA.out; have l7 := HE0.out; have l8 := HpL.out; have l9 := Hq.out; have l10 := HNE.out; rw [List.length_append]; omega) (by have l1 := HQ1.out; have l2 := HQ2.out; have l3 := HQ3.out; have l4 := HQ4.out; have l5 := HM.out; have l6 := HA.out; have l7 := HE0.out; have l8 := HpL.out; have l9 := Hq.out; have l10 := HNE.out; rw [List.length_append]; omega) (by have l1 := HQ1.out; have l2 := HQ2.out; have l3 := HQ3.out; have l4 := HQ4.out; have l5 := HM.out; have l6 := HA.out; have l7 := HE0.out; have l8 := HpL.out; have l9 := Hq.out; have l10 := HNE.out; omega) (by have l1 := HQ1.out; have l2 := HQ2.out; have l3 := HQ3.out; have l4 := HQ4.out; have l5 := HM.out; have l6 := HA.out; have l7 := HE0.out; have l8 := HpL.out; have l9 := Hq.out; have l10 := HNE.out; omega) hn).mono ?_
              rintro e w1 ⟨rfl, M1⟩
              rw [List.append_assoc P] at M1
              replace M := Lib.hid M1
              clear M1 M9
              go_wp2_with fail
              refine (IH.out _ P L1 R1 (L2 ++ (R2 ++ Q)) _ _ _ M.out HTT.out HI1.out.1 HI1.out.2.2.1 (by have l1 := HQ1.out; have l2 := HQ2.out; have l3 := HQ3.out; have l4 := HQ4.out; have l5 := HM.out; have l6 := HA.out; have l7 := HE0.out; have l8 := HpL.out; have l9 := Hq.out; have l10 := HNE.out; omega) (by have l1 := HQ1.out; have l2 := HQ2.out; have l3 := HQ3.out; have l4 := HQ4.out; have l5 := HM.out; have l6 := HA.out; have l7 := HE0.out; have l8 := HpL.out; have l9 := Hq.out; have l10 := HNE.out; omega) (by have l1 := HQ1.out; have l2 := HQ2.out; have l3 := HQ3.out; have l4 := HQ4.out; have l5 := HM.out; have l6 := HA.out; have l7 := HE0.out; have l8 := HpL.out; have l9 := Hq.out; have l10 := HNE.out; omega) (by have l1 := HQ1.out; have l2 := HQ2.out; have l3 := HQ3.out; have l4 := HQ4.out; have l5 := HM.out; have l6 := HA.out; have l7 := HE0.out; have l8 := HpL.out; have l9 := Hq.out; have l10 := HNE.out; omega) (by have l1 := HQ1.out; have l2 := HQ2.out; have l3 := HQ3.out; have l4 := HQ4.out; have l5 := HM.out; have l6 := HA.out; have l7 := HE0.out; have l8 := HpL.out; have l9 := Hq.out; have l10 := HNE.out; omega) (by have l1 := HQ1.out; have l2 := HQ2.out; have l3 := HQ3.out; have l4 := HQ4.out; have l5 := HM.out; have l6 := HA.out; have l7 := HE0.out; have l8 := HpL.out; have l9 := Hq.out; have l10 := HNE.out; have l11 := HNN.out; have l12 := HARI.out; omega)).mono ?_
              rintro e w2 ⟨rfl, X1, hX1, M1⟩
              replace M := Lib.hid M1
              have HX1 := Lib.hid hX1
              clear M1 hX1
              have HXL : Hid (X1.length = L1.length + R1.length) := by have h := HX1.out.perm.length_eq; rw [List.length_append] at h; exact h
              have hz : R2 = [] := List.eq_nil_of_length_eq_zero (by have l1 := HQ1.out; have l2 := HQ2.out; have l3 := HQ3.out; have l4 := HQ4.out; have l5 := HM.out; have l6 := HA.out; have l7 := HE0.out; have l8 := HpL.out; have l9 := Hq.out; have l10 := HNE.out; omega)
              obtain ⟨X2, hXe⟩ : ∃ X2, X2 = L2 := ⟨_, rfl⟩
              have HX2 : Hid (Merged K L2 R2 X2) := by show Merged _ _ _ _; rw [hXe]; exact merged_nil_right HTD.out hz
              have M9 : Mine b w2 (.row 3 1 (some ⟨g, 0, none⟩) n c (ints (P ++ (X1 ++ (X2 ++ Q)))) :: fr) := by have h := M.out; rw [hz] at h; rw [hXe]; simpa only [List.nil_append] using h
              replace M := Lib.hid M9
              clear M9 hz hXe
              have M8 : Hid (Mine b w2 (.row 3 1 (some ⟨g, 0, none⟩) n c (ints (P ++ ((X1 ++ X2) ++ Q))) :: fr)) := Lib.hid (by have h := M.out; rwa [← List.append_assoc X1] at h)
              clear M
              go_wp2
              first | refine bodyPost_ret (v := .tuple #[]) (by simp [results, Try.results126, go_sem]) rfl ?_ | refine bodyPost_end (v := .tuple #[]) (by simp [results, Try.results126, go_sem]) rfl ?_
              exact ⟨rfl, _, HMG.out _ _ HX1.out HX2.out, M8.out⟩
          · skip
            by_cases c4 : MD + m - e0 < S
            · skip
              have hns1 : S ≤ NN := by have h := HARI.out; omega
              have hns2 : NN ≤ 4194304 := by have h := HARI.out; omega
              have t1 : S < m := by have h := HARI.out; omega
              have t2 : m < NN - S := by have h := HARI.out; omega
              have t3 : ¬ a < S := by have h := HARI.out; omega
              have t4 : S < MD := by have h := HARI.out; omega
              have t5 : MD < NN - S := by have h := HARI.out; omega
              have t6 : NN - S < e0 := by have h := HARI.out; omega
              go_wp2_with fail
              have M9 : Mine b wr (.row 3 1 (some ⟨g, 0, none⟩) n c (ints ((P ++ L1) ++ (L2 ++ (R1 ++ (R2 ++ Q))))) :: fr) := by have h := M.out; rwa [← List.append_assoc P] at h
              refine (rotate_i M9 (by have l1 := HQ1.out; have l2 := HQ2.out; have l3 := HQ3.out; have l4 := HQ4.out; have l5 := HM.out; have l6 := HA.out; have l7 := HE0.out; have l8 := HpL.out; have l9 := Hq.out; have l10 := HNE.out; rw [List.length_append]; omega) (by have l1 := HQ1.out; have l2 := HQ2.out; have l3 := HQ3.out; have l4 := HQ4.out; have l5 := HM.out; have l6 := HA.out; have l7 := HE0.out; have l8 := HpL.out; have l9 := Hq.out; have l10 := HNE.out; rw [List.length_append]; omega) (by have l1 := HQ1.out; have l2 := HQ2.out; have l3 := HQ3.out; have l4 := HQ4.out; have l5 := HM.out; have l6 := HA.out; have l7 := HE0.out; have l8 := HpL.out; have l9 := Hq.out; have l10 := HNE.out; rw [List.length_append]; omega) (by have l1 := HQ1.out; have l2 := HQ2.out; have l3 := HQ3.out; have l4 := HQ4.out; have l5 := HM.out; have l6 := HA.out; have l7 := HE0.out; have l8 := HpL.out; have l9 := Hq.out; have l10 := HNE.out; omega) (by have l1 := HQ1.out; have l2 := HQ2.out; have l3 := HQ3.out; have l4 := HQ4.out; have l5 := HM.out; have l6 := HA.out; have l7 := HE0.out; have l8 := HpL.out; have l9 := Hq.out; have l10 := HNE.out; omega) hn).mono ?_
              rintro e w1 ⟨rfl, M1⟩
              rw [List.append_assoc P] at M1
              replace M := Lib.hid M1
              clear M1 M9
              have hz : L1 = [] := List.eq_nil_of_length_eq_zero (by have l1 := HQ1.out; have l2 := HQ2.out; have l3 := HQ3.out; have l4 := HQ4.out; have l5 := HM.out; have l6 := HA.out; have l7 := HE0.out; have l8 := HpL.out; have l9 := Hq.out; have l10 := HNE.out; omega)
              obtain ⟨X1, hXe⟩ : ∃ X1, X1 = R1 := ⟨_, rfl⟩
              have HX1 : Hid (Merged K L1 R1 X1) := by show Merged _ _ _ _; rw [hXe]; exact merged_nil_left HTT.out hz
              have M9 : Mine b w1 (.row 3 1 (some ⟨g, 0, none⟩) n c (ints (P ++ (X1 ++ (L2 ++ (R2 ++ Q))))) :: fr) := by have h := M.out; rw [hz] at h; rw [hXe]; simpa only [List.nil_append] using h
              replace M := Lib.hid M9
              clear M9 hz hXe
              have HXL : Hid (X1.length = L1.length + R1.length) := by have h := HX1.out.perm.length_eq; rw [List.length_append] at h; exact h
              go_wp2_with fail
              have M9 : Mine b w1 (.row 3 1 (some ⟨g, 0, none⟩) n c (ints ((P ++ X1) ++ (L2 ++ (R2 ++ Q)))) :: fr) := by have h := M.out; rwa [← List.append_assoc P] at h
              refine (IH.out _ (P ++ X1) L2 R2 Q _ _ _ M9 HTD.out HI1.out.2.1 HI1.out.2.2.2 (by have l1 := HQ1.out; have l2 := HQ2.out; have l3 := HQ3.out; have l4 := HQ4.out; have l5 := HM.out; have l6 := HA.out; have l7 := HE0.out; have l8 := HpL.out; have l9 := Hq.out; have l10 := HNE.out; have l13 := HXL.out; rw [List.length_append]; omega) (by have l1 := HQ1.out; have l2 := HQ2.out; have l3 := HQ3.out; have l4 := HQ4.out; have l5 := HM.out; have l6 := HA.out; have l7 := HE0.out; have l8 := HpL.out; have l9 := Hq.out; have l10 := HNE.out; have l13 := HXL.out; rw [List.length_append]; omega) (by have l1 := HQ1.out; have l2 := HQ2.out; have l3 := HQ3.out; have l4 := HQ4.out; have l5 := HM.out; have l6 := HA.out; have l7 := HE0.out; have l8 := HpL.out; have l9 := Hq.out; have l10 := HNE.out; have l13 := HXL.out; rw [List.length_append]; omega) (by have l1 := HQ1.out; have l2 := HQ2.out; have l3 := HQ3.out; have l4 := HQ4.out; have l5 := HM.out; have l6 := HA.out; have l7 := HE0.out; have l8 := HpL.out; have l9 := Hq.out; have l10 := HNE.out; omega) (by have l1 := HQ1.out; have l2 := HQ2.out; have l3 := HQ3.out; have l4 := HQ4.out; have l5 := HM.out; have l6 := HA.out; have l7 := HE0.out; have l8 := HpL.out; have l9 := Hq.out; have l10 := HNE.out; omega) (by have l1 := HQ1.out; have l2 := HQ2.out; have l3 := HQ3.out; have l4 := HQ4.out; have l5 := HM.out; have l6 := HA.out; have l7 := HE0.out; have l8 := HpL.out; have l9 := Hq.out; have l10 := HNE.out; have l11 := HNN.out; have l12 := HARI.out; omega)).mono ?_
              rintro e w3 ⟨rfl, X2, hX2, M1⟩
              rw [List.append_assoc P] at M1
              replace M := Lib.hid M1
              have HX2 := Lib.hid hX2
              clear M1 hX2 M9
              have M8 : Hid (Mine b w3 (.row 3 1 (some ⟨g, 0, none⟩) n c (ints (P ++ ((X1 ++ X2) ++ Q))) :: fr)) := Lib.hid (by have h := M.out; rwa [← List.append_assoc X1] at h)
              clear M
              go_wp2
              first | refine bodyPost_ret (v := .tuple #[]) (by simp [results, Try.results126, go_sem]) rfl ?_ | refine bodyPost_end (v := .tuple #[]) (by simp [results, Try.results126, go_sem]) rfl ?_
              exact ⟨rfl, _, HMG.out _ _ HX1.out HX2.out, M8.out⟩
            · skip
              have hns1 : S ≤ NN := by have h := HARI.out; omega
              have hns2 : NN ≤ 4194304 := by have h := HARI.out; omega
              have t1 : S < m := by have h := HARI.out; omega
              have t2 : m < NN - S := by have h := HARI.out; omega
              have t3 : ¬ a < S := by have h := HARI.out; omega
              have t4 : S < MD := by have h := HARI.out; omega
              have t5 : MD < NN - S := by have h := HARI.out; omega
              have t6 : ¬ NN - S < e0 := by have h := HARI.out; omega
              go_wp2_with fail
              have M9 : Mine b wr (.row 3 1 (some ⟨g, 0, none⟩) n c (ints ((P ++ L1) ++ (L2 ++ (R1 ++ (R2 ++ Q))))) :: fr) := by have h := M.out; rwa [← List.append_assoc P] at h
              refine (rotate_i M9 (by have l1 := HQ1.out; have l2 := HQ2.out; have l3 := HQ3.out; have l4 := HQ4.out; have l5 := HM.out; have l6 := HA.out; have l7 := HE0.out; have l8 := HpL.out; have l9 := Hq.out; have l10 := HNE.out; rw [List.length_append]; omega) (by have l1 := HQ1.out; have l2 := HQ2.out; have l3 := HQ3.out; have l4 := HQ4.out; have l5 := HM.out; have l6 := HA.out; have l7 := HE0.out; have l8 := HpL.out; have l9 := Hq.out; have l10 := HNE.out; rw [List.length_append]; omega) (by have l1 := HQ1.out; have l2 := HQ2.out; have l3 := HQ3.out; have l4 := HQ4.out; have l5 := HM.out; have l6 := HA.out; have l7 := HE0.out; have l8 := HpL.out; have l9 := Hq.out; have l10 := HNE.out; rw [List.length_append]; omega) (by have l1 := HQ1.out; have l2 := HQ2.out; have l3 := HQ3.out; have l4 := HQ4.out; have l5 := HM.out; have l6 := HA.out; have l7 := HE0.out; have l8 := HpL.out; have l9 := Hq.out; have l10 := HNE.out; omega) (by have l1 := HQ1.out; have l2 := HQ2.out; have l3 := HQ3.out; have l4 := HQ4.out; have l5 := HM.out; have l6 := HA.out; have l7 := HE0.out; have l8 := HpL.out; have l9 := Hq.out; have l10 := HNE.out; omega) hn).mono ?_
              rintro e w1 ⟨rfl, M1⟩
              rw [List.append_assoc P] at M1
              replace M := Lib.hid M1
              clear M1 M9
              have hz : L1 = [] := List.eq_nil_of_length_eq_zero (by have l1 := HQ1.out; have l2 := HQ2.out; have l3 := HQ3.out; have l4 := HQ4.out; have l5 := HM.out; have l6 := HA.out; have l7 := HE0.out; have l8 := HpL.out; have l9 := Hq.out; have l10 := HNE.out; omega)
              obtain ⟨X1, hXe⟩ : ∃ X1, X1 = R1 := ⟨_, rfl⟩
              have HX1 : Hid (Merged K L1 R1 X1) := by show Merged _ _ _ _; rw [hXe]; exact merged_nil_left HTT.out hz
              have M9 : Mine b w1 (.row 3 1 (some ⟨g, 0, none⟩) n c (ints (P ++ (X1 ++ (L2 ++ (R2 ++ Q))))) :: fr) := by have h := M.out; rw [hz] at h; rw [hXe]; simpa only [List.nil_append] using h
              replace M := Lib.hid M9
              clear M9 hz hXe
              have HXL : Hid (X1.length = L1.length + R1.length) := by have h := HX1.out.perm.length_eq; rw [List.length_append] at h; exact h
              have hz : R2 = [] := List.eq_nil_of_length_eq_zero (by have l1 := HQ1.out; have l2 := HQ2.out; have l3 := HQ3.out; have l4 := HQ4.out; have l5 := HM.out; have l6 := HA.out; have l7 := HE0.out; have l8 := HpL.out; have l9 := Hq.out; have l10 := HNE.out; omega)
              obtain ⟨X2, hXe⟩ : ∃ X2, X2 = L2 := ⟨_, rfl⟩
              have HX2 : Hid (Merged K L2 R2 X2) := by show Merged _ _ _ _; rw [hXe]; exact merged_nil_right HTD.out hz
              have M9 : Mine b w1 (.row 3 1 (some ⟨g, 0, none⟩) n c (ints (P ++ (X1 ++ (X2 ++ Q)))) :: fr) := by have h := M.out; rw [hz] at h; rw [hXe]; simpa only [List.nil_append] using h
              replace M := Lib.hid M9
              clear M9 hz hXe
              have M8 : Hid (Mine b w1 (.row 3 1 (some ⟨g, 0, none⟩) n c (ints (P ++ ((X1 ++ X2) ++ Q))) :: fr)) := Lib.hid (by have h := M.out; rwa [← List.append_assoc X1] at h)
              clear M
              go_wp2
              first | refine bodyPost_ret (v := .tuple #[]) (by simp [results, Try.results126, go_sem]) rfl ?_ | refine bodyPost_end (v := .tuple #[]) (by simp [results, Try.results126, go_sem]) rfl ?_
              exact ⟨rfl, _, HMG.out _ _ HX1.out HX2.out, M8.out⟩
        · skip
          by_cases c3 : a < S
          · skip
            by_cases c4 : MD + m - e0 < S
            · skip
              have hns1 : S ≤ NN := by have h := HARI.out; omega
              have hns2 : NN ≤ 4194304 := by have h := HARI.out; omega
              have t1 : S < m := by have h := HARI.out; omega
              have t2 : ¬ m < NN - S := by have h := HARI.out; omega
              have t3 : a < S := by have h := HARI.out; omega
              have t4 : ¬ S < MD := by have h := HARI.out; omega
              have t5 : MD < NN - S := by have h := HARI.out; omega
              have t6 : NN - S < e0 := by have h := HARI.out; omega
              have hz : R1 = [] := List.eq_nil_of_length_eq_zero (by have l1 := HQ1.out; have l2 := HQ2.out; have l3 := HQ3.out; have l4 := HQ4.out; have l5 := HM.out; have l6 := HA.out; have l7 := HE0.out; have l8 := HpL.out; have l9 := Hq.out; have l10 := HNE.out; omega)
              have M9 : Mine b wr (.row 3 1 (some ⟨g, 0, none⟩) n c (ints (P ++ (L1 ++ (R1 ++ (L2 ++ (R2 ++ Q)))))) :: fr) := by have h := M.out; rw [hz] at h ⊢; simpa only [List.nil_append] using h
              replace M := Lib.hid M9
              clear M9 hz
              have hz : R1 = [] := List.eq_nil_of_length_eq_zero (by have l1 := HQ1.out; have l2 := HQ2.out; have l3 := HQ3.out; have l4 := HQ4.out; have l5 := HM.out; have l6 := HA.out; have l7 := HE0.out; have l8 := HpL.out; have l9 := Hq.out; have l10 := HNE.out; omega)
              obtain ⟨X1, hXe⟩ : ∃ X1, X1 = L1 := ⟨_, rfl⟩
              have HX1 : Hid (Merged K L1 R1 X1) := by show Merged _ _ _ _; rw [hXe]; exact merged_nil_right HTT.out hz
              have M9 : Mine b wr (.row 3 1 (some ⟨g, 0, none⟩) n c (ints (P ++ (X1 ++ (L2 ++ (R2 ++ Q))))) :: fr) := by have h := M.out; rw [hz] at h; rw [hXe]; simpa only [List.nil_append] using h
              replace M := Lib.hid M9
              clear M9 hz hXe
              have HXL : Hid (X1.length = L1.length + R1.length) := by have h := HX1.out.perm.length_eq; rw [List.length_append] at h; exact h
              go_wp2_with fail
              have M9 : Mine b wr (.row 3 1 (some ⟨g, 0, none⟩) n c (ints ((P ++ X1) ++ (L2 ++ (R2 ++ Q)))) :: fr) := by have h := M.out; rwa [← List.append_assoc P] at h
              refine (IH.out _ (P ++ X1) L2 R2 Q _ _ _ M9 HTD.out HI1.out.2.1 HI1.out.2.2.2 (by have l1 := HQ1.out; have l2 := HQ2.out; have l3 := HQ3.out; have l4 := HQ4.out; have l5 := HM.out; have l6 := HA.out; have l7 := HE0.out; have l8 := HpL.out; have l9 := Hq.out; have l10 := HNE.out; have l13 := HXL.out; rw [List.length_append]; omega) (by have l1 := HQ1.out; have l2 := HQ2.out; have l3 := HQ3.out; have l4 := HQ4.out; have l5 := HM.out; have l6 := HA.out; have l7 := HE0.out; have l8 := HpL.out; have l9 := Hq.out; have l10 := HNE.out; have l13 := HXL.out; rw [List.length_append]; omega) (by have l1 := HQ1.out; have l2 := HQ2.out; have l3 := HQ3.out; have l4 := HQ4.out; have l5 := HM.out; have l6 := HA.out; have l7 := HE0.out; have l8 := HpL.out; have l9 := Hq.out; have l10 := HNE.out; have l13 := HXL.out; rw [List.length_append]; omega) (by have l1 := HQ1.out; have l2 := HQ2.out; have l3 := HQ3.out; have l4 := HQ4.out; have l5 := HM.out; have l6 := HA.out; have l7 := HE0.out; have l8 := HpL.out; have l9 := Hq.out; have l10 := HNE.out; omega) (by have l1 := HQ1.out; have l2 := HQ2.out; have l3 := HQ3.out; have l4 := HQ4.out; have l5 := HM.out; have l6 := HA.out; have l7 := HE0.out; have l8 := HpL.out; have l9 := Hq.out; have l10 := HNE.out; omega) (by have l1 := HQ1.out; have l2 := HQ2.out; have l3 := HQ3.out; have l4 := HQ4.out; have l5 := HM.out; have l6 := HA.out; have l7 := HE0.out; have l8 := HpL.out; have l9 := Hq.out; have l10 := HNE.out; have l11 := HNN.out; have l12 := HARI.out; omega)).mono ?_
              rintro e w3 ⟨rfl, X2, hX2, M1⟩
              rw [List.append_assoc P] at M1
              replace M := Lib.hid M1
              have HX2 := Lib.hid hX2
              clear M1 hX2 M9
              have M8 : Hid (Mine b w3 (.row 3 1 (some ⟨g, 0, none⟩) n c (ints (P ++ ((X1 ++ X2) ++ Q))) :: fr)) := Lib.hid (by have h := M.out; rwa [← List.append_assoc X1] at h)
              clear M
              go_wp2
              first | refine bodyPost_ret (v := .tuple #[]) (by simp [results, Try.results126, go_sem]) rfl ?_ | refine bodyPost_end (v := .tuple #[]) (by simp [results, Try.results126, go_sem]) rfl ?_
              exact ⟨rfl, _, HMG.out _ _ HX1.out HX2.out, M8.out⟩
            · skip
              exact absurd HARI.out (by omega)
          · skip
            by_cases c4 : MD + m - e0 < S
            · skip
              exact absurd HARI.out (by omega)
            · skip
              exact absurd HARI.out (by omega)
      · skip
        by_cases c2 : S < MD
        · skip
          by_cases c3 : a < S
          · skip
            by_cases c4 : MD + m - e0 < S
            · skip
              have hns1 : S ≤ NN := by have h := HARI.out; omega
              have hns2 : NN ≤ 4194304 := by have h := HARI.out; omega
              have t1 : ¬ S < m := by have h := HARI.out; omega
              have t2 : m < NN - S := by have h := HARI.out; omega
              have t3 : a < S := by have h := HARI.out; omega
              have t4 : S < MD := by have h := HARI.out; omega
              have t5 : ¬ MD < NN - S := by have h := HARI.out; omega
              have t6 : NN - S < e0 := by have h := HARI.out; omega
              have hz : L2 = [] := List.eq_nil_of_length_eq_zero (by have l1 := HQ1.out; have l2 := HQ2.out; have l3 := HQ3.out; have l4 := HQ4.out; have l5 := HM.out; have l6 := HA.out; have l7 := HE0.out; have l8 := HpL.out; have l9 := Hq.out; have l10 := HNE.out; omega)
              have M9 : Mine b wr (.row 3 1 (some ⟨g, 0, none⟩) n c (ints (P ++ (L1 ++ (R1 ++ (L2 ++ (R2 ++ Q)))))) :: fr) := by have h := M.out; rw [hz] at h ⊢; simpa only [List.nil_append] using h
              replace M := Lib.hid M9
              clear M9 hz
              go_wp2_with fail
              refine (IH.out _ P L1 R1 (L2 ++ (R2 ++ Q)) _ _ _ M.out HTT.out HI1.out.1 HI1.out.2.2.1 (by have l1 := HQ1.out; have l2 := HQ2.out; have l3 := HQ3.out; have l4 := HQ4.out; have l5 := HM.out; have l6 := HA.out; have l7 := HE0.out; have l8 := HpL.out; have l9 := Hq.out; have l10 := HNE.out; omega) (by have l1 := HQ1.out; have l2 := HQ2.out; have l3 := HQ3.out; have l4 := HQ4.out; have l5 := HM.out; have l6 := HA.out; have l7 := HE0.out; have l8 := HpL.out; have l9 := Hq.out; have l10 := HNE.out; omega) (by have l1 := HQ1.out; have l2 := HQ2.out; have l3 := HQ3.out; have l4 := HQ4.out; have l5 := HM.out; have l6 := HA.out; have l7 := HE0.out; have l8 := HpL.out; have l9 := Hq.out; have l10 := HNE.out; omega) (by have l1 := HQ1.out; have l2 := HQ2.out; have l3 := HQ3.out; have l4 := HQ4.out; have l5 := HM.out; have l6 := HA.out; have l7 := HE0.out; have l8 := HpL.out; have l9 := Hq.out; have l10 := HNE.out; omega) (by have l1 := HQ1.out; have l2 := HQ2.out; have l3 := HQ3.out; have l4 := HQ4.out; have l5 := HM.out; have l6 := HA.out; have l7 := HE0.out; have l8 := HpL.out; have l9 := Hq.out; have l10 := HNE.out; omega) (by have l1 := HQ1.out; have l2 := HQ2.out; have l3 := HQ3.out; have l4 := HQ4.out; have l5 := HM.out; have l6 := HA.out; have l7 := HE0.out; have l8 := HpL.out; have l9 := Hq.out; have l10 := HNE.out; have l11 := HNN.out; have l12 := HARI.out; omega)).mono ?_
              rintro e w2 ⟨rfl, X1, hX1, M1⟩
              replace M := Lib.hid M1
              have HX1 := Lib.hid hX1
              clear M1 hX1
              have HXL : Hid (X1.length = L1.length + R1.length) := by have h := HX1.out.perm.length_eq; rw [List.length_append] at h; exact h
              have hz : L2 = [] := List.eq_nil_of_length_eq_zero (by have l1 := HQ1.out; have l2 := HQ2.out; have l3 := HQ3.out; have l4 := HQ4.out; have l5 := HM.out; have l6 := HA.out; have l7 := HE0.out; have l8 := HpL.out; have l9 := Hq.out; have l10 := HNE.out; omega)
              obtain ⟨X2, hXe⟩ : ∃ X2, X2 = R2 := ⟨_, rfl⟩
              have HX2 : Hid (Merged K L2 R2 X2) := by show Merged _ _ _ _; rw [hXe]; exact merged_nil_left HTD.out hz
              have M9 : Mine b w2 (.row 3 1 (some ⟨g, 0, none⟩) n c (ints (P ++ (X1 ++ (X2 ++ Q)))) :: fr) := by have h := M.out; rw [hz] at h; rw [hXe]; simpa only [List.nil_append] using h
              replace M := Lib.hid M9
              clear M9 hz hXe
              have M8 : Hid (Mine b w2 (.row 3 1 (some ⟨g, 0, none⟩) n c (ints (P ++ ((X1 ++ X2) ++ Q))) :: fr)) := Lib.hid (by have h := M.out; rwa [← List.append_assoc X1] at h)
              clear M
              go_wp2
              first | refine bodyPost_ret (v := .tuple #[]) (by simp [results, Try.results126, go_sem]) rfl ?_ | refine bodyPost_end (v := .tuple #[]) (by simp [results, Try.results126, go_sem]) rfl ?_
              exact ⟨rfl, _, HMG.out _ _ HX1.out HX2.out, M8.out⟩
            · skip
              exact absurd HARI.out (by omega)
          · skip
            by_cases c4 : MD + m - e0 < S
            · skip
              exact absurd HARI.out (by omega)
            · skip
              exact absurd HARI.out (by omega)
        · skip
          by_cases c3 : a < S
          · skip
            by_cases c4 : MD + m - e0 < S
            · skip
              have hns1 : S ≤ NN := by have h := HARI.out; omega
              have hns2 : NN ≤ 4194304 := by have h := HARI.out; omega
              have t1 : ¬ S < m := by have h := HARI.out; omega
              have t2 : ¬ m < NN - S := by have h := HARI.out; omega
              have t3 : a < S := by have h := HARI.out; omega
              have t4 : ¬ S < MD := by have h := HARI.out; omega
              have t5 : ¬ MD < NN - S := by have h := HARI.out; omega
              have t6 : NN - S < e0 := by have h := HARI.out; omega
              have hz : L2 = [] := List.eq_nil_of_length_eq_zero (by have l1 := HQ1.out; have l2 := HQ2.out; have l3 := HQ3.out; have l4 := HQ4.out; have l5 := HM.out; have l6 := HA.out; have l7 := HE0.out; have l8 := HpL.out; have l9 := Hq.out; have l10 := HNE.out; omega)
              have M9 : Mine b wr (.row 3 1 (some ⟨g, 0, none⟩) n c (ints (P ++ (L1 ++ (R1 ++ (L2 ++ (R2 ++ Q)))))) :: fr) := by have h := M.out; rw [hz] at h ⊢; simpa only [List.nil_append] using h
              replace M := Lib.hid M9
              clear M9 hz
              have hz : R1 = [] := List.eq_nil_of_length_eq_zero (by have l1 := HQ1.out; have l2 := HQ2.out; have l3 := HQ3.out; have l4 := HQ4.out; have l5 := HM.out; have l6 := HA.out; have l7 := HE0.out; have l8 := HpL.out; have l9 := Hq.out; have l10 := HNE.out; omega)
              obtain ⟨X1, hXe⟩ : ∃ X1, X1 = L1 := ⟨_, rfl⟩
              have HX1 : Hid (Merged K L1 R1 X1) := by show Merged _ _ _ _; rw [hXe]; exact merged_nil_right HTT.out hz
              have M9 : Mine b wr (.row 3 1 (some ⟨g, 0, none⟩) n c (ints (P ++ (X1 ++ (L2 ++ (R2 ++ Q))))) :: fr) := by have h := M.out; rw [hz] at h; rw [hXe]; simpa only [List.nil_append] using h
              replace M := Lib.hid M9
              clear M9 hz hXe
              have HXL : Hid (X1.length = L1.length + R1.length) := by have h := HX1.out.perm.length_eq; rw [List.length_append] at h; exact h
              have hz : L2 = [] := List.eq_nil_of_length_eq_zero (by have l1 := HQ1.out; have l2 := HQ2.out; have l3 := HQ3.out; have l4 := HQ4.out; have l5 := HM.out; have l6 := HA.out; have l7 := HE0.out; have l8 := HpL.out; have l9 := Hq.out; have l10 := HNE.out; omega)
              obtain ⟨X2, hXe⟩ : ∃ X2, X2 = R2 := ⟨_, rfl⟩
              have HX2 : Hid (Merged K L2 R2 X2) := by show Merged _ _ _ _; rw [hXe]; exact merged_nil_left HTD.out hz
              have M9 : Mine b wr (.row 3 1 (some ⟨g, 0, none⟩) n c (ints (P ++ (X1 ++ (X2 ++ Q)))) :: fr) := by have h := M.out; rw [hz] at h; rw [hXe]; simpa only [List.nil_append] using h
              replace M := Lib.hid M9
              clear M9 hz hXe
              have M8 : Hid (Mine b wr (.row 3 1 (some ⟨g, 0, none⟩) n c (ints (P ++ ((X1 ++ X2) ++ Q))) :: fr)) := Lib.hid (by have h := M.out; rwa [← List.append_assoc X1] at h)
              clear M
              go_wp2
              first | refine bodyPost_ret (v := .tuple #[]) (by simp [results, Try.results126, go_sem]) rfl ?_ | refine bodyPost_end (v := .tuple #[]) (by simp [results, Try.results126, go_sem]) rfl ?_
              exact ⟨rfl, _, HMG.out _ _ HX1.out HX2.out, M8.out⟩
            · skip
              exact absurd HARI.out (by omega)
          · skip
            by_cases c4 : MD + m - e0 < S
            · skip
              exact absurd HARI.out (by omega)
            · skip
              exact absurd HARI.out (by omega)
  have htest : ¬ (a + e0) / 2 < m := by rw [← HMD.out]; exact hmm
  have hn0 : 0 ≤ MD + m := by omega
  have hn1 : MD + m ≤ 4194304 := by omega
  go_enter Try.func126, Try.ntmps126
  go_wp2
  rw [← HMD.out]
  obtain ⟨NN, hNN⟩ : ∃ NN, NN = MD + m := ⟨_, rfl⟩
  rw [← hNN]
  obtain ⟨PP, hPP⟩ : ∃ PP, PP = NN - 1 := ⟨_, rfl⟩
  rw [← hPP]
  have HPP := Lib.hid hPP
  have HNE := Lib.hid hNN
  obtain ⟨lo, hlo⟩ : ∃ lo, lo = a := ⟨_, rfl⟩
  obtain ⟨hi, hhi⟩ : ∃ hi, hi = m := ⟨_, rfl⟩
  have HB : Hid (a ≤ lo ∧ lo ≤ hi ∧ hi ≤ m ∧ hi ≤ MD ∧ MD + m - e0 ≤ lo ∧ (lo = a ∨ lo = MD + m - e0) ∧ (hi = m ∨ hi = MD)) := by show _ ∧ _; omega
  have HLOE := Lib.hid hlo
  have HHIE := Lib.hid hhi
  clear hlo hhi hNN hPP hmm htest hn0 hn1
  go_loopw [20, 21] (fun sv rv wr => ∃ S Y : Int, sv = .int .i64 S ∧ rv = .int .i64 Y ∧ Hid (lo ≤ S ∧ S ≤ Y ∧ Y ≤ hi) ∧ Hid (∀ (q : Int) (x y : Int), lo ≤ q → q < S → L[(q - a).toNat]? = some x → R[(MD - 1 - q).toNat]? = some y → ¬ K.lt y x) ∧ Hid (∀ (q : Int) (x y : Int), Y ≤ q → q < hi → L[(q - a).toNat]? = some x → R[(MD - 1 - q).toNat]? = some y → K.lt y x) ∧ Hid (Mine b wr (.row 3 1 (some ⟨g, 0, none⟩) n c (ints (D)) :: fr))) (fun sv rv _ => (intOf rv - intOf sv).toNat)
  case atStart => exact ⟨lo, hi, by rw [HLOE.out], by rw [HHIE.out], ⟨Int.le_refl _, HB.out.2.1, Int.le_refl _⟩, fun q x y h1 h2 => absurd h2 (by omega), fun q x y h1 h2 => absurd h2 (by omega), M⟩
  case round =>
    clear M
    obtain ⟨S, Y, rfl, rfl, HSY, HLO, HHI, M⟩ := hrel
    by_cases hlt : S < Y
    · have hb := HB.out
      have hsy := HSY.out
      have hS0 : 0 ≤ S := by omega
      have hSYm : S + Y ≤ 4194304 := by omega
      go_wp2
      obtain ⟨C, hC⟩ : ∃ C, C = (S + Y) / 2 := ⟨_, rfl⟩
      have hC1 : S ≤ C := by omega
      have hC2 : C < Y := by omega
      rw [← hC]
      clear hC
      have hC0 : 0 ≤ C := by omega
      have hCn : C < (n : Int) := by omega
      obtain ⟨x, hx⟩ : ∃ x, L[(C - a).toNat]? = some x := ⟨_, List.getElem?_eq_getElem (by have h1 := HM.out; have h2 := HA.out; omega)⟩
      obtain ⟨y, hy⟩ : ∃ y, R[(MD - 1 - C).toNat]? = some y := ⟨_, List.getElem?_eq_getElem (by have h1 := HM.out; have h2 := HE0.out; omega)⟩
      have hXE := Lib.hid (HEL.out x (List.mem_of_getElem? hx))
      have hYE := Lib.hid (HER.out y (List.mem_of_getElem? hy))
      have hPC : 0 ≤ PP - C := by have h1 := HPP.out; have h2 := HNE.out; omega
      have hPC2 : C ≤ PP := by omega
      have hPCn : PP - C < (n : Int) := by have h1 := HPP.out; have h2 := HNE.out; omega
      have WP : IntKind.i64.wrap (PP - C) = PP - C := Go.IntWalk.i64_in _ (by omega)
      have hx1 : (ints D)[C.toNat]? = some (.int .i64 x) := by rw [HD.out]; exact ints_at (at_part (by have h2 := HA.out; omega) hx)
      have hy1 : (ints D)[(PP - C).toNat]? = some (.int .i64 y) := by rw [HD.out, ← List.append_assoc]; exact ints_at (at_part (by have h1 := HM.out; have h2 := HPP.out; have h3 := HNE.out; rw [List.length_append]; omega) hy)
      have HXX := Lib.hid hx
      have HYY := Lib.hid hy
      clear hx hy
      by_cases hlz : K.lt y x
      · have hc := Keys.z_yes hlz
        have HLZ := Lib.hid hlz
        clear hlz
        refine Mine.region_quiet M.out (by kernel_rfl) (by kernel_rfl) ?_
        repeat (first | go_big_quiet_skip | (go_big_quiet_want; first | (refine Mine.oq_getr _ _ rfl 0 _ rfl rfl _ (by exact hy1) _ (by first | exact Try.underlying3) (by rfl) ?_; (try simp only [Act.put, List.setIfInBounds_toArray, List.set_cons_zero, List.set_cons_succ, List.drop_succ_cons, List.drop_zero, List.take_succ_cons, List.take_zero, putAt, ints_set, ints_push, List.getElem_toArray, List.getElem_cons_zero, List.getElem_cons_succ]); go_big_quiet_on) | (refine Mine.oq_getr _ _ rfl 0 _ rfl rfl _ (by exact hx1) _ (by first | exact Try.underlying3) (by rfl) ?_; (try simp only [Act.put, List.setIfInBounds_toArray, List.set_cons_zero, List.set_cons_succ, List.drop_succ_cons, List.drop_zero, List.take_succ_cons, List.take_zero, putAt, ints_set, ints_push, List.getElem_toArray, List.getElem_cons_zero, List.getElem_cons_succ]); go_big_quiet_on) | (unfold Oper.quiet; apply Exists.intro; refine ⟨fun wq hq => ?_, ?_⟩; (go_simp; (with_reducible refine (HC.out wq y x hq.tail hYE.out hXE.out).mono ?_); rintro e w2 ⟨rfl, x2⟩; exact ⟨rfl, hq.on x2⟩); (try simp only [Act.put, List.setIfInBounds_toArray, List.set_cons_succ, List.set_cons_zero]); go_big_quiet_on) | (unfold Oper.quiet; apply Exists.intro; refine ⟨fun wq hq => ?_, ?_⟩; (clear hq; go_simp; first | done | rfl | exact ⟨rfl, rfl⟩); (try simp only [Act.put, List.setIfInBounds_toArray, List.set_cons_succ, List.set_cons_zero]); go_big_quiet_on)))
        refine wpQuiet_nil ?_
        intro w' M'
        replace M := Lib.hid M'
        clear M'
        clear hx1 hy1 WP
        go_wp2
        go_roundw
        case rel => exact ⟨S, C, rfl, rfl, ⟨hsy.1, hC1, by omega⟩, HLO, fun q x2 y2 h1 h2 hx2 hy2 => Classical.byContradiction fun hno => search_lo HT.out hx2 hy2 hno HXX.out HYY.out (by omega) (by omega) HLZ.out, M⟩
        case measure => simp [intOf]; omega
      have hc := Keys.z_no hlz
      have HLZ := Lib.hid hlz
      clear hlz
      refine Mine.region_quiet M.out (by kernel_rfl) (by kernel_rfl) ?_
      repeat (first | go_big_quiet_skip | (go_big_quiet_want; first | (refine Mine.oq_getr _ _ rfl 0 _ rfl rfl _ (by exact hy1) _ (by first | exact Try.underlying3) (by rfl) ?_; (try simp only [Act.put, List.setIfInBounds_toArray, List.set_cons_zero, List.set_cons_succ, List.drop_succ_cons, List.drop_zero, List.take_succ_cons, List.take_zero, putAt, ints_set, ints_push, List.getElem_toArray, List.getElem_cons_zero, List.getElem_cons_succ]); go_big_quiet_on) | (refine Mine.oq_getr _ _ rfl 0 _ rfl rfl _ (by exact hx1) _ (by first | exact Try.underlying3) (by rfl) ?_; (try simp only [Act.put, List.setIfInBounds_toArray, List.set_cons_zero, List.set_cons_succ, List.drop_succ_cons, List.drop_zero, List.take_succ_cons, List.take_zero, putAt, ints_set, ints_push, List.getElem_toArray, List.getElem_cons_zero, List.getElem_cons_succ]); go_big_quiet_on) | (unfold Oper.quiet; apply Exists.intro; refine ⟨fun wq hq => ?_, ?_⟩; (go_simp; (with_reducible refine (HC.out wq y x hq.tail hYE.out hXE.out).mono ?_); rintro e w2 ⟨rfl, x2⟩; exact ⟨rfl, hq.on x2⟩); (try simp only [Act.put, List.setIfInBounds_toArray, List.set_cons_succ, List.set_cons_zero]); go_big_quiet_on) | (unfold Oper.quiet; apply Exists.intro; refine ⟨fun wq hq => ?_, ?_⟩; (clear hq; go_simp; first | done | rfl | exact ⟨rfl, rfl⟩); (try simp only [Act.put, List.setIfInBounds_toArray, List.set_cons_succ, List.set_cons_zero]); go_big_quiet_on)))
      refine wpQuiet_nil ?_
      intro w' M'
      replace M := Lib.hid M'
      clear M'
      clear hx1 hy1 WP
      go_wp2
      go_roundw
      case rel => exact ⟨C + 1, Y, rfl, rfl, ⟨by omega, by omega, hsy.2.2⟩, fun q x2 y2 h1 h2 hx2 hy2 => search_lo HT.out HXX.out HYY.out HLZ.out hx2 hy2 (by omega) (by omega), HHI, M⟩
      case measure => simp [intOf]; omega
    have hsy := HSY.out
    obtain rfl : S = Y := by omega
    have hb := HB.out
    have h1 := HM.out
    have h2 := HA.out
    have h3 := HE0.out
    obtain ⟨pL, hpL⟩ : ∃ pL : Nat, S = a + pL := ⟨(S - a).toNat, by omega⟩
    obtain ⟨q, hq⟩ : ∃ q : Nat, MD = S + q := ⟨(MD - S).toNat, by omega⟩
    have hpl : pL ≤ L.length := by omega
    have hql : q ≤ R.length := by omega
    have HH1 : Hid (∀ (x y : Int), 0 < pL → L[pL - 1]? = some x → R[q]? = some y → ¬ K.lt y x) := fun x y h0 hx hy => by
      have hyl := (List.getElem?_eq_some_iff.1 hy).1
      exact HLO.out (S - 1) x y (by omega) (by omega) (by rw [show (S - 1 - a).toNat = pL - 1 by omega]; exact hx) (by rw [show (MD - 1 - (S - 1)).toNat = q by omega]; exact hy)
    have HH2 : Hid (∀ (x y : Int), 0 < q → L[pL]? = some x → R[q - 1]? = some y → K.lt y x) := fun x y h0 hx hy => by
      have hxl := (List.getElem?_eq_some_iff.1 hx).1
      exact HHI.out S x y (Int.le_refl _) (by omega) (by rw [show (S - a).toNat = pL by omega]; exact hx) (by rw [show (MD - 1 - S).toNat = q - 1 by omega]; exact hy)
    have HMG : Hid (∀ X Z : List Int, Merged K (L.take pL) (R.take q) X → Merged K (L.drop pL) (R.drop q) Z → Merged K L R (X ++ Z)) := fun X Z hX hZ => merge_halves HT.out hpl hql HH1.out HH2.out hX hZ
    have eD : D = P ++ (L.take pL ++ (L.drop pL ++ (R.take q ++ (R.drop q ++ Q)))) := by rw [HD.out, ← List.append_assoc (R.take q), List.take_append_drop, ← List.append_assoc (L.take pL), List.take_append_drop]
    rw [eD] at M
    have HQ1 : Hid ((L.take pL).length = pL) := by show _ = _; rw [List.length_take]; omega
    have HQ2 : Hid ((L.drop pL).length = L.length - pL) := List.length_drop
    have HQ3 : Hid ((R.take q).length = q) := by show _ = _; rw [List.length_take]; omega
    have HQ4 : Hid ((R.drop q).length = R.length - q) := List.length_drop
    have HTT := Lib.hid (HT.out.take pL q)
    have HTD := Lib.hid (HT.out.drop pL q)
    have HpL := Lib.hid hpL
    have Hq := Lib.hid hq
    have hS0 : 0 ≤ S := by omega
    generalize hL1 : L.take pL = L1 at *
    generalize hL2 : L.drop pL = L2 at *
    generalize hR1 : R.take q = R1 at *
    generalize hR2 : R.drop q = R2 at *
    have HI1 : Hid ((∀ x ∈ L1, x ∈ E) ∧ (∀ x ∈ L2, x ∈ E) ∧ (∀ x ∈ R1, x ∈ E) ∧ (∀ x ∈ R2, x ∈ E)) := ⟨fun x h => HEL.out x (List.mem_of_mem_take (hL1 ▸ h)), fun x h => HEL.out x (List.mem_of_mem_drop (hL2 ▸ h)), fun x h => HER.out x (List.mem_of_mem_take (hR1 ▸ h)), fun x h => HER.out x (List.mem_of_mem_drop (hR2 ▸ h))⟩
    clear hL1 hL2 hR1 hR2 eD HLO HHI HH1 HH2 hpL hq h1 h2 h3
    have HARI : Hid (NN = MD + m ∧ a + 2 ≤ m ∧ m + 2 ≤ e0 ∧ a ≤ S ∧ S ≤ m ∧ S ≤ MD ∧ MD + m - e0 ≤ S ∧ a + e0 ≤ 2 * MD + 1 ∧ 2 * MD ≤ a + e0) := by have h9 := HNE.out; show _ ∧ _; omega
    clear hb hsy hlt
    by_cases c1 : S < m
    · skip
      by_cases c2 : S < MD
      · skip
        by_cases c3 : a < S
        · skip
          by_cases c4 : MD + m - e0 < S
          · skip
            have hns1 : S ≤ NN := by have h := HARI.out; omega
            have hns2 : NN ≤ 4194304 := by have h := HARI.out; omega
            have t1 : S < m := by have h := HARI.out; omega
            have t2 : m < NN - S := by have h := HARI.out; omega
            have t3 : a < S := by have h := HARI.out; omega
            have t4 : S < MD := by have h := HARI.out; omega
            have t5 : MD < NN - S := by have h := HARI.out; omega
            have t6 : NN - S < e0 := by have h := HARI.out; omega
            go_wp2_with fail
            have M9 : Mine b wr (.row 3 1 (some ⟨g, 0, none⟩) n c (ints ((P ++ L1) ++ (L2 ++ (R1 ++ (R2 ++ Q))))) :: fr) := by have h := M.out; rwa [← List.append_assoc P] at h
            refine (rotate_i M9 (by have l1 := HQ1.out; have l2 := HQ2.out; have l3 := HQ3.out; have l4 := HQ4.out; have l5 := HM.out; have l6 := HA.out; have l7 := HE0.out; have l8 := HpL.out; have l9 := Hq.out; have l10 := HNE.out; rw [List.length_append]; omega) (by have l1 := HQ1.out; have l2 := HQ2.out; have l3 := HQ3.out; have l4 := HQ4.out; have l5 := HM.out; have l6 := HA.out; have l7 := HE0.out; have l8 := HpL.out; have l9 := Hq.out; have l10 := HNE.out; rw [List.length_append]; omega) (by have l1 := HQ1.out; have l2 := HQ2.out; have l3 := HQ3.out; have l4 := HQ4.out; have l5 := HM.out; have l6 := HA.out; have l7 := HE0.out; have l8 := HpL.out; have l9 := Hq.out; have l10 := HNE.out; rw [List.length_append]; omega) (by have l1 := HQ1.out; have l2 := HQ2.out; have l3 := HQ3.out; have l4 := HQ4.out; have l5 := HM.out; have l6 := HA.out; have l7 := HE0.out; have l8 := HpL.out; have l9 := Hq.out; have l10 := HNE.out; omega) (by have l1 := HQ1.out; have l2 := HQ2.out; have l3 := HQ3.out; have l4 := HQ4.out; have l5 := HM.out; have l6 := HA.out; have l7 := HE0.out; have l8 := HpL.out; have l9 := Hq.out; have l10 := HNE.out; omega) hn).mono ?_
            rintro e w1 ⟨rfl, M1⟩
            rw [List.append_assoc P] at M1
            replace M := Lib.hid M1
            clear M1 M9
            go_wp2_with fail
            refine (IH.out _ P L1 R1 (L2 ++ (R2 ++ Q)) _ _ _ M.out HTT.out HI1.out.1 HI1.out.2.2.1 (by have l1 := HQ1.out; have l2 := HQ2.out; have l3 := HQ3.out; have l4 := HQ4.out; have l5 := HM.out; have l6 := HA.out; have l7 := HE0.out; have l8 := HpL.out; have l9 := Hq.out; have l10 := HNE.out; omega) (by have l1 := HQ1.out; have l2 := HQ2.out; have l3 := HQ3.out; have l4 := HQ4.out; have l5 := HM.out; have l6 := HA.out; have l7 := HE0.out; have l8 := HpL.out; have l9 := Hq.out; have l10 := HNE.out; omega) (by have l1 := HQ1.out; have l2 := HQ2.out; have l3 := HQ3.out; have l4 := HQ4.out; have l5 := HM.out; have l6 := HA.out; have l7 := HE0.out; have l8 := HpL.out; have l9 := Hq.out; have l10 := HNE.out; omega) (by have l1 := HQ1.out; have l2 := HQ2.out; have l3 := HQ3.out; have l4 := HQ4.out; have l5 := HM.out; have l6 := HA.out; have l7 := HE0.out; have l8 := HpL.out; have l9 := Hq.out; have l10 := HNE.out; omega) (by have l1 := HQ1.out; have l2 := HQ2.out; have l3 := HQ3.out; have l4 := HQ4.out; have l5 := HM.out; have l6 := HA.out; have l7 := HE0.out; have l8 := HpL.out; have l9 := Hq.out; have l10 := HNE.out; omega) (by have l1 := HQ1.out; have l2 := HQ2.out; have l3 := HQ3.out; have l4 := HQ4.out; have l5 := HM.out; have l6 := HA.out; have l7 := HE0.out; have l8 := HpL.out; have l9 := Hq.out; have l10 := HNE.out; have l11 := HNN.out; have l12 := HARI.out; omega)).mono ?_
            rintro e w2 ⟨rfl, X1, hX1, M1⟩
            replace M := Lib.hid M1
            have HX1 := Lib.hid hX1
            clear M1 hX1
            have HXL : Hid (X1.length = L1.length + R1.length) := by have h := HX1.out.perm.length_eq; rw [List.length_append] at h; exact h
            go_wp2_with fail
            have M9 : Mine b w2 (.row 3 1 (some ⟨g, 0, none⟩) n c (ints ((P ++ X1) ++ (L2 ++ (R2 ++ Q)))) :: fr) := by have h := M.out; rwa [← List.append_assoc P] at h
            refine (IH.out _ (P ++ X1) L2 R2 Q _ _ _ M9 HTD.out HI1.out.2.1 HI1.out.2.2.2 (by have l1 := HQ1.out; have l2 := HQ2.out; have l3 := HQ3.out; have l4 := HQ4.out; have l5 := HM.out; have l6 := HA.out; have l7 := HE0.out; have l8 := HpL.out; have l9 := Hq.out; have l10 := HNE.out; have l13 := HXL.out; rw [List.length_append]; omega) (by have l1 := HQ1.out; have l2 := HQ2.out; have l3 := HQ3.out; have l4 := HQ4.out; have l5 := HM.out; have l6 := HA.out; have l7 := HE0.out; have l8 := HpL.out; have l9 := Hq.out; have l10 := HNE.out; have l13 := HXL.out; rw [List.length_append]; omega) (by have l1 := HQ1.out; have l2 := HQ2.out; have l3 := HQ3.out; have l4 := HQ4.out; have l5 := HM.out; have l6 := HA.out; have l7 := HE0.out; have l8 := HpL.out; have l9 := Hq.out; have l10 := HNE.out; have l13 := HXL.out; rw [List.length_append]; omega) (by have l1 := HQ1.out; have l2 := HQ2.out; have l3 := HQ3.out; have l4 := HQ4.out; have l5 := HM.out; have l6 := HA.out; have l7 := HE0.out; have l8 := HpL.out; have l9 := Hq.out; have l10 := HNE.out; omega) (by have l1 := HQ1.out; have l2 := HQ2.out; have l3 := HQ3.out; have l4 := HQ4.out; have l5 := HM.out; have l6 := HA.out; have l7 := HE0.out; have l8 := HpL.out; have l9 := Hq.out; have l10 := HNE.out; omega) (by have l1 := HQ1.out; have l2 := HQ2.out; have l3 := HQ3.out; have l4 := HQ4.out; have l5 := HM.out; have l6 := HA.out; have l7 := HE0.out; have l8 := HpL.out; have l9 := Hq.out; have l10 := HNE.out; have l11 := HNN.out; have l12 := HARI.out; omega)).mono ?_
            rintro e w3 ⟨rfl, X2, hX2, M1⟩
            rw [List.append_assoc P] at M1
            replace M := Lib.hid M1
            have HX2 := Lib.hid hX2
            clear M1 hX2 M9
            have M8 : Hid (Mine b w3 (.row 3 1 (some ⟨g, 0, none⟩) n c (ints (P ++ ((X1 ++ X2) ++ Q))) :: fr)) := Lib.hid (by have h := M.out; rwa [← List.append_assoc X1] at h)
            clear M
            go_wp2
            first | refine bodyPost_ret (v := .tuple #[]) (by simp [results, Try.results126, go_sem]) rfl ?_ | refine bodyPost_end (v := .tuple #[]) (by simp [results, Try.results126, go_sem]) rfl ?_
            exact ⟨rfl, _, HMG.out _ _ HX1.out HX2.out, M8.out⟩
          · skip
            have hns1 : S ≤ NN := by have h := HARI.out; omega
            have hns2 : NN ≤ 4194304 := by have h := HARI.out; omega
            have t1 : S < m := by have h := HARI.out; omega
            have t2 : m < NN - S := by have h := HARI.out; omega
            have t3 : a < S := by have h := HARI.out; omega
            have t4 : S < MD := by have h := HARI.out; omega
            have t5 : MD < NN - S := by have h := HARI.out; omega
            have t6 : ¬ NN - S < e0 := by have h := HARI.out; omega
            go_wp2_with fail
            have M9 : Mine b wr (.row 3 1 (some ⟨g, 0, none⟩) n c (ints ((P ++ L1) ++ (L2 ++ (R1 ++ (R2 ++ Q))))) :: fr) := by have h := M.out; rwa [← List.append_assoc P] at h
            refine (rotate_i M9 (by have l1 := HQ1.out; have l2 := HQ2.out; have l3 := HQ3.out; have l4 := HQ4.out; have l5 := HM.out; have l6 := HA.out; have l7 := HE0.out; have l8 := HpL.out; have l9 := Hq.out; have l10 := HNE.out; rw [List.length_append]; omega) (by have l1 := HQ1.out; have l2 := HQ2.out; have l3 := HQ3.out; have l4 := HQ4.out; have l5 := HM.out; have l6 := HA.out; have l7 := HE0.out; have l8 := HpL.out; have l9 := Hq.out; have l10 := HNE.out; rw [List.length_append]; omega) (by have l1 := HQ1.out; have l2 := HQ2.out; have l3 := HQ3.out; have l4 := HQ4.out; have l5 := HM.out; have l6 := HA.out; have l7 := HE0.out; have l8 := HpL.out; have l9 := Hq.out; have l10 := HNE.out; rw [List.length_append]; omega) (by have l1 := HQ1.out; have l2 := HQ2.out; have l3 := HQ3.out; have l4 := HQ4.out; have l5 := HM.out; have l6 := HA.out; have l7 := HE0.out; have l8 := HpL.out; have l9 := Hq.out; have l10 := HNE.out; omega) (by have l1 := HQ1.out; have l2 := HQ2.out; have l3 := HQ3.out; have l4 := HQ4.out; have l5 := HM.out; have l6 := HA.out; have l7 := HE0.out; have l8 := HpL.out; have l9 := Hq.out; have l10 := HNE.out; omega) hn).mono ?_
            rintro e w1 ⟨rfl, M1⟩
            rw [List.append_assoc P] at M1
            replace M := Lib.hid M1
            clear M1 M9
            go_wp2_with fail
            refine (IH.out _ P L1 R1 (L2 ++ (R2 ++ Q)) _ _ _ M.out HTT.out HI1.out.1 HI1.out.2.2.1 (by have l1 := HQ1.out; have l2 := HQ2.out; have l3 := HQ3.out; have l4 := HQ4.out; have l5 := HM.out; have l6 := HA.out; have l7 := HE0.out; have l8 := HpL.out; have l9 := Hq.out; have l10 := HNE.out; omega) (by have l1 := HQ1.out; have l2 := HQ2.out; have l3 := HQ3.out; have l4 := HQ4.out; have l5 := HM.out; have l6 := HA.out; have l7 := HE0.out; have l8 := HpL.out; have l9 := Hq.out; have l10 := HNE.out; omega) (by have l1 := HQ1.out; have l2 := HQ2.out; have l3 := HQ3.out; have l4 := HQ4.out; have l5 := HM.out; have l6 := HA.out; have l7 := HE0.out; have l8 := HpL.out; have l9 := Hq.out; have l10 := HNE.out; omega) (by have l1 := HQ1.out; have l2 := HQ2.out; have l3 := HQ3.out; have l4 := HQ4.out; have l5 := HM.out; have l6 := HA.out; have l7 := HE0.out; have l8 := HpL.out; have l9 := Hq.out; have l10 := HNE.out; omega) (by have l1 := HQ1.out; have l2 := HQ2.out; have l3 := HQ3.out; have l4 := HQ4.out; have l5 := HM.out; have l6 := HA.out; have l7 := HE0.out; have l8 := HpL.out; have l9 := Hq.out; have l10 := HNE.out; omega) (by have l1 := HQ1.out; have l2 := HQ2.out; have l3 := HQ3.out; have l4 := HQ4.out; have l5 := HM.out; have l6 := HA.out; have l7 := HE0.out; have l8 := HpL.out; have l9 := Hq.out; have l10 := HNE.out; have l11 := HNN.out; have l12 := HARI.out; omega)).mono ?_
            rintro e w2 ⟨rfl, X1, hX1, M1⟩
            replace M := Lib.hid M1
            have HX1 := Lib.hid hX1
            clear M1 hX1
            have HXL : Hid (X1.length = L1.length + R1.length) := by have h := HX1.out.perm.length_eq; rw [List.length_append] at h; exact h
            have hz : R2 = [] := List.eq_nil_of_length_eq_zero (by have l1 := HQ1.out; have l2 := HQ2.out; have l3 := HQ3.out; have l4 := HQ4.out; have l5 := HM.out; have l6 := HA.out; have l7 := HE0.out; have l8 := HpL.out; have l9 := Hq.out; have l10 := HNE.out; omega)
            obtain ⟨X2, hXe⟩ : ∃ X2, X2 = L2 := ⟨_, rfl⟩
            have HX2 : Hid (Merged K L2 R2 X2) := by show Merged _ _ _ _; rw [hXe]; exact merged_nil_right HTD.out hz
            have M9 : Mine b w2 (.row 3 1 (some ⟨g, 0, none⟩) n c (ints (P ++ (X1 ++ (X2 ++ Q)))) :: fr) := by have h := M.out; rw [hz] at h; rw [hXe]; simpa only [List.nil_append] using h
            replace M := Lib.hid M9
            clear M9 hz hXe
            have M8 : Hid (Mine b w2 (.row 3 1 (some ⟨g, 0, none⟩) n c (ints (P ++ ((X1 ++ X2) ++ Q))) :: fr)) := Lib.hid (by have h := M.out; rwa [← List.append_assoc X1] at h)
            clear M
            go_wp2
            first | refine bodyPost_ret (v := .tuple #[]) (by simp [results, Try.results126, go_sem]) rfl ?_ | refine bodyPost_end (v := .tuple #[]) (by simp [results, Try.results126, go_sem]) rfl ?_
            exact ⟨rfl, _, HMG.out _ _ HX1.out HX2.out, M8.out⟩
        · skip
          by_cases c4 : MD + m - e0 < S
          · skip
            have hns1 : S ≤ NN := by have h := HARI.out; omega
            have hns2 : NN ≤ 4194304 := by have h := HARI.out; omega
            have t1 : S < m := by have h := HARI.out; omega
            have t2 : m < NN - S := by have h := HARI.out; omega
            have t3 : ¬ a < S := by have h := HARI.out; omega
            have t4 : S < MD := by have h := HARI.out; omega
            have t5 : MD < NN - S := by have h := HARI.out; omega
            have t6 : NN - S < e0 := by have h := HARI.out; omega
            go_wp2_with fail
            have M9 : Mine b wr (.row 3 1 (some ⟨g, 0, none⟩) n c (ints ((P ++ L1) ++ (L2 ++ (R1 ++ (R2 ++ Q))))) :: fr) := by have h := M.out; rwa [← List.append_assoc P] at h
            refine (rotate_i M9 (by have l1 := HQ1.out; have l2 := HQ2.out; have l3 := HQ3.out; have l4 := HQ4.out; have l5 := HM.out; have l6 := HA.out; have l7 := HE0.out; have l8 := HpL.out; have l9 := Hq.out; have l10 := HNE.out; rw [List.length_append]; omega) (by have l1 := HQ1.out; have l2 := HQ2.out; have l3 := HQ3.out; have l4 := HQ4.out; have l5 := HM.out; have l6 := HA.out; have l7 := HE0.out; have l8 := HpL.out; have l9 := Hq.out; have l10 := HNE.out; rw [List.length_append]; omega) (by have l1 := HQ1.out; have l2 := HQ2.out; have l3 := HQ3.out; have l4 := HQ4.out; have l5 := HM.out; have l6 := HA.out; have l7 := HE0.out; have l8 := HpL.out; have l9 := Hq.out; have l10 := HNE.out; rw [List.length_append]; omega) (by have l1 := HQ1.out; have l2 := HQ2.out; have l3 := HQ3.out; have l4 := HQ4.out; have l5 := HM.out; have l6 := HA.out; have l7 := HE0.out; have l8 := HpL.out; have l9 := Hq.out; have l10 := HNE.out; omega) (by have l1 := HQ1.out; have l2 := HQ2.out; have l3 := HQ3.out; have l4 := HQ4.out; have l5 := HM.out; have l6 := HA.out; have l7 := HE0.out; have l8 := HpL.out; have l9 := Hq.out; have l10 := HNE.out; omega) hn).mono ?_
            rintro e w1 ⟨rfl, M1⟩
            rw [List.append_assoc P] at M1
            replace M := Lib.hid M1
            clear M1 M9
            have hz : L1 = [] := List.eq_nil_of_length_eq_zero (by have l1 := HQ1.out; have l2 := HQ2.out; have l3 := HQ3.out; have l4 := HQ4.out; have l5 := HM.out; have l6 := HA.out; have l7 := HE0.out; have l8 := HpL.out; have l9 := Hq.out; have l10 := HNE.out; omega)
            obtain ⟨X1, hXe⟩ : ∃ X1, X1 = R1 := ⟨_, rfl⟩
            have HX1 : Hid (Merged K L1 R1 X1) := by show Merged _ _ _ _; rw [hXe]; exact merged_nil_left HTT.out hz
            have M9 : Mine b w1 (.row 3 1 (some ⟨g, 0, none⟩) n c (ints (P ++ (X1 ++ (L2 ++ (R2 ++ Q))))) :: fr) := by have h := M.out; rw [hz] at h; rw [hXe]; simpa only [List.nil_append] using h
            replace M := Lib.hid M9
            clear M9 hz hXe
            have HXL : Hid (X1.length = L1.length + R1.length) := by have h := HX1.out.perm.length_eq; rw [List.length_append] at h; exact h
            go_wp2_with fail
            have M9 : Mine b w1 (.row 3 1 (some ⟨g, 0, none⟩) n c (ints ((P ++ X1) ++ (L2 ++ (R2 ++ Q)))) :: fr) := by have h := M.out; rwa [← List.append_assoc P] at h
            refine (IH.out _ (P ++ X1) L2 R2 Q _ _ _ M9 HTD.out HI1.out.2.1 HI1.out.2.2.2 (by have l1 := HQ1.out; have l2 := HQ2.out; have l3 := HQ3.out; have l4 := HQ4.out; have l5 := HM.out; have l6 := HA.out; have l7 := HE0.out; have l8 := HpL.out; have l9 := Hq.out; have l10 := HNE.out; have l13 := HXL.out; rw [List.length_append]; omega) (by have l1 := HQ1.out; have l2 := HQ2.out; have l3 := HQ3.out; have l4 := HQ4.out; have l5 := HM.out; have l6 := HA.out; have l7 := HE0.out; have l8 := HpL.out; have l9 := Hq.out; have l10 := HNE.out; have l13 := HXL.out; rw [List.length_append]; omega) (by have l1 := HQ1.out; have l2 := HQ2.out; have l3 := HQ3.out; have l4 := HQ4.out; have l5 := HM.out; have l6 := HA.out; have l7 := HE0.out; have l8 := HpL.out; have l9 := Hq.out; have l10 := HNE.out; have l13 := HXL.out; rw [List.length_append]; omega) (by have l1 := HQ1.out; have l2 := HQ2.out; have l3 := HQ3.out; have l4 := HQ4.out; have l5 := HM.out; have l6 := HA.out; have l7 := HE0.out; have l8 := HpL.out; have l9 := Hq.out; have l10 := HNE.out; omega) (by have l1 := HQ1.out; have l2 := HQ2.out; have l3 := HQ3.out; have l4 := HQ4.out; have l5 := HM.out; have l6 := HA.out; have l7 := HE0.out; have l8 := HpL.out; have l9 := Hq.out; have l10 := HNE.out; omega) (by have l1 := HQ1.out; have l2 := HQ2.out; have l3 := HQ3.out; have l4 := HQ4.out; have l5 := HM.out; have l6 := HA.out; have l7 := HE0.out; have l8 := HpL.out; have l9 := Hq.out; have l10 := HNE.out; have l11 := HNN.out; have l12 := HARI.out; omega)).mono ?_
            rintro e w3 ⟨rfl, X2, hX2, M1⟩
            rw [List.append_assoc P] at M1
            replace M := Lib.hid M1
            have HX2 := Lib.hid hX2
            clear M1 hX2 M9
            have M8 : Hid (Mine b w3 (.row 3 1 (some ⟨g, 0, none⟩) n c (ints (P ++ ((X1 ++ X2) ++ Q))) :: fr)) := Lib.hid (by have h := M.out; rwa [← List.append_assoc X1] at h)
            clear M
            go_wp2
            first | refine bodyPost_ret (v := .tuple #[]) (by simp [results, Try.results126, go_sem]) rfl ?_ | refine bodyPost_end (v := .tuple #[]) (by simp [results, Try.results126, go_sem]) rfl ?_
            exact ⟨rfl, _, HMG.out _ _ HX1.out HX2.out, M8.out⟩
          · skip
            have hns1 : S ≤ NN := by have h := HARI.out; omega
            have hns2 : NN ≤ 4194304 := by have h := HARI.out; omega
            have t1 : S < m := by have h := HARI.out; omega
            have t2 : m < NN - S := by have h := HARI.out; omega
            have t3 : ¬ a < S := by have h := HARI.out; omega
            have t4 : S < MD := by have h := HARI.out; omega
            have t5 : MD < NN - S := by have h := HARI.out; omega
            have t6 : ¬ NN - S < e0 := by have h := HARI.out; omega
            go_wp2_with fail
            have M9 : Mine b wr (.row 3 1 (some ⟨g, 0, none⟩) n c (ints ((P ++ L1) ++ (L2 ++ (R1 ++ (R2 ++ Q))))) :: fr) := by have h := M.out; rwa [← List.append_assoc P] at h
            refine (rotate_i M9 (by have l1 := HQ1.out; have l2 := HQ2.out; have l3 := HQ3.out; have l4 := HQ4.out; have l5 := HM.out; have l6 := HA.out; have l7 := HE0.out; have l8 := HpL.out; have l9 := Hq.out; have l10 := HNE.out; rw [List.length_append]; omega) (by have l1 := HQ1.out; have l2 := HQ2.out; have l3 := HQ3.out; have l4 := HQ4.out; have l5 := HM.out; have l6 := HA.out; have l7 := HE0.out; have l8 := HpL.out; have l9 := Hq.out; have l10 := HNE.out; rw [List.length_append]; omega) (by have l1 := HQ1.out; have l2 := HQ2.out; have l3 := HQ3.out; have l4 := HQ4.out; have l5 := HM.out; have l6 := HA.out; have l7 := HE0.out; have l8 := HpL.out; have l9 := Hq.out; have l10 := HNE.out; rw [List.length_append]; omega) (by have l1 := HQ1.out; have l2 := HQ2.out; have l3 := HQ3.out; have l4 := HQ4.out; have l5 := HM.out; have l6 := HA.out; have l7 := HE0.out; have l8 := HpL.out; have l9 := Hq.out; have l10 := HNE.out; omega) (by have l1 := HQ1.out; have l2 := HQ2.out; have l3 := HQ3.out; have l4 := HQ4.out; have l5 := HM.out; have l6 := HA.out; have l7 := HE0.out; have l8 := HpL.out; have l9 := Hq.out; have l10 := HNE.out; omega) hn).mono ?_
            rintro e w1 ⟨rfl, M1⟩
            rw [List.append_assoc P] at M1
            replace M := Lib.hid M1
            clear M1 M9
            have hz : L1 = [] := List.eq_nil_of_length_eq_zero (by have l1 := HQ1.out; have l2 := HQ2.out; have l3 := HQ3.out; have l4 := HQ4.out; have l5 := HM.out; have l6 := HA.out; have l7 := HE0.out; have l8 := HpL.out; have l9 := Hq.out; have l10 := HNE.out; omega)
            obtain ⟨X1, hXe⟩ : ∃ X1, X1 = R1 := ⟨_, rfl⟩
            have HX1 : Hid (Merged K L1 R1 X1) := by show Merged _ _ _ _; rw [hXe]; exact merged_nil_left HTT.out hz
            have M9 : Mine b w1 (.row 3 1 (some ⟨g, 0, none⟩) n c (ints (P ++ (X1 ++ (L2 ++ (R2 ++ Q))))) :: fr) := by have h := M.out; rw [hz] at h; rw [hXe]; simpa only [List.nil_append] using h
            replace M := Lib.hid M9
            clear M9 hz hXe
            have HXL : Hid (X1.length = L1.length + R1.length) := by have h := HX1.out.perm.length_eq; rw [List.length_append] at h; exact h
            have hz : R2 = [] := List.eq_nil_of_length_eq_zero (by have l1 := HQ1.out; have l2 := HQ2.out; have l3 := HQ3.out; have l4 := HQ4.out; have l5 := HM.out; have l6 := HA.out; have l7 := HE0.out; have l8 := HpL.out; have l9 := Hq.out; have l10 := HNE.out; omega)
            obtain ⟨X2, hXe⟩ : ∃ X2, X2 = L2 := ⟨_, rfl⟩
            have HX2 : Hid (Merged K L2 R2 X2) := by show Merged _ _ _ _; rw [hXe]; exact merged_nil_right HTD.out hz
            have M9 : Mine b w1 (.row 3 1 (some ⟨g, 0, none⟩) n c (ints (P ++ (X1 ++ (X2 ++ Q)))) :: fr) := by have h := M.out; rw [hz] at h; rw [hXe]; simpa only [List.nil_append] using h
            replace M := Lib.hid M9
            clear M9 hz hXe
            have M8 : Hid (Mine b w1 (.row 3 1 (some ⟨g, 0, none⟩) n c (ints (P ++ ((X1 ++ X2) ++ Q))) :: fr)) := Lib.hid (by have h := M.out; rwa [← List.append_assoc X1] at h)
            clear M
            go_wp2
            first | refine bodyPost_ret (v := .tuple #[]) (by simp [results, Try.results126, go_sem]) rfl ?_ | refine bodyPost_end (v := .tuple #[]) (by simp [results, Try.results126, go_sem]) rfl ?_
            exact ⟨rfl, _, HMG.out _ _ HX1.out HX2.out, M8.out⟩
      · skip
        by_cases c3 : a < S
        · skip
          by_cases c4 : MD + m - e0 < S
          · skip
            have hns1 : S ≤ NN := by have h := HARI.out; omega
            have hns2 : NN ≤ 4194304 := by have h := HARI.out; omega
            have t1 : S < m := by have h := HARI.out; omega
            have t2 : ¬ m < NN - S := by have h := HARI.out; omega
            have t3 : a < S := by have h := HARI.out; omega
            have t4 : ¬ S < MD := by have h := HARI.out; omega
            have t5 : MD < NN - S := by have h := HARI.out; omega
            have t6 : NN - S < e0 := by have h := HARI.out; omega
            have hz : R1 = [] := List.eq_nil_of_length_eq_zero (by have l1 := HQ1.out; have l2 := HQ2.out; have l3 := HQ3.out; have l4 := HQ4.out; have l5 := HM.out; have l6 := HA.out; have l7 := HE0.out; have l8 := HpL.out; have l9 := Hq.out; have l10 := HNE.out; omega)
            have M9 : Mine b wr (.row 3 1 (some ⟨g, 0, none⟩) n c (ints (P ++ (L1 ++ (R1 ++ (L2 ++ (R2 ++ Q)))))) :: fr) := by have h := M.out; rw [hz] at h ⊢; simpa only [List.nil_append] using h
            replace M := Lib.hid M9
            clear M9 hz
            have hz : R1 = [] := List.eq_nil_of_length_eq_zero (by have l1 := HQ1.out; have l2 := HQ2.out; have l3 := HQ3.out; have l4 := HQ4.out; have l5 := HM.out; have l6 := HA.out; have l7 := HE0.out; have l8 := HpL.out; have l9 := Hq.out; have l10 := HNE.out; omega)
            obtain ⟨X1, hXe⟩ : ∃ X1, X1 = L1 := ⟨_, rfl⟩
            have HX1 : Hid (Merged K L1 R1 X1) := by show Merged _ _ _ _; rw [hXe]; exact merged_nil_right HTT.out hz
            have M9 : Mine b wr (.row 3 1 (some ⟨g, 0, none⟩) n c (ints (P ++ (X1 ++ (L2 ++ (R2 ++ Q))))) :: fr) := by have h := M.out; rw [hz] at h; rw [hXe]; simpa only [List.nil_append] using h
            replace M := Lib.hid M9
            clear M9 hz hXe
            have HXL : Hid (X1.length = L1.length + R1.length) := by have h := HX1.out.perm.length_eq; rw [List.length_append] at h; exact h
            go_wp2_with fail
            have M9 : Mine b wr (.row 3 1 (some ⟨g, 0, none⟩) n c (ints ((P ++ X1) ++ (L2 ++ (R2 ++ Q)))) :: fr) := by have h := M.out; rwa [← List.append_assoc P] at h
            refine (IH.out _ (P ++ X1) L2 R2 Q _ _ _ M9 HTD.out HI1.out.2.1 HI1.out.2.2.2 (by have l1 := HQ1.out; have l2 := HQ2.out; have l3 := HQ3.out; have l4 := HQ4.out; have l5 := HM.out; have l6 := HA.out; have l7 := HE0.out; have l8 := HpL.out; have l9 := Hq.out; have l10 := HNE.out; have l13 := HXL.out; rw [List.length_append]; omega) (by have l1 := HQ1.out; have l2 := HQ2.out; have l3 := HQ3.out; have l4 := HQ4.out; have l5 := HM.out; have l6 := HA.out; have l7 := HE0.out; have l8 := HpL.out; have l9 := Hq.out; have l10 := HNE.out; have l13 := HXL.out; rw [List.length_append]; omega) (by have l1 := HQ1.out; have l2 := HQ2.out; have l3 := HQ3.out; have l4 := HQ4.out; have l5 := HM.out; have l6 := HA.out; have l7 := HE0.out; have l8 := HpL.out; have l9 := Hq.out; have l10 := HNE.out; have l13 := HXL.out; rw [List.length_append]; omega) (by have l1 := HQ1.out; have l2 := HQ2.out; have l3 := HQ3.out; have l4 := HQ4.out; have l5 := HM.out; have l6 := HA.out; have l7 := HE0.out; have l8 := HpL.out; have l9 := Hq.out; have l10 := HNE.out; omega) (by have l1 := HQ1.out; have l2 := HQ2.out; have l3 := HQ3.out; have l4 := HQ4.out; have l5 := HM.out; have l6 := HA.out; have l7 := HE0.out; have l8 := HpL.out; have l9 := Hq.out; have l10 := HNE.out; omega) (by have l1 := HQ1.out; have l2 := HQ2.out; have l3 := HQ3.out; have l4 := HQ4.out; have l5 := HM.out; have l6 := HA.out; have l7 := HE0.out; have l8 := HpL.out; have l9 := Hq.out; have l10 := HNE.out; have l11 := HNN.out; have l12 := HARI.out; omega)).mono ?_
            rintro e w3 ⟨rfl, X2, hX2, M1⟩
            rw [List.append_assoc P] at M1
            replace M := Lib.hid M1
            have HX2 := Lib.hid hX2
            clear M1 hX2 M9
            have M8 : Hid (Mine b w3 (.row 3 1 (some ⟨g, 0, none⟩) n c (ints (P ++ ((X1 ++ X2) ++ Q))) :: fr)) := Lib.hid (by have h := M.out; rwa [← List.append_assoc X1] at h)
            clear M
            go_wp2
            first | refine bodyPost_ret (v := .tuple #[]) (by simp [results, Try.results126, go_sem]) rfl ?_ | refine bodyPost_end (v := .tuple #[]) (by simp [results, Try.results126, go_sem]) rfl ?_
            exact ⟨rfl, _, HMG.out _ _ HX1.out HX2.out, M8.out⟩
          · skip
            exact absurd HARI.out (by omega)
        · skip
          by_cases c4 : MD + m - e0 < S
          · skip
            exact absurd HARI.out (by omega)
          · skip
            exact absurd HARI.out (by omega)
    · skip
      by_cases c2 : S < MD
      · skip
        by_cases c3 : a < S
        · skip
          by_cases c4 : MD + m - e0 < S
          · skip
            have hns1 : S ≤ NN := by have h := HARI.out; omega
            have hns2 : NN ≤ 4194304 := by have h := HARI.out; omega
            have t1 : ¬ S < m := by have h := HARI.out; omega
            have t2 : m < NN - S := by have h := HARI.out; omega
            have t3 : a < S := by have h := HARI.out; omega
            have t4 : S < MD := by have h := HARI.out; omega
            have t5 : ¬ MD < NN - S := by have h := HARI.out; omega
            have t6 : NN - S < e0 := by have h := HARI.out; omega
            have hz : L2 = [] := List.eq_nil_of_length_eq_zero (by have l1 := HQ1.out; have l2 := HQ2.out; have l3 := HQ3.out; have l4 := HQ4.out; have l5 := HM.out; have l6 := HA.out; have l7 := HE0.out; have l8 := HpL.out; have l9 := Hq.out; have l10 := HNE.out; omega)
            have M9 : Mine b wr (.row 3 1 (some ⟨g, 0, none⟩) n c (ints (P ++ (L1 ++ (R1 ++ (L2 ++ (R2 ++ Q)))))) :: fr) := by have h := M.out; rw [hz] at h ⊢; simpa only [List.nil_append] using h
            replace M := Lib.hid M9
            clear M9 hz
            go_wp2_with fail
            refine (IH.out _ P L1 R1 (L2 ++ (R2 ++ Q)) _ _ _ M.out HTT.out HI1.out.1 HI1.out.2.2.1 (by have l1 := HQ1.out; have l2 := HQ2.out; have l3 := HQ3.out; have l4 := HQ4.out; have l5 := HM.out; have l6 := HA.out; have l7 := HE0.out; have l8 := HpL.out; have l9 := Hq.out; have l10 := HNE.out; omega) (by have l1 := HQ1.out; have l2 := HQ2.out; have l3 := HQ3.out; have l4 := HQ4.out; have l5 := HM.out; have l6 := HA.out; have l7 := HE0.out; have l8 := HpL.out; have l9 := Hq.out; have l10 := HNE.out; omega) (by have l1 := HQ1.out; have l2 := HQ2.out; have l3 := HQ3.out; have l4 := HQ4.out; have l5 := HM.out; have l6 := HA.out; have l7 := HE0.out; have l8 := HpL.out; have l9 := Hq.out; have l10 := HNE.out; omega) (by have l1 := HQ1.out; have l2 := HQ2.out; have l3 := HQ3.out; have l4 := HQ4.out; have l5 := HM.out; have l6 := HA.out; have l7 := HE0.out; have l8 := HpL.out; have l9 := Hq.out; have l10 := HNE.out; omega) (by have l1 := HQ1.out; have l2 := HQ2.out; have l3 := HQ3.out; have l4 := HQ4.out; have l5 := HM.out; have l6 := HA.out; have l7 := HE0.out; have l8 := HpL.out; have l9 := Hq.out; have l10 := HNE.out; omega) (by have l1 := HQ1.out; have l2 := HQ2.out; have l3 := HQ3.out; have l4 := HQ4.out; have l5 := HM.out; have l6 := HA.out; have l7 := HE0.out; have l8 := HpL.out; have l9 := Hq.out; have l10 := HNE.out; have l11 := HNN.out; have l12 := HARI.out; omega)).mono ?_
            rintro e w2 ⟨rfl, X1, hX1, M1⟩
            replace M := Lib.hid M1
            have HX1 := Lib.hid hX1
            clear M1 hX1
            have HXL : Hid (X1.length = L1.length + R1.length) := by have h := HX1.out.perm.length_eq; rw [List.length_append] at h; exact h
            have hz : L2 = [] := List.eq_nil_of_length_eq_zero (by have l1 := HQ1.out; have l2 := HQ2.out; have l3 := HQ3.out; have l4 := HQ4.out; have l5 := HM.out; have l6 := HA.out; have l7 := HE0.out; have l8 := HpL.out; have l9 := Hq.out; have l10 := HNE.out; omega)
            obtain ⟨X2, hXe⟩ : ∃ X2, X2 = R2 := ⟨_, rfl⟩
            have HX2 : Hid (Merged K L2 R2 X2) := by show Merged _ _ _ _; rw [hXe]; exact merged_nil_left HTD.out hz
            have M9 : Mine b w2 (.row 3 1 (some ⟨g, 0, none⟩) n c (ints (P ++ (X1 ++ (X2 ++ Q)))) :: fr) := by have h := M.out; rw [hz] at h; rw [hXe]; simpa only [List.nil_append] using h
            replace M := Lib.hid M9
            clear M9 hz hXe
            have M8 : Hid (Mine b w2 (.row 3 1 (some ⟨g, 0, none⟩) n c (ints (P ++ ((X1 ++ X2) ++ Q))) :: fr)) := Lib.hid (by have h := M.out; rwa [← List.append_assoc X1] at h)
            clear M
            go_wp2
            first | refine bodyPost_ret (v := .tuple #[]) (by simp [results, Try.results126, go_sem]) rfl ?_ | refine bodyPost_end (v := .tuple #[]) (by simp [results, Try.results126, go_sem]) rfl ?_
            exact ⟨rfl, _, HMG.out _ _ HX1.out HX2.out, M8.out⟩
          · skip
            exact absurd HARI.out (by omega)
        · skip
          by_cases c4 : MD + m - e0 < S
          · skip
            exact absurd HARI.out (by omega)
          · skip
            exact absurd HARI.out (by omega)
      · skip
        by_cases c3 : a < S
        · skip
          by_cases c4 : MD + m - e0 < S
          · skip
            have hns1 : S ≤ NN := by have h := HARI.out; omega
            have hns2 : NN ≤ 4194304 := by have h := HARI.out; omega
            have t1 : ¬ S < m := by have h := HARI.out; omega
            have t2 : ¬ m < NN - S := by have h := HARI.out; omega
            have t3 : a < S := by have h := HARI.out; omega
            have t4 : ¬ S < MD := by have h := HARI.out; omega
            have t5 : ¬ MD < NN - S := by have h := HARI.out; omega
            have t6 : NN - S < e0 := by have h := HARI.out; omega
            have hz : L2 = [] := List.eq_nil_of_length_eq_zero (by have l1 := HQ1.out; have l2 := HQ2.out; have l3 := HQ3.out; have l4 := HQ4.out; have l5 := HM.out; have l6 := HA.out; have l7 := HE0.out; have l8 := HpL.out; have l9 := Hq.out; have l10 := HNE.out; omega)
            have M9 : Mine b wr (.row 3 1 (some ⟨g, 0, none⟩) n c (ints (P ++ (L1 ++ (R1 ++ (L2 ++ (R2 ++ Q)))))) :: fr) := by have h := M.out; rw [hz] at h ⊢; simpa only [List.nil_append] using h
            replace M := Lib.hid M9
            clear M9 hz
            have hz : R1 = [] := List.eq_nil_of_length_eq_zero (by have l1 := HQ1.out; have l2 := HQ2.out; have l3 := HQ3.out; have l4 := HQ4.out; have l5 := HM.out; have l6 := HA.out; have l7 := HE0.out; have l8 := HpL.out; have l9 := Hq.out; have l10 := HNE.out; omega)
            obtain ⟨X1, hXe⟩ : ∃ X1, X1 = L1 := ⟨_, rfl⟩
            have HX1 : Hid (Merged K L1 R1 X1) := by show Merged _ _ _ _; rw [hXe]; exact merged_nil_right HTT.out hz
            have M9 : Mine b wr (.row 3 1 (some ⟨g, 0, none⟩) n c (ints (P ++ (X1 ++ (L2 ++ (R2 ++ Q))))) :: fr) := by have h := M.out; rw [hz] at h; rw [hXe]; simpa only [List.nil_append] using h
            replace M := Lib.hid M9
            clear M9 hz hXe
            have HXL : Hid (X1.length = L1.length + R1.length) := by have h := HX1.out.perm.length_eq; rw [List.length_append] at h; exact h
            have hz : L2 = [] := List.eq_nil_of_length_eq_zero (by have l1 := HQ1.out; have l2 := HQ2.out; have l3 := HQ3.out; have l4 := HQ4.out; have l5 := HM.out; have l6 := HA.out; have l7 := HE0.out; have l8 := HpL.out; have l9 := Hq.out; have l10 := HNE.out; omega)
            obtain ⟨X2, hXe⟩ : ∃ X2, X2 = R2 := ⟨_, rfl⟩
            have HX2 : Hid (Merged K L2 R2 X2) := by show Merged _ _ _ _; rw [hXe]; exact merged_nil_left HTD.out hz
            have M9 : Mine b wr (.row 3 1 (some ⟨g, 0, none⟩) n c (ints (P ++ (X1 ++ (X2 ++ Q)))) :: fr) := by have h := M.out; rw [hz] at h; rw [hXe]; simpa only [List.nil_append] using h
            replace M := Lib.hid M9
            clear M9 hz hXe
            have M8 : Hid (Mine b wr (.row 3 1 (some ⟨g, 0, none⟩) n c (ints (P ++ ((X1 ++ X2) ++ Q))) :: fr)) := Lib.hid (by have h := M.out; rwa [← List.append_assoc X1] at h)
            clear M
            go_wp2
            first | refine bodyPost_ret (v := .tuple #[]) (by simp [results, Try.results126, go_sem]) rfl ?_ | refine bodyPost_end (v := .tuple #[]) (by simp [results, Try.results126, go_sem]) rfl ?_
            exact ⟨rfl, _, HMG.out _ _ HX1.out HX2.out, M8.out⟩
          · skip
            exact absurd HARI.out (by omega)
        · skip
          by_cases c4 : MD + m - e0 < S
          · skip
            exact absurd HARI.out (by omega)
          · skip
            exact absurd HARI.out (by omega)
theorem sym_all {b : World} {g n c gw : Nat} {fr : List Res} {K : Keys} {E : List Int} (HC : CmpC b fr K E gw) (hn : n ≤ 1048576) (N : Nat) : SymOk b g n c gw fr K E N := by
  induction N with
  | zero => intro w P L R Q a m e0 M hT hL hR ha hm he hl0 hr0 hN; omega
  | succ N ih =>
    intro w P L R Q a m e0 M hT hL hR ha hm he hl0 hr0 hN
    by_cases h1 : L.length = 1
    · exact symA_m M HC hT hL hR ha hm he hl0 hr0 hn h1
    by_cases h2 : R.length = 1
    · exact symB_m M HC hT hL hR ha hm he hl0 hr0 hn h2 h1
    exact symC_m M HC hT hL hR ha hm he hl0 hr0 hn h1 h2 hN ih
end Go.Proofs.Ytfacckjfoajijaa
