/- slices.symMergeCmpFunc. No condition but lengths. -/
import Derived.Test.YtfacckjfoajijaaStabMA
namespace Go.Proofs.Ytfacckjfoajijaa
open Go.RowKit Go.Deep
set_option linter.unusedSimpArgs false
set_option linter.unusedVariables false

set_option maxRecDepth 4000 in
set_option maxHeartbeats 4000000 in
theorem symB_m {b w : World} {g n c gw : Nat} {fr : List Res} {P L R Q E : List Int} {K : Keys} {a m e0 : Int} (M0 : Mine b w (.row 3 1 (some ⟨g, 0, none⟩) n c (ints (P ++ (L ++ (R ++ Q)))) :: fr)) (HC0 : CmpC b fr K E gw) (hT : Two K L R) (hEL : ∀ x ∈ L, x ∈ E) (hER : ∀ x ∈ R, x ∈ E) (ha : a = P.length) (hm : m = P.length + L.length) (he : e0 = P.length + L.length + R.length) (hl0 : 0 < L.length) (hr0 : 0 < R.length) (hn : n ≤ 1048576) (h1 : R.length = 1) (h2 : ¬ L.length = 1) :
    Calls Try.prog 126 #[.slice (some ⟨g, 0, none⟩) n c, .int .i64 a, .int .i64 m, .int .i64 e0, .func (.func 111) #[] #[.pointer (some ⟨gw, 0, none⟩)]] w fun e w' => e = .returned (.tuple #[]) ∧ ∃ X : List Int, Merged K L R X ∧ Mine b w' (.row 3 1 (some ⟨g, 0, none⟩) n c (ints (P ++ (X ++ Q))) :: fr) := by
  have hl : P.length + L.length + R.length + Q.length = n := by have h := M0.len1 0 rfl; rw [ints_length] at h; rw [← h]; simp; omega
  have M := Lib.hid M0
  have HC := Lib.hid HC0
  have HT := Lib.hid hT
  have HEL := Lib.hid hEL
  have HER := Lib.hid hER
  have HA : Hid (a = (P.length : Int)) := ha
  have HM : Hid (m = (P.length : Int) + (L.length : Int)) := hm
  have HE0 : Hid (e0 = (P.length : Int) + (L.length : Int) + (R.length : Int)) := he
  have ha0 : 0 ≤ a := by omega
  have ham : a < m := by omega
  have hme : m < e0 := by omega
  have hen : e0 ≤ (n : Int) := by omega
  obtain ⟨x, rfl⟩ : ∃ x, R = [x] := List.length_eq_one_iff.1 h1
  have bA : (m - a == 1) = false := by simp; rw [hm, ha]; omega
  have bB : (e0 - m == 1) = true := by simp; rw [hm, he, h1]; omega
  have HEM : Hid (e0 = m + 1) := by show _ = _; rw [hm, he, h1]; omega
  have hxE := Lib.hid (hER x (List.mem_singleton.2 rfl))
  obtain ⟨D, hD⟩ : ∃ D, D = P ++ (L ++ ([x] ++ Q)) := ⟨_, rfl⟩
  rw [← hD] at M
  have HD := Lib.hid hD
  clear ha hm he hl0 hr0 hl M0 HC0 hT hEL hER h1 h2 hD
  go_enter Try.func126, Try.ntmps126
  go_wp2
  go_loopw [14, 15] (fun iv jv wr => ∃ I J : Int, iv = .int .i64 I ∧ jv = .int .i64 J ∧ a ≤ I ∧ I ≤ J ∧ J ≤ m ∧ Hid (∀ (q : Nat) (y : Int), (q : Int) < I - a → L[q]? = some y → ¬ K.lt x y) ∧ Hid (∀ (q : Nat) (y : Int), J - a ≤ (q : Int) → L[q]? = some y → K.lt x y) ∧ Hid (Mine b wr (.row 3 1 (some ⟨g, 0, none⟩) n c (ints (D)) :: fr))) (fun iv jv _ => (intOf jv - intOf iv).toNat)
  case atStart => exact ⟨a, m, rfl, rfl, Int.le_refl _, by omega, Int.le_refl _, fun q y hq _ => absurd hq (by omega), fun q y hq hy => absurd (List.getElem?_eq_some_iff.1 hy).1 (by have h1 := HM.out; have h2 := HA.out; omega), M⟩
  case round =>
    clear M
    obtain ⟨I, J, rfl, rfl, haI, hIJ, hJm, HLO, HHI, M⟩ := hrel
    by_cases hlt : I < J
    · skip
      have hI0 : 0 ≤ I := by omega
      have hIJm : I + J ≤ 4194304 := by omega
      go_wp2
      obtain ⟨H, hH⟩ : ∃ H, H = (I + J) / 2 := ⟨_, rfl⟩
      have hH1 : I ≤ H := by omega
      have hH2 : H < J := by omega
      rw [← hH]
      clear hH
      have hH0 : 0 ≤ H := by omega
      have hHn : H < (n : Int) := by omega
      obtain ⟨z, hz⟩ : ∃ z, L[(H - a).toNat]? = some z := ⟨_, List.getElem?_eq_getElem (by have h1 := HM.out; have h2 := HA.out; omega)⟩
      have HZE := Lib.hid (HEL.out z (List.mem_of_getElem? hz))
      have hz1 : (ints D)[H.toNat]? = some (.int .i64 z) := by rw [HD.out]; exact ints_at (at_part (by have h2 := HA.out; omega) hz)
      have hx1 : (ints D)[m.toNat]? = some (.int .i64 x) := by rw [HD.out, ← List.append_assoc]; exact ints_at (at_mid (by have h1 := HM.out; rw [List.length_append]; omega))
      have hm0 : 0 ≤ m := by omega
      have hmn : m < (n : Int) := by omega
      have HZZ := Lib.hid hz
      clear hz
      by_cases hlz : K.lt x z
      rotate_left
      · have hc := Keys.z_no hlz
        have HLZ := Lib.hid hlz
        clear hlz
        refine Mine.region_quiet M.out (by kernel_rfl) (by kernel_rfl) ?_
        repeat (first | go_big_quiet_skip | (go_big_quiet_want; first | (refine Mine.oq_getr _ _ rfl 0 _ rfl rfl _ (by exact hx1) _ (by first | exact Try.underlying3) (by rfl) ?_; (try simp only [Act.put, List.setIfInBounds_toArray, List.set_cons_zero, List.set_cons_succ, List.drop_succ_cons, List.drop_zero, List.take_succ_cons, List.take_zero, putAt, ints_set, ints_push, List.getElem_toArray, List.getElem_cons_zero, List.getElem_cons_succ]); go_big_quiet_on) | (refine Mine.oq_getr _ _ rfl 0 _ rfl rfl _ (by exact hz1) _ (by first | exact Try.underlying3) (by rfl) ?_; (try simp only [Act.put, List.setIfInBounds_toArray, List.set_cons_zero, List.set_cons_succ, List.drop_succ_cons, List.drop_zero, List.take_succ_cons, List.take_zero, putAt, ints_set, ints_push, List.getElem_toArray, List.getElem_cons_zero, List.getElem_cons_succ]); go_big_quiet_on) | (unfold Oper.quiet; apply Exists.intro; refine ⟨fun wq hq => ?_, ?_⟩; (go_simp; (with_reducible refine (HC.out wq x z hq.tail hxE.out HZE.out).mono ?_); rintro e w2 ⟨rfl, x2⟩; exact ⟨rfl, hq.on x2⟩); (try simp only [Act.put, List.setIfInBounds_toArray, List.set_cons_succ, List.set_cons_zero]); go_big_quiet_on) | (unfold Oper.quiet; apply Exists.intro; refine ⟨fun wq hq => ?_, ?_⟩; (clear hq; go_simp; first | done | rfl | exact ⟨rfl, rfl⟩); (try simp only [Act.put, List.setIfInBounds_toArray, List.set_cons_succ, List.set_cons_zero]); go_big_quiet_on)))
        refine wpQuiet_nil ?_
        intro w' M'
        replace M := Lib.hid M'
        clear M'
        clear hz1 hx1
        go_wp2
        go_roundw
        case rel => exact ⟨H + 1, J, rfl, rfl, by omega, by omega, hJm, fun q y hq hy => (by
          by_cases e : q = (H - a).toNat
          · subst e; rw [HZZ.out] at hy; injection hy with hy; subst hy; exact HLZ.out
          · exact fun h => HLZ.out (Keys.lt_right h (pair_at HT.out.l (by omega) hy HZZ.out))), HHI, M⟩
        case measure => simp [intOf]; omega
      have hc := Keys.z_yes hlz
      have HLZ := Lib.hid hlz
      clear hlz
      refine Mine.region_quiet M.out (by kernel_rfl) (by kernel_rfl) ?_
      repeat (first | go_big_quiet_skip | (go_big_quiet_want; first | (refine Mine.oq_getr _ _ rfl 0 _ rfl rfl _ (by exact hx1) _ (by first | exact Try.underlying3) (by rfl) ?_; (try simp only [Act.put, List.setIfInBounds_toArray, List.set_cons_zero, List.set_cons_succ, List.drop_succ_cons, List.drop_zero, List.take_succ_cons, List.take_zero, putAt, ints_set, ints_push, List.getElem_toArray, List.getElem_cons_zero, List.getElem_cons_succ]); go_big_quiet_on) | (refine Mine.oq_getr _ _ rfl 0 _ rfl rfl _ (by exact hz1) _ (by first | exact Try.underlying3) (by rfl) ?_; (try simp only [Act.put, List.setIfInBounds_toArray, List.set_cons_zero, List.set_cons_succ, List.drop_succ_cons, List.drop_zero, List.take_succ_cons, List.take_zero, putAt, ints_set, ints_push, List.getElem_toArray, List.getElem_cons_zero, List.getElem_cons_succ]); go_big_quiet_on) | (unfold Oper.quiet; apply Exists.intro; refine ⟨fun wq hq => ?_, ?_⟩; (go_simp; (with_reducible refine (HC.out wq x z hq.tail hxE.out HZE.out).mono ?_); rintro e w2 ⟨rfl, x2⟩; exact ⟨rfl, hq.on x2⟩); (try simp only [Act.put, List.setIfInBounds_toArray, List.set_cons_succ, List.set_cons_zero]); go_big_quiet_on) | (unfold Oper.quiet; apply Exists.intro; refine ⟨fun wq hq => ?_, ?_⟩; (clear hq; go_simp; first | done | rfl | exact ⟨rfl, rfl⟩); (try simp only [Act.put, List.setIfInBounds_toArray, List.set_cons_succ, List.set_cons_zero]); go_big_quiet_on)))
      refine wpQuiet_nil ?_
      intro w' M'
      replace M := Lib.hid M'
      clear M'
      clear hz1 hx1
      go_wp2
      go_roundw
      case rel => exact ⟨I, H, rfl, rfl, haI, hH1, by omega, HLO, fun q y hq hy => (by
        by_cases e : q = (H - a).toNat
        · subst e; rw [HZZ.out] at hy; injection hy with hy; subst hy; exact HLZ.out
        · exact Keys.lt_right HLZ.out (pair_at HT.out.l (by omega) HZZ.out hy)), M⟩
      case measure => simp [intOf]; omega
    obtain rfl : I = J := by omega
    have hm0 := HM.out
    have ha1 := HA.out
    obtain ⟨i0, hi0⟩ : ∃ i0 : Nat, I = a + i0 := ⟨(I - a).toNat, by omega⟩
    have HI0 := Lib.hid hi0
    have hi0L : i0 ≤ L.length := by omega
    have HMG := Lib.hid (merge_right (i := i0) HT.out (fun q y hq hy => HLO.out q y (by omega) hy) (fun q y hq hy => HHI.out q y (by omega) hy))
    have eD : D = P ++ (L.take i0 ++ (L.drop i0 ++ (x :: ([] ++ Q)))) := by rw [HD.out, ← List.append_assoc (L.take i0), List.take_append_drop]; rfl
    have M9 := M.out
    rw [eD] at M9
    replace M := Lib.hid M9
    have HIL : Hid (L.length = i0 + (L.drop i0).length) := by show _ = _; rw [List.length_drop]; omega
    have hI0 : 0 ≤ I := by omega
    clear hm0 ha1 hi0 M9 eD HLO HHI hlt
    go_wp2
    go_loopw [17] (fun kv wr => ∃ (kk : Int) (S1 S2 : List Int), kv = .int .i64 kk ∧ Hid (kk = I + S1.length) ∧ Hid (S1 ++ S2 = L.drop i0) ∧ Hid (Mine b wr (.row 3 1 (some ⟨g, 0, none⟩) n c (ints (P ++ (L.take i0 ++ (S1 ++ (x :: (S2 ++ Q)))))) :: fr))) (fun kv _ => (intOf kv - I).toNat)
    case atStart => exact ⟨m, L.drop i0, [], rfl, by show _ = _; have h1 := HI0.out; have h2 := HIL.out; have h3 := HM.out; have h4 := HA.out; omega, List.append_nil _, M⟩
    case round =>
      clear M
      obtain ⟨kk, S1, S2, rfl, HKK, HSS, M⟩ := hrel
      have hk0 : 0 ≤ kk := by have := HKK.out; omega
      rcases List.eq_nil_or_concat S1 with h0 | ⟨S0, z, h0⟩
      · subst h0
        have hlt : ¬ I < kk := by have h1 := HKK.out; simp at h1; omega
        have e1 : P ++ (L.take i0 ++ ([] ++ (x :: (S2 ++ Q)))) = P ++ ((L.take i0 ++ x :: L.drop i0) ++ Q) := by have h := HSS.out; rw [List.nil_append] at h; rw [h]; simp
        have M9 := M.out
        rw [e1] at M9
        have M8 := Lib.hid M9
        clear M M9 e1
        go_wp2
        first | refine bodyPost_ret (v := .tuple #[]) (by simp [results, Try.results126, go_sem]) rfl ?_ | refine bodyPost_end (v := .tuple #[]) (by simp [results, Try.results126, go_sem]) rfl ?_
        exact ⟨rfl, _, HMG.out, M8.out⟩
      rw [List.concat_eq_append] at h0
      subst h0
      have hk1 : Hid (kk - 1 = I + S0.length) := by have h := HKK.out; show _ = _; rw [List.length_append] at h; simp at h; omega
      have hlt : I < kk := by have := hk1.out; omega
      have HLT := Lib.hid hlt
      have hLS : Hid (S0.length + 1 + S2.length = (L.drop i0).length) := by have h := congrArg List.length HSS.out; rw [List.length_append, List.length_append] at h; simp at h; show _ = _; rw [List.length_drop]; omega
      have hkn : kk < (n : Int) := by have h1 := hk1.out; have h2 := hLS.out; have h3 := HIL.out; have h4 := HI0.out; have h5 := HM.out; have h6 := HA.out; omega
      have hk11 : 1 ≤ kk := by omega
      have hkm : 0 ≤ kk - 1 := by omega
      have hkn1 : kk - 1 < (n : Int) := by omega
      have WK : IntKind.i64.wrap (kk - 1) = kk - 1 := Go.IntWalk.i64_in _ (by omega)
      obtain ⟨D2, hD2⟩ : ∃ D2, D2 = (P ++ (L.take i0 ++ S0)) ++ (z :: x :: (S2 ++ Q)) := ⟨_, rfl⟩
      have e1 : P ++ (L.take i0 ++ (S0 ++ [z] ++ (x :: (S2 ++ Q)))) = D2 := by rw [hD2]; simp
      rw [e1] at M
      have HD2 := Lib.hid hD2
      clear e1 hD2
      have eP : Hid (kk.toNat - 1 = (P ++ (L.take i0 ++ S0)).length) := by show _ = _; have h1 := hk1.out; have h2 := HA.out; have h3 := HI0.out; have h4 := HIL.out; rw [List.length_append, List.length_append, List.length_take]; omega
      have eK : Hid (kk.toNat = (P ++ (L.take i0 ++ S0)).length + 1) := by show _ = _; have h1 := eP.out; omega
      have hz1 : (ints D2)[kk.toNat - 1]? = some (.int .i64 z) := by rw [HD2.out]; exact ints_at (at_mid eP.out)
      have hx1 : (ints D2)[kk.toNat]? = some (.int .i64 x) := by rw [HD2.out, eK.out]; exact ints_at (at_mid1 rfl)
      have q1 : wr.cell? ⟨g, kk.toNat, none⟩ = some _ := ((M.out.row_at 0 rfl).cellAt _ (by omega)).trans hx1
      have q2 : wr.cell? ⟨g, kk.toNat - 1, none⟩ = some _ := ((M.out.row_at 0 rfl).cellAt _ (by omega)).trans hz1
      have f1 : wr.frozen? ⟨g, kk.toNat, none⟩ = false := (M.out.row_at 0 rfl).frozenAt _
      have f2 : wr.frozen? ⟨g, kk.toNat - 1, none⟩ = false := (M.out.row_at 0 rfl).frozenAt _
      have hne : ¬ kk.toNat = kk.toNat - 1 := by omega
      go_wp2
      go_region
      all_goals
        have M2 := (M.out.dr.put 0 rfl kk.toNat (.int .i64 z)).put 0 rfl (kk.toNat - 1) (.int .i64 x)
        simp only [List.set_cons_zero, ints_set] at M2
        have eL : (D2.set kk.toNat z).set (kk.toNat - 1) x = P ++ (L.take i0 ++ (S0 ++ (x :: ((z :: S2) ++ Q)))) := by
          rw [eP.out, eK.out, HD2.out, swap_parts rfl]; simp
        rw [eL] at M2
        replace M2 := Lib.hid M2
        clear WK
        go_wp2
        go_roundw
        case rel => exact ⟨kk - 1, S0, z :: S2, rfl, hk1, by show _ = _; rw [← HSS.out]; simp, M2⟩
        case measure => have := HLT.out; simp [intOf]; omega
end Go.Proofs.Ytfacckjfoajijaa
