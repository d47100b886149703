/- slices.symMergeCmpFunc. No condition but lengths. -/
import Derived.Test.YtfacckjfoajijaaStabI
namespace Go.Proofs.Ytfacckjfoajijaa
open Go.RowKit Go.Deep
set_option linter.unusedSimpArgs false
set_option linter.unusedVariables false

set_option maxRecDepth 4000 in
set_option maxHeartbeats 4000000 in
theorem symA_m {b w : World} {g n c gw : Nat} {fr : List Res} {P L R Q E : List Int} {K : Keys} {a m e0 : Int} (M0 : Mine b w (.row 3 1 (some ⟨g, 0, none⟩) n c (ints (P ++ (L ++ (R ++ Q)))) :: fr)) (HC0 : CmpC b fr K E gw) (hT : Two K L R) (hEL : ∀ x ∈ L, x ∈ E) (hER : ∀ x ∈ R, x ∈ E) (ha : a = P.length) (hm : m = P.length + L.length) (he : e0 = P.length + L.length + R.length) (hl0 : 0 < L.length) (hr0 : 0 < R.length) (hn : n ≤ 1048576) (h1 : L.length = 1) :
    Calls Try.prog 126 #[.slice (some ⟨g, 0, none⟩) n c, .int .i64 a, .int .i64 m, .int .i64 e0, .func (.func 111) #[] #[.pointer (some ⟨gw, 0, none⟩)]] w fun e w' => e = .returned (.tuple #[]) ∧ ∃ X : List Int, Merged K L R X ∧ Mine b w' (.row 3 1 (some ⟨g, 0, none⟩) n c (ints (P ++ (X ++ Q))) :: fr) := by
  have hl : P.length + L.length + R.length + Q.length = n := by have h := M0.len1 0 rfl; rw [ints_length] at h; rw [← h]; simp; omega
  have M := Lib.hid M0
  have HC := Lib.hid HC0
  have HT := Lib.hid hT
  have HEL := Lib.hid hEL
  have HER := Lib.hid hER
  have HA : Hid (a = (P.length : Int)) := ha
  have HM : Hid (m = (P.length : Int) + (L.length : Int)) := hm
  have HE0 : Hid (e0 = (P.length : Int) + (L.length : Int) + (R.length : Int)) := he
  have ha0 : 0 ≤ a := by omega
  have ham : a < m := by omega
  have hme : m < e0 := by omega
  have hen : e0 ≤ (n : Int) := by omega
  obtain ⟨x, rfl⟩ : ∃ x, L = [x] := List.length_eq_one_iff.1 h1
  have bA : (m - a == 1) = true := by simp; rw [hm, ha, h1]; omega
  have HMA : Hid (m = a + 1) := by show _ = _; rw [hm, ha, h1]; omega
  have hxE := Lib.hid (hEL x (List.mem_singleton.2 rfl))
  obtain ⟨D, hD⟩ : ∃ D, D = P ++ ([x] ++ (R ++ Q)) := ⟨_, rfl⟩
  rw [← hD] at M
  have HD := Lib.hid hD
  clear ha hm he hl0 hr0 hl M0 HC0 hT hEL hER h1 hD
  go_enter Try.func126, Try.ntmps126
  go_wp2
  go_loopw [10, 11] (fun iv jv wr => ∃ I J : Int, iv = .int .i64 I ∧ jv = .int .i64 J ∧ m ≤ I ∧ I ≤ J ∧ J ≤ e0 ∧ Hid (∀ (q : Nat) (y : Int), (q : Int) < I - m → R[q]? = some y → K.lt y x) ∧ Hid (∀ (q : Nat) (y : Int), J - m ≤ (q : Int) → R[q]? = some y → ¬ K.lt y x) ∧ Hid (Mine b wr (.row 3 1 (some ⟨g, 0, none⟩) n c (ints (D)) :: fr))) (fun iv jv _ => (intOf jv - intOf iv).toNat)
  case atStart => exact ⟨m, e0, rfl, rfl, Int.le_refl _, by omega, Int.le_refl _, fun q y hq _ => absurd hq (by omega), fun q y hq hy => absurd (List.getElem?_eq_some_iff.1 hy).1 (by have h1 := HM.out; have h2 := HE0.out; omega), M⟩
  case round =>
    clear M
    obtain ⟨I, J, rfl, rfl, hmI, hIJ, hJe, HLO, HHI, M⟩ := hrel
    by_cases hlt : I < J
    · skip
      have hI0 : 0 ≤ I := by omega
      have hIJm : I + J ≤ 4194304 := by omega
      go_wp2
      obtain ⟨H, hH⟩ : ∃ H, H = (I + J) / 2 := ⟨_, rfl⟩
      have hH1 : I ≤ H := by omega
      have hH2 : H < J := by omega
      rw [← hH]
      clear hH
      have hH0 : 0 ≤ H := by omega
      have hHn : H < (n : Int) := by omega
      obtain ⟨z, hz⟩ : ∃ z, R[(H - m).toNat]? = some z := ⟨_, List.getElem?_eq_getElem (by have h1 := HM.out; have h2 := HE0.out; omega)⟩
      have HZE := Lib.hid (HER.out z (List.mem_of_getElem? hz))
      have hz1 : (ints D)[H.toNat]? = some (.int .i64 z) := by rw [HD.out, ← List.append_assoc]; exact ints_at (at_part (by have h1 := HMA.out; have h2 := HA.out; rw [List.length_append]; simp only [List.length_singleton]; omega) hz)
      have hx1 : (ints D)[a.toNat]? = some (.int .i64 x) := by rw [HD.out]; exact ints_at (at_mid (by have h2 := HA.out; omega))
      have han : a < (n : Int) := by omega
      have HZZ := Lib.hid hz
      clear hz
      by_cases hlz : K.lt z x
      · have hc := Keys.z_yes hlz
        have HLZ := Lib.hid hlz
        clear hlz
        refine Mine.region_quiet M.out (by kernel_rfl) (by kernel_rfl) ?_
        repeat (first | go_big_quiet_skip | (go_big_quiet_want; first | (refine Mine.oq_getr _ _ rfl 0 _ rfl rfl _ (by exact hz1) _ (by first | exact Try.underlying3) (by rfl) ?_; (try simp only [Act.put, List.setIfInBounds_toArray, List.set_cons_zero, List.set_cons_succ, List.drop_succ_cons, List.drop_zero, List.take_succ_cons, List.take_zero, putAt, ints_set, ints_push, List.getElem_toArray, List.getElem_cons_zero, List.getElem_cons_succ]); go_big_quiet_on) | (refine Mine.oq_getr _ _ rfl 0 _ rfl rfl _ (by exact hx1) _ (by first | exact Try.underlying3) (by rfl) ?_; (try simp only [Act.put, List.setIfInBounds_toArray, List.set_cons_zero, List.set_cons_succ, List.drop_succ_cons, List.drop_zero, List.take_succ_cons, List.take_zero, putAt, ints_set, ints_push, List.getElem_toArray, List.getElem_cons_zero, List.getElem_cons_succ]); go_big_quiet_on) | (unfold Oper.quiet; apply Exists.intro; refine ⟨fun wq hq => ?_, ?_⟩; (go_simp; (with_reducible refine (HC.out wq z x hq.tail HZE.out hxE.out).mono ?_); rintro e w2 ⟨rfl, x2⟩; exact ⟨rfl, hq.on x2⟩); (try simp only [Act.put, List.setIfInBounds_toArray, List.set_cons_succ, List.set_cons_zero]); go_big_quiet_on) | (unfold Oper.quiet; apply Exists.intro; refine ⟨fun wq hq => ?_, ?_⟩; (clear hq; go_simp; first | done | rfl | exact ⟨rfl, rfl⟩); (try simp only [Act.put, List.setIfInBounds_toArray, List.set_cons_succ, List.set_cons_zero]); go_big_quiet_on)))
        refine wpQuiet_nil ?_
        intro w' M'
        replace M := Lib.hid M'
        clear M'
        clear hz1 hx1
        go_wp2
        go_roundw
        case rel => exact ⟨H + 1, J, rfl, rfl, by omega, by omega, hJe, fun q y hq hy => (by
          by_cases e : q = (H - m).toNat
          · subst e; rw [HZZ.out] at hy; injection hy with hy; subst hy; exact HLZ.out
          · exact Keys.lt_left (pair_at HT.out.r (by omega) hy HZZ.out) HLZ.out), HHI, M⟩
        case measure => simp [intOf]; omega
      have hc := Keys.z_no hlz
      have HLZ := Lib.hid hlz
      clear hlz
      refine Mine.region_quiet M.out (by kernel_rfl) (by kernel_rfl) ?_
      repeat (first | go_big_quiet_skip | (go_big_quiet_want; first | (refine Mine.oq_getr _ _ rfl 0 _ rfl rfl _ (by exact hz1) _ (by first | exact Try.underlying3) (by rfl) ?_; (try simp only [Act.put, List.setIfInBounds_toArray, List.set_cons_zero, List.set_cons_succ, List.drop_succ_cons, List.drop_zero, List.take_succ_cons, List.take_zero, putAt, ints_set, ints_push, List.getElem_toArray, List.getElem_cons_zero, List.getElem_cons_succ]); go_big_quiet_on) | (refine Mine.oq_getr _ _ rfl 0 _ rfl rfl _ (by exact hx1) _ (by first | exact Try.underlying3) (by rfl) ?_; (try simp only [Act.put, List.setIfInBounds_toArray, List.set_cons_zero, List.set_cons_succ, List.drop_succ_cons, List.drop_zero, List.take_succ_cons, List.take_zero, putAt, ints_set, ints_push, List.getElem_toArray, List.getElem_cons_zero, List.getElem_cons_succ]); go_big_quiet_on) | (unfold Oper.quiet; apply Exists.intro; refine ⟨fun wq hq => ?_, ?_⟩; (go_simp; (with_reducible refine (HC.out wq z x hq.tail HZE.out hxE.out).mono ?_); rintro e w2 ⟨rfl, x2⟩; exact ⟨rfl, hq.on x2⟩); (try simp only [Act.put, List.setIfInBounds_toArray, List.set_cons_succ, List.set_cons_zero]); go_big_quiet_on) | (unfold Oper.quiet; apply Exists.intro; refine ⟨fun wq hq => ?_, ?_⟩; (clear hq; go_simp; first | done | rfl | exact ⟨rfl, rfl⟩); (try simp only [Act.put, List.setIfInBounds_toArray, List.set_cons_succ, List.set_cons_zero]); go_big_quiet_on)))
      refine wpQuiet_nil ?_
      intro w' M'
      replace M := Lib.hid M'
      clear M'
      clear hz1 hx1
      go_wp2
      go_roundw
      case rel => exact ⟨I, H, rfl, rfl, hmI, hH1, by omega, HLO, fun q y hq hy => (by
        by_cases e : q = (H - m).toNat
        · subst e; rw [HZZ.out] at hy; injection hy with hy; subst hy; exact HLZ.out
        · exact fun h => HLZ.out (Keys.lt_left (pair_at HT.out.r (by omega) HZZ.out hy) h)), M⟩
      case measure => simp [intOf]; omega
    obtain rfl : I = J := by omega
    have hm0 := HM.out
    have hme0 := HE0.out
    obtain ⟨i0, hi0⟩ : ∃ i0 : Nat, I = m + i0 := ⟨(I - m).toNat, by omega⟩
    have HI0 := Lib.hid hi0
    have hi0R : i0 ≤ R.length := by omega
    have HMG := Lib.hid (merge_left (i := i0) HT.out (fun q y hq hy => HLO.out q y (by omega) hy) (fun q y hq hy => HHI.out q y (by omega) hy))
    have eD : D = P ++ ([] ++ (x :: (R.take i0 ++ (R.drop i0 ++ Q)))) := by rw [HD.out, ← List.append_assoc (R.take i0), List.take_append_drop]; rfl
    have M9 := M.out
    rw [eD] at M9
    replace M := Lib.hid M9
    have hI1 : 1 ≤ I := by omega
    have hI0 : 0 ≤ I := by omega
    clear hm0 hme0 hi0 M9 eD HLO HHI hlt
    go_wp2
    go_loopw [13] (fun kv wr => ∃ (kk : Int) (S1 S2 : List Int), kv = .int .i64 kk ∧ Hid (kk = a + S1.length) ∧ Hid (S1 ++ S2 = R.take i0) ∧ Hid (Mine b wr (.row 3 1 (some ⟨g, 0, none⟩) n c (ints (P ++ (S1 ++ (x :: (S2 ++ (R.drop i0 ++ Q)))))) :: fr))) (fun kv _ => (I - intOf kv).toNat)
    case atStart => exact ⟨a, [], R.take i0, rfl, by show _ = _; simp, List.nil_append _, M⟩
    case round =>
      clear M
      obtain ⟨kk, S1, S2, rfl, HKK, HSS, M⟩ := hrel
      have HLS : Hid (S1.length + S2.length = i0) := by have h := congrArg List.length HSS.out; rw [List.length_append, List.length_take] at h; show _ = _; omega
      have hk0 : 0 ≤ kk := by have := HKK.out; omega
      have WI : kk < I - 1 ↔ kk < a + i0 := by have h1 := HI0.out; have h2 := HMA.out; omega
      rcases S2 with _ | ⟨z, S2⟩
      · have hlt : ¬ kk < I - 1 := by rw [WI]; have h1 := HKK.out; have h2 := HLS.out; simp at h2; omega
        have e1 : P ++ (S1 ++ (x :: ([] ++ (R.drop i0 ++ Q)))) = P ++ ((R.take i0 ++ x :: R.drop i0) ++ Q) := by have h := HSS.out; rw [List.append_nil] at h; rw [h]; simp
        have M9 := M.out
        rw [e1] at M9
        have M8 := Lib.hid M9
        clear M M9 e1 WI
        go_wp2
        first | refine bodyPost_ret (v := .tuple #[]) (by simp [results, Try.results126, go_sem]) rfl ?_ | refine bodyPost_end (v := .tuple #[]) (by simp [results, Try.results126, go_sem]) rfl ?_
        exact ⟨rfl, _, HMG.out, M8.out⟩
      have hlt : kk < I - 1 := by rw [WI]; have h1 := HKK.out; have h2 := HLS.out; simp at h2; omega
      have HLT := Lib.hid hlt
      have hkn : kk < (n : Int) := by omega
      have hkn1 : kk + 1 < (n : Int) := by omega
      have hk1 : 0 ≤ kk + 1 := by omega
      have WK : IntKind.i64.wrap (kk + 1) = kk + 1 := Go.IntWalk.i64_in _ (by omega)
      obtain ⟨D2, hD2⟩ : ∃ D2, D2 = (P ++ S1) ++ (x :: z :: (S2 ++ (R.drop i0 ++ Q))) := ⟨_, rfl⟩
      have e1 : P ++ (S1 ++ (x :: (z :: S2 ++ (R.drop i0 ++ Q)))) = D2 := by rw [hD2]; simp
      rw [e1] at M
      have HD2 := Lib.hid hD2
      clear e1 hD2 WI
      have eK : Hid (kk.toNat = (P ++ S1).length) := by show _ = _; have h1 := HKK.out; have h2 := HA.out; rw [List.length_append]; omega
      have UK : (kk + 1).toNat = kk.toNat + 1 := by omega
      have hx1 : (ints D2)[kk.toNat]? = some (.int .i64 x) := by rw [HD2.out]; exact ints_at (at_mid eK.out)
      have hz1 : (ints D2)[kk.toNat + 1]? = some (.int .i64 z) := by rw [HD2.out, eK.out]; exact ints_at (at_mid1 rfl)
      have q1 : wr.cell? ⟨g, kk.toNat, none⟩ = some _ := ((M.out.row_at 0 rfl).cellAt _ (by omega)).trans hx1
      have q2 : wr.cell? ⟨g, kk.toNat + 1, none⟩ = some _ := ((M.out.row_at 0 rfl).cellAt _ (by omega)).trans hz1
      have f1 : wr.frozen? ⟨g, kk.toNat, none⟩ = false := (M.out.row_at 0 rfl).frozenAt _
      have f2 : wr.frozen? ⟨g, kk.toNat + 1, none⟩ = false := (M.out.row_at 0 rfl).frozenAt _
      go_wp2
      go_region
      all_goals
        have M2 := (M.out.dr.put 0 rfl kk.toNat (.int .i64 z)).put 0 rfl (kk.toNat + 1) (.int .i64 x)
        simp only [List.set_cons_zero, ints_set] at M2
        have eL : (D2.set kk.toNat z).set (kk.toNat + 1) x = P ++ ((S1 ++ [z]) ++ (x :: (S2 ++ (R.drop i0 ++ Q)))) := by
          rw [eK.out, HD2.out, swap_parts' rfl]; simp
        rw [eL] at M2
        replace M2 := Lib.hid M2
        clear WK UK
        go_wp2
        go_roundw
        case rel => exact ⟨kk + 1, S1 ++ [z], S2, rfl, by show _ = _; rw [List.length_append]; have h1 := HKK.out; simp; omega, by show _ = _; rw [← HSS.out]; simp, M2⟩
        case measure => have := HLT.out; simp [intOf]; omega
end Go.Proofs.Ytfacckjfoajijaa
