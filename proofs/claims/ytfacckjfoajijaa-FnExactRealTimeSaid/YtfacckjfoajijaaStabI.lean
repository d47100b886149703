/- slices.insertionSortCmpFunc. No condition but lengths. -/
import Derived.Test.YtfacckjfoajijaaStabR
namespace Go.Proofs.Ytfacckjfoajijaa
open Go.RowKit Go.Deep
set_option linter.unusedSimpArgs false
set_option linter.unusedVariables false

set_option maxRecDepth 4000 in
set_option maxHeartbeats 4000000 in
theorem insertion_m {b w : World} {g n c gw : Nat} {fr : List Res} {P X Q E : List Int} {K : Keys} {a e0 : Int} (M0 : Mine b w (.row 3 1 (some ⟨g, 0, none⟩) n c (ints (P ++ (X ++ Q))) :: fr)) (HC0 : CmpC b fr K E gw) (hE : ∀ x ∈ X, x ∈ E) (hX : X.Pairwise (· < ·)) (ha : a = P.length) (he : e0 = P.length + X.length) (hn : n ≤ 1048576) :
    Calls Try.prog 125 #[.slice (some ⟨g, 0, none⟩) n c, .int .i64 a, .int .i64 e0, .func (.func 111) #[] #[.pointer (some ⟨gw, 0, none⟩)]] w fun e w' => e = .returned (.tuple #[]) ∧ ∃ X' : List Int, X'.Perm X ∧ X'.Pairwise K.T ∧ Mine b w' (.row 3 1 (some ⟨g, 0, none⟩) n c (ints (P ++ (X' ++ Q))) :: fr) := by
  have hl : P.length + X.length + Q.length = n := by have h := M0.len1 0 rfl; rw [ints_length] at h; rw [← h]; simp; omega
  have M := Lib.hid M0
  have HC := Lib.hid HC0
  have HE := Lib.hid hE
  have HX := Lib.hid hX
  obtain ⟨p, hp⟩ : ∃ p, p = P.length := ⟨_, rfl⟩
  obtain ⟨x, hx⟩ : ∃ x, x = X.length := ⟨_, rfl⟩
  have ha0 : 0 ≤ a := by omega
  have hae : a ≤ e0 := by omega
  have hen : e0 ≤ n := by omega
  have HA : Hid (a = (p : Int)) := by show _ = _; omega
  have HP := Lib.hid hp
  have HL : Hid (e0 = (p : Int) + (x : Int)) := by show _ = _; omega
  have HXL := Lib.hid hx
  clear ha he hl hp hx M0 HC0 hE hX
  go_enter Try.func125, Try.ntmps125
  by_cases hx0 : x = 0
  · go_wp2
    go_loopw [8] (fun i wr => i = .int .i64 (a + 1) ∧ Hid (Mine b wr (.row 3 1 (some ⟨g, 0, none⟩) n c (ints (P ++ (X ++ Q))) :: fr))) (fun _ _ => 0)
    case atStart => exact ⟨rfl, M⟩
    case round =>
      clear M
      obtain ⟨rfl, M⟩ := hrel
      have hlt : ¬ a + 1 < e0 := by have := HL.out; have := HA.out; omega
      have e : X = [] := List.eq_nil_of_length_eq_zero (by have := HXL.out; omega)
      have H9 : Hid (X.Perm X ∧ X.Pairwise K.T) := by subst e; exact ⟨List.Perm.refl _, List.Pairwise.nil⟩
      clear e
      go_wp2
      first | refine bodyPost_ret (v := .tuple #[]) (by simp [results, Try.results125, go_sem]) rfl ?_ | refine bodyPost_end (v := .tuple #[]) (by simp [results, Try.results125, go_sem]) rfl ?_
      exact ⟨rfl, X, H9.out.1, H9.out.2, M.out⟩
  have hx1 : 1 ≤ x := by omega
  clear hx0
  go_wp2
  go_loopw [8] (fun i wr => ∃ (k : Nat) (S : List Int) (I : Int), 1 ≤ k ∧ k ≤ x ∧ i = .int .i64 I ∧ Hid (I = a + k) ∧ Hid (S.length = k) ∧ Hid (S.Perm (X.take k)) ∧ Hid (S.Pairwise K.T) ∧ Hid (Mine b wr (.row 3 1 (some ⟨g, 0, none⟩) n c (ints (P ++ (S ++ (X.drop k ++ Q)))) :: fr))) (fun i _ => (e0 - intOf i).toNat)
  case atStart => exact ⟨1, X.take 1, a + 1, Nat.le_refl _, hx1, rfl, rfl, by show _ = _; rw [List.length_take]; have := HXL.out; omega, List.Perm.refl _, by (cases hq : X.take 1 with | nil => exact List.Pairwise.nil | cons z zs => (have hz : zs = [] := List.eq_nil_of_length_eq_zero (by have h := congrArg List.length hq; rw [List.length_take, List.length_cons] at h; omega)); subst hz; exact List.pairwise_singleton _ _), by rw [← List.append_assoc (X.take 1), List.take_append_drop]; exact M⟩
  case round =>
    clear M hx1
    obtain ⟨k, S, I, hk1, hkx, rfl, HI, HS, HSP, HSO, M⟩ := hrel
    have hI0 : 0 ≤ I := by have := HI.out; omega
    by_cases hlt : I < e0
    rotate_left
    · have ek : k = x := by have := HI.out; have := HL.out; have := HA.out; omega
      have H9 : Hid (S.Perm X ∧ X.drop k = []) := ⟨by have h := HSP.out; rw [ek, HXL.out, List.take_length] at h; exact h, by rw [ek, HXL.out, List.drop_length]⟩
      have M9 := M.out
      rw [H9.out.2, List.nil_append] at M9
      have M8 := Lib.hid M9
      clear M M9 ek
      go_wp2
      first | refine bodyPost_ret (v := .tuple #[]) (by simp [results, Try.results125, go_sem]) rfl ?_ | refine bodyPost_end (v := .tuple #[]) (by simp [results, Try.results125, go_sem]) rfl ?_
      exact ⟨rfl, S, H9.out.1, HSO.out, M8.out⟩
    have HLT := Lib.hid hlt
    have HK : Hid (k < x) := by show _ < _; have := HI.out; have := HL.out; have := HA.out; omega
    obtain ⟨y, hy⟩ : ∃ y, X[k]? = some y := ⟨_, List.getElem?_eq_getElem (by have := HK.out; have := HXL.out; omega)⟩
    have HY := Lib.hid hy
    have hd : X.drop k = y :: X.drop (k + 1) := by obtain ⟨h1, h2⟩ := List.getElem?_eq_some_iff.1 hy; rw [List.drop_eq_getElem_cons h1, h2]
    rw [hd] at M
    have HYE : Hid (y ∈ E) := HE.out y (List.mem_of_getElem? hy)
    have HYL : Hid (∀ s ∈ S, s < y) := fun s hs => by obtain ⟨i, hi, ei⟩ := mem_take_at (HSP.out.subset hs); exact pair_at HX.out hi ei hy
    have HSE : Hid (∀ s ∈ S, s ∈ E) := fun s hs => HE.out s (List.mem_of_mem_take (HSP.out.subset hs))
    clear hd hy
    go_wp2
    go_loopw [9] (fun j wr => ∃ (S1 S2 : List Int) (J : Int), j = .int .i64 J ∧ Hid (J = a + S1.length) ∧ Hid (S1 ++ S2 = S) ∧ Hid (∀ s ∈ S2, K.lt y s) ∧ Hid (Mine b wr (.row 3 1 (some ⟨g, 0, none⟩) n c (ints (P ++ (S1 ++ (y :: (S2 ++ (X.drop (k + 1) ++ Q)))))) :: fr))) (fun j _ => (intOf j - a).toNat)
    case atStart => exact ⟨S, [], I, rfl, by show _ = _; rw [HI.out, HS.out], List.append_nil S, fun s hs => (by cases hs), M⟩
    case round =>
      clear M
      obtain ⟨S1, S2, J, rfl, HJ, HSS, HLT2, M⟩ := hrel
      have HLS : Hid (S1.length + S2.length = k) := by have h := congrArg List.length HSS.out; rw [List.length_append, HS.out] at h; exact h
      rcases List.eq_nil_or_concat S1 with h0 | ⟨S0, z, h0⟩
      · have HB : Hid (∀ s ∈ S1, K.T s y) := by subst h0; exact fun s hs => (by cases hs)
        have hJa : ¬ a < J := by have h := HJ.out; rw [h0] at h; simp at h; omega
        have hJ0 : 0 ≤ J := by have h := HJ.out; omega
        have hJd : decide (a < J) = false := decide_eq_false hJa
        clear h0
        go_wp2
        refine Mine.region_quiet M.out (by kernel_rfl) (by kernel_rfl) ?_
        repeat (first | go_big_quiet_skip | (go_big_quiet_want; first | (unfold Oper.quiet; apply Exists.intro; refine ⟨fun wq hq => ?_, ?_⟩; (clear hq; go_simp; first | done | rfl | exact ⟨rfl, rfl⟩); (try simp only [Act.put, List.setIfInBounds_toArray, List.set_cons_succ, List.set_cons_zero]); go_big_quiet_on)))
        refine wpQuiet_nil ?_
        intro w' M'
        replace M := Lib.hid M'
        clear M'
        go_wp2
        go_roundw
        case rel =>
          refine ⟨k + 1, S1 ++ y :: S2, I + 1, by omega, by have := HK.out; omega, rfl, by show _ = _; rw [HI.out]; omega, by show _ = _; have h9 := HLS.out; simp at h9 ⊢; omega, ?_, ins_sorted (by rw [HSS.out]; exact HSO.out) (HB.out) (fun s hs => Keys.T_lt (HLT2.out s hs)), by simpa only [List.append_assoc, List.cons_append] using M⟩
          show List.Perm _ _
          have hyy := HY.out
          obtain ⟨h1, h2⟩ := List.getElem?_eq_some_iff.1 hyy
          rw [List.take_succ_eq_append_getElem h1, h2]
          refine List.perm_middle.trans ?_
          rw [HSS.out]
          exact (HSP.out.cons y).trans (List.perm_append_comm (l₁ := [y]))
        case measure => have := HLT.out; simp [intOf]; omega
      rw [List.concat_eq_append] at h0
      subst h0
      have hJ1 : Hid (J - 1 = a + S0.length) := by have h := HJ.out; show _ = _; rw [List.length_append] at h; simp at h; omega
      have hJa : a < J := by have := hJ1.out; omega
      have hJd : decide (a < J) = true := decide_eq_true hJa
      have hJ0 : 0 ≤ J := by omega
      have hJ11 : 1 ≤ J := by omega
      have hJm : 0 ≤ J - 1 := by omega
      have hJn : J < (n : Int) := by have h1 := hJ1.out; have h2 := HLS.out; have h3 := HL.out; have h4 := HA.out; have h5 := HK.out; rw [List.length_append] at h2; simp at h2; omega
      have hJn1 : J - 1 < (n : Int) := by omega
      have e1 : P ++ (S0 ++ [z] ++ (y :: (S2 ++ (X.drop (k + 1) ++ Q)))) = (P ++ S0) ++ (z :: y :: (S2 ++ (X.drop (k + 1) ++ Q))) := by simp
      rw [e1] at M
      clear e1
      obtain ⟨D, hD⟩ : ∃ D, D = (P ++ S0) ++ (z :: y :: (S2 ++ (X.drop (k + 1) ++ Q))) := ⟨_, rfl⟩
      rw [← hD] at M
      have HD := Lib.hid hD
      clear hD
      have eP : Hid ((J.toNat - 1) = (P ++ S0).length) := by show _ = _; have h1 := hJ1.out; have h2 := HA.out; have h3 := HP.out; rw [List.length_append]; omega
      have eJ : Hid (J.toNat = (P ++ S0).length + 1) := by show _ = _; have h1 := hJ1.out; have h2 := HA.out; have h3 := HP.out; rw [List.length_append]; omega
      have hz1 : (ints D)[(J.toNat - 1)]? = some (.int .i64 z) := by rw [HD.out]; exact ints_at (at_mid eP.out)
      have hy1 : (ints D)[J.toNat]? = some (.int .i64 y) := by rw [HD.out, eJ.out]; exact ints_at (at_mid1 rfl)
      have HZE : Hid (z ∈ E) := HSE.out z (by rw [← HSS.out]; simp)
      have HZL : Hid (z < y) := HYL.out z (by rw [← HSS.out]; simp)
      have WJ : IntKind.i64.wrap (J - 1) = J - 1 := Go.IntWalk.i64_in _ (by omega)
      by_cases hlz : K.lt y z
      rotate_left
      · have hc := Keys.z_no hlz
        have HB : Hid (∀ s ∈ S0 ++ [z], K.T s y) := last_all (List.pairwise_append.1 (by rw [HSS.out]; exact HSO.out : (S0 ++ [z] ++ S2).Pairwise K.T)).1 (Keys.T_of hlz HZL.out)
        clear hlz
        go_wp2
        refine Mine.region_quiet M.out (by kernel_rfl) (by kernel_rfl) ?_
        repeat (first | go_big_quiet_skip | (go_big_quiet_want; first | (refine Mine.oq_getr _ _ rfl 0 _ rfl rfl _ (by exact hy1) _ (by first | exact Try.underlying3) (by rfl) ?_; (try simp only [Act.put, List.setIfInBounds_toArray, List.set_cons_zero, List.set_cons_succ, List.drop_succ_cons, List.drop_zero, List.take_succ_cons, List.take_zero, putAt, ints_set, ints_push, List.getElem_toArray, List.getElem_cons_zero, List.getElem_cons_succ]); go_big_quiet_on) | (refine Mine.oq_getr _ _ rfl 0 _ rfl rfl _ (by exact hz1) _ (by first | exact Try.underlying3) (by rfl) ?_; (try simp only [Act.put, List.setIfInBounds_toArray, List.set_cons_zero, List.set_cons_succ, List.drop_succ_cons, List.drop_zero, List.take_succ_cons, List.take_zero, putAt, ints_set, ints_push, List.getElem_toArray, List.getElem_cons_zero, List.getElem_cons_succ]); go_big_quiet_on) | (unfold Oper.quiet; apply Exists.intro; refine ⟨fun wq hq => ?_, ?_⟩; (go_simp; (with_reducible refine (HC.out wq y z hq.tail HYE.out HZE.out).mono ?_); rintro e w2 ⟨rfl, x2⟩; exact ⟨rfl, hq.on x2⟩); (try simp only [Act.put, List.setIfInBounds_toArray, List.set_cons_succ, List.set_cons_zero]); go_big_quiet_on) | (unfold Oper.quiet; apply Exists.intro; refine ⟨fun wq hq => ?_, ?_⟩; (clear hq; go_simp; first | done | rfl | exact ⟨rfl, rfl⟩); (try simp only [Act.put, List.setIfInBounds_toArray, List.set_cons_succ, List.set_cons_zero]); go_big_quiet_on)))
        refine wpQuiet_nil ?_
        intro w' M'
        replace M := Lib.hid M'
        clear M'
        clear WJ
        go_wp2
        have e1 : D = P ++ (S0 ++ [z] ++ (y :: (S2 ++ (X.drop (k + 1) ++ Q)))) := by rw [HD.out]; simp
        rw [e1] at M
        go_roundw
        case rel =>
          refine ⟨k + 1, (S0 ++ [z]) ++ y :: S2, I + 1, by omega, by have := HK.out; omega, rfl, by show _ = _; rw [HI.out]; omega, by show _ = _; have h9 := HLS.out; simp at h9 ⊢; omega, ?_, ins_sorted (by rw [HSS.out]; exact HSO.out) (HB.out) (fun s hs => Keys.T_lt (HLT2.out s hs)), by simpa only [List.append_assoc, List.cons_append] using M⟩
          show List.Perm _ _
          have hyy := HY.out
          obtain ⟨h1, h2⟩ := List.getElem?_eq_some_iff.1 hyy
          rw [List.take_succ_eq_append_getElem h1, h2]
          refine List.perm_middle.trans ?_
          rw [HSS.out]
          exact (HSP.out.cons y).trans (List.perm_append_comm (l₁ := [y]))
        case measure => have := HLT.out; simp [intOf]; omega
      have hc := Keys.z_yes hlz
      have HZ2 := Lib.hid hlz
      clear hlz
      go_wp2
      refine Mine.region_quiet M.out (by kernel_rfl) (by kernel_rfl) ?_
      repeat (first | go_big_quiet_skip | (go_big_quiet_want; first | (refine Mine.oq_getr _ _ rfl 0 _ rfl rfl _ (by exact hy1) _ (by first | exact Try.underlying3) (by rfl) ?_; (try simp only [Act.put, List.setIfInBounds_toArray, List.set_cons_zero, List.set_cons_succ, List.drop_succ_cons, List.drop_zero, List.take_succ_cons, List.take_zero, putAt, ints_set, ints_push, List.getElem_toArray, List.getElem_cons_zero, List.getElem_cons_succ]); go_big_quiet_on) | (refine Mine.oq_getr _ _ rfl 0 _ rfl rfl _ (by exact hz1) _ (by first | exact Try.underlying3) (by rfl) ?_; (try simp only [Act.put, List.setIfInBounds_toArray, List.set_cons_zero, List.set_cons_succ, List.drop_succ_cons, List.drop_zero, List.take_succ_cons, List.take_zero, putAt, ints_set, ints_push, List.getElem_toArray, List.getElem_cons_zero, List.getElem_cons_succ]); go_big_quiet_on) | (unfold Oper.quiet; apply Exists.intro; refine ⟨fun wq hq => ?_, ?_⟩; (go_simp; (with_reducible refine (HC.out wq y z hq.tail HYE.out HZE.out).mono ?_); rintro e w2 ⟨rfl, x2⟩; exact ⟨rfl, hq.on x2⟩); (try simp only [Act.put, List.setIfInBounds_toArray, List.set_cons_succ, List.set_cons_zero]); go_big_quiet_on) | (unfold Oper.quiet; apply Exists.intro; refine ⟨fun wq hq => ?_, ?_⟩; (clear hq; go_simp; first | done | rfl | exact ⟨rfl, rfl⟩); (try simp only [Act.put, List.setIfInBounds_toArray, List.set_cons_succ, List.set_cons_zero]); go_big_quiet_on)))
      refine wpQuiet_nil ?_
      intro w' M'
      replace M := Lib.hid M'
      clear M'
      clear hc
      go_wp2
      have q1 : w'.cell? ⟨g, J.toNat, none⟩ = some _ := ((M.out.row_at 0 rfl).cellAt _ (by omega)).trans hy1
      have q2 : w'.cell? ⟨g, (J.toNat - 1), none⟩ = some _ := ((M.out.row_at 0 rfl).cellAt _ (by omega)).trans hz1
      have f1 : w'.frozen? ⟨g, J.toNat, none⟩ = false := (M.out.row_at 0 rfl).frozenAt _
      have f2 : w'.frozen? ⟨g, (J.toNat - 1), none⟩ = false := (M.out.row_at 0 rfl).frozenAt _
      have hne : ¬ J.toNat = (J.toNat - 1) := by omega
      go_region
      all_goals
        have M2 := (M.out.dr.put 0 rfl J.toNat (.int .i64 z)).put 0 rfl (J.toNat - 1) (.int .i64 y)
        simp only [List.set_cons_zero, ints_set] at M2
        have eL : (D.set J.toNat z).set (J.toNat - 1) y = P ++ (S0 ++ (y :: ((z :: S2) ++ (X.drop (k + 1) ++ Q)))) := by
          rw [eP.out, eJ.out, HD.out, swap_parts rfl]; simp
        rw [eL] at M2
        replace M2 := Lib.hid M2
        go_wp2
        go_roundw
        case rel => exact ⟨S0, z :: S2, J - 1, rfl, hJ1, by show _ = _; rw [← HSS.out]; simp, fun s hs => (by rcases List.mem_cons.1 hs with h | h; (subst h; exact HZ2.out); exact HLT2.out s h), M2⟩
        case measure => simp [intOf]; omega
end Go.Proofs.Ytfacckjfoajijaa
