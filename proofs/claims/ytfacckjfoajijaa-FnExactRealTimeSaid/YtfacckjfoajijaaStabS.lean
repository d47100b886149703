/- slices.stableCmpFunc. No condition but lengths. -/
import Derived.Test.YtfacckjfoajijaaStabMC
namespace Go.Proofs.Ytfacckjfoajijaa
open Go.RowKit Go.Deep
set_option linter.unusedSimpArgs false
set_option linter.unusedVariables false

theorem seg_mem {E : List Int} {p s : Nat} {x : Int} (h : x ∈ Seg E p s) : x ∈ E := List.mem_of_mem_drop (List.mem_of_mem_take h)
theorem cut_one1 (D : List Int) (a s : Nat) : D = D.take a ++ (Seg D a s ++ D.drop (a + s)) := by
  unfold Seg
  rw [← List.drop_drop, List.take_append_drop, List.take_append_drop]
set_option maxRecDepth 4000 in
set_option maxHeartbeats 4000000 in
theorem stable_m {b w : World} {g n c gw : Nat} {fr : List Res} {E : List Int} {K : Keys} (M0 : Mine b w (.row 3 1 (some ⟨g, 0, none⟩) n c (ints (E)) :: fr)) (HC0 : CmpC b fr K E gw) (hE : E.Pairwise (· < ·)) (hn : n ≤ 1048576) :
    Calls Try.prog 121 #[.slice (some ⟨g, 0, none⟩) n c, .int .i64 n, .func (.func 111) #[] #[.pointer (some ⟨gw, 0, none⟩)]] w fun e w' => e = .returned (.tuple #[]) ∧ Mine b w' (.row 3 1 (some ⟨g, 0, none⟩) n c (ints (rankList K E)) :: fr) := by
  have hl : E.length = n := by have h := M0.len1 0 rfl; rw [ints_length] at h; exact h
  have HL := Lib.hid hl
  have M := Lib.hid M0
  have HC := Lib.hid HC0
  have HE := Lib.hid hE
  have HS := Lib.hid (sym_all (g := g) (c := c) HC0 hn n)
  have hnI : (n : Int) ≤ 1048576 := by omega
  clear M0 HC0 hE hl
  go_enter Try.func121, Try.ntmps121
  go_wp2
  go_loopw [7, 8] (fun av bv wr => ∃ (an : Nat) (A B : Int) (D : List Int), av = .int .i64 A ∧ bv = .int .i64 B ∧ an ≤ n ∧ Hid (A = (an : Int) ∧ B = (an : Int) + 20) ∧ Hid (20 ∣ an) ∧ Hid (Firsts K E 20 an D) ∧ Hid (Mine b wr (.row 3 1 (some ⟨g, 0, none⟩) n c (ints (D)) :: fr))) (fun av _ _ => n - (intOf av).toNat)
  case atStart => exact ⟨0, 0, 20, E, rfl, rfl, Nat.zero_le _, by show _ ∧ _; omega, Nat.dvd_zero _, Firsts.start K E 20, M⟩
  case round =>
    clear M
    obtain ⟨an, A, B, D, rfl, rfl, han, HAB, HD, HF, M⟩ := hrel
    have hA0 : 0 ≤ A := by have := HAB.out; omega
    have hBA : B ≤ 1048596 := by have := HAB.out; omega
    have hB0 : 0 ≤ B := by have := HAB.out; omega
    have hA1 : A ≤ 1048576 := by have := HAB.out; omega
    have HDL : Hid (D.length = n) := by show _ = _; rw [HF.out.len, HL.out]
    have hcut := cut_one1 D an 20
    have HTL : Hid ((D.take an).length = an) := by show _ = _; rw [List.length_take, HDL.out]; omega
    have HSL : Hid ((Seg D an 20).length = min 20 (n - an)) := by show _ = _; rw [seg_len, HDL.out]
    have HSG : Hid (Seg D an 20 = Seg E an 20) := by show _ = _; unfold Seg; rw [HF.out.hi]
    have M9 : Hid (Mine b wr (.row 3 1 (some ⟨g, 0, none⟩) n c (ints (D.take an ++ (Seg D an 20 ++ D.drop (an + 20)))) :: fr)) := by show Mine _ _ _; rw [← hcut]; exact M.out
    have HX1 : Hid (∀ x ∈ Seg D an 20, x ∈ E) := fun x hx => seg_mem (by rw [HSG.out] at hx; exact hx)
    have HX2 : Hid ((Seg D an 20).Pairwise (· < ·)) := by show List.Pairwise _ _; rw [HSG.out]; exact HE.out.sublist ((List.take_sublist _ _).trans (List.drop_sublist _ _))
    clear hcut
    by_cases hb : B ≤ (n : Int)
    · have HBN := Lib.hid hb
      go_wp2_with fail
      refine (insertion_m (a := A) (e0 := B) M9.out HC.out HX1.out HX2.out (by rw [HTL.out]; exact HAB.out.1) (by have h1 := HAB.out; have h2 := HTL.out; have h3 := HSL.out; have h4 := HBN.out; omega) hn).mono ?_
      rintro e w1 ⟨rfl, X', hp, hs, M1⟩
      have HN := Lib.hid (HF.out.next HD.out (by omega) (by rw [HDL.out]; exact han) hp hs)
      replace M := Lib.hid M1
      clear M1 hp hs M9
      go_wp2
      go_roundw
      case rel => exact ⟨an + 20, B, B + 20, _, rfl, rfl, by have h1 := HAB.out; have h4 := HBN.out; omega, by show _ ∧ _; have h1 := HAB.out; omega, Nat.dvd_add HD.out (Nat.dvd_refl _), HN, M⟩
      case measure => have h1 := HAB.out; have h4 := HBN.out; simp [intOf]; omega
    have HBN := Lib.hid hb
    go_wp2_with fail
    refine (insertion_m (a := A) (e0 := (n : Int)) M9.out HC.out HX1.out HX2.out (by rw [HTL.out]; exact HAB.out.1) (by have h1 := HAB.out; have h2 := HTL.out; have h3 := HSL.out; have h4 := HBN.out; omega) hn).mono ?_
    rintro e w1 ⟨rfl, X', hp, hs, M1⟩
    have HN := HF.out.next HD.out (by omega) (by rw [HDL.out]; exact han) hp hs
    have HALL := Lib.hid (HN.all (by have h1 := HAB.out; have h4 := HBN.out; have h5 := HL.out; omega))
    have HNL := Lib.hid HN.len
    generalize D.take an ++ (X' ++ D.drop (an + 20)) = D2 at M1 HALL HNL
    replace M := Lib.hid M1
    clear M1 hp hs M9 HN HX1 HX2 HSG HSL HTL HDL HF
    go_wp2
    go_loopw [6] (fun sv wr => ∃ (s : Nat) (S : Int) (D : List Int), sv = .int .i64 S ∧ Hid (S = (s : Int)) ∧ 20 ≤ S ∧ S ≤ 2097172 ∧ Hid (D.length = E.length) ∧ Hid (∀ p, s ∣ p → RunAt K E s p D) ∧ Hid (Mine b wr (.row 3 1 (some ⟨g, 0, none⟩) n c (ints (D)) :: fr))) (fun sv _ => (n : Nat) - (intOf sv).toNat)
    case atStart => exact ⟨20, 20, D2, rfl, rfl, by omega, by omega, HNL, HALL, M⟩
    case round =>
      clear M HALL HNL HBN hb
      obtain ⟨s, S, D, rfl, HSS, hS20, hSm, HDL, HR, M⟩ := hrel
      by_cases hlt : S < (n : Int)
      rotate_left
      · have e := run_all HE.out HDL.out (by have h1 := HSS.out; have h2 := HL.out; omega) (HR.out 0 (Nat.dvd_zero _))
        have M9 := M.out
        rw [e] at M9
        have M8 := Lib.hid M9
        clear M M9 e
        go_wp2
        first | refine bodyPost_ret (v := .tuple #[]) (by simp [results, Try.results121, go_sem]) rfl ?_ | refine bodyPost_end (v := .tuple #[]) (by simp [results, Try.results121, go_sem]) rfl ?_
        exact ⟨rfl, M8.out⟩
      have HLT := Lib.hid hlt
      have HSP : Hid (0 < s) := by show _ < _; have h1 := HSS.out; omega
      have hSn : S ≤ 1048576 := by omega
      have HH := Lib.hid (Half.start HDL.out HR.out)
      go_wp2
      go_loopw [7, 8] (fun av bv wr => ∃ (an : Nat) (A B : Int) (D : List Int), av = .int .i64 A ∧ bv = .int .i64 B ∧ an ≤ n ∧ Hid (A = (an : Int) ∧ B = (an : Int) + 2 * S) ∧ Hid (2 * s ∣ an) ∧ Hid (Half K E s an D) ∧ Hid (Mine b wr (.row 3 1 (some ⟨g, 0, none⟩) n c (ints (D)) :: fr))) (fun av _ _ => n - (intOf av).toNat)
      case atStart => exact ⟨0, 0, 2 * S, D, rfl, rfl, Nat.zero_le _, by show _ ∧ _; omega, Nat.dvd_zero _, HH, M⟩
      case round =>
        clear M HH HR HDL
        obtain ⟨an, A, B, D, rfl, rfl, han, HAB, HD, HF, M⟩ := hrel
        have hA0 : 0 ≤ A := by have := HAB.out; omega
        have hA1 : A ≤ 1048576 := by have := HAB.out; omega
        have hB1 : B ≤ 3145728 := by have := HAB.out; omega
        have hB0 : 0 ≤ B := by have := HAB.out; omega
        have HDL : Hid (D.length = n) := by show _ = _; rw [HF.out.len, HL.out]
        have hcut := list_cut D an s s
        have HTL : Hid ((D.take an).length = an) := by show _ = _; rw [List.length_take, HDL.out]; omega
        have HSL : Hid ((Seg D an s).length = min s (n - an)) := by show _ = _; rw [seg_len, HDL.out]
        have HSR : Hid ((Seg D (an + s) s).length = min s (n - (an + s))) := by show _ = _; rw [seg_len, HDL.out]
        have M9 : Hid (Mine b wr (.row 3 1 (some ⟨g, 0, none⟩) n c (ints (D.take an ++ (Seg D an s ++ (Seg D (an + s) s ++ D.drop (an + s + s))))) :: fr)) := by show Mine _ _ _; rw [← hcut]; exact M.out
        have HT := Lib.hid (HF.out.two HE.out HD.out)
        have HX1 : Hid (∀ x ∈ Seg D an s, x ∈ E) := fun x hx => seg_mem ((HF.out.hi an (Nat.le_refl _) (Nat.dvd_trans (Nat.dvd_mul_left s 2) HD.out)).2.subset hx)
        have HX2 : Hid (∀ x ∈ Seg D (an + s) s, x ∈ E) := fun x hx => seg_mem ((HF.out.hi (an + s) (by omega) (Nat.dvd_add (Nat.dvd_trans (Nat.dvd_mul_left s 2) HD.out) (Nat.dvd_refl s))).2.subset hx)
        clear hcut
        by_cases hb : B ≤ (n : Int)
        · have HBN := Lib.hid hb
          go_wp2_with fail
          refine (HS.out _ (D.take an) (Seg D an s) (Seg D (an + s) s) (D.drop (an + s + s)) _ _ _ M9.out HT.out HX1.out HX2.out (by have h1 := HAB.out; have h2 := HTL.out; have h3 := HSL.out; have h4 := HSR.out; have h5 := HSS.out; have h6 := HBN.out; have h7 := HSP.out; omega) (by have h1 := HAB.out; have h2 := HTL.out; have h3 := HSL.out; have h4 := HSR.out; have h5 := HSS.out; have h6 := HBN.out; have h7 := HSP.out; omega) (by have h1 := HAB.out; have h2 := HTL.out; have h3 := HSL.out; have h4 := HSR.out; have h5 := HSS.out; have h6 := HBN.out; have h7 := HSP.out; omega) (by have h1 := HAB.out; have h2 := HTL.out; have h3 := HSL.out; have h4 := HSR.out; have h5 := HSS.out; have h6 := HBN.out; have h7 := HSP.out; omega) (by have h1 := HAB.out; have h2 := HTL.out; have h3 := HSL.out; have h4 := HSR.out; have h5 := HSS.out; have h6 := HBN.out; have h7 := HSP.out; omega) (by have h1 := HAB.out; have h2 := HTL.out; have h3 := HSL.out; have h4 := HSR.out; have h5 := HSS.out; have h6 := HBN.out; have h7 := HSP.out; omega)).mono ?_
          rintro e w1 ⟨rfl, X, hX, M1⟩
          have HN := Lib.hid (HF.out.merge HD.out HSP.out (by rw [HDL.out]; exact han) hX)
          replace M := Lib.hid M1
          clear M1 hX M9
          go_wp2
          go_roundw
          case rel => exact ⟨an + 2 * s, B, B + 2 * S, _, rfl, rfl, by have h1 := HAB.out; have h2 := HTL.out; have h3 := HSL.out; have h4 := HSR.out; have h5 := HSS.out; have h6 := HBN.out; have h7 := HSP.out; omega, by show _ ∧ _; have h1 := HAB.out; have h2 := HTL.out; have h3 := HSL.out; have h4 := HSR.out; have h5 := HSS.out; have h6 := HBN.out; have h7 := HSP.out; omega, Nat.dvd_add HD.out (Nat.dvd_refl _), HN, M⟩
          case measure => have h1 := HAB.out; have h2 := HTL.out; have h3 := HSL.out; have h4 := HSR.out; have h5 := HSS.out; have h6 := HBN.out; have h7 := HSP.out; simp [intOf]; omega
        have HBN := Lib.hid hb
        by_cases hm : A + S < (n : Int)
        · have HMN := Lib.hid hm
          go_wp2_with fail
          refine (HS.out _ (D.take an) (Seg D an s) (Seg D (an + s) s) (D.drop (an + s + s)) _ _ _ M9.out HT.out HX1.out HX2.out (by have h1 := HAB.out; have h2 := HTL.out; have h3 := HSL.out; have h4 := HSR.out; have h5 := HSS.out; have h6 := HBN.out; have h7 := HSP.out; have h8 := HMN.out; omega) (by have h1 := HAB.out; have h2 := HTL.out; have h3 := HSL.out; have h4 := HSR.out; have h5 := HSS.out; have h6 := HBN.out; have h7 := HSP.out; have h8 := HMN.out; omega) (by have h1 := HAB.out; have h2 := HTL.out; have h3 := HSL.out; have h4 := HSR.out; have h5 := HSS.out; have h6 := HBN.out; have h7 := HSP.out; have h8 := HMN.out; omega) (by have h1 := HAB.out; have h2 := HTL.out; have h3 := HSL.out; have h4 := HSR.out; have h5 := HSS.out; have h6 := HBN.out; have h7 := HSP.out; have h8 := HMN.out; omega) (by have h1 := HAB.out; have h2 := HTL.out; have h3 := HSL.out; have h4 := HSR.out; have h5 := HSS.out; have h6 := HBN.out; have h7 := HSP.out; have h8 := HMN.out; omega) (by have h1 := HAB.out; have h2 := HTL.out; have h3 := HSL.out; have h4 := HSR.out; have h5 := HSS.out; have h6 := HBN.out; have h7 := HSP.out; have h8 := HMN.out; omega)).mono ?_
          rintro e w1 ⟨rfl, X, hX, M1⟩
          have HN := Lib.hid (HF.out.merge HD.out HSP.out (by rw [HDL.out]; exact han) hX)
          replace M := Lib.hid M1
          clear M1 hX M9
          go_wp2
          go_roundw
          case rel => exact ⟨2 * s, S * 2, _, rfl, by show _ = _; have h5 := HSS.out; omega, by omega, by have h8 := HLT.out; omega, HN.out.len, Lib.hid (HN.out.done (Nat.dvd_add HD.out (Nat.dvd_refl _)) HSP.out (by have h1 := HAB.out; have h2 := HTL.out; have h3 := HSL.out; have h4 := HSR.out; have h5 := HSS.out; have h6 := HBN.out; have h7 := HSP.out; have h9 := HL.out; omega)), M⟩
          case measure => have h8 := HLT.out; simp [intOf]; omega
        have HMN := Lib.hid hm
        clear M9
        go_wp2
        go_roundw
        case rel => exact ⟨2 * s, S * 2, _, rfl, by show _ = _; have h5 := HSS.out; omega, by omega, by have h8 := HLT.out; omega, HF.out.len, Lib.hid (HF.out.done HD.out HSP.out (by have h1 := HAB.out; have h2 := HTL.out; have h3 := HSL.out; have h4 := HSR.out; have h5 := HSS.out; have h6 := HBN.out; have h7 := HSP.out; have h8 := HMN.out; have h9 := HL.out; omega)), M⟩
        case measure => have h8 := HLT.out; simp [intOf]; omega
set_option maxRecDepth 4000 in
set_option maxHeartbeats 4000000 in
theorem sortStable_m {b w : World} {g n c gw : Nat} {fr : List Res} {E : List Int} {K : Keys} (M0 : Mine b w (.row 3 1 (some ⟨g, 0, none⟩) n c (ints (E)) :: fr)) (HC0 : CmpC b fr K E gw) (hE : E.Pairwise (· < ·)) (hn : n ≤ 1048576) :
    Calls Try.prog 110 #[.slice (some ⟨g, 0, none⟩) n c, .func (.func 111) #[] #[.pointer (some ⟨gw, 0, none⟩)]] w fun e w' => e = .returned (.tuple #[]) ∧ Mine b w' (.row 3 1 (some ⟨g, 0, none⟩) n c (ints (rankList K E)) :: fr) := by
  have M := Lib.hid M0
  have HC := Lib.hid HC0
  have HE := Lib.hid hE
  clear M0 HC0 hE
  go_enter Try.func110, Try.ntmps110
  go_wp2_with fail
  refine (stable_m M.out HC.out HE.out hn).mono ?_
  rintro e w1 ⟨rfl, M1⟩
  replace M := Lib.hid M1
  clear M1
  go_wp2
  first | refine bodyPost_ret (v := .tuple #[]) (by simp [results, Try.results110, go_sem]) rfl ?_ | refine bodyPost_end (v := .tuple #[]) (by simp [results, Try.results110, go_sem]) rfl ?_
  exact ⟨rfl, M.out⟩
end Go.Proofs.Ytfacckjfoajijaa
