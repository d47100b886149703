/- VersOk of program and reference; the contract of laws.FnExactVersOk. No condition. -/
import Derived.Test.YtnhkjgnfjphllaaVersR
import Derived.Test.YtnhkjgnfjphllaaVals
import Derived.Deep.RegionHeld3
namespace Go.Proofs.Ytnhkjgnfjphllaa
open Go.RowKit Go.Deep

def verLt (y x : Ver) : Prop := y.cell < x.cell ∨ (y.cell = x.cell ∧ y.stamp < x.stamp)
/-- Element i of a list of versions: its numbers in range, and above the one ahead of it. -/
def verAt (fr : Int) (l : List Ver) (i : Nat) (x : Ver) : Prop := (0 ≤ x.cell ∧ x.cell ≤ 7) ∧ (fr + 1 ≤ x.stamp ∧ x.stamp ≤ 1000000) ∧ (0 ≤ x.val ∧ x.val ≤ 65535) ∧ ∀ y, 0 < i → l[i - 1]? = some y → verLt y x
noncomputable def versOk (base : List Int) (fr : Int) (l : List Ver) : Bool := dec (valsOk base = true ∧ (0 ≤ fr ∧ fr ≤ 1000000) ∧ l.length ≤ 60 ∧ AllTo (verAt fr l) l l.length)

theorem verLt_of {p0 p1 p2 g0 g1 g2 cv : Int} (h : (if p0 = g0 then p1 - g1 else p0 - g0) = cv) (hb : ¬ 0 ≤ cv) : verLt ⟨p0, p1, p2⟩ ⟨g0, g1, g2⟩ := by
  by_cases he : p0 = g0
  · rw [if_pos he] at h; exact .inr ⟨he, by show p1 < g1; omega⟩
  · rw [if_neg he] at h; exact .inl (by show p0 < g0; omega)
set_option maxHeartbeats 1000000 in
theorem compareVers_any (f0 f1 f2 g0 g1 g2 : Int) (w : World) (h1 : 0 ≤ f0 ∧ f0 ≤ 7) (h2 : 0 ≤ g0 ∧ g0 ≤ 7) (h3 : 0 ≤ f1 ∧ f1 ≤ 1000000) (h4 : 0 ≤ g1 ∧ g1 ≤ 1000000) :
    Calls Try.prog 61 #[.agg #[.int .i64 f0, .int .i64 f1, .int .i64 f2], .agg #[.int .i64 g0, .int .i64 g1, .int .i64 g2]] w fun e w' => e = .returned (.int .i64 (if f0 = g0 then f1 - g1 else f0 - g0)) ∧ Ext w w' := by
  by_cases he : f0 = g0
  · have b : (f0 != g0) = false := by simp [he]
    have HE := Lib.hid he
    clear he
    go_enter Try.func61, Try.ntmps61
    go_wp2
    go_ret
    exact ⟨by first | rfl | (rw [if_pos HE.out]; rfl), ((Ext.refl' w).al _).al _⟩
  · have b : (f0 != g0) = true := by simp [he]
    have HE := Lib.hid he
    clear he
    go_enter Try.func61, Try.ntmps61
    go_wp2
    go_ret
    exact ⟨by first | rfl | (rw [if_neg HE.out]; rfl), ((Ext.refl' w).al _).al _⟩


set_option maxHeartbeats 4000000 in
theorem spec_VersOk (f1 : Int) (A0 : Option Addr) (n0 c0 : Nat) (l0 : List Int) (A1 : Option Addr) (n1 c1 : Nat) (l1 : List Ver) (w : World)
    (S0 : Nat → Prop) (hs0 : Sl w S0 1 A0 n0 (ints l0)) (hm0 : n0 ≤ 1048576) (S1 : Nat → Prop) (hs1 : Sl w S1 3 A1 n1 (l1.flatMap Ver.cells)) (hm1 : n1 ≤ 1048576) :
    Calls Try.prog 20 #[.agg #[.slice A0 n0 c0, .int .i64 f1, .slice A1 n1 c1]] w fun e w' => e = .returned (.bool (versOk l0 f1 l1)) ∧ Ext w w' := by
  have H := Lib.hid (hs1.flen Ver.cells_length (by omega))
  have HX0 := Lib.hid ((Ext.refl' w).al (.cells #[.slice A0 n0 c0, .int .i64 f1, .slice A1 n1 c1] 25))
  have HB0 : Hid (Bx (w.alloc (.cells #[.slice A0 n0 c0, .int .i64 f1, .slice A1 n1 c1] 25)) w.heap.size 25 #[.slice A0 n0 c0, .int .i64 f1, .slice A1 n1 c1]) := Bx.new' _ _ _ rfl
  cases hv : valsOk l0
  · have HN := Lib.hid (dec_no (p := valsOk l0 = true ∧ (0 ≤ f1 ∧ f1 ≤ 1000000) ∧ l1.length ≤ 60 ∧ AllTo (verAt f1 l1) l1 l1.length) fun h => by rw [hv] at h; exact absurd h.1 (by simp))
    go_enter Try.func20, Try.ntmps20
    go_wp2_with fail
    refine (l3Vals_any _ _ _ l0 _ S0 (hs0.ext ((Ext.refl' w).al _)) (by omega)).mono ?_; rintro e w' ⟨rfl, rfl⟩
    rw [hv]
    clear hv
    go_wp2
    go_ret
    exact ⟨by rw [versOk, HN.out]; rfl, HX0.out⟩
  by_cases hf : 0 ≤ f1 ∧ f1 ≤ 1000000
  rotate_left
  · have HN := Lib.hid (dec_no (p := valsOk l0 = true ∧ (0 ≤ f1 ∧ f1 ≤ 1000000) ∧ l1.length ≤ 60 ∧ AllTo (verAt f1 l1) l1 l1.length) fun h => hf h.2.1)
    have df : decide (0 ≤ f1 ∧ f1 ≤ 1000000) = false := by simpa using hf
    clear hf
    go_enter Try.func20, Try.ntmps20
    go_wp2_with fail
    refine (l3Vals_any _ _ _ l0 _ S0 (hs0.ext ((Ext.refl' w).al _)) (by omega)).mono ?_; rintro e w' ⟨rfl, rfl⟩
    rw [hv]
    clear hv
    go_wp2_with (go_at_call 54; refine (l1In_any _ _ _ _).mono ?_; rintro e w' ⟨rfl, rfl⟩)
    go_ret
    exact ⟨by rw [versOk, HN.out]; rfl, HX0.out⟩
  have df : decide (0 ≤ f1 ∧ f1 ≤ 1000000) = true := by simpa using hf
  by_cases h60 : n1 ≤ 60
  rotate_left
  · have HN := Lib.hid (dec_no (p := valsOk l0 = true ∧ (0 ≤ f1 ∧ f1 ≤ 1000000) ∧ l1.length ≤ 60 ∧ AllTo (verAt f1 l1) l1 l1.length) fun h => h60 (by rw [← H.out]; exact h.2.2.1))
    have h60' : ¬ (n1 : Int) ≤ 60 := by omega
    go_enter Try.func20, Try.ntmps20
    go_wp2_with fail
    refine (l3Vals_any _ _ _ l0 _ S0 (hs0.ext ((Ext.refl' w).al _)) (by omega)).mono ?_; rintro e w' ⟨rfl, rfl⟩
    rw [hv]
    clear hv
    go_wp2_with (go_at_call 54; refine (l1In_any _ _ _ _).mono ?_; rintro e w' ⟨rfl, rfl⟩)
    go_ret
    exact ⟨by rw [versOk, HN.out]; rfl, HX0.out⟩
  have h60' : (n1 : Int) ≤ 60 := by omega
  go_enter Try.func20, Try.ntmps20
  go_wp2_with fail
  refine (l3Vals_any _ _ _ l0 _ S0 (hs0.ext ((Ext.refl' w).al _)) (by omega)).mono ?_; rintro e w' ⟨rfl, rfl⟩
  rw [hv]
  have HV := Lib.hid hv
  have HS := Lib.hid hs1
  clear hv hs0 hs1
  go_wp2_with (go_at_call 54; refine (l1In_any _ _ _ _).mono ?_; rintro e w' ⟨rfl, rfl⟩)
  clear df
  have hf0 := hf.1
  have hf1 := hf.2
  have HF := Lib.hid hf
  clear hf h60'
  go_loopw [3] (fun i wr => ∃ k : Nat, k ≤ n1 ∧ i = .int .i64 k ∧ AllTo (verAt f1 l1) l1 k ∧ Ext w wr ∧ Hid (Bx wr w.heap.size 25 #[.slice A0 n0 c0, .int .i64 f1, .slice A1 n1 c1])) (fun i _ => n1 - (intOf i).toNat)
  case atStart => exact ⟨0, Nat.zero_le _, rfl, AllTo.zero _ _, HX0.out, HB0⟩
  case round =>
    obtain ⟨k, hk, rfl, hup, hx, hbx⟩ := hrel
    have HU := Lib.hid hup
    have HX := Lib.hid hx
    have hsz : w.heap.size < wr.heap.size := hbx.out.lt
    have q1 : wr.cell? ⟨w.heap.size, 1, none⟩ = some (.int .i64 f1) := hbx.out.cell 1
    have q2 : wr.cell? ⟨w.heap.size, 2, none⟩ = some (.slice A1 n1 c1) := hbx.out.cell 2
    clear hup
    by_cases hlt : k < n1
    rotate_left
    · have e : k = l1.length := by rw [H.out]; omega
      have HY := Lib.hid (dec_yes (p := valsOk l0 = true ∧ (0 ≤ f1 ∧ f1 ≤ 1000000) ∧ l1.length ≤ 60 ∧ AllTo (verAt f1 l1) l1 l1.length) ⟨HV.out, HF.out, by rw [H.out]; exact h60, by rw [← e]; exact HU.out⟩)
      clear hx e
      go_wp2
      go_ret
      exact ⟨by rw [versOk, HY.out]; rfl, HX.out⟩
    obtain ⟨b, o, rfl⟩ := HS.out.addr (by omega)
    obtain ⟨s, hsk, hblt, hc⟩ := (HS.out.ext hx).flat_cell Ver.cells_length (by omega) hlt
    obtain ⟨g0, g1, g2⟩ := s
    have k0 := hc 0 (by omega)
    have k1 := hc 1 (by omega)
    have k2 := hc 2 (by omega)
    simp only [Ver.cells, List.getElem?_cons_zero, List.getElem?_cons_succ, Nat.add_zero] at k0 k1 k2
    have HSK := Lib.hid hsk
    clear hx hsk hc
    by_cases t0 : 0 ≤ g0 ∧ g0 ≤ 7
    rotate_left
    · have d0 : decide (0 ≤ g0 ∧ g0 ≤ 7) = false := by simpa using t0
      have HN := Lib.hid (dec_no (p := valsOk l0 = true ∧ (0 ≤ f1 ∧ f1 ≤ 1000000) ∧ l1.length ≤ 60 ∧ AllTo (verAt f1 l1) l1 l1.length) fun h => AllTo.not HSK.out (by rw [H.out]; exact hlt) (fun q => t0 q.1) h.2.2.2)
      clear t0
      go_wp2_with (first | (go_at_call 55; refine (l3Cell_any _ _).mono ?_; rintro e w' ⟨rfl, rfl⟩) | (go_at_call 54; refine (l1In_any _ _ _ _).mono ?_; rintro e w' ⟨rfl, rfl⟩) | (go_at_call 56; refine (l3Val_any _ _).mono ?_; rintro e w' ⟨rfl, rfl⟩))
      go_ret
      exact ⟨by rw [versOk, HN.out]; rfl, HX.out.al _⟩
    have d0 : decide (0 ≤ g0 ∧ g0 ≤ 7) = true := by simpa using t0
    by_cases t1 : f1 + 1 ≤ g1 ∧ g1 ≤ 1000000
    rotate_left
    · have d1 : decide (f1 + 1 ≤ g1 ∧ g1 ≤ 1000000) = false := by simpa using t1
      have HN := Lib.hid (dec_no (p := valsOk l0 = true ∧ (0 ≤ f1 ∧ f1 ≤ 1000000) ∧ l1.length ≤ 60 ∧ AllTo (verAt f1 l1) l1 l1.length) fun h => AllTo.not HSK.out (by rw [H.out]; exact hlt) (fun q => t1 q.2.1) h.2.2.2)
      clear t1
      go_wp2_with (first | (go_at_call 55; refine (l3Cell_any _ _).mono ?_; rintro e w' ⟨rfl, rfl⟩) | (go_at_call 54; refine (l1In_any _ _ _ _).mono ?_; rintro e w' ⟨rfl, rfl⟩) | (go_at_call 56; refine (l3Val_any _ _).mono ?_; rintro e w' ⟨rfl, rfl⟩))
      go_ret
      exact ⟨by rw [versOk, HN.out]; rfl, HX.out.al _⟩
    have d1 : decide (f1 + 1 ≤ g1 ∧ g1 ≤ 1000000) = true := by simpa using t1
    by_cases t2 : 0 ≤ g2 ∧ g2 ≤ 65535
    rotate_left
    · have d2 : decide (0 ≤ g2 ∧ g2 ≤ 65535) = false := by simpa using t2
      have HN := Lib.hid (dec_no (p := valsOk l0 = true ∧ (0 ≤ f1 ∧ f1 ≤ 1000000) ∧ l1.length ≤ 60 ∧ AllTo (verAt f1 l1) l1 l1.length) fun h => AllTo.not HSK.out (by rw [H.out]; exact hlt) (fun q => t2 q.2.2.1) h.2.2.2)
      clear t2
      go_wp2_with (first | (go_at_call 55; refine (l3Cell_any _ _).mono ?_; rintro e w' ⟨rfl, rfl⟩) | (go_at_call 54; refine (l1In_any _ _ _ _).mono ?_; rintro e w' ⟨rfl, rfl⟩) | (go_at_call 56; refine (l3Val_any _ _).mono ?_; rintro e w' ⟨rfl, rfl⟩))
      go_ret
      exact ⟨by rw [versOk, HN.out]; rfl, HX.out.al _⟩
    have d2 : decide (0 ≤ g2 ∧ g2 ≤ 65535) = true := by simpa using t2
    have HT0 := Lib.hid t0
    have HT1 := Lib.hid t1
    have HT2 := Lib.hid t2
    have b0 := t0.1
    have b1 := t0.2
    have b2 := t1.1
    have b3 := t1.2
    clear t0 t1 t2
    by_cases hk0 : k = 0
    · have hkd : decide (0 < k) = false := by simp [hk0]
      have HK := Lib.hid hk0
      clear hk0
      go_wp2_with (first | (go_at_call 55; refine (l3Cell_any _ _).mono ?_; rintro e w' ⟨rfl, rfl⟩) | (go_at_call 54; refine (l1In_any _ _ _ _).mono ?_; rintro e w' ⟨rfl, rfl⟩) | (go_at_call 56; refine (l3Val_any _ _).mono ?_; rintro e w' ⟨rfl, rfl⟩))
      go_quiet (fail)
      go_wp2
      go_roundw
      case rel => exact ⟨k + 1, by omega, by go_num, HU.out.succ HSK.out ⟨HT0.out, HT1.out, HT2.out, fun y h => absurd h (by have := HK.out; omega)⟩, (HX.out.al _).drN _, ((hbx.out.al _).drN _)⟩
      case measure => simp [intOf]; omega
    have hkp : (0 : Int) < (k : Int) := by omega
    have hkd : decide ((0 : Int) < (k : Int)) = true := by simpa using hkp
    obtain ⟨sp, hsp, -, hcp⟩ := (HS.out.ext HX.out).flat_cell (k := k - 1) Ver.cells_length (by omega) (by omega)
    obtain ⟨p0, p1, p2⟩ := sp
    have m0 := hcp 0 (by omega)
    have m1 := hcp 1 (by omega)
    simp only [Ver.cells, List.getElem?_cons_zero, List.getElem?_cons_succ, Nat.add_zero] at m0 m1
    have HSP := Lib.hid hsp
    obtain ⟨j, rfl⟩ : ∃ j, k = j + 1 := ⟨k - 1, by omega⟩
    clear hsp hcp hkp hkd
    rw [Nat.add_sub_cancel] at m0 m1
    have HPV : Hid (∀ y, l1[j + 1 - 1]? = some y → y = ⟨p0, p1, p2⟩) := fun y hy => by rw [HSP.out] at hy; injection hy with hy; exact hy.symm
    have hj1 : (0 : Int) ≤ (j : Int) := by omega
    have hj2 : (j : Int) < (n1 : Int) := by omega
    by_cases hgt : g0 < p0
    · have HN := Lib.hid (dec_no (p := valsOk l0 = true ∧ (0 ≤ f1 ∧ f1 ≤ 1000000) ∧ l1.length ≤ 60 ∧ AllTo (verAt f1 l1) l1 l1.length) fun h => AllTo.not HSK.out (by rw [H.out]; exact hlt) (fun q => by have h1 := q.2.2.2 _ (by omega) HSP.out; rcases h1 with h1 | h1 <;> simp only at h1 <;> omega) h.2.2.2)
      go_wp2_with (first | (go_at_call 55; refine (l3Cell_any _ _).mono ?_; rintro e w' ⟨rfl, rfl⟩) | (go_at_call 54; refine (l1In_any _ _ _ _).mono ?_; rintro e w' ⟨rfl, rfl⟩) | (go_at_call 56; refine (l3Val_any _ _).mono ?_; rintro e w' ⟨rfl, rfl⟩))
      go_quiet (fail)
      go_wp2
      go_ret
      exact ⟨by rw [versOk, HN.out]; rfl, (HX.out.al _).drN _⟩
    have hd1 : decide (g0 < p0) = false := by simpa using hgt
    by_cases heq : p0 = g0
    · have beq1 : (p0 == g0) = true := by simp [heq]
      have HQ := Lib.hid heq
      clear heq
      by_cases hge : g1 ≤ p1
      · have hd2 : decide (g1 ≤ p1) = true := by simpa using hge
        have HN := Lib.hid (dec_no (p := valsOk l0 = true ∧ (0 ≤ f1 ∧ f1 ≤ 1000000) ∧ l1.length ≤ 60 ∧ AllTo (verAt f1 l1) l1 l1.length) fun h => AllTo.not HSK.out (by rw [H.out]; exact hlt) (fun q => by have h1 := q.2.2.2 _ (by omega) HSP.out; have hq := HQ.out; rcases h1 with h1 | h1 <;> simp only at h1 <;> omega) h.2.2.2)
        go_wp2_with (first | (go_at_call 55; refine (l3Cell_any _ _).mono ?_; rintro e w' ⟨rfl, rfl⟩) | (go_at_call 54; refine (l1In_any _ _ _ _).mono ?_; rintro e w' ⟨rfl, rfl⟩) | (go_at_call 56; refine (l3Val_any _ _).mono ?_; rintro e w' ⟨rfl, rfl⟩))
        go_quiet (fail)
        go_wp2
        go_ret
        exact ⟨by rw [versOk, HN.out]; rfl, (HX.out.al _).drN _⟩
      · have hd2 : decide (g1 ≤ p1) = false := by simpa using hge
        go_wp2_with (first | (go_at_call 55; refine (l3Cell_any _ _).mono ?_; rintro e w' ⟨rfl, rfl⟩) | (go_at_call 54; refine (l1In_any _ _ _ _).mono ?_; rintro e w' ⟨rfl, rfl⟩) | (go_at_call 56; refine (l3Val_any _ _).mono ?_; rintro e w' ⟨rfl, rfl⟩))
        go_quiet (fail)
        go_wp2
        go_roundw
        case rel => exact ⟨j + 1 + 1, by omega, by go_num, HU.out.succ HSK.out ⟨HT0.out, HT1.out, HT2.out, fun y _ hy => by rw [HPV.out y hy]; exact .inr ⟨HQ.out, by show p1 < g1; omega⟩⟩, (HX.out.al _).drN _, ((hbx.out.al _).drN _)⟩
        case measure => simp [intOf]; omega
    · have beq1 : (p0 == g0) = false := by simp [heq]
      have HQ := Lib.hid heq
      clear heq
      go_wp2_with (first | (go_at_call 55; refine (l3Cell_any _ _).mono ?_; rintro e w' ⟨rfl, rfl⟩) | (go_at_call 54; refine (l1In_any _ _ _ _).mono ?_; rintro e w' ⟨rfl, rfl⟩) | (go_at_call 56; refine (l3Val_any _ _).mono ?_; rintro e w' ⟨rfl, rfl⟩))
      go_quiet (fail)
      go_wp2
      go_roundw
      case rel => exact ⟨j + 1 + 1, by omega, by go_num, HU.out.succ HSK.out ⟨HT0.out, HT1.out, HT2.out, fun y _ hy => by rw [HPV.out y hy]; exact .inl (by show p0 < g0; have := HQ.out; omega)⟩, (HX.out.al _).drN _, ((hbx.out.al _).drN _)⟩
      case measure => simp [intOf]; omega

set_option maxHeartbeats 4000000 in
theorem impl_VersOk (f1 : Int) (A0 : Option Addr) (n0 c0 : Nat) (l0 : List Int) (A1 : Option Addr) (n1 c1 : Nat) (l1 : List Ver) (w : World)
    (S0 : Nat → Prop) (hs0 : Sl w S0 1 A0 n0 (ints l0)) (hm0 : n0 ≤ 1048576) (S1 : Nat → Prop) (hs1 : Sl w S1 3 A1 n1 (l1.flatMap Ver.cells)) (hm1 : n1 ≤ 1048576) :
    Calls Try.prog 22 #[.agg #[.slice A0 n0 c0, .int .i64 f1, .slice A1 n1 c1]] w fun e w' => e = .returned (.bool (versOk l0 f1 l1)) ∧ Ext w w' := by
  have H := Lib.hid (hs1.flen Ver.cells_length (by omega))
  have HX0 := Lib.hid ((Ext.refl' w).al (.cells #[.slice A0 n0 c0, .int .i64 f1, .slice A1 n1 c1] 25))
  have HB0 : Hid (Bx (w.alloc (.cells #[.slice A0 n0 c0, .int .i64 f1, .slice A1 n1 c1] 25)) w.heap.size 25 #[.slice A0 n0 c0, .int .i64 f1, .slice A1 n1 c1]) := Bx.new' _ _ _ rfl
  cases hv : valsOk l0
  · have HN := Lib.hid (dec_no (p := valsOk l0 = true ∧ (0 ≤ f1 ∧ f1 ≤ 1000000) ∧ l1.length ≤ 60 ∧ AllTo (verAt f1 l1) l1 l1.length) fun h => by rw [hv] at h; exact absurd h.1 (by simp))
    go_enter Try.func22, Try.ntmps22
    go_wp2_with fail
    refine (areValues_any _ _ _ l0 _ S0 (hs0.ext ((Ext.refl' w).al _)) (by omega)).mono ?_; rintro e w' ⟨rfl, rfl⟩
    rw [hv]
    clear hv
    go_wp2
    go_ret
    exact ⟨by rw [versOk, HN.out]; rfl, HX0.out⟩
  by_cases hf : 0 ≤ f1 ∧ f1 ≤ 1000000
  rotate_left
  · have HN := Lib.hid (dec_no (p := valsOk l0 = true ∧ (0 ≤ f1 ∧ f1 ≤ 1000000) ∧ l1.length ≤ 60 ∧ AllTo (verAt f1 l1) l1 l1.length) fun h => hf h.2.1)
    have df : decide (0 ≤ f1 ∧ f1 ≤ 1000000) = false := by simpa using hf
    clear hf
    go_enter Try.func22, Try.ntmps22
    go_wp2_with fail
    refine (areValues_any _ _ _ l0 _ S0 (hs0.ext ((Ext.refl' w).al _)) (by omega)).mono ?_; rintro e w' ⟨rfl, rfl⟩
    rw [hv]
    clear hv
    go_wp2_with (go_at_call 58; refine (within_any _ _ _ _).mono ?_; rintro e w' ⟨rfl, rfl⟩)
    go_ret
    exact ⟨by rw [versOk, HN.out]; rfl, HX0.out⟩
  have df : decide (0 ≤ f1 ∧ f1 ≤ 1000000) = true := by simpa using hf
  by_cases h60 : n1 ≤ 60
  rotate_left
  · have HN := Lib.hid (dec_no (p := valsOk l0 = true ∧ (0 ≤ f1 ∧ f1 ≤ 1000000) ∧ l1.length ≤ 60 ∧ AllTo (verAt f1 l1) l1 l1.length) fun h => h60 (by rw [← H.out]; exact h.2.2.1))
    have h60' : ¬ (n1 : Int) ≤ 60 := by omega
    go_enter Try.func22, Try.ntmps22
    go_wp2_with fail
    refine (areValues_any _ _ _ l0 _ S0 (hs0.ext ((Ext.refl' w).al _)) (by omega)).mono ?_; rintro e w' ⟨rfl, rfl⟩
    rw [hv]
    clear hv
    go_wp2_with (go_at_call 58; refine (within_any _ _ _ _).mono ?_; rintro e w' ⟨rfl, rfl⟩)
    go_ret
    exact ⟨by rw [versOk, HN.out]; rfl, HX0.out⟩
  have h60' : (n1 : Int) ≤ 60 := by omega
  go_enter Try.func22, Try.ntmps22
  go_wp2_with fail
  refine (areValues_any _ _ _ l0 _ S0 (hs0.ext ((Ext.refl' w).al _)) (by omega)).mono ?_; rintro e w' ⟨rfl, rfl⟩
  rw [hv]
  have HV := Lib.hid hv
  have HS := Lib.hid hs1
  clear hv hs0 hs1
  go_wp2_with (go_at_call 58; refine (within_any _ _ _ _).mono ?_; rintro e w' ⟨rfl, rfl⟩)
  clear df
  have hf0 := hf.1
  have hf1 := hf.2
  have HF := Lib.hid hf
  clear hf h60'
  go_loopw [24] (fun i wr => ∃ k : Nat, k ≤ n1 ∧ i = .int .i64 k ∧ AllTo (verAt f1 l1) l1 k ∧ Ext w wr ∧ Hid (Bx wr w.heap.size 25 #[.slice A0 n0 c0, .int .i64 f1, .slice A1 n1 c1])) (fun i _ => n1 - (intOf i).toNat)
  case atStart => exact ⟨0, Nat.zero_le _, rfl, AllTo.zero _ _, HX0.out, HB0⟩
  case round =>
    obtain ⟨k, hk, rfl, hup, hx, hbx⟩ := hrel
    have HU := Lib.hid hup
    have HX := Lib.hid hx
    have hsz : w.heap.size < wr.heap.size := hbx.out.lt
    have q1 : wr.cell? ⟨w.heap.size, 1, none⟩ = some (.int .i64 f1) := hbx.out.cell 1
    have q2 : wr.cell? ⟨w.heap.size, 2, none⟩ = some (.slice A1 n1 c1) := hbx.out.cell 2
    clear hup
    by_cases hlt : k < n1
    rotate_left
    · have e : k = l1.length := by rw [H.out]; omega
      have HY := Lib.hid (dec_yes (p := valsOk l0 = true ∧ (0 ≤ f1 ∧ f1 ≤ 1000000) ∧ l1.length ≤ 60 ∧ AllTo (verAt f1 l1) l1 l1.length) ⟨HV.out, HF.out, by rw [H.out]; exact h60, by rw [← e]; exact HU.out⟩)
      clear hx e
      go_wp2
      go_ret
      exact ⟨by rw [versOk, HY.out]; rfl, HX.out⟩
    obtain ⟨b, o, rfl⟩ := HS.out.addr (by omega)
    obtain ⟨s, hsk, hblt, hc⟩ := (HS.out.ext hx).flat_cell Ver.cells_length (by omega) hlt
    obtain ⟨g0, g1, g2⟩ := s
    have k0 := hc 0 (by omega)
    have k1 := hc 1 (by omega)
    have k2 := hc 2 (by omega)
    simp only [Ver.cells, List.getElem?_cons_zero, List.getElem?_cons_succ, Nat.add_zero] at k0 k1 k2
    have HSK := Lib.hid hsk
    have hwr : IntKind.i64.wrap (f1 + 1) = f1 + 1 := IntWalk.i64_in _ (by omega)
    clear hx hsk hc
    by_cases t0 : 0 ≤ g0 ∧ g0 ≤ 7
    rotate_left
    · have d0 : decide (0 ≤ g0 ∧ g0 ≤ 7) = false := by simpa using t0
      have HN := Lib.hid (dec_no (p := valsOk l0 = true ∧ (0 ≤ f1 ∧ f1 ≤ 1000000) ∧ l1.length ≤ 60 ∧ AllTo (verAt f1 l1) l1 l1.length) fun h => AllTo.not HSK.out (by rw [H.out]; exact hlt) (fun q => t0 q.1) h.2.2.2)
      have C0 : Hid (∀ w : World, Calls Try.prog 59 #[.int .i64 g0] w fun e w' => e = .returned (.bool false) ∧ w = w') := fun w => (isCell_any g0 w).mono fun _ _ h => ⟨by rw [h.1, d0], h.2⟩
      clear t0 d0
      go_wp2
      go_quiet (first | (go_at_call 59; exact Calls.quiet_of_same ((C0.out _).mono fun _ _ h => ⟨h.1, h.2.symm⟩)) | (go_at_call 58; exact Calls.quiet_of_same ((C1.out _).mono fun _ _ h => ⟨h.1, h.2.symm⟩)) | (go_at_call 60; exact Calls.quiet_of_same ((C2.out _).mono fun _ _ h => ⟨h.1, h.2.symm⟩)))
      go_wp2
      go_ret
      exact ⟨by rw [versOk, HN.out]; rfl, (HX.out.al _).drN _⟩
    have d0 : decide (0 ≤ g0 ∧ g0 ≤ 7) = true := by simpa using t0
    have C0 : Hid (∀ w : World, Calls Try.prog 59 #[.int .i64 g0] w fun e w' => e = .returned (.bool true) ∧ w = w') := fun w => (isCell_any g0 w).mono fun _ _ h => ⟨by rw [h.1, d0], h.2⟩
    clear d0
    by_cases t1 : f1 + 1 ≤ g1 ∧ g1 ≤ 1000000
    rotate_left
    · have d1 : decide (f1 + 1 ≤ g1 ∧ g1 ≤ 1000000) = false := by simpa using t1
      have HN := Lib.hid (dec_no (p := valsOk l0 = true ∧ (0 ≤ f1 ∧ f1 ≤ 1000000) ∧ l1.length ≤ 60 ∧ AllTo (verAt f1 l1) l1 l1.length) fun h => AllTo.not HSK.out (by rw [H.out]; exact hlt) (fun q => t1 q.2.1) h.2.2.2)
      have C1 : Hid (∀ w : World, Calls Try.prog 58 #[.int .i64 g1, .int .i64 (f1 + 1), .int .i64 1000000] w fun e w' => e = .returned (.bool false) ∧ w = w') := fun w => (within_any g1 (f1 + 1) 1000000 w).mono fun _ _ h => ⟨by rw [h.1, d1], h.2⟩
      clear t1 d1
      go_wp2
      go_quiet (first | (go_at_call 59; exact Calls.quiet_of_same ((C0.out _).mono fun _ _ h => ⟨h.1, h.2.symm⟩)) | (go_at_call 58; exact Calls.quiet_of_same ((C1.out _).mono fun _ _ h => ⟨h.1, h.2.symm⟩)) | (go_at_call 60; exact Calls.quiet_of_same ((C2.out _).mono fun _ _ h => ⟨h.1, h.2.symm⟩)))
      go_wp2
      go_ret
      exact ⟨by rw [versOk, HN.out]; rfl, (HX.out.al _).drN _⟩
    have d1 : decide (f1 + 1 ≤ g1 ∧ g1 ≤ 1000000) = true := by simpa using t1
    have C1 : Hid (∀ w : World, Calls Try.prog 58 #[.int .i64 g1, .int .i64 (f1 + 1), .int .i64 1000000] w fun e w' => e = .returned (.bool true) ∧ w = w') := fun w => (within_any g1 (f1 + 1) 1000000 w).mono fun _ _ h => ⟨by rw [h.1, d1], h.2⟩
    clear d1
    by_cases t2 : 0 ≤ g2 ∧ g2 ≤ 65535
    rotate_left
    · have d2 : decide (0 ≤ g2 ∧ g2 ≤ 65535) = false := by simpa using t2
      have HN := Lib.hid (dec_no (p := valsOk l0 = true ∧ (0 ≤ f1 ∧ f1 ≤ 1000000) ∧ l1.length ≤ 60 ∧ AllTo (verAt f1 l1) l1 l1.length) fun h => AllTo.not HSK.out (by rw [H.out]; exact hlt) (fun q => t2 q.2.2.1) h.2.2.2)
      have C2 : Hid (∀ w : World, Calls Try.prog 60 #[.int .i64 g2] w fun e w' => e = .returned (.bool false) ∧ w = w') := fun w => (isValue_any g2 w).mono fun _ _ h => ⟨by rw [h.1, d2], h.2⟩
      clear t2 d2
      go_wp2
      go_quiet (first | (go_at_call 59; exact Calls.quiet_of_same ((C0.out _).mono fun _ _ h => ⟨h.1, h.2.symm⟩)) | (go_at_call 58; exact Calls.quiet_of_same ((C1.out _).mono fun _ _ h => ⟨h.1, h.2.symm⟩)) | (go_at_call 60; exact Calls.quiet_of_same ((C2.out _).mono fun _ _ h => ⟨h.1, h.2.symm⟩)))
      go_wp2
      go_ret
      exact ⟨by rw [versOk, HN.out]; rfl, (HX.out.al _).drN _⟩
    have d2 : decide (0 ≤ g2 ∧ g2 ≤ 65535) = true := by simpa using t2
    have C2 : Hid (∀ w : World, Calls Try.prog 60 #[.int .i64 g2] w fun e w' => e = .returned (.bool true) ∧ w = w') := fun w => (isValue_any g2 w).mono fun _ _ h => ⟨by rw [h.1, d2], h.2⟩
    clear d2
    have HT0 := Lib.hid t0
    have HT1 := Lib.hid t1
    have HT2 := Lib.hid t2
    have b0 := t0.1
    have b0' := t0.2
    have b1 := t1.1
    have b2 := t1.2
    clear t0 t1 t2
    by_cases hk0 : k = 0
    · have hkd : decide (0 < k) = false := by simp [hk0]
      have HK := Lib.hid hk0
      clear hk0
      go_wp2
      go_quiet (first | (go_at_call 59; exact Calls.quiet_of_same ((C0.out _).mono fun _ _ h => ⟨h.1, h.2.symm⟩)) | (go_at_call 58; exact Calls.quiet_of_same ((C1.out _).mono fun _ _ h => ⟨h.1, h.2.symm⟩)) | (go_at_call 60; exact Calls.quiet_of_same ((C2.out _).mono fun _ _ h => ⟨h.1, h.2.symm⟩)))
      go_wp2
      go_roundw
      case rel => exact ⟨k + 1, by omega, by go_num, HU.out.succ HSK.out ⟨HT0.out, HT1.out, HT2.out, fun y h => absurd h (by have := HK.out; omega)⟩, (HX.out.al _).drN _, ((hbx.out.al _).drN _)⟩
      case measure => simp [intOf]; omega
    have hkp : (0 : Int) < (k : Int) := by omega
    obtain ⟨sp, hsp, -, hcp⟩ := (HS.out.ext HX.out).flat_cell (k := k - 1) Ver.cells_length (by omega) (by omega)
    obtain ⟨p0, p1, p2⟩ := sp
    have m0 := hcp 0 (by omega)
    have m1 := hcp 1 (by omega)
    have m2 := hcp 2 (by omega)
    simp only [Ver.cells, List.getElem?_cons_zero, List.getElem?_cons_succ, Nat.add_zero] at m0 m1 m2
    have HSP := Lib.hid hsp
    have HPO := Lib.hid (HU.out (k - 1) (by omega) _ hsp)
    obtain ⟨j, rfl⟩ : ∃ j, k = j + 1 := ⟨k - 1, by omega⟩
    clear hsp hcp hkp
    rw [Nat.add_sub_cancel] at m0 m1 m2
    have HPV : Hid (∀ y, l1[j + 1 - 1]? = some y → y = ⟨p0, p1, p2⟩) := fun y hy => by rw [HSP.out] at hy; injection hy with hy; exact hy.symm
    have hj1 : (0 : Int) ≤ (j : Int) := by omega
    have hj2 : (j : Int) < (n1 : Int) := by omega
    have hgt : (0 : Int) < ((j + 1 : Nat) : Int) := by omega
    have C3 : Hid (∀ w : World, Calls Try.prog 61 #[.agg #[.int .i64 p0, .int .i64 p1, .int .i64 p2], .agg #[.int .i64 g0, .int .i64 g1, .int .i64 g2]] w fun e w' => e = .returned (.int .i64 (if p0 = g0 then p1 - g1 else p0 - g0)) ∧ Ext w w') := fun w => compareVers_any p0 p1 p2 g0 g1 g2 w HPO.out.1 HT0.out ⟨by have := HPO.out.2.1.1; have := HF.out; simp only at *; omega, HPO.out.2.1.2⟩ ⟨by have := HT1.out.1; omega, HT1.out.2⟩
    generalize hcv : (if p0 = g0 then p1 - g1 else p0 - g0) = cv at C3
    have HCV := Lib.hid hcv
    clear hcv
    by_cases hbad : 0 ≤ cv
    · have hd1 : decide (0 ≤ cv) = true := by simpa using hbad
      have HN := Lib.hid (dec_no (p := valsOk l0 = true ∧ (0 ≤ f1 ∧ f1 ≤ 1000000) ∧ l1.length ≤ 60 ∧ AllTo (verAt f1 l1) l1 l1.length) fun h => AllTo.not HSK.out (by rw [H.out]; exact hlt) (fun q => by have h1 := q.2.2.2 _ (by omega) HSP.out; have h2 := HCV.out; split at h2 <;> rcases h1 with h1 | h1 <;> simp only at h1 <;> omega) h.2.2.2)
      have KS : Hid (∀ w', Ext (wr.alloc (Obj.cells #[Value.int IntKind.i64 g0, Value.int IntKind.i64 g1, Value.int IntKind.i64 g2] 73)) w' → Ext (wr.alloc (Obj.cells #[Value.int IntKind.i64 g0, Value.int IntKind.i64 g1, Value.int IntKind.i64 g2] 73)) w' ∧ w'.cell? ⟨wr.heap.size, 0, none⟩ = some (.int .i64 g0) ∧ w'.cell? ⟨wr.heap.size, 1, none⟩ = some (.int .i64 g1) ∧ w'.cell? ⟨wr.heap.size, 2, none⟩ = some (.int .i64 g2) ∧ w'.cell? ⟨w.heap.size, 1, none⟩ = some (.int .i64 f1) ∧ w'.cell? ⟨w.heap.size, 2, none⟩ = some (.slice (some ⟨b, o, none⟩) n1 c1) ∧ w'.cell? ⟨b, o + j * 3, none⟩ = some (.int .i64 p0) ∧ w'.cell? ⟨b, o + j * 3 + 1, none⟩ = some (.int .i64 p1) ∧ w'.cell? ⟨b, o + j * 3 + 2, none⟩ = some (.int .i64 p2)) := fun w' x => ⟨x, x.nu 0 rfl, x.nu 1 rfl, x.nu 2 rfl, x.co1 q1, x.co1 q2, x.co1 m0, x.co1 m1, x.co1 m2⟩
      have ws1 : IntKind.i64.wrap (((j + 1 : Nat) : Int) - 1) = (j : Int) := by rw [IntWalk.i64_in _ (by omega)]; omega
      have ws2 : IntKind.i64.wrap ((j : Int) + 1 - 1) = (j : Int) := by rw [IntWalk.i64_in _ (by omega)]; omega
      have ws3 : IntKind.i64.wrap (j : Int) = (j : Int) := by rw [IntWalk.i64_in _ (by omega)]
      go_wp2
      go_region_held3 (fun w' => Ext (wr.alloc (Obj.cells #[Value.int IntKind.i64 g0, Value.int IntKind.i64 g1, Value.int IntKind.i64 g2] 73)) w' ∧ w'.cell? ⟨wr.heap.size, 0, none⟩ = some (.int .i64 g0) ∧ w'.cell? ⟨wr.heap.size, 1, none⟩ = some (.int .i64 g1) ∧ w'.cell? ⟨wr.heap.size, 2, none⟩ = some (.int .i64 g2) ∧ w'.cell? ⟨w.heap.size, 1, none⟩ = some (.int .i64 f1) ∧ w'.cell? ⟨w.heap.size, 2, none⟩ = some (.slice (some ⟨b, o, none⟩) n1 c1) ∧ w'.cell? ⟨b, o + j * 3, none⟩ = some (.int .i64 p0) ∧ w'.cell? ⟨b, o + j * 3 + 1, none⟩ = some (.int .i64 p1) ∧ w'.cell? ⟨b, o + j * 3 + 2, none⟩ = some (.int .i64 p2)) (first | exact KS.out _ ((Ext.refl' _).dr) | exact ‹Ext (wr.alloc (Obj.cells #[Value.int IntKind.i64 g0, Value.int IntKind.i64 g1, Value.int IntKind.i64 g2] 73)) _ ∧ _› | exact KS.out _ ((‹Ext (wr.alloc (Obj.cells #[Value.int IntKind.i64 g0, Value.int IntKind.i64 g1, Value.int IntKind.i64 g2] 73)) _ ∧ _›.1).tr x2)) (first | (go_at_call 59; refine (C0.out _).mono ?_; rintro e w' ⟨rfl, rfl⟩) | (go_at_call 58; refine (C1.out _).mono ?_; rintro e w' ⟨rfl, rfl⟩) | (go_at_call 60; refine (C2.out _).mono ?_; rintro e w' ⟨rfl, rfl⟩) | (go_at_call 61; refine (C3.out _).mono ?_; rintro e w2 ⟨rfl, x2⟩))
      go_wp2
      go_ret
      exact ⟨by rw [versOk, HN.out]; rfl, (HX.out.al _).tr (‹Ext (wr.alloc (Obj.cells #[Value.int IntKind.i64 g0, Value.int IntKind.i64 g1, Value.int IntKind.i64 g2] 73)) _ ∧ _›.1)⟩
    · have HBAD := Lib.hid hbad
      have hd1 : decide (0 ≤ cv) = false := by simpa using hbad
      have KS : Hid (∀ w', Ext (wr.alloc (Obj.cells #[Value.int IntKind.i64 g0, Value.int IntKind.i64 g1, Value.int IntKind.i64 g2] 73)) w' → Ext (wr.alloc (Obj.cells #[Value.int IntKind.i64 g0, Value.int IntKind.i64 g1, Value.int IntKind.i64 g2] 73)) w' ∧ w'.cell? ⟨wr.heap.size, 0, none⟩ = some (.int .i64 g0) ∧ w'.cell? ⟨wr.heap.size, 1, none⟩ = some (.int .i64 g1) ∧ w'.cell? ⟨wr.heap.size, 2, none⟩ = some (.int .i64 g2) ∧ w'.cell? ⟨w.heap.size, 1, none⟩ = some (.int .i64 f1) ∧ w'.cell? ⟨w.heap.size, 2, none⟩ = some (.slice (some ⟨b, o, none⟩) n1 c1) ∧ w'.cell? ⟨b, o + j * 3, none⟩ = some (.int .i64 p0) ∧ w'.cell? ⟨b, o + j * 3 + 1, none⟩ = some (.int .i64 p1) ∧ w'.cell? ⟨b, o + j * 3 + 2, none⟩ = some (.int .i64 p2)) := fun w' x => ⟨x, x.nu 0 rfl, x.nu 1 rfl, x.nu 2 rfl, x.co1 q1, x.co1 q2, x.co1 m0, x.co1 m1, x.co1 m2⟩
      have ws1 : IntKind.i64.wrap (((j + 1 : Nat) : Int) - 1) = (j : Int) := by rw [IntWalk.i64_in _ (by omega)]; omega
      have ws2 : IntKind.i64.wrap ((j : Int) + 1 - 1) = (j : Int) := by rw [IntWalk.i64_in _ (by omega)]; omega
      have ws3 : IntKind.i64.wrap (j : Int) = (j : Int) := by rw [IntWalk.i64_in _ (by omega)]
      go_wp2
      go_region_held3 (fun w' => Ext (wr.alloc (Obj.cells #[Value.int IntKind.i64 g0, Value.int IntKind.i64 g1, Value.int IntKind.i64 g2] 73)) w' ∧ w'.cell? ⟨wr.heap.size, 0, none⟩ = some (.int .i64 g0) ∧ w'.cell? ⟨wr.heap.size, 1, none⟩ = some (.int .i64 g1) ∧ w'.cell? ⟨wr.heap.size, 2, none⟩ = some (.int .i64 g2) ∧ w'.cell? ⟨w.heap.size, 1, none⟩ = some (.int .i64 f1) ∧ w'.cell? ⟨w.heap.size, 2, none⟩ = some (.slice (some ⟨b, o, none⟩) n1 c1) ∧ w'.cell? ⟨b, o + j * 3, none⟩ = some (.int .i64 p0) ∧ w'.cell? ⟨b, o + j * 3 + 1, none⟩ = some (.int .i64 p1) ∧ w'.cell? ⟨b, o + j * 3 + 2, none⟩ = some (.int .i64 p2)) (first | exact KS.out _ ((Ext.refl' _).dr) | exact ‹Ext (wr.alloc (Obj.cells #[Value.int IntKind.i64 g0, Value.int IntKind.i64 g1, Value.int IntKind.i64 g2] 73)) _ ∧ _› | exact KS.out _ ((‹Ext (wr.alloc (Obj.cells #[Value.int IntKind.i64 g0, Value.int IntKind.i64 g1, Value.int IntKind.i64 g2] 73)) _ ∧ _›.1).tr x2)) (first | (go_at_call 59; refine (C0.out _).mono ?_; rintro e w' ⟨rfl, rfl⟩) | (go_at_call 58; refine (C1.out _).mono ?_; rintro e w' ⟨rfl, rfl⟩) | (go_at_call 60; refine (C2.out _).mono ?_; rintro e w' ⟨rfl, rfl⟩) | (go_at_call 61; refine (C3.out _).mono ?_; rintro e w2 ⟨rfl, x2⟩))
      have XE : Hid (Ext (wr.alloc (Obj.cells #[Value.int IntKind.i64 g0, Value.int IntKind.i64 g1, Value.int IntKind.i64 g2] 73)) _) := (‹Ext (wr.alloc (Obj.cells #[Value.int IntKind.i64 g0, Value.int IntKind.i64 g1, Value.int IntKind.i64 g2] 73)) _ ∧ _›.1)
      go_wp2
      go_roundw
      case rel => exact ⟨j + 1 + 1, by omega, by go_num, HU.out.succ HSK.out ⟨HT0.out, HT1.out, HT2.out, fun y _ hy => by rw [HPV.out y hy]; exact verLt_of HCV.out (by have := HBAD.out; omega)⟩, (HX.out.al _).tr XE.out, (hbx.out.al _).ext XE.out⟩
      case measure => simp [intOf]; omega

set_option maxHeartbeats 8000000 in
theorem law_VersOk (f0_1 : Int) (A0_0 : Option Addr) (n0_0 c0_0 : Nat) (l0_0 : List Int) (A0_1 : Option Addr) (n0_1 c0_1 : Nat) (l0_1 : List Ver) (w : World) (hs0_0 : Sl w (fun _ => True) 1 A0_0 n0_0 (ints l0_0)) (hm0_0 : n0_0 ≤ 9223372036854775807) (hs0_1 : Sl w (fun _ => True) 3 A0_1 n0_1 (l0_1.flatMap Ver.cells)) (hm0_1 : n0_1 ≤ 9223372036854775807) :
    Calls Try.prog 4 #[.agg #[.slice A0_0 n0_0 c0_0, .int .i64 f0_1, .slice A0_1 n0_1 c0_1]] w fun e w' => e = .returned (.bool true) ∧ Ext w w' := by
  have hsO0_0 := hs0_0
  have hsO0_1 := hs0_1
  by_cases hz0 : (n0_0 : Int) + (n0_1 : Int) ≤ (1048576 : Int)
  rotate_left
  · go_enter Try.func4, Try.ntmps4
    go_wp2_with fail
    refine (szVersions_no _ _ _ _ _ _ _ ((1048576 : Int)) _ hm0_0 hm0_1 (by omega) (by omega) (by omega)).mono ?_
    rintro e w1 ⟨rfl, xw1⟩
    have ba0 : Hid (Bx w1 (w.heap.size) 36 #[.slice A0_0 n0_0 c0_0, .int .i64 f0_1, .slice A0_1 n0_1 c0_1]) := Bx.ext (Bx.new' _ _ _ rfl) xw1
    have zw1 : w.heap.size + 1 ≤ w1.heap.size := by have h := xw1.size; (try simp at h); omega
    replace xw1 := Ext.tr ((Ext.refl' w).al _) xw1
    have xx := xw1
    replace hs0_0 := hsO0_0.ext xx
    replace hs0_1 := hsO0_1.ext xx
    clear xw1
    go_wp2
    go_ret
    exact ⟨rfl, xx⟩
  have hN0_0 : n0_0 ≤ 1048576 := by omega
  have hN0_1 : n0_1 ≤ 1048576 := by omega
  go_enter Try.func4, Try.ntmps4
  go_wp2_with fail
  refine (szVersions_yes _ _ _ _ _ _ _ ((1048576 : Int)) _ hm0_0 hm0_1 (by omega) (by omega) (by omega)).mono ?_
  rintro e w1 ⟨rfl, xw1⟩
  have ba0 : Hid (Bx w1 (w.heap.size) 36 #[.slice A0_0 n0_0 c0_0, .int .i64 f0_1, .slice A0_1 n0_1 c0_1]) := Bx.ext (Bx.new' _ _ _ rfl) xw1
  have zw1 : w.heap.size + 1 ≤ w1.heap.size := by have h := xw1.size; (try simp at h); omega
  replace xw1 := Ext.tr ((Ext.refl' w).al _) xw1
  have xx := xw1
  replace hs0_0 := hsO0_0.ext xx
  replace hs0_1 := hsO0_1.ext xx
  clear xw1
  have ea0_0 : w1.cell? ⟨w.heap.size, 0, none⟩ = some (.slice A0_0 n0_0 c0_0) := ba0.out.cell 0
  have ea0_1 : w1.cell? ⟨w.heap.size, 1, none⟩ = some (.int .i64 f0_1) := ba0.out.cell 1
  have ea0_2 : w1.cell? ⟨w.heap.size, 2, none⟩ = some (.slice A0_1 n0_1 c0_1) := ba0.out.cell 2
  go_wp2_with fail
  refine (toVersions_any _ _ _ _ _ _ _ _ _ _ _ hs0_0 hN0_0 _ hs0_1 hN0_1).mono ?_
  rintro e w2 ⟨B2_0, d2_0, B2_1, d2_1, rfl, o2_0, o2_1, ap2, x2⟩
  clear ea0_0 ea0_1 ea0_2
  replace ba0 := Lib.hid (ba0.out.ext (Ext.tr (Ext.refl' w1) x2))
  have zw2 : w1.heap.size + 0 ≤ w2.heap.size := by have h := x2.size; (try simp at h); omega
  replace xx := xx.tr x2
  replace hs0_0 := hsO0_0.ext xx
  replace hs0_1 := hsO0_1.ext xx
  clear x2
  have r2_0 : Hid (∀ g, (Value.slice B2_0 n0_0 d2_0).ownBlock = some g → w1.heap.size + 0 ≤ g ∧ g < w2.heap.size) := fun g hg => by have h := o2_0.lt g hg; (try simp only [World.heap_alloc_size] at h); omega
  have r2_1 : Hid (∀ g, (Value.slice B2_1 n0_1 d2_1).ownBlock = some g → w1.heap.size + 0 ≤ g ∧ g < w2.heap.size) := fun g hg => by have h := o2_1.lt g hg; (try simp only [World.heap_alloc_size] at h); omega
  go_wp2_with fail
  refine (spec_VersOk _ _ _ _ _ _ _ _ _ _ _ (ownSl o2_0) hN0_0 _ (ownSl o2_1) hN0_1).mono ?_
  rintro e w3 ⟨rfl, x3⟩
  replace ba0 := Lib.hid (ba0.out.ext (Ext.tr (Ext.refl' w2) x3))
  have zw3 : w2.heap.size + 0 ≤ w3.heap.size := by have h := x3.size; (try simp at h); omega
  replace o2_0 := own_ext o2_0 x3
  replace o2_1 := own_ext o2_1 x3
  replace xx := xx.tr x3
  replace hs0_0 := hsO0_0.ext xx
  replace hs0_1 := hsO0_1.ext xx
  clear x3
  clear o2_0 o2_1
  have ea0_0 : w3.cell? ⟨w.heap.size, 0, none⟩ = some (.slice A0_0 n0_0 c0_0) := ba0.out.cell 0
  have ea0_1 : w3.cell? ⟨w.heap.size, 1, none⟩ = some (.int .i64 f0_1) := ba0.out.cell 1
  have ea0_2 : w3.cell? ⟨w.heap.size, 2, none⟩ = some (.slice A0_1 n0_1 c0_1) := ba0.out.cell 2
  go_wp2_with fail
  refine (toVersions_any _ _ _ _ _ _ _ _ _ _ _ hs0_0 hN0_0 _ hs0_1 hN0_1).mono ?_
  rintro e w4 ⟨B4_0, d4_0, B4_1, d4_1, rfl, o4_0, o4_1, ap4, x4⟩
  clear ea0_0 ea0_1 ea0_2
  replace ba0 := Lib.hid (ba0.out.ext (Ext.tr (Ext.refl' w3) x4))
  have zw4 : w3.heap.size + 0 ≤ w4.heap.size := by have h := x4.size; (try simp at h); omega
  replace xx := xx.tr x4
  replace hs0_0 := hsO0_0.ext xx
  replace hs0_1 := hsO0_1.ext xx
  clear x4
  have r4_0 : Hid (∀ g, (Value.slice B4_0 n0_0 d4_0).ownBlock = some g → w3.heap.size + 0 ≤ g ∧ g < w4.heap.size) := fun g hg => by have h := o4_0.lt g hg; (try simp only [World.heap_alloc_size] at h); omega
  have r4_1 : Hid (∀ g, (Value.slice B4_1 n0_1 d4_1).ownBlock = some g → w3.heap.size + 0 ≤ g ∧ g < w4.heap.size) := fun g hg => by have h := o4_1.lt g hg; (try simp only [World.heap_alloc_size] at h); omega
  go_wp2_with fail
  refine (impl_VersOk _ _ _ _ _ _ _ _ _ _ _ (ownSl (own_ext o4_0 ((Ext.refl' w4).al _))) hN0_0 _ (ownSl (own_ext o4_1 ((Ext.refl' w4).al _))) hN0_1).mono ?_
  rintro e w5 ⟨rfl, x5⟩
  replace ba0 := Lib.hid (ba0.out.ext (Ext.tr ((Ext.refl' w4).al _) x5))
  have bx0 : Hid (Bx w5 (w4.heap.size) 25 #[.slice B4_0 n0_0 d4_0, .int .i64 f0_1, .slice B4_1 n0_1 d4_1]) := Bx.ext (Bx.new' _ _ _ rfl) x5
  have zw5 : w4.heap.size + 1 ≤ w5.heap.size := by have h := x5.size; (try simp at h); omega
  replace x5 := Ext.tr ((Ext.refl' w4).al _) x5
  replace o4_0 := own_ext o4_0 x5
  replace o4_1 := own_ext o4_1 x5
  replace xx := xx.tr x5
  replace hs0_0 := hsO0_0.ext xx
  replace hs0_1 := hsO0_1.ext xx
  clear x5
  have ex0_0 : w5.cell? ⟨w4.heap.size, 0, none⟩ = some (.slice B4_0 n0_0 d4_0) := bx0.out.cell 0
  have ex0_1 : w5.cell? ⟨w4.heap.size, 1, none⟩ = some (.int .i64 f0_1) := bx0.out.cell 1
  have ex0_2 : w5.cell? ⟨w4.heap.size, 2, none⟩ = some (.slice B4_1 n0_1 d4_1) := bx0.out.cell 2
  have ea0_0 : w5.cell? ⟨w.heap.size, 0, none⟩ = some (.slice A0_0 n0_0 c0_0) := ba0.out.cell 0
  have ea0_1 : w5.cell? ⟨w.heap.size, 1, none⟩ = some (.int .i64 f0_1) := ba0.out.cell 1
  have ea0_2 : w5.cell? ⟨w.heap.size, 2, none⟩ = some (.slice A0_1 n0_1 c0_1) := ba0.out.cell 2
  go_wp2_with fail
  go_region_with (first | (go_at_call 21; refine (toVersions_any _ _ _ _ _ _ _ _ _ _ _ (hs0_0.ext ((Ext.refl' w5).dr)) hN0_0 _ (hs0_1.ext ((Ext.refl' w5).dr)) hN0_1).mono ?_; rintro e w6 ⟨B6_0, d6_0, B6_1, d6_1, rfl, o6_0, o6_1, ap6, x6⟩; have bq : Hid (Bx w6 (w4.heap.size) 25 #[.slice B4_0 n0_0 d4_0, .int .i64 f0_1, .slice B4_1 n0_1 d4_1]) := Bx.ext ((bx0.out.ext ((Ext.refl' w5).dr))) x6; have eq_0 : w6.cell? ⟨w4.heap.size, 0, none⟩ = some (.slice B4_0 n0_0 d4_0) := bq.out.cell 0; have eq_1 : w6.cell? ⟨w4.heap.size, 1, none⟩ = some (.int .i64 f0_1) := bq.out.cell 1; have eq_2 : w6.cell? ⟨w4.heap.size, 2, none⟩ = some (.slice B4_1 n0_1 d4_1) := bq.out.cell 2) | (go_at_call 14; refine (eqVersions_same _ _ _ _ _ _ _ _ _ _ _ _ _ _ _ (ownSl (own_ext o4_0 (Ext.tr ((Ext.refl' w5).dr) x6))) (by omega) _ (ownSl (own_ext o4_1 (Ext.tr ((Ext.refl' w5).dr) x6))) (by omega) _ (ownSl o6_0) _ (ownSl o6_1)).mono ?_; rintro e w7 ⟨rfl, x7⟩))
  all_goals
    clear bq eq_0 eq_1 eq_2
    replace x7 := Ext.tr x6 x7
    clear o6_0 o6_1 ap6
    clear ex0_0 ex0_1 ex0_2 ea0_0 ea0_1 ea0_2
    replace ba0 := Lib.hid (ba0.out.ext (Ext.tr ((Ext.refl' w5).dr) x7))
    replace bx0 := Lib.hid (bx0.out.ext (Ext.tr ((Ext.refl' w5).dr) x7))
    have zw7 : w5.heap.size + 0 ≤ w7.heap.size := by have h := x7.size; (try simp at h); omega
    replace x7 := Ext.tr ((Ext.refl' w5).dr) x7
    replace o4_0 := own_ext o4_0 x7
    replace o4_1 := own_ext o4_1 x7
    replace xx := xx.tr x7
    replace hs0_0 := hsO0_0.ext xx
    replace hs0_1 := hsO0_1.ext xx
    clear x7
    go_wp2
    go_ret
    exact ⟨rfl, xx⟩
end Go.Proofs.Ytnhkjgnfjphllaa
