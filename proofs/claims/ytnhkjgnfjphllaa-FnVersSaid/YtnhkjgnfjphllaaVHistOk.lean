/- HistOk of the reference. No condition but the lengths. -/
import Derived.Test.YtnhkjgnfjphllaaVHist
import Derived.Test.YtnhkjgnfjphllaaVRows
import Derived.Test.YtnhkjgnfjphllaaIn
namespace Go.Proofs.Ytnhkjgnfjphllaa
open Go.RowKit Go.Deep
set_option linter.unusedSimpArgs false
set_option linter.unusedVariables false

/-- An entry of a history: in range, its stamp not there before. -/
def hOne (l : List Wrote) (i : Nat) (x : Wrote) : Prop := (1 ≤ x.stamp_ ∧ x.stamp_ ≤ 1000000) ∧ (1 ≤ x.who_ ∧ x.who_ ≤ 99) ∧ rowsOk x.puts_ = true ∧ ∀ (k : Nat) (y : Wrote), k < i → l[k]? = some y → y.stamp_ ≠ x.stamp_
noncomputable def histOk (l : List Wrote) : Bool := dec (l.length ≤ 200 ∧ AllTo (hOne l) l l.length)
/-- An element of a slice with depth: its cells. -/
theorem hist_at {w : World} {S : Nat → Prop} {b o n k : Nat} {l : List Wrote} (h : SlR Wrote.R 3 w S (some ⟨b, o, none⟩) n l) (hk : k < n) : ∃ (x : Wrote) (A0 : Option Addr) (n0 c0 : Nat), l[k]? = some x ∧ b < w.heap.size ∧ w.cell? ⟨b, o + k * 3, none⟩ = some (.int .i64 x.stamp_) ∧ w.cell? ⟨b, o + k * 3 + 1, none⟩ = some (.int .i64 x.who_) ∧ w.cell? ⟨b, o + k * 3 + 2, none⟩ = some (.slice A0 n0 c0) ∧ n0 ≤ c0 ∧ Sl w S 2 A0 n0 (x.puts_.flatMap Row.cells) ∧ x.puts_.length = n0 := by
  obtain ⟨x, row, hx, hb, ⟨A0, n0, c0, rfl, h1, h2, h3⟩, hc⟩ := h.at_ hk
  exact ⟨x, A0, n0, c0, hx, hb, hc 0 (by omega), hc 1 (by omega), hc 2 (by omega), h1, h3, h3.flen Row.cells_length (by omega)⟩
set_option maxHeartbeats 8000000 in
theorem spec_HistOk (A : Option Addr) (n c : Nat) (l : List Wrote) (w : World) (S : Nat → Prop) (hs : SlR Wrote.R 3 w S A n l) (hm : n ≤ 1048576) (hp : ∀ x ∈ l, x.puts_.length ≤ 1048576) :
    Calls Try.prog 40 #[.slice A n c] w fun e w' => e = .returned (.bool (histOk l)) ∧ Ext w w' := by
  have H : Hid (l.length = n) := hs.1
  by_cases h200 : n ≤ 200
  rotate_left
  · go_enter Try.func40, Try.ntmps40
    go_wp2
    go_ret
    exact ⟨by rw [histOk, dec_no fun h => h200 (by rw [← H.out]; exact h.1)]; rfl, Ext.refl' _⟩
  have HS := Lib.hid hs
  have HP := Lib.hid hp
  clear hs hp
  go_enter Try.func40, Try.ntmps40
  go_wp2
  go_loopw [3] (fun i wr => ∃ k : Nat, k ≤ n ∧ i = .int .i64 k ∧ Hid (AllTo (hOne l) l k) ∧ Hid (Ext w wr)) (fun i _ => n - (intOf i).toNat)
  case atStart => exact ⟨0, Nat.zero_le _, rfl, AllTo.zero _ _, Ext.refl' _⟩
  case round =>
    obtain ⟨k, hk, rfl, HU, HE⟩ := hrel
    by_cases hlt : k < n
    rotate_left
    · go_wp2
      go_ret
      have e : k = l.length := by rw [H.out]; omega
      exact ⟨by rw [histOk, dec_yes ⟨by rw [H.out]; exact h200, by rw [← e]; exact HU.out⟩]; rfl, HE.out⟩
    obtain ⟨b, o, rfl⟩ := HS.out.addr (by omega)
    obtain ⟨x, A0, n0, c0, hx, hb, q0, q1, q2, hnc, hsl, hl0⟩ := hist_at (HS.out.ext Wrote.R_good HE.out) hlt
    have HX := Lib.hid hx
    have HSL := Lib.hid hsl
    have HN0 : Hid (n0 ≤ 1048576) := by show _ ≤ _; rw [← hl0]; exact HP.out x (List.mem_of_getElem? hx)
    obtain ⟨x0, x1, x2⟩ := x
    have HK : Hid (k < n) := hlt
    simp only at q0 q1 HSL
    clear hx hsl hl0 hnc
    have NO : ∀ {p : Prop}, (hOne l k ⟨x0, x1, x2⟩ → p) → ¬ p → histOk l = false := fun f g => by
      rw [histOk, dec_no fun h => AllTo.not HX.out (by rw [H.out]; exact HK.out) (fun q => g (f q)) h.2]
    by_cases h0 : 1 ≤ x0 ∧ x0 ≤ 1000000
    rotate_left
    · have d0 : decide (1 ≤ x0 ∧ x0 ≤ 1000000) = false := by simpa using h0
      have HN := Lib.hid (NO (fun q => q.1) h0)
      clear h0 NO
      go_wp2_with ((go_at_call 54; refine (l1In_any _ _ _ _).mono ?_; rintro e w' ⟨rfl, rfl⟩); rw [d0])
      go_ret
      exact ⟨by rw [HN.out]; rfl, HE.out⟩
    have d0 : decide (1 ≤ x0 ∧ x0 ≤ 1000000) = true := by simpa using h0
    have H0 := Lib.hid h0
    clear h0
    by_cases h1 : 1 ≤ x1 ∧ x1 ≤ 99
    rotate_left
    · have d1 : decide (1 ≤ x1 ∧ x1 ≤ 99) = false := by simpa using h1
      have HN := Lib.hid (NO (fun q => q.2.1) h1)
      clear h1 NO
      go_wp2_with ((go_at_call 54; refine (l1In_any _ _ _ _).mono ?_; rintro e w' ⟨rfl, rfl⟩); first | rw [d0] | rw [d1])
      go_ret
      exact ⟨by rw [HN.out]; rfl, HE.out⟩
    have d1 : decide (1 ≤ x1 ∧ x1 ≤ 99) = true := by simpa using h1
    have H1 := Lib.hid h1
    clear h1
    cases h2 : rowsOk x2
    · have HN := Lib.hid (NO (fun q => q.2.2.1) (by simp only; rw [h2]; simp))
      clear NO
      go_wp2_with (first | ((go_at_call 54; refine (l1In_any _ _ _ _).mono ?_; rintro e w' ⟨rfl, rfl⟩); first | rw [d0] | rw [d1]) | (go_at_call 66; refine (spec_RowsOk _ _ _ x2 _ _ HSL.out HN0.out).mono ?_; rintro e w' ⟨rfl, x9⟩; rw [h2]; replace HE := Lib.hid (HE.out.tr x9); clear x9))
      go_ret
      exact ⟨by rw [HN.out]; rfl, HE.out⟩
    have H2 := Lib.hid h2
    go_wp2_with (first | ((go_at_call 54; refine (l1In_any _ _ _ _).mono ?_; rintro e w' ⟨rfl, rfl⟩); first | rw [d0] | rw [d1]) | (go_at_call 66; refine (spec_RowsOk _ _ _ x2 _ _ HSL.out HN0.out).mono ?_; rintro e w' ⟨rfl, x9⟩; rw [h2]; replace HE := Lib.hid (HE.out.tr x9); clear x9))
    clear h2 d0 d1 q0 q1 q2 hb
    go_loopw [4] (fun i wr => ∃ j : Nat, j ≤ k ∧ i = .int .i64 j ∧ Hid (∀ (q : Nat) (y : Wrote), q < j → l[q]? = some y → y.stamp_ ≠ x0) ∧ Hid (Ext w wr)) (fun i _ => k - (intOf i).toNat)
    case atStart => exact ⟨0, Nat.zero_le _, rfl, fun _ _ h => absurd h (Nat.not_lt_zero _), HE⟩
    case round =>
      clear HE
      obtain ⟨j, hj, rfl, HD, HE⟩ := hrel
      by_cases hjk : j < k
      rotate_left
      · obtain rfl : k = j := by omega
        go_wp2
        go_roundw
        case rel => exact ⟨k + 1, HK.out, by go_num, Lib.hid (HU.out.succ HX.out ⟨H0.out, H1.out, H2.out, HD.out⟩), HE⟩
        case measure => have := HK.out; simp [intOf]; omega
      have HJ : Hid (j < k) := hjk
      obtain ⟨y, A1, n1, c1, hy, hb, p0, _, _, _, _, _⟩ := hist_at (HS.out.ext Wrote.R_good HE.out) (show j < n by omega)
      obtain ⟨x', _, _, _, hx', _, r0, _, _, _, _, _⟩ := hist_at (HS.out.ext Wrote.R_good HE.out) hlt
      rw [HX.out] at hx'
      injection hx' with hx'
      subst hx'
      simp only at r0
      have HY := Lib.hid hy
      clear hy
      by_cases hs0 : y.stamp_ = x0
      · have HN := Lib.hid (NO (fun q => q.2.2.2 j y HJ.out HY.out) (fun h => h hs0))
        have bs : (y.stamp_ == x0) = true := by simpa using hs0
        clear hs0 NO
        go_wp2
        go_quiet (fail)
        go_wp2
        go_ret
        exact ⟨by rw [HN.out]; rfl, HE.out.drN nq⟩
      have bs : (y.stamp_ == x0) = false := by simpa using hs0
      have HS0 := Lib.hid hs0
      clear hs0
      go_wp2
      go_quiet (fail)
      go_wp2
      go_roundw
      case rel =>
        refine ⟨j + 1, HJ.out, by go_num, Lib.hid fun q z hq hz => ?_, Lib.hid (HE.out.drN nq)⟩
        by_cases e : q = j
        · subst e; rw [HY.out] at hz; injection hz with hz; subst hz; exact HS0.out
        · exact HD.out q z (by omega) hz
      case measure => have := HJ.out; simp [intOf]; omega
end Go.Proofs.Ytnhkjgnfjphllaa
