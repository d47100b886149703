/- ReadVar of program and reference. No condition but the length. -/
import Derived.Test.YtbclkgjjmpipfaaRvT
import Derived.Test.YtbclkgjjmpipfaaVar
import Derived.Deep.RegionHeld3
namespace Go.Proofs.Ytbclkgjjmpipfaa
open Go.RowKit

theorem ext_take (s : ByteArray) (n : Nat) : s.extract 0 n = ⟨(s.data.toList.take n).toArray⟩ := by
  apply ByteArray.ext
  rw [ByteArray.data_extract]
  apply Array.ext'
  simp
theorem toList_inj {a b : ByteArray} (h : a.toList = b.toList) : a = b := by
  rw [ByteArray.toList_eq, ByteArray.toList_eq] at h
  exact ByteArray.ext (Array.ext' h)
theorem str_same (a : ByteArray) : (a.toList == a.toList) = true := by simp
theorem str_other {a b : ByteArray} (h : ¬ a = b) : (a.toList == b.toList) = false := by
  simpa using fun e => h (toList_inj e)
theorem bytes_ext {a b : List UInt8} (h : (⟨a.toArray⟩ : ByteArray) = ⟨b.toArray⟩) : a = b := by
  have h1 := congrArg ByteArray.data h
  exact by simpa using h1
theorem good_iff {s : ByteArray} {k : Nat} (hk : k < 7) (hs : k < s.size) : Good s.data.toList (k + 1) ↔ varOf ((num (s.data.toList.take (k + 1)) : Nat) : Int) = s.extract 0 (k + 1) := by
  rw [varOf_num (by omega), ext_take]
  constructor
  · intro h; rw [h.2.2.2]
  · intro h; exact ⟨by omega, by omega, by simp; omega, bytes_ext h⟩
theorem good_at {s : ByteArray} {k : Nat} (hs : k ≤ s.size) (h1 : 1 ≤ k) (hk : k ≤ 7) : Good s.data.toList k ↔ varOf ((num (s.data.toList.take k) : Nat) : Int) = s.extract 0 k := by
  obtain ⟨j, rfl⟩ : ∃ j, k = j + 1 := ⟨k - 1, by omega⟩
  exact good_iff (by omega) (by omega)
theorem at_byte {s : ByteArray} {k : Nat} (h : k < s.size) : s.data.toList[k]? = some s[k] := by
  have h' : k < s.data.toList.length := by simpa using h
  rw [List.getElem?_eq_getElem h']
  rfl
theorem take_byte (s : ByteArray) (k : Nat) (h : k < s.size) : s.data.toList.take (k + 1) = s.data.toList.take k ++ [s[k]] := by
  rw [List.take_succ_eq_append_getElem (by simpa using h)]; rfl
theorem num_step (s : ByteArray) (k : Nat) (h : k < s.size) : num (s.data.toList.take (k + 1)) = num (s.data.toList.take k) + s[k].toNat % 128 * 128 ^ k := by
  rw [take_byte s k h, num_snoc, List.length_take, Nat.min_eq_left (by simp; omega)]
theorem u8_and127 (x : Nat) (h : x < 256) : bits .and .u8 (x : Int) 127 = ((x % 128 : Nat) : Int) := by
  have h1 := bits_mask .u8 8 (by decide) (fun n a b => by rw [IntKind.wrap_u8]; omega) 7 (by omega) (x : Int) (by omega) (by omega)
  simpa using h1
theorem or_add {N r k : Nat} (hN : N < 128 ^ k) (hk : k < 7) (hr : r < 128) : bits .or .i64 (N : Int) ((r * 128 ^ k : Nat) : Int) = ((N + r * 128 ^ k : Nat) : Int) := by
  have e : 128 ^ k = 2 ^ (7 * k) := by rw [Nat.pow_mul]
  have h7 : 128 ^ k ≤ 128 ^ 6 := Nat.pow_le_pow_right (by omega) (by omega)
  have h6 : 128 ^ 6 = 4398046511104 := by decide
  have hp : r * 128 ^ k ≤ 127 * 128 ^ k := Nat.mul_le_mul_right _ (by omega)
  rw [i64_or_nat _ _ (by omega) (by omega), Nat.or_comm]
  have h := Nat.two_pow_add_eq_or_of_lt (b := N) (i := 7 * k) (by rw [← e]; exact hN) r
  rw [← e, Nat.mul_comm (128 ^ k)] at h
  rw [← h, Nat.add_comm]
theorem shl7 {r k : Nat} (hk : k < 7) (hr : r < 128) : IntKind.i64.wrap ((r : Int) * 2 ^ (7 * (k : Int)).toNat) = ((r * 128 ^ k : Nat) : Int) := by
  have e : (7 * (k : Int)).toNat = 7 * k := by omega
  have h7 : 128 ^ k ≤ 128 ^ 6 := Nat.pow_le_pow_right (by omega) (by omega)
  have h6 : 128 ^ 6 = 4398046511104 := by decide
  have hp : r * 128 ^ k ≤ 127 * 128 ^ k := Nat.mul_le_mul_right _ (by omega)
  have e2 : (r : Int) * 2 ^ (7 * k) = ((r * 128 ^ k : Nat) : Int) := by
    rw [show (128 : Nat) ^ k = 2 ^ (7 * k) by rw [Nat.pow_mul]]
    push_cast
    rfl
  rw [e, e2]
  exact IntWalk.i64_in _ (by omega)
theorem shl7' {r k : Nat} (hk : k < 7) (hr : r < 128) : wrap64 ((r : Int) * 2 ^ (7 * k)) = ((r * 128 ^ k : Nat) : Int) := by
  have h := shl7 hk hr
  rw [show (7 * (k : Int)).toNat = 7 * k by omega, IntWalk.i64_left] at h
  exact h

set_option maxHeartbeats 2000000 in
theorem impl_ReadVar (s : ByteArray) (_hs : s.size ≤ 1099511627776) (w : World) :
    Calls Try.prog 42 #[.string s] w fun e w' => e = .returned (.tuple #[.int .i64 (rvN s.data.toList : Nat), .int .i64 (rvK s.data.toList : Nat)]) ∧ Ext w w' := by
  go_enter Try.func42, Try.ntmps42
  go_wp2
  go_loop [4, 5] (fun n i => ∃ k : Nat, k ≤ 7 ∧ k ≤ s.size ∧ i = .int .i64 k ∧ n = .int .i64 (num (s.data.toList.take k) : Nat) ∧ Marked s.data.toList k) (fun _ i => 7 - (intOf i).toNat)
  case atStart => exact ⟨0, by omega, Nat.zero_le _, rfl, rfl, fun j b hj => absurd hj (Nat.not_lt_zero _)⟩
  case round =>
    obtain ⟨k, hk7, hk, rfl, rfl, hm⟩ := hrel
    have HM := Lib.hid hm
    clear hm
    by_cases hlt : k < s.size
    rotate_left
    · have HN := Lib.hid (marked_end HM.out (.inr (by simp; omega)))
      have hd : decide (k < s.size) = false := by simp; omega
      go_wp2
      go_ret2
      exact ⟨by rw [rvN_none HN.out, rvK_none HN.out]; rfl, Ext.refl' _⟩
    by_cases h7 : k < 7
    rotate_left
    · have HN := Lib.hid (marked_end HM.out (.inl (by omega)))
      have hi7 : ¬ (k : Int) < 7 := by omega
      go_wp2
      go_ret2
      exact ⟨by rw [rvN_none HN.out, rvK_none HN.out]; rfl, Ext.refl' _⟩
    have hi7 : (k : Int) < 7 := by omega
    have HS := Lib.hid (num_step s k hlt)
    have HB := Lib.hid (at_byte hlt)
    have HG := Lib.hid (good_iff h7 hlt)
    have hb := s[k].toNat_lt
    have hA := u8_and127 s[k].toNat hb
    obtain ⟨r, hr⟩ : ∃ r, r = s[k].toNat % 128 := ⟨_, rfl⟩
    have hr8 : r < 128 := by omega
    rw [← hr] at hA HS
    have hO := or_add (N := num (s.data.toList.take k)) (r := r) (k := k) (by have h := num_lt (s.data.toList.take k); rwa [List.length_take, Nat.min_eq_left (by simp; omega)] at h) h7 hr8
    have hS := shl7' h7 hr8
    have hwr : wrap64 (r : Int) = (r : Int) := IntWalk.wrap64_in _ (by omega)
    have hN7 := Lib.hid (num_lt7 (l := s.data.toList) (k := k + 1) (by omega))
    rw [← HS.out] at hO
    generalize r * 128 ^ k = P at hO hS HS
    have HR := Lib.hid hr
    have HR8 := Lib.hid hr8
    have HI := Lib.hid hb
    clear hr hr8 hb
    generalize num (s.data.toList.take k) = N at hO HS
    generalize hM : num (s.data.toList.take (k + 1)) = M at hO HS HG hN7
    by_cases hlo : (s[k].toNat : Int) < 128
    · have HLO : Hid (s[k].toNat < 128) := by have h := hlo; show s[k].toNat < 128; omega
      have hx1 : (0 : Int) ≤ (k : Int) + 1 := by omega
      have hx3 : IntKind.i64.wrap ((k : Int) + 1) = (k : Int) + 1 := IntWalk.i64_in _ (by omega)
      have hx4 : ((k : Int) + 1).toNat = k + 1 := by omega
      have hx2 : (k : Int) + 1 ≤ (s.size : Int) := by omega
      by_cases hg : varOf (M : Int) = s.extract 0 (k + 1)
      · have HGO := Lib.hid (HG.out.2 hg)
        have hq : ((varOf (M : Int)).toList == (s.extract 0 (k + 1)).toList) = true := by rw [hg]; exact str_same _
        clear hg
        go_wp2
        go_region_held3 (fun w' => Ext w w') (first | exact (Ext.refl' _).dr | exact Ext.tr ‹Ext w _› xv) (first | (go_at_call 39; refine (impl_Var _ _).mono ?_; rintro e wv ⟨rfl, xv⟩))
        go_wp2
        go_ret2
        exact ⟨by rw [rvN_good HGO.out, rvK_good HGO.out, hM]; rfl, ‹Ext w _›⟩
      · have HGO := Lib.hid (marked_stop HM.out HB.out HLO.out (fun h => hg (HG.out.1 h)))
        have hq : ((varOf (M : Int)).toList == (s.extract 0 (k + 1)).toList) = false := str_other hg
        clear hg
        go_wp2
        go_region_held3 (fun w' => Ext w w') (first | exact (Ext.refl' _).dr | exact Ext.tr ‹Ext w _› xv) (first | (go_at_call 39; refine (impl_Var _ _).mono ?_; rintro e wv ⟨rfl, xv⟩))
        go_wp2
        go_ret2
        exact ⟨by rw [rvN_none HGO.out, rvK_none HGO.out]; rfl, ‹Ext w _›⟩
    · have HLO := Lib.hid hlo
      go_wp2
      go_round
      case rel => exact ⟨k + 1, by omega, by omega, by go_num, by rw [hM], HM.out.succ HB.out (by have := HLO.out; omega)⟩
      case measure => simp [intOf]; omega

theorem num_drop {l : List UInt8} {j : Nat} {b : UInt8} (h : l[j]? = some b) : num (l.drop j) = num (l.drop (j + 1)) * 128 + b.toNat % 128 := by
  obtain ⟨h1, h2⟩ := List.getElem?_eq_some_iff.1 h
  rw [List.drop_eq_getElem_cons h1, h2]
  simp only [num]
  omega
theorem num_drop_le {l : List UInt8} {k : Nat} (h : k ≤ 7) (j : Nat) : num ((l.take k).drop j) ≤ 562949953421311 := by
  have h1 := num_lt ((l.take k).drop j)
  have h2 : ((l.take k).drop j).length ≤ 7 := by rw [List.length_drop, List.length_take]; omega
  have h3 : 128 ^ ((l.take k).drop j).length ≤ 128 ^ 7 := Nat.pow_le_pow_right (by omega) h2
  have h4 : 128 ^ 7 = 562949953421312 := by decide
  omega
set_option maxHeartbeats 4000000 in
theorem spec_ReadVar (s : ByteArray) (hs : s.size ≤ 1099511627776) (w : World) :
    Calls Try.prog 64 #[.string s] w fun e w' => e = .returned (.tuple #[.int .i64 (rvN s.data.toList : Nat), .int .i64 (rvK s.data.toList : Nat)]) ∧ Ext w w' := by
  go_enter Try.func64, Try.ntmps64
  go_wp2
  go_loopw [4] (fun i wr => ∃ k : Nat, 1 ≤ k ∧ k ≤ 8 ∧ i = .int .i64 k ∧ (∀ j, j < k → ¬ Good s.data.toList j) ∧ Ext w wr) (fun i _ => 8 - (intOf i).toNat)
  case atStart => exact ⟨1, by omega, by omega, rfl, fun j hj h => by have := h.1; omega, Ext.refl' _⟩
  case round =>
    obtain ⟨k, hk1, hk8, rfl, hno, hx⟩ := hrel
    have HNO := Lib.hid hno
    have HX := Lib.hid hx
    clear hno hx
    by_cases h7 : (k : Int) ≤ 7
    rotate_left
    · have HN : Hid (∀ j, ¬ Good s.data.toList j) := fun j h => by have h1 := h.2.1; exact HNO.out j (by omega) h
      go_wp2
      go_ret2
      exact ⟨by rw [rvN_none HN.out, rvK_none HN.out]; rfl, HX.out⟩
    by_cases hl : (k : Int) ≤ (s.size : Int)
    rotate_left
    · have HN : Hid (∀ j, ¬ Good s.data.toList j) := fun j h => by have h1 := h.2.2.1; simp at h1; exact HNO.out j (by omega) h
      go_wp2
      go_ret2
      exact ⟨by rw [rvN_none HN.out, rvK_none HN.out]; rfl, HX.out⟩
    have hk7 : k ≤ 7 := by omega
    have HL : Hid (k ≤ s.size) := by show k ≤ s.size; omega
    have HK7 := Lib.hid hk7
    clear hk8
    go_wp2
    go_loop [5, 6] (fun n i => ∃ j : Nat, j ≤ k ∧ i = .int .i64 ((j : Int) - 1) ∧ n = .int .i64 (num ((s.data.toList.take k).drop j) : Nat)) (fun _ i => (intOf i + 1).toNat)
    case atStart => exact ⟨k, Nat.le_refl _, rfl, by rw [List.drop_eq_nil_of_le (by rw [List.length_take]; omega)]; rfl⟩
    case round =>
      obtain ⟨j, hjk, rfl, rfl⟩ := hrel
      rcases j with _ | j
      · have hg0 := good_at HL.out hk1 HK7.out
        rw [List.drop_zero]
        have hN7 := Lib.hid (num_lt7 (l := s.data.toList) HK7.out)
        have HNE : Hid (rvN s.data.toList = rvN s.data.toList) := rfl
        generalize hM : num (s.data.toList.take k) = M at hg0 hN7
        have HM := Lib.hid hM
        have HG := Lib.hid hg0
        clear hM hg0
        have hx1 : (0 : Int) ≤ (k : Int) := by omega
        by_cases hg : varOf (M : Int) = s.extract 0 k
        · have HGO := Lib.hid (HG.out.2 hg)
          have hq : ((varOf (M : Int)).toList == (s.extract 0 k).toList) = true := by rw [hg]; exact str_same _
          clear hg
          go_wp2
          go_region_held3 (fun w' => Ext wr w') (first | exact (Ext.refl' _).dr | exact Ext.tr ‹Ext wr _› xv) (first | (go_at_call 36; refine (spec_Var _ _).mono ?_; rintro e wv ⟨rfl, xv⟩))
          all_goals
            go_wp2
            go_ret2
            exact ⟨by rw [rvN_good HGO.out, rvK_good HGO.out, HM.out]; rfl, HX.out.tr ‹Ext wr _›⟩
        · have HGO : Hid (¬ Good s.data.toList k) := fun h => hg (HG.out.1 h)
          have hq : ((varOf (M : Int)).toList == (s.extract 0 k).toList) = false := str_other hg
          clear hg
          go_wp2
          go_region_held3 (fun w' => Ext wr w') (first | exact (Ext.refl' _).dr | exact Ext.tr ‹Ext wr _› xv) (first | (go_at_call 36; refine (spec_Var _ _).mono ?_; rintro e wv ⟨rfl, xv⟩))
          all_goals
            have XE : Hid (Ext wr _) := ‹Ext wr _›
            go_wp2
            go_roundw
            case rel => exact ⟨k + 1, by omega, by have := HK7.out; omega, by go_num, fun j hj h => by
              by_cases e : j = k
              · subst e; exact HGO.out h
              · exact HNO.out j (by omega) h, HX.out.tr XE.out⟩
            case measure => have := HK7.out; simp [intOf]; omega
      · have hjs : j < s.size := by have := HL.out; omega
        have HB := Lib.hid (at_byte hjs)
        have HD : Hid (num ((s.data.toList.take k).drop j) = num ((s.data.toList.take k).drop (j + 1)) * 128 + s[j].toNat % 128) := num_drop (by rw [List.getElem?_take, if_pos (by omega)]; exact HB.out)
        have hb7 := num_drop_le (l := s.data.toList) HK7.out (j)
        rw [HD.out] at hb7
        generalize num ((s.data.toList.take k).drop (j + 1)) = N at HD hb7
        obtain ⟨r, hr⟩ : ∃ r, r = s[j].toNat % 128 := ⟨_, rfl⟩
        rw [← hr] at HD hb7
        have hbb := s[j].toNat_lt
        have hT : Int.tmod (s[j].toNat : Int) 128 = (r : Int) := by rw [Int.tmod_eq_emod_of_nonneg (by omega)]; omega
        have hwb : wrap64 (s[j].toNat : Int) = (s[j].toNat : Int) := IntWalk.wrap64_in _ (by omega)
        have hj1 : ((j + 1 : Nat) : Int) - 1 = (j : Int) := by omega
        rw [hj1]
        have hw1 : wrap64 ((N : Int) * 128) = (N : Int) * 128 := IntWalk.wrap64_in _ (by omega)
        have hw2 : wrap64 ((N : Int) * 128 + (r : Int)) = (N : Int) * 128 + (r : Int) := IntWalk.wrap64_in _ (by omega)
        have hji : (j : Int) < (s.size : Int) := by omega
        have hj0 : (0 : Int) ≤ (j : Int) := by omega
        have HR := Lib.hid hr
        have HB7 := Lib.hid hb7
        clear hr hb7 hj1 hbb
        go_wp2
        go_round
        case rel => exact ⟨j, by omega, rfl, by rw [HD.out]; simp [hw2]⟩
        case measure => simp [intOf]; try omega
end Go.Proofs.Ytbclkgjjmpipfaa
