/- Unframe of program and reference; the contract of laws.FnExactUnframe. No condition. -/
import Derived.Test.YtbclkgjjmpipfaaRv
import Derived.Test.YtbclkgjjmpipfaaFrame
namespace Go.Proofs.Ytbclkgjjmpipfaa
open Go.RowKit

/-- The byte behind the sum: the length of what a frame holds. -/
def unfB (s : ByteArray) : Nat := (s.data.toList[4]?.map UInt8.toNat).getD 255
def UnfOk (s : ByteArray) : Prop := unfB s ≤ 120 ∧ 5 + unfB s ≤ s.size ∧ frameOf (s.extract 5 (5 + unfB s)) = s.extract 0 (5 + unfB s)
noncomputable def unfS (s : ByteArray) : ByteArray := if dec (UnfOk s) = true then s.extract 5 (5 + unfB s) else ⟨#[]⟩
noncomputable def unfN (s : ByteArray) : Nat := if dec (UnfOk s) = true then 5 + unfB s else 0
theorem unf_yes {s : ByteArray} (h : UnfOk s) : unfS s = s.extract 5 (5 + unfB s) ∧ unfN s = 5 + unfB s := by
  unfold unfS unfN
  rw [dec_yes h]
  exact ⟨rfl, rfl⟩
theorem unf_no {s : ByteArray} (h : ¬ UnfOk s) : unfS s = ⟨#[]⟩ ∧ unfN s = 0 := by
  unfold unfS unfN
  rw [dec_no h]
  exact ⟨rfl, rfl⟩
theorem ext_list (s : ByteArray) (a b : Nat) : (s.extract a b).data.toList = (s.data.toList.take b).drop a := by
  rw [ByteArray.data_extract]
  simp [List.drop_take]
theorem unfB_at {s : ByteArray} (h : 4 < s.size) : unfB s = s[4].toNat := by
  unfold unfB
  rw [at_byte h]
  rfl
theorem rest_at {s : ByteArray} (h : 4 < s.size) : ∃ l, (s.extract 4 s.size).data.toList = s[4] :: l := by
  rw [ext_list, List.take_of_length_le (by simp)]
  have h' : 4 < s.data.toList.length := by simpa using h
  rw [List.drop_eq_getElem_cons h']
  exact ⟨_, rfl⟩
theorem rv_small {b : UInt8} {l : List UInt8} (h : b.toNat < 128) : rvK (b :: l) = 1 ∧ rvN (b :: l) = b.toNat := by
  have g : Good (b :: l) 1 := by
    refine ⟨by omega, by omega, by simp, ?_⟩
    have e : num [b] = b.toNat := by simp [num]; omega
    show varL (num [b]) = [b]
    rw [e, varL_end (by omega)]
    simp
  refine ⟨rvK_good g, ?_⟩
  rw [rvN_good g]
  show num [b] = _
  simp [num]
  omega
theorem rv_big {b : UInt8} {l : List UInt8} (h : ¬ b.toNat < 128) : rvK (b :: l) = 0 ∨ 127 < rvN (b :: l) := by
  by_cases hg : ∃ k, Good (b :: l) k
  · obtain ⟨k, g⟩ := hg
    right
    have h1 := (g.at_ (j := 0) (b := b) (by have := g.1; omega) rfl)
    rw [rvN_good g]
    have hk : k ≠ 1 := fun e => h (h1.2 (by omega))
    have hl := congrArg List.length g.2.2.2
    rw [List.length_take, Nat.min_eq_left g.2.2.1] at hl
    by_cases hb : num ((b :: l).take k) ≤ 127
    · rw [varL_end hb] at hl
      simp at hl
      omega
    · omega
  · exact .inl (rvK_none fun k hk => hg ⟨k, hk⟩)
theorem varOf_small {n : Nat} (h : n ≤ 120) : varOf (n : Int) = ⟨#[UInt8.ofNat n]⟩ := by
  unfold varOf
  rw [if_pos ⟨by omega, by omega⟩, Int.toNat_natCast, varL_end (by omega)]
theorem ext_one {s : ByteArray} (h : 4 < s.size) : s.extract 4 5 = ⟨#[s[4]]⟩ := by
  apply ByteArray.ext
  apply Array.ext'
  rw [ext_list]
  have e := take_byte s 4 h
  rw [e, List.drop_append_of_le_length (by rw [List.length_take]; simp; omega), List.drop_eq_nil_of_le (by rw [List.length_take]; simp; omega)]
  rfl
theorem one_iff {s : ByteArray} {n : Nat} (h : 4 < s.size) (hn : n ≤ 120) : s.extract 4 5 = varOf (n : Int) ↔ unfB s = n := by
  rw [ext_one h, varOf_small hn, unfB_at h]
  constructor
  · intro e
    have e1 : s[4] = UInt8.ofNat n := by
      have := congrArg ByteArray.data e
      simpa using this
    rw [e1, ofNat_toNat (by omega)]
  · intro e
    rw [← e]
    simp
theorem rv_le (l : List UInt8) : rvN l ≤ 562949953421311 ∧ rvK l ≤ 7 := by
  by_cases hg : ∃ k, Good l k
  · obtain ⟨k, g⟩ := hg
    rw [rvN_good g, rvK_good g]
    exact ⟨num_lt7 g.2.1, g.2.1⟩
  · rw [rvN_none fun k hk => hg ⟨k, hk⟩, rvK_none fun k hk => hg ⟨k, hk⟩]
    omega

set_option maxHeartbeats 4000000 in
theorem impl_Unframe (s : ByteArray) (hs : s.size ≤ 1099511627776) (w : World) :
    Calls Try.prog 13 #[.string s] w fun e w' => e = .returned (.tuple #[.string (unfS s), .int .i64 (unfN s : Nat)]) ∧ Ext w w' := by
  by_cases h5 : (s.size : Int) < 5
  · have HN := Lib.hid (unf_no (s := s) fun h => by have := h.2.1; omega)
    go_enter Try.func13, Try.ntmps13
    go_wp2
    go_ret2
    exact ⟨by rw [HN.out.1, HN.out.2]; rfl, Ext.refl' _⟩
  have h4 : 4 < s.size := by omega
  obtain ⟨l, hl⟩ := rest_at h4
  have HB := Lib.hid (unfB_at h4)
  have hx1 : (4 : Int) ≤ (s.size : Int) := by omega
  have hxs : (s.extract 4 s.size).size ≤ 1099511627776 := by rw [ByteArray.size_extract]; omega
  have HXS := Lib.hid hxs
  by_cases hb : s[4].toNat ≤ 120
  rotate_left
  · have HN := Lib.hid (unf_no (s := s) fun h => by have h1 := h.1; rw [HB.out] at h1; exact hb h1)
    have hcase : rvK (s.extract 4 s.size).data.toList = 0 ∨ 120 < rvN (s.extract 4 s.size).data.toList := by
      rw [hl]
      by_cases h128 : s[4].toNat < 128
      · right; rw [(rv_small h128).2]; omega
      · rcases rv_big (l := l) h128 with h | h
        · exact .inl h
        · right; omega
    have hle := rv_le (s.extract 4 s.size).data.toList
    clear hb hl hxs
    go_enter Try.func13, Try.ntmps13
    go_wp2_with fail
    refine (impl_ReadVar _ HXS.out _).mono ?_
    rintro e w1 ⟨rfl, x1⟩
    generalize rvK (s.extract 4 s.size).data.toList = K at hcase hle
    generalize rvN (s.extract 4 s.size).data.toList = N at hcase hle
    have HC := Lib.hid hcase
    have HLE := Lib.hid hle
    clear hcase hle
    by_cases hK : K = 0
    · subst hK
      go_wp2
      go_ret2
      exact ⟨by rw [HN.out.1, HN.out.2]; rfl, x1⟩
    · have hN : (120 : Int) < (N : Int) := by have := HC.out; omega
      have hK1 : ((K : Int) == 0) = false := by simp; omega
      clear hK
      go_wp2
      go_ret2
      exact ⟨by rw [HN.out.1, HN.out.2]; rfl, x1⟩
  have hK : rvK (s.extract 4 s.size).data.toList = 1 ∧ rvN (s.extract 4 s.size).data.toList = s[4].toNat := by rw [hl]; exact rv_small (by omega)
  clear hl hxs
  have HK := Lib.hid hK
  clear hK
  rw [← HB.out] at hb
  have HB120 := Lib.hid hb
  have hb' : ((unfB s : Nat) : Int) ≤ 120 := by omega
  by_cases hfit : (5 : Int) + (unfB s : Int) ≤ (s.size : Int)
  rotate_left
  · have HN := Lib.hid (unf_no (s := s) fun h => by have h1 := h.2.1; omega)
    clear hb
    have hz := HK.out.1
    go_enter Try.func13, Try.ntmps13
    go_wp2_with fail
    clear hz
    refine (impl_ReadVar _ HXS.out _).mono ?_
    rintro e w1 ⟨rfl, x1⟩
    rw [HK.out.1, HK.out.2, ← HB.out]
    have hfit3 : (s.size : Int) < (5 : Int) + (unfB s : Int) := by omega
    clear hfit
    go_wp2
    go_ret2
    exact ⟨by rw [HN.out.1, HN.out.2]; rfl, x1⟩
  clear hb
  go_enter Try.func13, Try.ntmps13
  go_wp2_with fail
  refine (impl_ReadVar _ HXS.out _).mono ?_
  rintro e w1 ⟨rfl, x1⟩
  rw [HK.out.1, HK.out.2, ← HB.out]
  have X1 := Lib.hid x1
  clear x1
  have hw5 : wrap64 (5 + (unfB s : Int)) = 5 + (unfB s : Int) := IntWalk.wrap64_in _ (by omega)
  have hw6 : IntKind.i64.wrap (5 + (unfB s : Int)) = 5 + (unfB s : Int) := IntWalk.i64_in _ (by omega)
  have ht : ((5 : Int) + (unfB s : Int)).toNat = 5 + unfB s := by omega
  have h51 : wrap64 5 = 5 := IntWalk.wrap64_in _ (by omega)
  have h52 : IntKind.i64.wrap 5 = 5 := IntWalk.i64_in _ (by omega)
  have h53 : IntKind.i64.wrap (4 + 1) = 5 := IntWalk.i64_in _ (by omega)
  have hnn : (0 : Int) ≤ 5 + (unfB s : Int) := by omega
  have hn5 : (5 : Int) ≤ 5 + (unfB s : Int) := by omega
  by_cases hf : frameOf (s.extract 5 (5 + unfB s)) = s.extract 0 (5 + unfB s)
  · have HY := Lib.hid (unf_yes (s := s) ⟨HB120.out, by omega, hf⟩)
    have hq : ((frameOf (s.extract 5 (5 + unfB s))).toList == (s.extract 0 (5 + unfB s)).toList) = true := by rw [hf]; exact str_same _
    clear hf
    go_wp2
    go_region_held3 (fun w' => Ext w1 w') (first | exact (Ext.refl' _).dr | exact Ext.tr ‹Ext w1 _› xv) (first | (go_at_call 11; refine (impl_Frame _ _).mono ?_; rintro e wv ⟨rfl, xv⟩))
    all_goals
      have XE : Hid (Ext w1 _) := ‹Ext w1 _›
      go_wp2
      go_ret2
      exact ⟨by rw [HY.out.1, HY.out.2]; first | rfl | simp, X1.out.tr XE.out⟩
  · have HN := Lib.hid (unf_no (s := s) fun h => hf h.2.2)
    have hq : ((frameOf (s.extract 5 (5 + unfB s))).toList == (s.extract 0 (5 + unfB s)).toList) = false := str_other hf
    clear hf
    go_wp2
    go_region_held3 (fun w' => Ext w1 w') (first | exact (Ext.refl' _).dr | exact Ext.tr ‹Ext w1 _› xv) (first | (go_at_call 11; refine (impl_Frame _ _).mono ?_; rintro e wv ⟨rfl, xv⟩))
    all_goals
      have XE : Hid (Ext w1 _) := ‹Ext w1 _›
      go_wp2
      go_ret2
      exact ⟨by rw [HN.out.1, HN.out.2]; rfl, X1.out.tr XE.out⟩


set_option maxHeartbeats 4000000 in
theorem spec_Unframe (s : ByteArray) (hs : s.size ≤ 1099511627776) (w : World) :
    Calls Try.prog 12 #[.string s] w fun e w' => e = .returned (.tuple #[.string (unfS s), .int .i64 (unfN s : Nat)]) ∧ Ext w w' := by
  go_enter Try.func12, Try.ntmps12
  go_wp2
  go_loopw [4] (fun i wr => ∃ n : Nat, n ≤ 121 ∧ i = .int .i64 n ∧ (unfB s < n → ¬ UnfOk s) ∧ Ext w wr) (fun i _ => 121 - (intOf i).toNat)
  case atStart => exact ⟨0, by omega, rfl, fun h => absurd h (Nat.not_lt_zero _), Ext.refl' _⟩
  case round =>
    obtain ⟨n, hn, rfl, hno, hx⟩ := hrel
    have HNO := Lib.hid hno
    have HX := Lib.hid hx
    clear hno hx
    by_cases h120 : (n : Int) ≤ 120
    rotate_left
    · have HN := Lib.hid (unf_no (s := s) fun h => HNO.out (by have := h.1; omega) h)
      go_wp2
      go_ret2
      exact ⟨by rw [HN.out.1, HN.out.2]; rfl, HX.out⟩
    have HN120 : Hid (n ≤ 120) := by show n ≤ 120; omega
    go_wp2_with fail
    refine (spec_Var _ _).mono ?_
    rintro e w1 ⟨rfl, x1⟩
    have hsz : (varOf (n : Int)).size = 1 := by rw [varOf_small HN120.out]; rfl
    have X1 := Lib.hid (HX.out.tr x1)
    clear x1
    have hw5 : wrap64 (5 + (n : Int)) = 5 + (n : Int) := IntWalk.wrap64_in _ (by omega)
    have hw6 : IntKind.i64.wrap (5 + (n : Int)) = 5 + (n : Int) := IntWalk.i64_in _ (by omega)
    have ht : ((5 : Int) + (n : Int)).toNat = 5 + n := by omega
    have h51 : wrap64 5 = 5 := IntWalk.wrap64_in _ (by omega)
    have h52 : IntKind.i64.wrap 5 = 5 := IntWalk.i64_in _ (by omega)
    have h53 : IntKind.i64.wrap (4 + 1) = 5 := IntWalk.i64_in _ (by omega)
    have hnn : (0 : Int) ≤ 5 + (n : Int) := by omega
    have hn5 : (5 : Int) ≤ 5 + (n : Int) := by omega
    clear hn
    by_cases hfit : (5 : Int) + (n : Int) ≤ (s.size : Int)
    rotate_left
    · have hd : decide ((5 : Int) + (n : Int) ≤ (s.size : Int)) = false := by simpa using hfit
      have HF : Hid (¬ 5 + n ≤ s.size) := by show ¬ 5 + n ≤ s.size; omega
      clear hfit
      go_wp2
      go_quiet (fail)
      go_wp2
      go_roundw
      case rel => exact ⟨n + 1, by have := HN120.out; omega, by go_num, fun h hu => by
        by_cases e : unfB s = n
        · have := hu.2.1; rw [e] at this; exact HF.out this
        · exact HNO.out (by omega) hu, X1.out.drN _⟩
      case measure => simp [intOf]; omega
    have hd : decide ((5 : Int) + (n : Int) ≤ (s.size : Int)) = true := by simpa using hfit
    have h4 : 4 < s.size := by omega
    have hx5 : (5 : Int) ≤ (s.size : Int) := by omega
    have H1 := Lib.hid (one_iff (s := s) h4 HN120.out)
    by_cases hb : s.extract 4 5 = varOf (n : Int)
    rotate_left
    · have hq : ((s.extract 4 5).toList == (varOf (n : Int)).toList) = false := str_other hb
      have HBN : Hid (¬ unfB s = n) := fun e => hb (H1.out.2 e)
      clear hb
      go_wp2
      go_region_held3 (fun w' => Ext w1 w') (first | exact (Ext.refl' _).dr | exact Ext.tr ‹Ext w1 _› xv) (first | (go_at_call 36; refine (spec_Var _ _).mono ?_; rintro e wv ⟨rfl, xv⟩))
      all_goals
        have XE : Hid (Ext w1 _) := ‹Ext w1 _›
        go_wp2
        go_roundw
        case rel => exact ⟨n + 1, by have := HN120.out; omega, by go_num, fun h hu => HNO.out (by have := HBN.out; omega) hu, X1.out.tr XE.out⟩
        case measure => simp [intOf]; omega
    have hq : ((s.extract 4 5).toList == (varOf (n : Int)).toList) = true := by rw [hb]; exact str_same _
    have HBN := Lib.hid (H1.out.1 hb)
    clear hb
    by_cases hf : frameOf (s.extract 5 (5 + n)) = s.extract 0 (5 + n)
    · have HY : Hid (unfS s = s.extract 5 (5 + n) ∧ unfN s = 5 + n) := by
        have h := unf_yes (s := s) ⟨by rw [HBN.out]; exact HN120.out, by rw [HBN.out]; omega, by rw [HBN.out]; exact hf⟩
        rw [HBN.out] at h
        exact h
      have hq2 : ((s.extract 0 (5 + n)).toList == (frameOf (s.extract 5 (5 + n))).toList) = true := by rw [hf]; exact str_same _
      clear hf
      go_wp2
      go_region_held3 (fun w' => Ext w1 w') (first | exact (Ext.refl' _).dr | exact Ext.tr ‹Ext w1 _› xv) (first | (go_at_call 36; refine (spec_Var _ _).mono ?_; rintro e wv ⟨rfl, xv⟩))
      all_goals
        have XE : Hid (Ext w1 _) := ‹Ext w1 _›
        have XX : Hid (Ext w _) := X1.out.tr XE.out
        go_wp2
        go_region_held3 (fun w' => Ext w w') (first | exact XX.out.dr | exact Ext.tr ‹Ext w _› xf) (first | (go_at_call 10; refine (spec_Frame _ _).mono ?_; rintro e wv ⟨rfl, xf⟩))
        all_goals
          have XF : Hid (Ext w _) := ‹Ext w _›
          go_wp2
          go_ret2
          exact ⟨by rw [HY.out.1, HY.out.2]; first | rfl | simp, XF.out⟩
    · have HNU : Hid (¬ UnfOk s) := fun h => hf (by have h2 := h.2.2; rw [HBN.out] at h2; exact h2)
      have hq2 : ((s.extract 0 (5 + n)).toList == (frameOf (s.extract 5 (5 + n))).toList) = false := str_other fun e => hf e.symm
      clear hf
      go_wp2
      go_region_held3 (fun w' => Ext w1 w') (first | exact (Ext.refl' _).dr | exact Ext.tr ‹Ext w1 _› xv) (first | (go_at_call 36; refine (spec_Var _ _).mono ?_; rintro e wv ⟨rfl, xv⟩))
      all_goals
        have XE : Hid (Ext w1 _) := ‹Ext w1 _›
        have XX : Hid (Ext w _) := X1.out.tr XE.out
        go_wp2
        go_region_held3 (fun w' => Ext w w') (first | exact XX.out.dr | exact Ext.tr ‹Ext w _› xf) (first | (go_at_call 10; refine (spec_Frame _ _).mono ?_; rintro e wv ⟨rfl, xf⟩))
        all_goals
          have XF : Hid (Ext w _) := ‹Ext w _›
          go_wp2
          go_roundw
          case rel => exact ⟨n + 1, by have := HN120.out; omega, by go_num, fun _ => HNU.out, XF.out⟩
          case measure => simp [intOf]; omega

set_option maxHeartbeats 1000000 in
theorem law_Unframe (s : ByteArray) (w : World) :
    Calls Try.prog 4 #[.string s] w fun e w' => e = .returned (.bool true) ∧ Ext w w' := by
  by_cases h : (s.size : Int) ≤ 1048576
  rotate_left
  · go_enter Try.func4, Try.ntmps4
    go_wp2
    go_ret
    exact ⟨rfl, Ext.refl' _⟩
  have hs : s.size ≤ 1099511627776 := by omega
  have HS := Lib.hid hs
  clear hs
  go_enter Try.func4, Try.ntmps4
  go_wp2_with fail
  refine (spec_Unframe s HS.out _).mono ?_
  rintro e w1 ⟨rfl, x1⟩
  go_wp2_with fail
  refine (impl_Unframe s HS.out _).mono ?_
  rintro e w2 ⟨rfl, x2⟩
  replace x2 := x1.tr x2
  clear x1
  go_wp2
  go_ret
  exact ⟨rfl, x2⟩


end Go.Proofs.Ytbclkgjjmpipfaa
