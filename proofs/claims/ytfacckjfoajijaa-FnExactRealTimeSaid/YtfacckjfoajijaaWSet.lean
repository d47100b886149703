/- Settled and StampOf of program and reference. No condition. -/
import Derived.Test.YtfacckjfoajijaaWRoot
namespace Go.Proofs.Ytfacckjfoajijaa
open Go.RowKit Go.Deep

def settledP (x : Root) : Prop := x.phase_ = 8 ∨ ((x.phase_ = 6 ∨ x.phase_ = 7) ∧ x.fate_ ≠ 0) ∨ (x.phase_ = 5 ∧ (x.commit_.phase_ = 4 ∨ x.commit_.phase_ = 5))
noncomputable def settledOf (x : Root) : Bool := dec (settledP x)
noncomputable def stampOf (x : Root) : Int := if settledOf x = false then 0 else if x.phase_ = 5 then x.commit_.wv_ else x.stamp_

set_option maxRecDepth 8000 in
set_option maxHeartbeats 8000000 in
theorem impl_Settled (x : Root) (cs : List Value) (w : World) (S : Nat → Prop) (h : Root.R w S cs x) :
    Calls Try.prog 11 #[.agg cs.toArray] w fun e w' => e = .returned (.bool (settledOf x)) ∧ Ext w w' := by
  obtain ⟨A0, n0, c0, A1, n1, c1, A2, n2, c2, A3, n3, c3, A4, n4, c4, A5, n5, c5, A6, n6, c6, A7, n7, c7, A8, n8, c8, A9, n9, c9, A10, n10, c10, A11, n11, c11, A12, n12, c12, A13, n13, c13, rfl⟩ := Root.R_cells h
  clear h
  show Calls Try.prog _ #[.agg (List.toArray ((.int .i64 x.phase_) :: (.int .i64 x.tries_) :: (.int .i64 x.spare_) :: (.int .i64 x.pc_) :: (.int .i64 x.rv_) :: (.int .i64 x.newRv_) :: (.int .i64 x.at_) :: (.int .i64 x.fate_) :: (.int .i64 x.stamp_) :: (.int .i64 x.began_) :: (.int .i64 x.ended_) :: (.bool x.doomed_) :: (.slice A0 n0 c0) :: (.slice A1 n1 c1) :: (.slice A2 n2 c2) :: (.slice A3 n3 c3) :: (.slice A4 n4 c4) :: (.slice A5 n5 c5) :: (.bool x.busy_) :: (.int .i64 x.probe_.cell_) :: (.int .i64 x.probe_.phase_) :: (.int .i64 x.probe_.ver_) :: (.int .i64 x.probe_.val_) :: (.int .i64 x.commit_.who_) :: (.int .i64 x.commit_.rv_) :: (.int .i64 x.commit_.phase_) :: (.int .i64 x.commit_.at_) :: (.int .i64 x.commit_.wv_) :: (.slice A6 n6 c6) :: (.slice A7 n7 c7) :: (.int .i64 x.fam_.rv_) :: (.int .i64 x.fam_.clock_) :: (.int .i64 x.fam_.owner_) :: (.bool x.fam_.lost_) :: (.slice A8 n8 c8) :: (.slice A9 n9 c9) :: (.slice A10 n10 c10) :: (.slice A11 n11 c11) :: (.slice A12 n12 c12) :: (.slice A13 n13 c13) :: []))] w _
  have HX := Lib.hid ((Ext.refl' w).al (.cells (List.toArray ((.int .i64 x.phase_) :: (.int .i64 x.tries_) :: (.int .i64 x.spare_) :: (.int .i64 x.pc_) :: (.int .i64 x.rv_) :: (.int .i64 x.newRv_) :: (.int .i64 x.at_) :: (.int .i64 x.fate_) :: (.int .i64 x.stamp_) :: (.int .i64 x.began_) :: (.int .i64 x.ended_) :: (.bool x.doomed_) :: (.slice A0 n0 c0) :: (.slice A1 n1 c1) :: (.slice A2 n2 c2) :: (.slice A3 n3 c3) :: (.slice A4 n4 c4) :: (.slice A5 n5 c5) :: (.bool x.busy_) :: (.int .i64 x.probe_.cell_) :: (.int .i64 x.probe_.phase_) :: (.int .i64 x.probe_.ver_) :: (.int .i64 x.probe_.val_) :: (.int .i64 x.commit_.who_) :: (.int .i64 x.commit_.rv_) :: (.int .i64 x.commit_.phase_) :: (.int .i64 x.commit_.at_) :: (.int .i64 x.commit_.wv_) :: (.slice A6 n6 c6) :: (.slice A7 n7 c7) :: (.int .i64 x.fam_.rv_) :: (.int .i64 x.fam_.clock_) :: (.int .i64 x.fam_.owner_) :: (.bool x.fam_.lost_) :: (.slice A8 n8 c8) :: (.slice A9 n9 c9) :: (.slice A10 n10 c10) :: (.slice A11 n11 c11) :: (.slice A12 n12 c12) :: (.slice A13 n13 c13) :: [])) 49))
  by_cases hp : x.phase_ = 8
  · skip
    have b8 : (x.phase_ == 8) = true := by simp [hp]
    have b6 : (x.phase_ == 6) = false := by simp [hp]
    have b7 : (x.phase_ == 7) = false := by simp [hp]
    have b5 : (x.phase_ == 5) = false := by simp [hp]
    have HY := Lib.hid (dec_yes (p := settledP x) (.inl hp))
    clear hp
    go_enter Try.func11, Try.ntmps11
    go_wp2
    go_ret
    exact ⟨by unfold settledOf; rw [HY.out]; try rfl, HX.out⟩
  have np8 := hp
  clear hp
  by_cases hp : x.phase_ = 6
  · skip
    have b8 : (x.phase_ == 8) = false := by simp [hp]
    have b6 : (x.phase_ == 6) = true := by simp [hp]
    have b7 : (x.phase_ == 7) = false := by simp [hp]
    have b5 : (x.phase_ == 5) = false := by simp [hp]
    by_cases hf : x.fate_ = 0
    · have bf : (x.fate_ != 0) = false := by simp [hf]
      have HY := Lib.hid (dec_no (p := settledP x) (fun z => by unfold settledP at z; omega))
      clear hp hf np8
      go_enter Try.func11, Try.ntmps11
      go_wp2
      go_ret
      exact ⟨by unfold settledOf; rw [HY.out]; try rfl, HX.out⟩
    · have bf : (x.fate_ != 0) = true := by simp [hf]
      have HY := Lib.hid (dec_yes (p := settledP x) (by unfold settledP; omega))
      clear hp hf np8
      go_enter Try.func11, Try.ntmps11
      go_wp2
      go_ret
      exact ⟨by unfold settledOf; rw [HY.out]; try rfl, HX.out⟩
  have np6 := hp
  clear hp
  by_cases hp : x.phase_ = 7
  · skip
    have b8 : (x.phase_ == 8) = false := by simp [hp]
    have b6 : (x.phase_ == 6) = false := by simp [hp]
    have b7 : (x.phase_ == 7) = true := by simp [hp]
    have b5 : (x.phase_ == 5) = false := by simp [hp]
    by_cases hf : x.fate_ = 0
    · have bf : (x.fate_ != 0) = false := by simp [hf]
      have HY := Lib.hid (dec_no (p := settledP x) (fun z => by unfold settledP at z; omega))
      clear hp hf np8 np6
      go_enter Try.func11, Try.ntmps11
      go_wp2
      go_ret
      exact ⟨by unfold settledOf; rw [HY.out]; try rfl, HX.out⟩
    · have bf : (x.fate_ != 0) = true := by simp [hf]
      have HY := Lib.hid (dec_yes (p := settledP x) (by unfold settledP; omega))
      clear hp hf np8 np6
      go_enter Try.func11, Try.ntmps11
      go_wp2
      go_ret
      exact ⟨by unfold settledOf; rw [HY.out]; try rfl, HX.out⟩
  have np7 := hp
  clear hp
  by_cases hp : x.phase_ = 5
  · skip
    have b8 : (x.phase_ == 8) = false := by simp [hp]
    have b6 : (x.phase_ == 6) = false := by simp [hp]
    have b7 : (x.phase_ == 7) = false := by simp [hp]
    have b5 : (x.phase_ == 5) = true := by simp [hp]
    by_cases h4 : x.commit_.phase_ = 4
    · have c4 : (x.commit_.phase_ == 4) = true := by simp [h4]
      have HY := Lib.hid (dec_yes (p := settledP x) (by unfold settledP; omega))
      clear hp h4 np8 np6 np7
      go_enter Try.func11, Try.ntmps11
      go_wp2
      go_ret
      exact ⟨by unfold settledOf; rw [HY.out]; try rfl, HX.out⟩
    have c4 : (x.commit_.phase_ == 4) = false := by simp [h4]
    by_cases h5 : x.commit_.phase_ = 5
    · have c5 : (x.commit_.phase_ == 5) = true := by simp [h5]
      have HY := Lib.hid (dec_yes (p := settledP x) (by unfold settledP; omega))
      clear hp h4 h5 np8 np6 np7
      go_enter Try.func11, Try.ntmps11
      go_wp2
      go_ret
      exact ⟨by unfold settledOf; rw [HY.out]; try rfl, HX.out⟩
    · have c5 : (x.commit_.phase_ == 5) = false := by simp [h5]
      have HY := Lib.hid (dec_no (p := settledP x) (fun z => by unfold settledP at z; omega))
      clear hp h4 h5 np8 np6 np7
      go_enter Try.func11, Try.ntmps11
      go_wp2
      go_ret
      exact ⟨by unfold settledOf; rw [HY.out]; try rfl, HX.out⟩
  have b8 : (x.phase_ == 8) = false := by simp [np8]
  have b6 : (x.phase_ == 6) = false := by simp [np6]
  have b7 : (x.phase_ == 7) = false := by simp [np7]
  have b5 : (x.phase_ == 5) = false := by simp [hp]
  have HY := Lib.hid (dec_no (p := settledP x) (fun z => by unfold settledP at z; omega))
  clear hp np8 np6 np7
  go_enter Try.func11, Try.ntmps11
  go_wp2
  go_ret
  exact ⟨by unfold settledOf; rw [HY.out]; try rfl, HX.out⟩
set_option maxRecDepth 8000 in
set_option maxHeartbeats 8000000 in
theorem spec_Settled (x : Root) (cs : List Value) (w : World) (S : Nat → Prop) (h : Root.R w S cs x) :
    Calls Try.prog 9 #[.agg cs.toArray] w fun e w' => e = .returned (.bool (settledOf x)) ∧ Ext w w' := by
  obtain ⟨A0, n0, c0, A1, n1, c1, A2, n2, c2, A3, n3, c3, A4, n4, c4, A5, n5, c5, A6, n6, c6, A7, n7, c7, A8, n8, c8, A9, n9, c9, A10, n10, c10, A11, n11, c11, A12, n12, c12, A13, n13, c13, rfl⟩ := Root.R_cells h
  clear h
  show Calls Try.prog _ #[.agg (List.toArray ((.int .i64 x.phase_) :: (.int .i64 x.tries_) :: (.int .i64 x.spare_) :: (.int .i64 x.pc_) :: (.int .i64 x.rv_) :: (.int .i64 x.newRv_) :: (.int .i64 x.at_) :: (.int .i64 x.fate_) :: (.int .i64 x.stamp_) :: (.int .i64 x.began_) :: (.int .i64 x.ended_) :: (.bool x.doomed_) :: (.slice A0 n0 c0) :: (.slice A1 n1 c1) :: (.slice A2 n2 c2) :: (.slice A3 n3 c3) :: (.slice A4 n4 c4) :: (.slice A5 n5 c5) :: (.bool x.busy_) :: (.int .i64 x.probe_.cell_) :: (.int .i64 x.probe_.phase_) :: (.int .i64 x.probe_.ver_) :: (.int .i64 x.probe_.val_) :: (.int .i64 x.commit_.who_) :: (.int .i64 x.commit_.rv_) :: (.int .i64 x.commit_.phase_) :: (.int .i64 x.commit_.at_) :: (.int .i64 x.commit_.wv_) :: (.slice A6 n6 c6) :: (.slice A7 n7 c7) :: (.int .i64 x.fam_.rv_) :: (.int .i64 x.fam_.clock_) :: (.int .i64 x.fam_.owner_) :: (.bool x.fam_.lost_) :: (.slice A8 n8 c8) :: (.slice A9 n9 c9) :: (.slice A10 n10 c10) :: (.slice A11 n11 c11) :: (.slice A12 n12 c12) :: (.slice A13 n13 c13) :: []))] w _
  have HX := Lib.hid ((Ext.refl' w).al (.cells (List.toArray ((.int .i64 x.phase_) :: (.int .i64 x.tries_) :: (.int .i64 x.spare_) :: (.int .i64 x.pc_) :: (.int .i64 x.rv_) :: (.int .i64 x.newRv_) :: (.int .i64 x.at_) :: (.int .i64 x.fate_) :: (.int .i64 x.stamp_) :: (.int .i64 x.began_) :: (.int .i64 x.ended_) :: (.bool x.doomed_) :: (.slice A0 n0 c0) :: (.slice A1 n1 c1) :: (.slice A2 n2 c2) :: (.slice A3 n3 c3) :: (.slice A4 n4 c4) :: (.slice A5 n5 c5) :: (.bool x.busy_) :: (.int .i64 x.probe_.cell_) :: (.int .i64 x.probe_.phase_) :: (.int .i64 x.probe_.ver_) :: (.int .i64 x.probe_.val_) :: (.int .i64 x.commit_.who_) :: (.int .i64 x.commit_.rv_) :: (.int .i64 x.commit_.phase_) :: (.int .i64 x.commit_.at_) :: (.int .i64 x.commit_.wv_) :: (.slice A6 n6 c6) :: (.slice A7 n7 c7) :: (.int .i64 x.fam_.rv_) :: (.int .i64 x.fam_.clock_) :: (.int .i64 x.fam_.owner_) :: (.bool x.fam_.lost_) :: (.slice A8 n8 c8) :: (.slice A9 n9 c9) :: (.slice A10 n10 c10) :: (.slice A11 n11 c11) :: (.slice A12 n12 c12) :: (.slice A13 n13 c13) :: [])) 49))
  by_cases hp : x.phase_ = 8
  · skip
    have b8 : (x.phase_ == 8) = true := by simp [hp]
    have b6 : (x.phase_ == 6) = false := by simp [hp]
    have b7 : (x.phase_ == 7) = false := by simp [hp]
    have b5 : (x.phase_ == 5) = false := by simp [hp]
    have HY := Lib.hid (dec_yes (p := settledP x) (.inl hp))
    clear hp
    go_enter Try.func9, Try.ntmps9
    go_wp2
    go_ret
    exact ⟨by unfold settledOf; rw [HY.out]; try rfl, HX.out⟩
  have np8 := hp
  clear hp
  by_cases hp : x.phase_ = 6
  · skip
    have b8 : (x.phase_ == 8) = false := by simp [hp]
    have b6 : (x.phase_ == 6) = true := by simp [hp]
    have b7 : (x.phase_ == 7) = false := by simp [hp]
    have b5 : (x.phase_ == 5) = false := by simp [hp]
    by_cases hf : x.fate_ = 0
    · have bf : (x.fate_ != 0) = false := by simp [hf]
      have HY := Lib.hid (dec_no (p := settledP x) (fun z => by unfold settledP at z; omega))
      clear hp hf np8
      go_enter Try.func9, Try.ntmps9
      go_wp2
      go_ret
      exact ⟨by unfold settledOf; rw [HY.out]; try rfl, HX.out⟩
    · have bf : (x.fate_ != 0) = true := by simp [hf]
      have HY := Lib.hid (dec_yes (p := settledP x) (by unfold settledP; omega))
      clear hp hf np8
      go_enter Try.func9, Try.ntmps9
      go_wp2
      go_ret
      exact ⟨by unfold settledOf; rw [HY.out]; try rfl, HX.out⟩
  have np6 := hp
  clear hp
  by_cases hp : x.phase_ = 7
  · skip
    have b8 : (x.phase_ == 8) = false := by simp [hp]
    have b6 : (x.phase_ == 6) = false := by simp [hp]
    have b7 : (x.phase_ == 7) = true := by simp [hp]
    have b5 : (x.phase_ == 5) = false := by simp [hp]
    by_cases hf : x.fate_ = 0
    · have bf : (x.fate_ != 0) = false := by simp [hf]
      have HY := Lib.hid (dec_no (p := settledP x) (fun z => by unfold settledP at z; omega))
      clear hp hf np8 np6
      go_enter Try.func9, Try.ntmps9
      go_wp2
      go_ret
      exact ⟨by unfold settledOf; rw [HY.out]; try rfl, HX.out⟩
    · have bf : (x.fate_ != 0) = true := by simp [hf]
      have HY := Lib.hid (dec_yes (p := settledP x) (by unfold settledP; omega))
      clear hp hf np8 np6
      go_enter Try.func9, Try.ntmps9
      go_wp2
      go_ret
      exact ⟨by unfold settledOf; rw [HY.out]; try rfl, HX.out⟩
  have np7 := hp
  clear hp
  by_cases hp : x.phase_ = 5
  · skip
    have b8 : (x.phase_ == 8) = false := by simp [hp]
    have b6 : (x.phase_ == 6) = false := by simp [hp]
    have b7 : (x.phase_ == 7) = false := by simp [hp]
    have b5 : (x.phase_ == 5) = true := by simp [hp]
    by_cases h4 : x.commit_.phase_ = 4
    · have c4 : (x.commit_.phase_ == 4) = true := by simp [h4]
      have HY := Lib.hid (dec_yes (p := settledP x) (by unfold settledP; omega))
      clear hp h4 np8 np6 np7
      go_enter Try.func9, Try.ntmps9
      go_wp2
      go_ret
      exact ⟨by unfold settledOf; rw [HY.out]; try rfl, HX.out⟩
    have c4 : (x.commit_.phase_ == 4) = false := by simp [h4]
    by_cases h5 : x.commit_.phase_ = 5
    · have c5 : (x.commit_.phase_ == 5) = true := by simp [h5]
      have HY := Lib.hid (dec_yes (p := settledP x) (by unfold settledP; omega))
      clear hp h4 h5 np8 np6 np7
      go_enter Try.func9, Try.ntmps9
      go_wp2
      go_ret
      exact ⟨by unfold settledOf; rw [HY.out]; try rfl, HX.out⟩
    · have c5 : (x.commit_.phase_ == 5) = false := by simp [h5]
      have HY := Lib.hid (dec_no (p := settledP x) (fun z => by unfold settledP at z; omega))
      clear hp h4 h5 np8 np6 np7
      go_enter Try.func9, Try.ntmps9
      go_wp2
      go_ret
      exact ⟨by unfold settledOf; rw [HY.out]; try rfl, HX.out⟩
  have b8 : (x.phase_ == 8) = false := by simp [np8]
  have b6 : (x.phase_ == 6) = false := by simp [np6]
  have b7 : (x.phase_ == 7) = false := by simp [np7]
  have b5 : (x.phase_ == 5) = false := by simp [hp]
  have HY := Lib.hid (dec_no (p := settledP x) (fun z => by unfold settledP at z; omega))
  clear hp np8 np6 np7
  go_enter Try.func9, Try.ntmps9
  go_wp2
  go_ret
  exact ⟨by unfold settledOf; rw [HY.out]; try rfl, HX.out⟩
set_option maxRecDepth 8000 in
set_option maxHeartbeats 8000000 in
theorem impl_StampOf (x : Root) (cs : List Value) (w : World) (S : Nat → Prop) (h : Root.R w S cs x) :
    Calls Try.prog 14 #[.agg cs.toArray] w fun e w' => e = .returned (.int .i64 (stampOf x)) ∧ Ext w w' := by
  have HR := Lib.hid h
  obtain ⟨A0, n0, c0, A1, n1, c1, A2, n2, c2, A3, n3, c3, A4, n4, c4, A5, n5, c5, A6, n6, c6, A7, n7, c7, A8, n8, c8, A9, n9, c9, A10, n10, c10, A11, n11, c11, A12, n12, c12, A13, n13, c13, rfl⟩ := Root.R_cells h
  clear h
  show Calls Try.prog _ #[.agg (List.toArray ((.int .i64 x.phase_) :: (.int .i64 x.tries_) :: (.int .i64 x.spare_) :: (.int .i64 x.pc_) :: (.int .i64 x.rv_) :: (.int .i64 x.newRv_) :: (.int .i64 x.at_) :: (.int .i64 x.fate_) :: (.int .i64 x.stamp_) :: (.int .i64 x.began_) :: (.int .i64 x.ended_) :: (.bool x.doomed_) :: (.slice A0 n0 c0) :: (.slice A1 n1 c1) :: (.slice A2 n2 c2) :: (.slice A3 n3 c3) :: (.slice A4 n4 c4) :: (.slice A5 n5 c5) :: (.bool x.busy_) :: (.int .i64 x.probe_.cell_) :: (.int .i64 x.probe_.phase_) :: (.int .i64 x.probe_.ver_) :: (.int .i64 x.probe_.val_) :: (.int .i64 x.commit_.who_) :: (.int .i64 x.commit_.rv_) :: (.int .i64 x.commit_.phase_) :: (.int .i64 x.commit_.at_) :: (.int .i64 x.commit_.wv_) :: (.slice A6 n6 c6) :: (.slice A7 n7 c7) :: (.int .i64 x.fam_.rv_) :: (.int .i64 x.fam_.clock_) :: (.int .i64 x.fam_.owner_) :: (.bool x.fam_.lost_) :: (.slice A8 n8 c8) :: (.slice A9 n9 c9) :: (.slice A10 n10 c10) :: (.slice A11 n11 c11) :: (.slice A12 n12 c12) :: (.slice A13 n13 c13) :: []))] w _
  have HX := Lib.hid ((Ext.refl' w).al (.cells (List.toArray ((.int .i64 x.phase_) :: (.int .i64 x.tries_) :: (.int .i64 x.spare_) :: (.int .i64 x.pc_) :: (.int .i64 x.rv_) :: (.int .i64 x.newRv_) :: (.int .i64 x.at_) :: (.int .i64 x.fate_) :: (.int .i64 x.stamp_) :: (.int .i64 x.began_) :: (.int .i64 x.ended_) :: (.bool x.doomed_) :: (.slice A0 n0 c0) :: (.slice A1 n1 c1) :: (.slice A2 n2 c2) :: (.slice A3 n3 c3) :: (.slice A4 n4 c4) :: (.slice A5 n5 c5) :: (.bool x.busy_) :: (.int .i64 x.probe_.cell_) :: (.int .i64 x.probe_.phase_) :: (.int .i64 x.probe_.ver_) :: (.int .i64 x.probe_.val_) :: (.int .i64 x.commit_.who_) :: (.int .i64 x.commit_.rv_) :: (.int .i64 x.commit_.phase_) :: (.int .i64 x.commit_.at_) :: (.int .i64 x.commit_.wv_) :: (.slice A6 n6 c6) :: (.slice A7 n7 c7) :: (.int .i64 x.fam_.rv_) :: (.int .i64 x.fam_.clock_) :: (.int .i64 x.fam_.owner_) :: (.bool x.fam_.lost_) :: (.slice A8 n8 c8) :: (.slice A9 n9 c9) :: (.slice A10 n10 c10) :: (.slice A11 n11 c11) :: (.slice A12 n12 c12) :: (.slice A13 n13 c13) :: [])) 49))
  have HB : Hid (Bx (w.alloc (.cells (List.toArray ((.int .i64 x.phase_) :: (.int .i64 x.tries_) :: (.int .i64 x.spare_) :: (.int .i64 x.pc_) :: (.int .i64 x.rv_) :: (.int .i64 x.newRv_) :: (.int .i64 x.at_) :: (.int .i64 x.fate_) :: (.int .i64 x.stamp_) :: (.int .i64 x.began_) :: (.int .i64 x.ended_) :: (.bool x.doomed_) :: (.slice A0 n0 c0) :: (.slice A1 n1 c1) :: (.slice A2 n2 c2) :: (.slice A3 n3 c3) :: (.slice A4 n4 c4) :: (.slice A5 n5 c5) :: (.bool x.busy_) :: (.int .i64 x.probe_.cell_) :: (.int .i64 x.probe_.phase_) :: (.int .i64 x.probe_.ver_) :: (.int .i64 x.probe_.val_) :: (.int .i64 x.commit_.who_) :: (.int .i64 x.commit_.rv_) :: (.int .i64 x.commit_.phase_) :: (.int .i64 x.commit_.at_) :: (.int .i64 x.commit_.wv_) :: (.slice A6 n6 c6) :: (.slice A7 n7 c7) :: (.int .i64 x.fam_.rv_) :: (.int .i64 x.fam_.clock_) :: (.int .i64 x.fam_.owner_) :: (.bool x.fam_.lost_) :: (.slice A8 n8 c8) :: (.slice A9 n9 c9) :: (.slice A10 n10 c10) :: (.slice A11 n11 c11) :: (.slice A12 n12 c12) :: (.slice A13 n13 c13) :: [])) 49)) w.heap.size 49 (List.toArray ((.int .i64 x.phase_) :: (.int .i64 x.tries_) :: (.int .i64 x.spare_) :: (.int .i64 x.pc_) :: (.int .i64 x.rv_) :: (.int .i64 x.newRv_) :: (.int .i64 x.at_) :: (.int .i64 x.fate_) :: (.int .i64 x.stamp_) :: (.int .i64 x.began_) :: (.int .i64 x.ended_) :: (.bool x.doomed_) :: (.slice A0 n0 c0) :: (.slice A1 n1 c1) :: (.slice A2 n2 c2) :: (.slice A3 n3 c3) :: (.slice A4 n4 c4) :: (.slice A5 n5 c5) :: (.bool x.busy_) :: (.int .i64 x.probe_.cell_) :: (.int .i64 x.probe_.phase_) :: (.int .i64 x.probe_.ver_) :: (.int .i64 x.probe_.val_) :: (.int .i64 x.commit_.who_) :: (.int .i64 x.commit_.rv_) :: (.int .i64 x.commit_.phase_) :: (.int .i64 x.commit_.at_) :: (.int .i64 x.commit_.wv_) :: (.slice A6 n6 c6) :: (.slice A7 n7 c7) :: (.int .i64 x.fam_.rv_) :: (.int .i64 x.fam_.clock_) :: (.int .i64 x.fam_.owner_) :: (.bool x.fam_.lost_) :: (.slice A8 n8 c8) :: (.slice A9 n9 c9) :: (.slice A10 n10 c10) :: (.slice A11 n11 c11) :: (.slice A12 n12 c12) :: (.slice A13 n13 c13) :: []))) := Bx.new' _ _ _ rfl
  go_enter Try.func14, Try.ntmps14
  go_wp2_with (refine wpList_load_row rfl 49 _ rfl w.heap.size rfl 49 (List.toArray ((.int .i64 x.phase_) :: (.int .i64 x.tries_) :: (.int .i64 x.spare_) :: (.int .i64 x.pc_) :: (.int .i64 x.rv_) :: (.int .i64 x.newRv_) :: (.int .i64 x.at_) :: (.int .i64 x.fate_) :: (.int .i64 x.stamp_) :: (.int .i64 x.began_) :: (.int .i64 x.ended_) :: (.bool x.doomed_) :: (.slice A0 n0 c0) :: (.slice A1 n1 c1) :: (.slice A2 n2 c2) :: (.slice A3 n3 c3) :: (.slice A4 n4 c4) :: (.slice A5 n5 c5) :: (.bool x.busy_) :: (.int .i64 x.probe_.cell_) :: (.int .i64 x.probe_.phase_) :: (.int .i64 x.probe_.ver_) :: (.int .i64 x.probe_.val_) :: (.int .i64 x.commit_.who_) :: (.int .i64 x.commit_.rv_) :: (.int .i64 x.commit_.phase_) :: (.int .i64 x.commit_.at_) :: (.int .i64 x.commit_.wv_) :: (.slice A6 n6 c6) :: (.slice A7 n7 c7) :: (.int .i64 x.fam_.rv_) :: (.int .i64 x.fam_.clock_) :: (.int .i64 x.fam_.owner_) :: (.bool x.fam_.lost_) :: (.slice A8 n8 c8) :: (.slice A9 n9 c9) :: (.slice A10 n10 c10) :: (.slice A11 n11 c11) :: (.slice A12 n12 c12) :: (.slice A13 n13 c13) :: [])) (0, 0) _ ?hg Try.underlying49 rfl Root.size_info ?hk; (case hg => (show Bx _ _ _ _; exact HB.out)); (try simp only [Act.put, List.setIfInBounds_toArray, List.set_cons_zero, List.set_cons_succ]))
  refine (impl_Settled x _ _ S (Root.R_good.ext HR.out HX.out)).mono ?_
  rintro e w1 ⟨rfl, x1⟩
  have X1 := Lib.hid (HX.out.tr x1)
  have B1 := Lib.hid (HB.out.ext x1)
  clear x1
  have q0 : w1.cell? ⟨w.heap.size, 0, none⟩ = some (.int .i64 x.phase_) := B1.out.cell 0
  have q8 : w1.cell? ⟨w.heap.size, 8, none⟩ = some (.int .i64 x.stamp_) := B1.out.cell 8
  have q27 : w1.cell? ⟨w.heap.size, 27, none⟩ = some (.int .i64 x.commit_.wv_) := B1.out.cell 27
  cases hs : settledOf x
  · have HY : Hid (stampOf x = 0) := by show _ = _; unfold stampOf; rw [hs]; rfl
    clear hs
    go_wp2
    go_ret
    exact ⟨by rw [HY.out]; try rfl, X1.out⟩
  by_cases hp : x.phase_ = 5
  · have b5 : (x.phase_ == 5) = true := by simp [hp]
    have HY : Hid (stampOf x = x.commit_.wv_) := by show _ = _; unfold stampOf; rw [hs, if_neg (by decide), if_pos hp]
    clear hs hp
    go_wp2
    go_ret
    exact ⟨by rw [HY.out]; try rfl, X1.out⟩
  · have b5 : (x.phase_ == 5) = false := by simp [hp]
    have HY : Hid (stampOf x = x.stamp_) := by show _ = _; unfold stampOf; rw [hs, if_neg (by decide), if_neg hp]
    clear hs hp
    go_wp2
    go_ret
    exact ⟨by rw [HY.out]; try rfl, X1.out⟩
set_option maxRecDepth 8000 in
set_option maxHeartbeats 8000000 in
theorem spec_StampOf (x : Root) (cs : List Value) (w : World) (S : Nat → Prop) (h : Root.R w S cs x) :
    Calls Try.prog 13 #[.agg cs.toArray] w fun e w' => e = .returned (.int .i64 (stampOf x)) ∧ Ext w w' := by
  have HR := Lib.hid h
  obtain ⟨A0, n0, c0, A1, n1, c1, A2, n2, c2, A3, n3, c3, A4, n4, c4, A5, n5, c5, A6, n6, c6, A7, n7, c7, A8, n8, c8, A9, n9, c9, A10, n10, c10, A11, n11, c11, A12, n12, c12, A13, n13, c13, rfl⟩ := Root.R_cells h
  clear h
  show Calls Try.prog _ #[.agg (List.toArray ((.int .i64 x.phase_) :: (.int .i64 x.tries_) :: (.int .i64 x.spare_) :: (.int .i64 x.pc_) :: (.int .i64 x.rv_) :: (.int .i64 x.newRv_) :: (.int .i64 x.at_) :: (.int .i64 x.fate_) :: (.int .i64 x.stamp_) :: (.int .i64 x.began_) :: (.int .i64 x.ended_) :: (.bool x.doomed_) :: (.slice A0 n0 c0) :: (.slice A1 n1 c1) :: (.slice A2 n2 c2) :: (.slice A3 n3 c3) :: (.slice A4 n4 c4) :: (.slice A5 n5 c5) :: (.bool x.busy_) :: (.int .i64 x.probe_.cell_) :: (.int .i64 x.probe_.phase_) :: (.int .i64 x.probe_.ver_) :: (.int .i64 x.probe_.val_) :: (.int .i64 x.commit_.who_) :: (.int .i64 x.commit_.rv_) :: (.int .i64 x.commit_.phase_) :: (.int .i64 x.commit_.at_) :: (.int .i64 x.commit_.wv_) :: (.slice A6 n6 c6) :: (.slice A7 n7 c7) :: (.int .i64 x.fam_.rv_) :: (.int .i64 x.fam_.clock_) :: (.int .i64 x.fam_.owner_) :: (.bool x.fam_.lost_) :: (.slice A8 n8 c8) :: (.slice A9 n9 c9) :: (.slice A10 n10 c10) :: (.slice A11 n11 c11) :: (.slice A12 n12 c12) :: (.slice A13 n13 c13) :: []))] w _
  have HX := Lib.hid ((Ext.refl' w).al (.cells (List.toArray ((.int .i64 x.phase_) :: (.int .i64 x.tries_) :: (.int .i64 x.spare_) :: (.int .i64 x.pc_) :: (.int .i64 x.rv_) :: (.int .i64 x.newRv_) :: (.int .i64 x.at_) :: (.int .i64 x.fate_) :: (.int .i64 x.stamp_) :: (.int .i64 x.began_) :: (.int .i64 x.ended_) :: (.bool x.doomed_) :: (.slice A0 n0 c0) :: (.slice A1 n1 c1) :: (.slice A2 n2 c2) :: (.slice A3 n3 c3) :: (.slice A4 n4 c4) :: (.slice A5 n5 c5) :: (.bool x.busy_) :: (.int .i64 x.probe_.cell_) :: (.int .i64 x.probe_.phase_) :: (.int .i64 x.probe_.ver_) :: (.int .i64 x.probe_.val_) :: (.int .i64 x.commit_.who_) :: (.int .i64 x.commit_.rv_) :: (.int .i64 x.commit_.phase_) :: (.int .i64 x.commit_.at_) :: (.int .i64 x.commit_.wv_) :: (.slice A6 n6 c6) :: (.slice A7 n7 c7) :: (.int .i64 x.fam_.rv_) :: (.int .i64 x.fam_.clock_) :: (.int .i64 x.fam_.owner_) :: (.bool x.fam_.lost_) :: (.slice A8 n8 c8) :: (.slice A9 n9 c9) :: (.slice A10 n10 c10) :: (.slice A11 n11 c11) :: (.slice A12 n12 c12) :: (.slice A13 n13 c13) :: [])) 49))
  have HB : Hid (Bx (w.alloc (.cells (List.toArray ((.int .i64 x.phase_) :: (.int .i64 x.tries_) :: (.int .i64 x.spare_) :: (.int .i64 x.pc_) :: (.int .i64 x.rv_) :: (.int .i64 x.newRv_) :: (.int .i64 x.at_) :: (.int .i64 x.fate_) :: (.int .i64 x.stamp_) :: (.int .i64 x.began_) :: (.int .i64 x.ended_) :: (.bool x.doomed_) :: (.slice A0 n0 c0) :: (.slice A1 n1 c1) :: (.slice A2 n2 c2) :: (.slice A3 n3 c3) :: (.slice A4 n4 c4) :: (.slice A5 n5 c5) :: (.bool x.busy_) :: (.int .i64 x.probe_.cell_) :: (.int .i64 x.probe_.phase_) :: (.int .i64 x.probe_.ver_) :: (.int .i64 x.probe_.val_) :: (.int .i64 x.commit_.who_) :: (.int .i64 x.commit_.rv_) :: (.int .i64 x.commit_.phase_) :: (.int .i64 x.commit_.at_) :: (.int .i64 x.commit_.wv_) :: (.slice A6 n6 c6) :: (.slice A7 n7 c7) :: (.int .i64 x.fam_.rv_) :: (.int .i64 x.fam_.clock_) :: (.int .i64 x.fam_.owner_) :: (.bool x.fam_.lost_) :: (.slice A8 n8 c8) :: (.slice A9 n9 c9) :: (.slice A10 n10 c10) :: (.slice A11 n11 c11) :: (.slice A12 n12 c12) :: (.slice A13 n13 c13) :: [])) 49)) w.heap.size 49 (List.toArray ((.int .i64 x.phase_) :: (.int .i64 x.tries_) :: (.int .i64 x.spare_) :: (.int .i64 x.pc_) :: (.int .i64 x.rv_) :: (.int .i64 x.newRv_) :: (.int .i64 x.at_) :: (.int .i64 x.fate_) :: (.int .i64 x.stamp_) :: (.int .i64 x.began_) :: (.int .i64 x.ended_) :: (.bool x.doomed_) :: (.slice A0 n0 c0) :: (.slice A1 n1 c1) :: (.slice A2 n2 c2) :: (.slice A3 n3 c3) :: (.slice A4 n4 c4) :: (.slice A5 n5 c5) :: (.bool x.busy_) :: (.int .i64 x.probe_.cell_) :: (.int .i64 x.probe_.phase_) :: (.int .i64 x.probe_.ver_) :: (.int .i64 x.probe_.val_) :: (.int .i64 x.commit_.who_) :: (.int .i64 x.commit_.rv_) :: (.int .i64 x.commit_.phase_) :: (.int .i64 x.commit_.at_) :: (.int .i64 x.commit_.wv_) :: (.slice A6 n6 c6) :: (.slice A7 n7 c7) :: (.int .i64 x.fam_.rv_) :: (.int .i64 x.fam_.clock_) :: (.int .i64 x.fam_.owner_) :: (.bool x.fam_.lost_) :: (.slice A8 n8 c8) :: (.slice A9 n9 c9) :: (.slice A10 n10 c10) :: (.slice A11 n11 c11) :: (.slice A12 n12 c12) :: (.slice A13 n13 c13) :: []))) := Bx.new' _ _ _ rfl
  go_enter Try.func13, Try.ntmps13
  go_wp2_with (refine wpList_load_row rfl 49 _ rfl w.heap.size rfl 49 (List.toArray ((.int .i64 x.phase_) :: (.int .i64 x.tries_) :: (.int .i64 x.spare_) :: (.int .i64 x.pc_) :: (.int .i64 x.rv_) :: (.int .i64 x.newRv_) :: (.int .i64 x.at_) :: (.int .i64 x.fate_) :: (.int .i64 x.stamp_) :: (.int .i64 x.began_) :: (.int .i64 x.ended_) :: (.bool x.doomed_) :: (.slice A0 n0 c0) :: (.slice A1 n1 c1) :: (.slice A2 n2 c2) :: (.slice A3 n3 c3) :: (.slice A4 n4 c4) :: (.slice A5 n5 c5) :: (.bool x.busy_) :: (.int .i64 x.probe_.cell_) :: (.int .i64 x.probe_.phase_) :: (.int .i64 x.probe_.ver_) :: (.int .i64 x.probe_.val_) :: (.int .i64 x.commit_.who_) :: (.int .i64 x.commit_.rv_) :: (.int .i64 x.commit_.phase_) :: (.int .i64 x.commit_.at_) :: (.int .i64 x.commit_.wv_) :: (.slice A6 n6 c6) :: (.slice A7 n7 c7) :: (.int .i64 x.fam_.rv_) :: (.int .i64 x.fam_.clock_) :: (.int .i64 x.fam_.owner_) :: (.bool x.fam_.lost_) :: (.slice A8 n8 c8) :: (.slice A9 n9 c9) :: (.slice A10 n10 c10) :: (.slice A11 n11 c11) :: (.slice A12 n12 c12) :: (.slice A13 n13 c13) :: [])) (0, 0) _ ?hg Try.underlying49 rfl Root.size_info ?hk; (case hg => (show Bx _ _ _ _; exact HB.out)); (try simp only [Act.put, List.setIfInBounds_toArray, List.set_cons_zero, List.set_cons_succ]))
  refine (spec_Settled x _ _ S (Root.R_good.ext HR.out HX.out)).mono ?_
  rintro e w1 ⟨rfl, x1⟩
  have X1 := Lib.hid (HX.out.tr x1)
  have B1 := Lib.hid (HB.out.ext x1)
  clear x1
  have q0 : w1.cell? ⟨w.heap.size, 0, none⟩ = some (.int .i64 x.phase_) := B1.out.cell 0
  have q8 : w1.cell? ⟨w.heap.size, 8, none⟩ = some (.int .i64 x.stamp_) := B1.out.cell 8
  have q27 : w1.cell? ⟨w.heap.size, 27, none⟩ = some (.int .i64 x.commit_.wv_) := B1.out.cell 27
  cases hs : settledOf x
  · have HY : Hid (stampOf x = 0) := by show _ = _; unfold stampOf; rw [hs]; rfl
    clear hs
    go_wp2
    go_ret
    exact ⟨by rw [HY.out]; try rfl, X1.out⟩
  by_cases hp : x.phase_ = 5
  · have b5 : (x.phase_ == 5) = true := by simp [hp]
    have HY : Hid (stampOf x = x.commit_.wv_) := by show _ = _; unfold stampOf; rw [hs, if_neg (by decide), if_pos hp]
    clear hs hp
    go_wp2
    go_ret
    exact ⟨by rw [HY.out]; try rfl, X1.out⟩
  · have b5 : (x.phase_ == 5) = false := by simp [hp]
    have HY : Hid (stampOf x = x.stamp_) := by show _ = _; unfold stampOf; rw [hs, if_neg (by decide), if_neg hp]
    clear hs hp
    go_wp2
    go_ret
    exact ⟨by rw [HY.out]; try rfl, X1.out⟩

end Go.Proofs.Ytfacckjfoajijaa
