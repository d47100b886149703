/- The contracts of laws.FnExactSettled and laws.FnExactStampOf. No condition. -/
import Derived.Test.YtfacckjfoajijaaWSet
import Derived.Test.YtfacckjfoajijaaMine2
namespace Go.Proofs.Ytfacckjfoajijaa
open Go.RowKit Go.Deep

theorem impl_Settled_w (x : Root) (cs : List Value) (w : World) (S : Nat → Prop) (h : Root.R w S cs x) (_hw : Root.wt x ≤ 1048576) : Calls Try.prog 11 #[.agg cs.toArray] w fun e w' => e = .returned (.bool (settledOf x)) ∧ Ext w w' := impl_Settled x cs w S h
theorem spec_Settled_w (x : Root) (cs : List Value) (w : World) (S : Nat → Prop) (h : Root.R w S cs x) (_hw : Root.wt x ≤ 1048576) : Calls Try.prog 9 #[.agg cs.toArray] w fun e w' => e = .returned (.bool (settledOf x)) ∧ Ext w w' := spec_Settled x cs w S h
theorem impl_StampOf_w (x : Root) (cs : List Value) (w : World) (S : Nat → Prop) (h : Root.R w S cs x) (_hw : Root.wt x ≤ 1048576) : Calls Try.prog 14 #[.agg cs.toArray] w fun e w' => e = .returned (.int .i64 (stampOf x)) ∧ Ext w w' := impl_StampOf x cs w S h
theorem spec_StampOf_w (x : Root) (cs : List Value) (w : World) (S : Nat → Prop) (h : Root.R w S cs x) (_hw : Root.wt x ≤ 1048576) : Calls Try.prog 13 #[.agg cs.toArray] w fun e w' => e = .returned (.int .i64 (stampOf x)) ∧ Ext w w' := spec_StampOf x cs w S h

set_option maxRecDepth 8000 in
set_option maxHeartbeats 8000000 in
theorem law_Settled (x0 : Root) (cs0 : List Value) (w : World) (h0 : Root.R w (fun _ => True) cs0 x0) :
    Calls Try.prog 3 #[.agg cs0.toArray] w fun e w' => e = .returned (.bool true) ∧ Ext w w' := by
  have H0 := Lib.hid h0
  have Z0 : Hid ((Try.prog.info? 35).map (·.size) = some cs0.toArray.size) := by show _ = _; rw [List.size_toArray, Root.R_good.len h0]; exact Root.size_laws
  have B0 : Hid (Bx (w.alloc (.cells cs0.toArray 35)) w.heap.size 35 cs0.toArray) := Bx.new' _ _ _ rfl
  have X0 : Hid (Ext w (w.alloc (.cells cs0.toArray 35))) := (Ext.refl' w).al _
  clear h0
  go_enter Try.func3, Try.ntmps3
  go_wp2_with (refine wpList_load_row rfl 35 _ rfl (w.heap.size) rfl 35 cs0.toArray (0, 0) _ B0.out Try.underlying35 rfl Z0.out ?_; (try simp only [Act.put, List.setIfInBounds_toArray, List.set_cons_zero, List.set_cons_succ]))
  refine (szRoot_any x0 _ (1048576) _ _ (Root.R_good.ext H0.out X0.out) (by omega) (by omega)).mono ?_
  rintro e w1 ⟨r0, rfl, Q, x1⟩
  have Q0 := Lib.hid Q
  replace B0 := Lib.hid (B0.out.ext x1)
  have X1 := Lib.hid (X0.out.tr x1)
  clear x1 Q X0
  by_cases g0 : 0 ≤ r0
  rotate_left
  · have e0 : r0 = -1 := by have a := Q0.out; unfold Left at a; omega
    subst e0
    clear g0
    go_wp2
    go_ret
    exact ⟨rfl, X1.out⟩
  have N0 : Root.wt x0 ≤ 1048576 := by have a := Q0.out; unfold Left at a; omega
  clear Q0
  go_wp2_with (refine wpList_load_row rfl 35 _ rfl (w.heap.size) rfl 35 cs0.toArray (0, 0) _ B0.out Try.underlying35 rfl Z0.out ?_; (try simp only [Act.put, List.setIfInBounds_toArray, List.set_cons_zero, List.set_cons_succ]))
  refine (toRoot_any x0 _ _ _ (Root.R_good.ext H0.out X1.out) N0).mono ?_
  rintro e w2 ⟨cv2, rfl, o2, x2⟩
  have O2 := Lib.hid o2
  replace B0 := Lib.hid (B0.out.ext x2)
  have X2 := Lib.hid (X1.out.tr x2)
  clear x2 o2
  go_wp2_with fail
  refine (spec_Settled_w x0 cv2 _ _ (Root.W_R O2.out) N0).mono ?_
  rintro e w3 ⟨rfl, x3⟩
  replace B0 := Lib.hid (B0.out.ext x3)
  have X3 := Lib.hid (X2.out.tr x3)
  clear x3 O2
  go_wp2_with (refine wpList_load_row rfl 35 _ rfl (w.heap.size) rfl 35 cs0.toArray (0, 0) _ B0.out Try.underlying35 rfl Z0.out ?_; (try simp only [Act.put, List.setIfInBounds_toArray, List.set_cons_zero, List.set_cons_succ]))
  refine (toRoot_any x0 _ _ _ (Root.R_good.ext H0.out X3.out) N0).mono ?_
  rintro e w4 ⟨cv4, rfl, o4, x4⟩
  have O4 := Lib.hid o4
  replace B0 := Lib.hid (B0.out.ext x4)
  have X4 := Lib.hid (X3.out.tr x4)
  clear x4 o4
  have Z4 : Hid ((Try.prog.info? 49).map (·.size) = some cv4.toArray.size) := by show _ = _; rw [List.size_toArray, Root.W_good.len O4.out]; exact Root.size_info
  have V4 : Hid (cv4.toArray.all (·.oneCell') = true) := all_oneCell_toArray (Root.W_one O4.out)
  have hold : ∀ n, n = 40 → n = cv4.toArray.size := fun n e => by rw [e, List.size_toArray, Root.W_good.len O4.out]
  have HOLD := Lib.hid hold
  clear hold
  go_wp2_with (first | (refine wp_store_new w4 _ _ rfl 49 _ _ rfl rfl rfl cv4.toArray rfl Z4.out (HOLD.out _ rfl) V4.out ?_; intro w5 x5 l5 b5; have B5 := Lib.hid b5) | (refine wpList_load_row rfl 49 _ rfl (w4.heap.size) rfl 49 cv4.toArray (0, 0) _ B5.out Try.underlying49 rfl Z4.out ?_; (try simp only [Act.put, List.setIfInBounds_toArray, List.set_cons_zero, List.set_cons_succ])))
  replace B0 := Lib.hid (B0.out.ext x5)
  have X5 := Lib.hid (X4.out.tr x5)
  have O5 := Lib.hid (Root.W_good.ext O4.out x5)
  have G5 : w4.heap.size < w5.heap.size := l5
  clear x5 b5 O4
  refine (impl_Settled_w x0 cv4 _ _ (Root.W_R O5.out) N0).mono ?_
  rintro e w6 ⟨rfl, x6⟩
  replace B0 := Lib.hid (B0.out.ext x6)
  have B6 := Lib.hid (B5.out.ext x6)
  have O6 := Lib.hid (Root.W_good.ext O5.out x6)
  have X6 := Lib.hid (X5.out.tr x6)
  clear x6 B5 O5
  go_wp2
  refine wp_region_held_drew (S := fun w' => Ext w6 w') (by kernel_rfl) ((Ext.refl' _).dr) (fun hHeld => ?_)
  refine wpAnyH_take (i := 0) rfl (by kernel_rfl) (by kernel_rfl) (by kernel_rfl) (fun _ _ _ h => h) (yieldsIf_load_mid (by rfl) 49 _ rfl (w4.heap.size) 0 rfl cv4 _ (fun _ hw => Bx.range (B6.out.ext hw)) Try.underlying49 rfl (by rw [Z4.out, List.size_toArray])) hHeld ?_
  (try simp only [Act.put, List.setIfInBounds_toArray])
  refine wpAnyH_take (i := 1) rfl (by kernel_rfl) (by kernel_rfl) (by kernel_rfl) (fun _ _ _ h => h) (yieldsIf_load_mid (by rfl) 35 _ rfl (w.heap.size) 0 rfl cs0 _ (fun _ hw => Bx.range (B0.out.ext hw)) Try.underlying35 rfl (by rw [Z0.out, List.size_toArray])) hHeld ?_
  (try simp only [Act.put])
  refine wpAnyH_ready (rs := [2]) (by kernel_rfl) (by simp) (AllReadyH.cons rfl (fun K hK => ?_) AllReadyH.nil)
  go_simp
  go_wp2_with (go_at_call 10; refine (toRoot_any x0 _ _ _ (Root.R_good.ext H0.out (X6.out.tr hHeld)) N0).mono ?_; rintro e w7 ⟨cv7, rfl, o7, x7⟩)
  have O7 := Lib.hid o7
  have X7 := Lib.hid (Ext.tr hHeld x7)
  clear hHeld x7 o7
  refine hK.out _ _ X7.out (fun hHeld => ?_)
  clear hK K
  (try simp only [Act.put, List.setIfInBounds_toArray, List.set_cons_zero, List.set_cons_succ])
  refine wpAnyH_ready (rs := [3]) (by kernel_rfl) (by simp) (AllReadyH.cons rfl (fun K hK => ?_) AllReadyH.nil)
  go_simp
  go_wp2_with (go_at_call 12; refine (eqRoot_same x0 _ _ _ _ _ (Root.W_R (Root.W_good.ext O6.out hHeld)) (Root.W_R O7.out)).mono ?_; rintro e w8 ⟨rfl, x8⟩)
  have X8 := Lib.hid (Ext.tr hHeld x8)
  clear hHeld x8
  refine hK.out _ _ X8.out (fun hHeld => ?_)
  clear hK K
  (try simp only [Act.put, List.setIfInBounds_toArray, List.set_cons_zero, List.set_cons_succ])
  refine wpAnyH_ready (rs := [4]) (by kernel_rfl) (by simp) (AllReadyH.cons rfl (fun K hK => ?_) AllReadyH.nil)
  go_simp
  refine hK.out _ _ hHeld (fun hHeld => ?_)
  clear hK K
  (try simp only [Act.put, List.setIfInBounds_toArray, List.set_cons_zero, List.set_cons_succ])
  refine wpAnyH_done (by kernel_rfl) ?_ _
  have XE := Lib.hid (X6.out.tr X8.out)
  clear hHeld
  go_wp2
  go_ret
  exact ⟨rfl, XE.out⟩
set_option maxRecDepth 8000 in
set_option maxHeartbeats 8000000 in
theorem law_StampOf (x0 : Root) (cs0 : List Value) (w : World) (h0 : Root.R w (fun _ => True) cs0 x0) :
    Calls Try.prog 4 #[.agg cs0.toArray] w fun e w' => e = .returned (.bool true) ∧ Ext w w' := by
  have H0 := Lib.hid h0
  have Z0 : Hid ((Try.prog.info? 35).map (·.size) = some cs0.toArray.size) := by show _ = _; rw [List.size_toArray, Root.R_good.len h0]; exact Root.size_laws
  have B0 : Hid (Bx (w.alloc (.cells cs0.toArray 35)) w.heap.size 35 cs0.toArray) := Bx.new' _ _ _ rfl
  have X0 : Hid (Ext w (w.alloc (.cells cs0.toArray 35))) := (Ext.refl' w).al _
  clear h0
  go_enter Try.func4, Try.ntmps4
  go_wp2_with (refine wpList_load_row rfl 35 _ rfl (w.heap.size) rfl 35 cs0.toArray (0, 0) _ B0.out Try.underlying35 rfl Z0.out ?_; (try simp only [Act.put, List.setIfInBounds_toArray, List.set_cons_zero, List.set_cons_succ]))
  refine (szRoot_any x0 _ (1048576) _ _ (Root.R_good.ext H0.out X0.out) (by omega) (by omega)).mono ?_
  rintro e w1 ⟨r0, rfl, Q, x1⟩
  have Q0 := Lib.hid Q
  replace B0 := Lib.hid (B0.out.ext x1)
  have X1 := Lib.hid (X0.out.tr x1)
  clear x1 Q X0
  by_cases g0 : 0 ≤ r0
  rotate_left
  · have e0 : r0 = -1 := by have a := Q0.out; unfold Left at a; omega
    subst e0
    clear g0
    go_wp2
    go_ret
    exact ⟨rfl, X1.out⟩
  have N0 : Root.wt x0 ≤ 1048576 := by have a := Q0.out; unfold Left at a; omega
  clear Q0
  go_wp2_with (refine wpList_load_row rfl 35 _ rfl (w.heap.size) rfl 35 cs0.toArray (0, 0) _ B0.out Try.underlying35 rfl Z0.out ?_; (try simp only [Act.put, List.setIfInBounds_toArray, List.set_cons_zero, List.set_cons_succ]))
  refine (toRoot_any x0 _ _ _ (Root.R_good.ext H0.out X1.out) N0).mono ?_
  rintro e w2 ⟨cv2, rfl, o2, x2⟩
  have O2 := Lib.hid o2
  replace B0 := Lib.hid (B0.out.ext x2)
  have X2 := Lib.hid (X1.out.tr x2)
  clear x2 o2
  go_wp2_with fail
  refine (spec_StampOf_w x0 cv2 _ _ (Root.W_R O2.out) N0).mono ?_
  rintro e w3 ⟨rfl, x3⟩
  replace B0 := Lib.hid (B0.out.ext x3)
  have X3 := Lib.hid (X2.out.tr x3)
  clear x3 O2
  go_wp2_with (refine wpList_load_row rfl 35 _ rfl (w.heap.size) rfl 35 cs0.toArray (0, 0) _ B0.out Try.underlying35 rfl Z0.out ?_; (try simp only [Act.put, List.setIfInBounds_toArray, List.set_cons_zero, List.set_cons_succ]))
  refine (toRoot_any x0 _ _ _ (Root.R_good.ext H0.out X3.out) N0).mono ?_
  rintro e w4 ⟨cv4, rfl, o4, x4⟩
  have O4 := Lib.hid o4
  replace B0 := Lib.hid (B0.out.ext x4)
  have X4 := Lib.hid (X3.out.tr x4)
  clear x4 o4
  have Z4 : Hid ((Try.prog.info? 49).map (·.size) = some cv4.toArray.size) := by show _ = _; rw [List.size_toArray, Root.W_good.len O4.out]; exact Root.size_info
  have V4 : Hid (cv4.toArray.all (·.oneCell') = true) := all_oneCell_toArray (Root.W_one O4.out)
  have hold : ∀ n, n = 40 → n = cv4.toArray.size := fun n e => by rw [e, List.size_toArray, Root.W_good.len O4.out]
  have HOLD := Lib.hid hold
  clear hold
  go_wp2_with (first | (refine wp_store_new w4 _ _ rfl 49 _ _ rfl rfl rfl cv4.toArray rfl Z4.out (HOLD.out _ rfl) V4.out ?_; intro w5 x5 l5 b5; have B5 := Lib.hid b5) | (refine wpList_load_row rfl 49 _ rfl (w4.heap.size) rfl 49 cv4.toArray (0, 0) _ B5.out Try.underlying49 rfl Z4.out ?_; (try simp only [Act.put, List.setIfInBounds_toArray, List.set_cons_zero, List.set_cons_succ])))
  replace B0 := Lib.hid (B0.out.ext x5)
  have X5 := Lib.hid (X4.out.tr x5)
  have O5 := Lib.hid (Root.W_good.ext O4.out x5)
  have G5 : w4.heap.size < w5.heap.size := l5
  clear x5 b5 O4
  refine (impl_StampOf_w x0 cv4 _ _ (Root.W_R O5.out) N0).mono ?_
  rintro e w6 ⟨rfl, x6⟩
  replace B0 := Lib.hid (B0.out.ext x6)
  have B6 := Lib.hid (B5.out.ext x6)
  have O6 := Lib.hid (Root.W_good.ext O5.out x6)
  have X6 := Lib.hid (X5.out.tr x6)
  clear x6 B5 O5
  go_wp2
  refine wp_region_held_drew (S := fun w' => Ext w6 w') (by kernel_rfl) ((Ext.refl' _).dr) (fun hHeld => ?_)
  refine wpAnyH_take (i := 0) rfl (by kernel_rfl) (by kernel_rfl) (by kernel_rfl) (fun _ _ _ h => h) (yieldsIf_load_mid (by rfl) 49 _ rfl (w4.heap.size) 0 rfl cv4 _ (fun _ hw => Bx.range (B6.out.ext hw)) Try.underlying49 rfl (by rw [Z4.out, List.size_toArray])) hHeld ?_
  (try simp only [Act.put, List.setIfInBounds_toArray])
  refine wpAnyH_take (i := 1) rfl (by kernel_rfl) (by kernel_rfl) (by kernel_rfl) (fun _ _ _ h => h) (yieldsIf_load_mid (by rfl) 35 _ rfl (w.heap.size) 0 rfl cs0 _ (fun _ hw => Bx.range (B0.out.ext hw)) Try.underlying35 rfl (by rw [Z0.out, List.size_toArray])) hHeld ?_
  (try simp only [Act.put])
  refine wpAnyH_ready (rs := [2]) (by kernel_rfl) (by simp) (AllReadyH.cons rfl (fun K hK => ?_) AllReadyH.nil)
  go_simp
  go_wp2_with (go_at_call 10; refine (toRoot_any x0 _ _ _ (Root.R_good.ext H0.out (X6.out.tr hHeld)) N0).mono ?_; rintro e w7 ⟨cv7, rfl, o7, x7⟩)
  have O7 := Lib.hid o7
  have X7 := Lib.hid (Ext.tr hHeld x7)
  clear hHeld x7 o7
  refine hK.out _ _ X7.out (fun hHeld => ?_)
  clear hK K
  (try simp only [Act.put, List.setIfInBounds_toArray, List.set_cons_zero, List.set_cons_succ])
  refine wpAnyH_ready (rs := [3]) (by kernel_rfl) (by simp) (AllReadyH.cons rfl (fun K hK => ?_) AllReadyH.nil)
  go_simp
  go_wp2_with (go_at_call 12; refine (eqRoot_same x0 _ _ _ _ _ (Root.W_R (Root.W_good.ext O6.out hHeld)) (Root.W_R O7.out)).mono ?_; rintro e w8 ⟨rfl, x8⟩)
  have X8 := Lib.hid (Ext.tr hHeld x8)
  clear hHeld x8
  refine hK.out _ _ X8.out (fun hHeld => ?_)
  clear hK K
  (try simp only [Act.put, List.setIfInBounds_toArray, List.set_cons_zero, List.set_cons_succ])
  refine wpAnyH_ready (rs := [4]) (by kernel_rfl) (by simp) (AllReadyH.cons rfl (fun K hK => ?_) AllReadyH.nil)
  go_simp
  refine hK.out _ _ hHeld (fun hHeld => ?_)
  clear hK K
  (try simp only [Act.put, List.setIfInBounds_toArray, List.set_cons_zero, List.set_cons_succ])
  refine wpAnyH_done (by kernel_rfl) ?_ _
  have XE := Lib.hid (X6.out.tr X8.out)
  clear hHeld
  go_wp2
  go_ret
  exact ⟨rfl, XE.out⟩

end Go.Proofs.Ytfacckjfoajijaa
