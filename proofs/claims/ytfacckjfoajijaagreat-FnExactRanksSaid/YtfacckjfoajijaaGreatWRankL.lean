/- The contract of laws.FnExactRanks. No condition. -/
import Derived.Test.YtfacckjfoajijaaGreatWRankI
import Derived.Test.YtfacckjfoajijaaGreatWRankS
import Derived.Test.YtfacckjfoajijaaGreatWMarkW
import Derived.Test.YtfacckjfoajijaaGreatMine2
namespace Go.Proofs.YtfacckjfoajijaaGreat
open Go.RowKit Go.Deep
set_option linter.unusedSimpArgs false
set_option linter.unusedVariables false
theorem GWorld.size_info : (Tryz.prog.info? 43).map (·.size) = some 9 := by kernel_rfl
theorem GWorld.size_laws : (Tryz.prog.info? 32).map (·.size) = some 9 := by kernel_rfl
theorem GWorld.W_one {w : World} {S : Nat → Prop} {cs : List Value} {x : GWorld} (h : GWorld.W w S cs x) : ∀ v ∈ cs, v.oneCell' = true := by
  obtain ⟨A0, n0, c0, A1, n1, c1, A2, n2, c2, A3, n3, c3, A4, n4, c4, rfl⟩ := GWorld.W_cells h
  simp [Value.oneCell']

set_option maxRecDepth 8000 in
set_option maxHeartbeats 8000000 in
theorem law_Ranks (x0 : GWorld) (cs0 : List Value) (w : World) (h0 : GWorld.R w (fun _ => True) cs0 x0) :
    Calls Tryz.prog 3 #[.agg cs0.toArray] w fun e w' => e = .returned (.bool true) ∧ Ext w w' := by
  have H0 := Lib.hid h0
  have Z0 : Hid ((Tryz.prog.info? 32).map (·.size) = some cs0.toArray.size) := by show _ = _; rw [List.size_toArray, GWorld.R_good.len h0]; exact GWorld.size_laws
  have B0 : Hid (Bx (w.alloc (.cells cs0.toArray 32)) w.heap.size 32 cs0.toArray) := Bx.new' _ _ _ rfl
  have X0 : Hid (Ext w (w.alloc (.cells cs0.toArray 32))) := (Ext.refl' w).al _
  clear h0
  go_enter Tryz.func3, Tryz.ntmps3
  go_wp2_with (refine wpList_load_row rfl 32 _ rfl (w.heap.size) rfl 32 cs0.toArray (0, 0) _ B0.out Tryz.underlying32 rfl Z0.out ?_; (try simp only [Act.put, List.setIfInBounds_toArray, List.set_cons_zero, List.set_cons_succ]))
  refine (szGWorld_any x0 _ (1048576) _ _ (GWorld.R_good.ext H0.out X0.out) (by omega) (by omega)).mono ?_
  rintro e w1 ⟨r0, rfl, Q, x1⟩
  have Q0 := Lib.hid Q
  replace B0 := Lib.hid (B0.out.ext x1)
  have X1 := Lib.hid (X0.out.tr x1)
  clear x1 Q X0
  by_cases g0 : 0 ≤ r0
  rotate_left
  · have e0 : r0 = -1 := by have a := Q0.out; unfold Left at a; omega
    subst e0
    clear g0
    go_wp2
    go_ret
    exact ⟨rfl, X1.out⟩
  have N0 : GWorld.wt x0 ≤ 1048576 := by have a := Q0.out; unfold Left at a; omega
  have CA : Hid (GWorld.ca x0 ≤ 1000000000000) := by have a := GWorld.ca_le x0; show _ ≤ _; omega
  clear Q0
  go_wp2_with (refine wpList_load_row rfl 32 _ rfl (w.heap.size) rfl 32 cs0.toArray (0, 0) _ B0.out Tryz.underlying32 rfl Z0.out ?_; (try simp only [Act.put, List.setIfInBounds_toArray, List.set_cons_zero, List.set_cons_succ]))
  refine (toGWorld_any x0 _ _ _ (GWorld.R_good.ext H0.out X1.out) N0).mono ?_
  rintro e w2 ⟨cv2, rfl, o2, x2⟩
  have O2 := Lib.hid o2
  replace B0 := Lib.hid (B0.out.ext x2)
  have X2 := Lib.hid (X1.out.tr x2)
  clear x2 o2
  go_wp2_with fail
  refine (spec_Ranks x0 cv2 _ _ (GWorld.W_R O2.out) N0).mono ?_
  rintro e w3 ⟨rB3, rm3, rd3, rfl, r3, x3⟩
  have G3 : Hid (∀ g, (Value.slice rB3 rm3 rd3).ownBlock = some g → w2.heap.size ≤ g ∧ g < w3.heap.size) := fun g hg => r3.lt g hg
  have R3 := Lib.hid (own_base r3 (Nat.zero_le _))
  replace B0 := Lib.hid (B0.out.ext x3)
  have X3 := Lib.hid (X2.out.tr x3)
  clear r3
  clear x3
  clear O2
  have hm3 : rm3 ≤ 1048576 := by have h := own_len R3.out; rw [ints_length] at h; have h2 := (show (ranksOf x0).length ≤ 1048576 from Nat.le_trans (ranks_len x0) (roots_le x0 N0)); omega
  have LT0 : Hid (w.heap.size < w3.heap.size) := B0.out.lt
  go_wp2_with (refine wpList_load_row rfl 32 _ rfl (w.heap.size) rfl 32 cs0.toArray (0, 0) _ B0.out Tryz.underlying32 rfl Z0.out ?_; (try simp only [Act.put, List.setIfInBounds_toArray, List.set_cons_zero, List.set_cons_succ]))
  refine (toGWorld_any x0 _ _ _ (GWorld.R_good.ext H0.out X3.out) N0).mono ?_
  rintro e w4 ⟨cv4, rfl, o4, x4⟩
  have O4 := Lib.hid o4
  replace B0 := Lib.hid (B0.out.ext x4)
  have X4 := Lib.hid (X3.out.tr x4)
  replace R3 := Lib.hid (own_ext R3.out x4)
  have G4 : Hid (w3.heap.size ≤ w4.heap.size) := x4.size
  clear x4 o4
  have Z4 : Hid ((Tryz.prog.info? 43).map (·.size) = some cv4.toArray.size) := by show _ = _; rw [List.size_toArray, GWorld.W_good.len O4.out]; exact GWorld.size_info
  have V4 : Hid (cv4.toArray.all (·.oneCell') = true) := all_oneCell_toArray (GWorld.W_one O4.out)
  have hold : ∀ n, n = 9 → n = cv4.toArray.size := fun n e => by rw [e, List.size_toArray, GWorld.W_good.len O4.out]
  have HOLD := Lib.hid hold
  clear hold
  go_wp2_with (first | (refine wp_store_new w4 _ _ rfl 43 _ _ rfl rfl rfl cv4.toArray rfl Z4.out (HOLD.out _ rfl) V4.out ?_; intro w5 x5 l5 b5; have B5 := Lib.hid b5) | (refine wpList_load_row rfl 43 _ rfl (w4.heap.size) rfl 43 cv4.toArray (0, 0) _ B5.out Tryz.underlying43 rfl Z4.out ?_; (try simp only [Act.put, List.setIfInBounds_toArray, List.set_cons_zero, List.set_cons_succ])))
  replace B0 := Lib.hid (B0.out.ext x5)
  have X5 := Lib.hid (X4.out.tr x5)
  have O5 := Lib.hid (GWorld.W_good.ext O4.out x5)
  have L5 : Hid (w4.heap.size < w5.heap.size) := l5
  replace R3 := Lib.hid (own_ext R3.out x5)
  clear x5 b5 O4 l5
  refine (impl_Ranks x0 cv4 _ _ (GWorld.W_R O5.out) N0).mono ?_
  rintro e w6 ⟨rB6, rm6, rd6, rfl, r6, x6⟩
  have G6 : Hid (∀ g, (Value.slice rB6 rm6 rd6).ownBlock = some g → w5.heap.size ≤ g ∧ g < w6.heap.size) := fun g hg => r6.lt g hg
  have R6 := Lib.hid (own_base r6 (Nat.zero_le _))
  replace B0 := Lib.hid (B0.out.ext x6)
  have X6 := Lib.hid (X5.out.tr x6)
  clear r6
  have B6 := Lib.hid (B5.out.ext x6)
  have O6 := Lib.hid (GWorld.W_good.ext O5.out x6)
  replace R3 := Lib.hid (own_ext R3.out x6)
  clear x6
  clear B5 O5
  obtain rfl : rm3 = rm6 := by have h1 := own_len R3.out; have h2 := own_len R6.out; omega
  go_wp2_with fail
  refine (eqIntS_same rB6 rB3 rm3 rd6 rd3 (ranksOf x0) _ _ _ (ownSl R6.out) (ownSl R3.out) (by omega)).mono ?_
  rintro e w7 ⟨rfl, x7⟩
  replace B0 := Lib.hid (B0.out.ext x7)
  have X7 := Lib.hid (X6.out.tr x7)
  replace R3 := Lib.hid (own_ext R3.out x7)
  replace R6 := Lib.hid (own_ext R6.out x7)
  have B7 := Lib.hid (B6.out.ext x7)
  have O7 := Lib.hid (GWorld.W_good.ext O6.out x7)
  clear x7
  clear B6 O6
  go_wp2
  refine wp_region_held_drew (S := fun w' => Ext w7 w') (by kernel_rfl) ((Ext.refl' _).dr) (fun hHeld => ?_)
  refine wpAnyH_take (i := 0) rfl (by kernel_rfl) (by kernel_rfl) (by kernel_rfl) (fun _ _ _ h => h) (yieldsIf_load_mid (by rfl) 43 _ rfl (w4.heap.size) 0 rfl cv4 _ (fun _ hw => Bx.range (B7.out.ext hw)) Tryz.underlying43 rfl (by rw [Z4.out, List.size_toArray])) hHeld ?_
  (try simp only [Act.put, List.setIfInBounds_toArray, List.set_cons_zero, List.set_cons_succ])
  refine wpAnyH_take (i := 1) rfl (by kernel_rfl) (by kernel_rfl) (by kernel_rfl) (fun _ _ _ h => h) (yieldsIf_load_mid (by rfl) 32 _ rfl (w.heap.size) 0 rfl cs0 _ (fun _ hw => Bx.range (B0.out.ext hw)) Tryz.underlying32 rfl (by rw [Z0.out, List.size_toArray])) hHeld ?_
  (try simp only [Act.put, List.setIfInBounds_toArray, List.set_cons_zero, List.set_cons_succ])
  refine wpAnyH_ready (rs := [2]) (by kernel_rfl) (by simp) (AllReadyH.cons rfl (fun K hK => ?_) AllReadyH.nil)
  go_simp
  go_wp2_with (go_at_call 6; refine (toGWorld_any x0 _ _ _ (GWorld.R_good.ext H0.out (X7.out.tr hHeld)) N0).mono ?_; rintro e w8 ⟨cv8, rfl, o8, x8⟩)
  have O8 := Lib.hid o8
  have X8 := Lib.hid (Ext.tr hHeld x8)
  clear hHeld x8 o8
  refine hK.out _ _ X8.out (fun hHeld => ?_)
  clear hK K
  (try simp only [Act.put, List.setIfInBounds_toArray, List.set_cons_zero, List.set_cons_succ])
  refine wpAnyH_ready (rs := [3]) (by kernel_rfl) (by simp) (AllReadyH.cons rfl (fun K hK => ?_) AllReadyH.nil)
  go_simp
  go_wp2_with (go_at_call 9; refine (eqGWorld_same x0 _ _ _ _ _ (GWorld.W_R (GWorld.W_good.ext O7.out hHeld)) (GWorld.W_R O8.out)).mono ?_; rintro e w9 ⟨rfl, x9⟩)
  have X9 := Lib.hid (Ext.tr hHeld x9)
  clear hHeld x9
  refine hK.out _ _ X9.out (fun hHeld => ?_)
  clear hK K
  (try simp only [Act.put, List.setIfInBounds_toArray, List.set_cons_zero, List.set_cons_succ])
  refine wpAnyH_ready (rs := [4]) (by kernel_rfl) (by simp) (AllReadyH.cons rfl (fun K hK => ?_) AllReadyH.nil)
  go_simp
  refine hK.out _ _ hHeld (fun hHeld => ?_)
  clear hK K
  (try simp only [Act.put, List.setIfInBounds_toArray, List.set_cons_zero, List.set_cons_succ])
  refine wpAnyH_done (by kernel_rfl) ?_ _
  have x9 := X9.out
  replace B0 := Lib.hid (B0.out.ext x9)
  have B9 := Lib.hid (B7.out.ext x9)
  have O9 := Lib.hid (GWorld.W_good.ext O7.out x9)
  replace R3 := Lib.hid (own_ext R3.out x9)
  replace R6 := Lib.hid (own_ext R6.out x9)
  have X10 := Lib.hid (X7.out.tr x9)
  clear hHeld x9 X9 X8 B7 O7 O8
  go_wp2_with (refine wpList_load_row rfl 43 _ rfl (w4.heap.size) rfl 43 cv4.toArray (0, 0) _ B9.out Tryz.underlying43 rfl Z4.out ?_; (try simp only [Act.put, List.setIfInBounds_toArray, List.set_cons_zero, List.set_cons_succ]))
  refine (shakeGWorld_any x0 cv4 1 _ _ O9.out (fun g hg => by have h1 := hg.2; have h2 := B9.out.lt; omega) (by omega) (by have := CA.out; omega)).mono ?_
  rintro e w11 ⟨rfl, cc⟩
  replace B0 := Lib.hid (B0.out.chg cc (fun qq => by have h1 := qq.1; have h3 := LT0.out; omega))
  replace R3 := Lib.hid (own_chg R3.out cc (fun g hg qq => by have h1 := (G3.out g hg).2; have h2 := qq.1; omega))
  replace R6 := Lib.hid (own_chg R6.out cc (fun g hg qq => by have h1 := (G6.out g hg).1; have h2 := qq.2; have h3 := L5.out; omega))
  have X11 := Lib.hid (cc.ext X10.out (fun g hg => by have h1 := hg.1; have h2 := X3.out.size; omega))
  have hk0 : (0 : Int) ≤ 1 + (GWorld.ca x0 : Nat) := by omega
  clear cc B9 O9
  go_wp2_with fail
  refine (eqIntS_same rB6 rB3 rm3 rd6 rd3 (ranksOf x0) _ _ _ (ownSl R6.out) (ownSl R3.out) (by omega)).mono ?_
  rintro e w12 ⟨rfl, x12⟩
  replace B0 := Lib.hid (B0.out.ext x12)
  have X12 := Lib.hid (X11.out.tr x12)
  replace R3 := Lib.hid (own_ext R3.out x12)
  replace R6 := Lib.hid (own_ext R6.out x12)
  clear x12
  have hm3i : (rm3 : Int) ≤ 1048576 := by omega
  go_wp2_with fail
  refine (markIntS_any rB6 rm3 rd6 0 _ 1 _ R6.out (by omega) (by omega)).mono ?_
  rintro e w13 ⟨rfl, r13, cc⟩
  replace B0 := Lib.hid (B0.out.chg cc (fun qq => by have h1 := (G6.out _ qq).1; have h3 := LT0.out; have h4 := G4.out; have h5 := L5.out; omega))
  replace R3 := Lib.hid (own_chg R3.out cc (fun g hg qq => by have h1 := (G3.out g hg).2; have h2 := (G6.out g qq).1; have h3 := L5.out; have h4 := G4.out; omega))
  have M6 := Lib.hid r13
  have X13 := Lib.hid (cc.ext X12.out (fun g hg => by have h1 := (G6.out g hg).1; have h2 := X5.out.size; omega))
  clear cc r13 R6
  have hq2 : (0 : Int) ≤ 1 + (rm3 : Int) := by omega
  have hq3 : ((1 + (rm3 : Int)) != (1 + (rm3 : Int))) = false := by simp
  go_wp2_with fail
  refine (heldIntS_any _ _ _ 1 _ _ (ownSl M6.out) (by omega) (by omega)).mono ?_
  rintro e w14 ⟨rfl, hx14⟩
  have x14 := Ext.of_eq hx14
  clear hx14
  replace B0 := Lib.hid (B0.out.ext x14)
  have X14 := Lib.hid (X13.out.tr x14)
  replace R3 := Lib.hid (own_ext R3.out x14)
  replace M6 := Lib.hid (own_ext M6.out x14)
  clear x14
  go_wp2_with (refine wpList_load_row rfl 32 _ rfl (w.heap.size) rfl 32 cs0.toArray (0, 0) _ B0.out Tryz.underlying32 rfl Z0.out ?_; (try simp only [Act.put, List.setIfInBounds_toArray, List.set_cons_zero, List.set_cons_succ]))
  refine (toGWorld_any x0 _ _ _ (GWorld.R_good.ext H0.out X14.out) N0).mono ?_
  rintro e w15 ⟨cv15, rfl, o15, x15⟩
  have O15 := Lib.hid o15
  replace B0 := Lib.hid (B0.out.ext x15)
  have X15 := Lib.hid (X14.out.tr x15)
  replace R3 := Lib.hid (own_ext R3.out x15)
  replace M6 := Lib.hid (own_ext M6.out x15)
  clear x15 o15
  go_wp2_with fail
  refine (impl_Ranks x0 cv15 _ _ (GWorld.W_R O15.out) N0).mono ?_
  rintro e w16 ⟨rB16, rm16, rd16, rfl, r16, x16⟩
  have G16 : Hid (∀ g, (Value.slice rB16 rm16 rd16).ownBlock = some g → w15.heap.size ≤ g ∧ g < w16.heap.size) := fun g hg => r16.lt g hg
  have R16 := Lib.hid (own_base r16 (Nat.zero_le _))
  replace B0 := Lib.hid (B0.out.ext x16)
  have X16 := Lib.hid (X15.out.tr x16)
  clear r16
  replace R3 := Lib.hid (own_ext R3.out x16)
  replace M6 := Lib.hid (own_ext M6.out x16)
  clear x16
  obtain rfl : rm3 = rm16 := by have h1 := own_len R3.out; have h2 := own_len R16.out; omega
  go_wp2_with fail
  refine (eqIntS_same rB16 rB3 rm3 rd16 rd3 (ranksOf x0) _ _ _ (ownSl R16.out) (ownSl R3.out) (by omega)).mono ?_
  rintro e w17 ⟨rfl, x17⟩
  replace B0 := Lib.hid (B0.out.ext x17)
  have X17 := Lib.hid (X16.out.tr x17)
  replace M6 := Lib.hid (own_ext M6.out x17)
  clear x17
  go_wp2_with fail
  refine (heldIntS_any _ _ _ 1 _ _ (ownSl M6.out) (by omega) (by omega)).mono ?_
  rintro e w18 ⟨rfl, hx18⟩
  have x18 := Ext.of_eq hx18
  clear hx18
  replace B0 := Lib.hid (B0.out.ext x18)
  have X18 := Lib.hid (X17.out.tr x18)
  clear x18
  go_wp2
  go_ret
  exact ⟨rfl, X18.out⟩

end Go.Proofs.YtfacckjfoajijaaGreat
