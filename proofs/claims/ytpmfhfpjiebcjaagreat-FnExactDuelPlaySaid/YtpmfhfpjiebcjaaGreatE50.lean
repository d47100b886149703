/- The contract of laws.FnExactDuelPlay. No condition but lengths. -/
import Derived.Test.YtpmfhfpjiebcjaaGreatE00
import Derived.Test.YtpmfhfpjiebcjaaGreatE49
namespace Go.Proofs.YtpmfhfpjiebcjaaGreat
open Go.RowKit Go.Deep
set_option linter.unusedSimpArgs false
set_option linter.unusedVariables false

set_option maxHeartbeats 8000000 in
theorem law_DuelPlay (A0 : Option Addr) (n0 c0 : Nat) (l0 : List Int) (A1 : Option Addr) (n1 c1 : Nat) (l1 : List Job) (A2 : Option Addr) (n2 c2 : Nat) (l2 : List Int) (w : World) (hs0 : Sl w (fun _ => True) 1 A0 n0 (ints l0)) (hm0 : n0 ≤ 9223372036854775807) (hs1 : SlR Job.R 2 w (fun _ => True) A1 n1 l1) (hm1 : n1 ≤ 9223372036854775807) (hs2 : Sl w (fun _ => True) 1 A2 n2 (ints l2)) (hm2 : n2 ≤ 9223372036854775807) :
  Calls Tryz.prog 3 #[.slice A0 n0 c0,.slice A1 n1 c1,.slice A2 n2 c2] w fun e w' => e = .returned (.bool true) ∧ Ext w w':=by
 have hsO0:=hs0
 have hsO2:=hs2
 have hsO1:=hs1
 by_cases hn0 : n0 ≤ 1048576
 rotate_left
 ·go_enter Tryz.func3,Tryz.ntmps3
  go_wp2
  go_ret
  exact ⟨rfl,(Ext.refl' w)⟩
 by_cases hn2 : n2 ≤ 1048576
 rotate_left
 ·go_enter Tryz.func3,Tryz.ntmps3
  go_wp2
  go_ret
  exact ⟨rfl,(Ext.refl' w)⟩
 have hN0 : n0 ≤ 1048576:=by omega
 have hN2 : n2 ≤ 1048576:=by omega
 go_enter Tryz.func3,Tryz.ntmps3
 go_wp2_with fail
 refine (szJobS_any _ _ _ l1 (1048576) _ _ hs1 hm1 (by omega) (by omega)).mono ?_
 rintro e w1 ⟨r0,rfl,Q0,x1⟩
 have Q1:=Lib.hid Q0
 clear Q0
 have zw1 : w.heap.size + 0 ≤ w1.heap.size:=by have h:=x1.size;(try simp at h);omega
 have xx:=x1
 replace hs0:=hsO0.ext xx
 replace hs2:=hsO2.ext xx
 replace hs1:=hsO1.ext Job.R_good xx
 clear x1
 by_cases g0 : 0 ≤ r0
 rotate_left
 ·have e0 : r0 = -1:=by have a:=Q1.out;unfold Left at a;omega
  subst e0
  clear g0
  go_wp2
  go_ret
  exact ⟨rfl,xx⟩
 have hW1 : wtl Job.wt l1 ≤ 1048576:=by have a:=Q1.out;unfold Left at a;omega
 clear Q1
 have hN1 : n1 ≤ 1048576:=by have a:=hsO1.1;have b:=wtl_len Job.wt l1;omega
 have hA1 : ∀ x ∈ l1,Job.wt x ≤ 1048576:=fun x hx => by obtain ⟨k,hk⟩:=List.mem_iff_getElem?.1 hx;exact Nat.le_trans (wtl_at Job.wt hk) hW1
 have hC1 : ctl Job.ct l1 ≤ 2 * wtl Job.wt l1:=ctl_bound fun x => by unfold Job.ct Job.wt;omega
 have HA1:=Lib.hid hA1
 clear hA1
 go_wp2_with fail
 refine (toIntS_any _ _ _ _ _ _ hs0 hN0).mono ?_
 rintro e w2 ⟨B2_0,d2_0,rfl,o2_0,x2⟩
 have zw2 : w1.heap.size + 0 ≤ w2.heap.size:=by have h:=x2.size;(try simp at h);omega
 replace xx:=xx.tr x2
 replace hs0:=hsO0.ext xx
 replace hs2:=hsO2.ext xx
 replace hs1:=hsO1.ext Job.R_good xx
 clear x2
 have r2_0 : Hid (∀ g,(Value.slice B2_0 n0 d2_0).ownBlock = some g → w1.heap.size + 0 ≤ g ∧ g < w2.heap.size):=fun g hg => by have h:=o2_0.lt g hg;(try simp only [World.heap_alloc_size] at h);omega
 go_wp2_with fail
 refine (toJobS_any _ _ _ _ _ _ hs1 hN1 hW1).mono ?_
 rintro e w3 ⟨B3_0,d3_0,rfl,p3_0,x3⟩
 have o3_0:=Lib.hid p3_0
 clear p3_0
 have zw3 : w2.heap.size + 0 ≤ w3.heap.size:=by have h:=x3.size;(try simp at h);omega
 replace o2_0:=own_ext o2_0 x3
 replace xx:=xx.tr x3
 replace hs0:=hsO0.ext xx
 replace hs2:=hsO2.ext xx
 replace hs1:=hsO1.ext Job.R_good xx
 clear x3
 go_wp2_with fail
 refine (toIntS_any _ _ _ _ _ _ hs2 hN2).mono ?_
 rintro e w4 ⟨B4_0,d4_0,rfl,o4_0,x4⟩
 have zw4 : w3.heap.size + 0 ≤ w4.heap.size:=by have h:=x4.size;(try simp at h);omega
 replace o2_0:=own_ext o2_0 x4
 replace o3_0:=Lib.hid (SlW.ext Job.W_good o3_0.out x4)
 replace xx:=xx.tr x4
 replace hs0:=hsO0.ext xx
 replace hs2:=hsO2.ext xx
 replace hs1:=hsO1.ext Job.R_good xx
 clear x4
 have r4_0 : Hid (∀ g,(Value.slice B4_0 n2 d4_0).ownBlock = some g → w3.heap.size + 0 ≤ g ∧ g < w4.heap.size):=fun g hg => by have h:=o4_0.lt g hg;(try simp only [World.heap_alloc_size] at h);omega
 go_wp2_with fail
 refine (spec_DuelPlayR _ _ _ _ _ _ _ _ _ _ _ _ _ _ (ownSl o2_0) hN0 _ (SlW.slr Job.R_good Job.W_R o3_0.out) hN1 HA1.out _ (ownSl o4_0) hN2).mono ?_
 rintro e w5 ⟨B5_0_0,m5_0_0,d5_0_0,B5_0_1,m5_0_1,d5_0_1,B5_0_2,m5_0_2,d5_0_2,rfl,o5_0,x5⟩
 have zw5 : w4.heap.size + 0 ≤ w5.heap.size:=by have h:=x5.size;(try simp at h);omega
 replace o2_0:=own_ext o2_0 x5
 replace o3_0:=Lib.hid (SlW.ext Job.W_good o3_0.out x5)
 replace o4_0:=own_ext o4_0 x5
 replace xx:=xx.tr x5
 replace hs0:=hsO0.ext xx
 replace hs2:=hsO2.ext xx
 replace hs1:=hsO1.ext Job.R_good xx
 clear x5
 clear o2_0
 clear o3_0
 clear o4_0
 have bd0 : Duel.ca (duelOf (duelPlay l0 l1 l2)) ≤ 1000000000000:=DB.ca (play_db _ _ _ (by have a:=hsO0.len;omega))
 go_wp2_with fail
 refine (toIntS_any _ _ _ _ _ _ (hs0.ext ((Ext.refl' w5).al _)) hN0).mono ?_
 rintro e w6 ⟨B6_0,d6_0,rfl,o6_0,x6⟩
 have bs0 : Hid (Bx w6 (w5.heap.size) 31 #[.int .i64 (duelOf (duelPlay l0 l1 l2)).mem_.clock_,.slice B5_0_0 m5_0_0 d5_0_0,.slice B5_0_1 m5_0_1 d5_0_1,.slice B5_0_2 m5_0_2 d5_0_2]):=Bx.ext (Bx.new' _ _ _ rfl) x6
 have zw6 : w5.heap.size + 1 ≤ w6.heap.size:=by have h:=x6.size;(try simp at h);omega
 replace x6:=Ext.tr ((Ext.refl' w5).al _) x6
 replace o5_0:=Lib.hid (Duel.W_good.ext o5_0.out x6)
 replace xx:=xx.tr x6
 replace hs0:=hsO0.ext xx
 replace hs2:=hsO2.ext xx
 replace hs1:=hsO1.ext Job.R_good xx
 clear x6
 have r6_0 : Hid (∀ g,(Value.slice B6_0 n0 d6_0).ownBlock = some g → w5.heap.size + 1 ≤ g ∧ g < w6.heap.size):=fun g hg => by have h:=o6_0.lt g hg;(try simp only [World.heap_alloc_size] at h);omega
 go_wp2_with fail
 refine (toJobS_any _ _ _ _ _ _ hs1 hN1 hW1).mono ?_
 rintro e w7 ⟨B7_0,d7_0,rfl,p7_0,x7⟩
 have o7_0:=Lib.hid p7_0
 clear p7_0
 replace bs0:=Lib.hid (bs0.out.ext (Ext.tr (Ext.refl' w6) x7))
 have zw7 : w6.heap.size + 0 ≤ w7.heap.size:=by have h:=x7.size;(try simp at h);omega
 replace o5_0:=Lib.hid (Duel.W_good.ext o5_0.out x7)
 replace o6_0:=own_ext o6_0 x7
 replace xx:=xx.tr x7
 replace hs0:=hsO0.ext xx
 replace hs2:=hsO2.ext xx
 replace hs1:=hsO1.ext Job.R_good xx
 clear x7
 go_wp2_with fail
 refine (toIntS_any _ _ _ _ _ _ hs2 hN2).mono ?_
 rintro e w8 ⟨B8_0,d8_0,rfl,o8_0,x8⟩
 replace bs0:=Lib.hid (bs0.out.ext (Ext.tr (Ext.refl' w7) x8))
 have zw8 : w7.heap.size + 0 ≤ w8.heap.size:=by have h:=x8.size;(try simp at h);omega
 replace o5_0:=Lib.hid (Duel.W_good.ext o5_0.out x8)
 replace o6_0:=own_ext o6_0 x8
 replace o7_0:=Lib.hid (SlW.ext Job.W_good o7_0.out x8)
 replace xx:=xx.tr x8
 replace hs0:=hsO0.ext xx
 replace hs2:=hsO2.ext xx
 replace hs1:=hsO1.ext Job.R_good xx
 clear x8
 have r8_0 : Hid (∀ g,(Value.slice B8_0 n2 d8_0).ownBlock = some g → w7.heap.size + 0 ≤ g ∧ g < w8.heap.size):=fun g hg => by have h:=o8_0.lt g hg;(try simp only [World.heap_alloc_size] at h);omega
 go_wp2_with fail
 refine (impl_DuelPlayR _ _ _ _ _ _ _ _ _ _ _ _ _ _ (ownSl o6_0) hN0 _ (SlW.slr Job.R_good Job.W_R o7_0.out) hN1 HA1.out _ (ownSl o8_0) hN2).mono ?_
 rintro e w9 ⟨B9_0_0,m9_0_0,d9_0_0,B9_0_1,m9_0_1,d9_0_1,B9_0_2,m9_0_2,d9_0_2,rfl,o9_0,x9⟩
 replace bs0:=Lib.hid (bs0.out.ext (Ext.tr (Ext.refl' w8) x9))
 have zw9 : w8.heap.size + 0 ≤ w9.heap.size:=by have h:=x9.size;(try simp at h);omega
 replace o5_0:=Lib.hid (Duel.W_good.ext o5_0.out x9)
 replace o6_0:=own_ext o6_0 x9
 replace o7_0:=Lib.hid (SlW.ext Job.W_good o7_0.out x9)
 replace o8_0:=own_ext o8_0 x9
 replace xx:=xx.tr x9
 replace hs0:=hsO0.ext xx
 replace hs2:=hsO2.ext xx
 replace hs1:=hsO1.ext Job.R_good xx
 clear x9
 have ls0 : w5.heap.size < w9.heap.size:=bs0.out.lt
 have es0_0 : w9.cell? ⟨w5.heap.size,0,none⟩ = some (.int .i64 (duelOf (duelPlay l0 l1 l2)).mem_.clock_):=bs0.out.cell 0
 have es0_1 : w9.cell? ⟨w5.heap.size,1,none⟩ = some (.slice B5_0_0 m5_0_0 d5_0_0):=bs0.out.cell 1
 have es0_2 : w9.cell? ⟨w5.heap.size,2,none⟩ = some (.slice B5_0_1 m5_0_1 d5_0_1):=bs0.out.cell 2
 have es0_3 : w9.cell? ⟨w5.heap.size,3,none⟩ = some (.slice B5_0_2 m5_0_2 d5_0_2):=bs0.out.cell 3
 go_wp2_with fail
 refine (eqDuel_same _ _ _ _ _ _ (Duel.W_R (Duel.W_good.ext o9_0.out ((Ext.refl' w9).al _))) (Duel.W_R (Duel.W_good.ext o5_0.out ((Ext.refl' w9).al _)))).mono ?_
 rintro e w10 ⟨rfl,x10⟩
 clear ls0 es0_0 es0_1 es0_2 es0_3
 replace bs0:=Lib.hid (bs0.out.ext (Ext.tr ((Ext.refl' w9).al _) x10))
 have bg0 : Hid (Bx w10 (w9.heap.size) 31 #[.int .i64 (duelOf (duelPlay l0 l1 l2)).mem_.clock_,.slice B9_0_0 m9_0_0 d9_0_0,.slice B9_0_1 m9_0_1 d9_0_1,.slice B9_0_2 m9_0_2 d9_0_2]):=Bx.ext (Bx.new' _ _ _ rfl) x10
 have zw10 : w9.heap.size + 1 ≤ w10.heap.size:=by have h:=x10.size;(try simp at h);omega
 replace x10:=Ext.tr ((Ext.refl' w9).al _) x10
 replace o5_0:=Lib.hid (Duel.W_good.ext o5_0.out x10)
 replace o6_0:=own_ext o6_0 x10
 replace o7_0:=Lib.hid (SlW.ext Job.W_good o7_0.out x10)
 replace o8_0:=own_ext o8_0 x10
 replace o9_0:=Lib.hid (Duel.W_good.ext o9_0.out x10)
 replace xx:=xx.tr x10
 replace hs0:=hsO0.ext xx
 replace hs2:=hsO2.ext xx
 replace hs1:=hsO1.ext Job.R_good xx
 clear x10
 go_wp2_with fail
 refine (toIntS_any _ _ _ _ _ _ hs0 hN0).mono ?_
 rintro e w11 ⟨B11_0,d11_0,rfl,o11_0,x11⟩
 replace bs0:=Lib.hid (bs0.out.ext (Ext.tr (Ext.refl' w10) x11))
 replace bg0:=Lib.hid (bg0.out.ext (Ext.tr (Ext.refl' w10) x11))
 have zw11 : w10.heap.size + 0 ≤ w11.heap.size:=by have h:=x11.size;(try simp at h);omega
 replace o5_0:=Lib.hid (Duel.W_good.ext o5_0.out x11)
 replace o6_0:=own_ext o6_0 x11
 replace o7_0:=Lib.hid (SlW.ext Job.W_good o7_0.out x11)
 replace o8_0:=own_ext o8_0 x11
 replace o9_0:=Lib.hid (Duel.W_good.ext o9_0.out x11)
 replace xx:=xx.tr x11
 replace hs0:=hsO0.ext xx
 replace hs2:=hsO2.ext xx
 replace hs1:=hsO1.ext Job.R_good xx
 clear x11
 have r11_0 : Hid (∀ g,(Value.slice B11_0 n0 d11_0).ownBlock = some g → w10.heap.size + 0 ≤ g ∧ g < w11.heap.size):=fun g hg => by have h:=o11_0.lt g hg;(try simp only [World.heap_alloc_size] at h);omega
 go_wp2_with fail
 refine (eqIntS_same _ _ _ _ _ _ _ _ _ (ownSl o6_0) (ownSl o11_0) (by omega)).mono ?_
 rintro e w12 ⟨rfl,x12⟩
 replace bs0:=Lib.hid (bs0.out.ext (Ext.tr (Ext.refl' w11) x12))
 replace bg0:=Lib.hid (bg0.out.ext (Ext.tr (Ext.refl' w11) x12))
 have zw12 : w11.heap.size + 0 ≤ w12.heap.size:=by have h:=x12.size;(try simp at h);omega
 replace o5_0:=Lib.hid (Duel.W_good.ext o5_0.out x12)
 replace o6_0:=own_ext o6_0 x12
 replace o7_0:=Lib.hid (SlW.ext Job.W_good o7_0.out x12)
 replace o8_0:=own_ext o8_0 x12
 replace o9_0:=Lib.hid (Duel.W_good.ext o9_0.out x12)
 replace o11_0:=own_ext o11_0 x12
 replace xx:=xx.tr x12
 replace hs0:=hsO0.ext xx
 replace hs2:=hsO2.ext xx
 replace hs1:=hsO1.ext Job.R_good xx
 clear x12
 clear o11_0
 go_wp2_with fail
 refine (toJobS_any _ _ _ _ _ _ hs1 hN1 hW1).mono ?_
 rintro e w13 ⟨B13_0,d13_0,rfl,p13_0,x13⟩
 have o13_0:=Lib.hid p13_0
 clear p13_0
 replace bs0:=Lib.hid (bs0.out.ext (Ext.tr (Ext.refl' w12) x13))
 replace bg0:=Lib.hid (bg0.out.ext (Ext.tr (Ext.refl' w12) x13))
 have zw13 : w12.heap.size + 0 ≤ w13.heap.size:=by have h:=x13.size;(try simp at h);omega
 replace o5_0:=Lib.hid (Duel.W_good.ext o5_0.out x13)
 replace o6_0:=own_ext o6_0 x13
 replace o7_0:=Lib.hid (SlW.ext Job.W_good o7_0.out x13)
 replace o8_0:=own_ext o8_0 x13
 replace o9_0:=Lib.hid (Duel.W_good.ext o9_0.out x13)
 replace xx:=xx.tr x13
 replace hs0:=hsO0.ext xx
 replace hs2:=hsO2.ext xx
 replace hs1:=hsO1.ext Job.R_good xx
 clear x13
 go_wp2_with fail
 refine (eqJobS_same _ _ _ _ _ _ _ _ _ (SlW.slr Job.R_good Job.W_R o7_0.out) (SlW.slr Job.R_good Job.W_R o13_0.out) (by omega)).mono ?_
 rintro e w14 ⟨rfl,x14⟩
 replace bs0:=Lib.hid (bs0.out.ext (Ext.tr (Ext.refl' w13) x14))
 replace bg0:=Lib.hid (bg0.out.ext (Ext.tr (Ext.refl' w13) x14))
 have zw14 : w13.heap.size + 0 ≤ w14.heap.size:=by have h:=x14.size;(try simp at h);omega
 replace o5_0:=Lib.hid (Duel.W_good.ext o5_0.out x14)
 replace o6_0:=own_ext o6_0 x14
 replace o7_0:=Lib.hid (SlW.ext Job.W_good o7_0.out x14)
 replace o8_0:=own_ext o8_0 x14
 replace o9_0:=Lib.hid (Duel.W_good.ext o9_0.out x14)
 replace o13_0:=Lib.hid (SlW.ext Job.W_good o13_0.out x14)
 replace xx:=xx.tr x14
 replace hs0:=hsO0.ext xx
 replace hs2:=hsO2.ext xx
 replace hs1:=hsO1.ext Job.R_good xx
 clear x14
 clear o13_0
 go_wp2_with fail
 refine (toIntS_any _ _ _ _ _ _ hs2 hN2).mono ?_
 rintro e w15 ⟨B15_0,d15_0,rfl,o15_0,x15⟩
 replace bs0:=Lib.hid (bs0.out.ext (Ext.tr (Ext.refl' w14) x15))
 replace bg0:=Lib.hid (bg0.out.ext (Ext.tr (Ext.refl' w14) x15))
 have zw15 : w14.heap.size + 0 ≤ w15.heap.size:=by have h:=x15.size;(try simp at h);omega
 replace o5_0:=Lib.hid (Duel.W_good.ext o5_0.out x15)
 replace o6_0:=own_ext o6_0 x15
 replace o7_0:=Lib.hid (SlW.ext Job.W_good o7_0.out x15)
 replace o8_0:=own_ext o8_0 x15
 replace o9_0:=Lib.hid (Duel.W_good.ext o9_0.out x15)
 replace xx:=xx.tr x15
 replace hs0:=hsO0.ext xx
 replace hs2:=hsO2.ext xx
 replace hs1:=hsO1.ext Job.R_good xx
 clear x15
 have r15_0 : Hid (∀ g,(Value.slice B15_0 n2 d15_0).ownBlock = some g → w14.heap.size + 0 ≤ g ∧ g < w15.heap.size):=fun g hg => by have h:=o15_0.lt g hg;(try simp only [World.heap_alloc_size] at h);omega
 go_wp2_with fail
 refine (eqIntS_same _ _ _ _ _ _ _ _ _ (ownSl o8_0) (ownSl o15_0) (by omega)).mono ?_
 rintro e w16 ⟨rfl,x16⟩
 replace bs0:=Lib.hid (bs0.out.ext (Ext.tr (Ext.refl' w15) x16))
 replace bg0:=Lib.hid (bg0.out.ext (Ext.tr (Ext.refl' w15) x16))
 have zw16 : w15.heap.size + 0 ≤ w16.heap.size:=by have h:=x16.size;(try simp at h);omega
 replace o5_0:=Lib.hid (Duel.W_good.ext o5_0.out x16)
 replace o6_0:=own_ext o6_0 x16
 replace o7_0:=Lib.hid (SlW.ext Job.W_good o7_0.out x16)
 replace o8_0:=own_ext o8_0 x16
 replace o9_0:=Lib.hid (Duel.W_good.ext o9_0.out x16)
 replace o15_0:=own_ext o15_0 x16
 replace xx:=xx.tr x16
 replace hs0:=hsO0.ext xx
 replace hs2:=hsO2.ext xx
 replace hs1:=hsO1.ext Job.R_good xx
 clear x16
 clear o15_0
 go_wp2_with fail
 refine (markIntS_any _ _ _ _ _ (1) _ o6_0 (by omega) (by omega)).mono ?_
 rintro e w17 ⟨rfl,o17_0,cc⟩
 have n_b : Hid (Bx w17 (w5.heap.size) 31 #[.int .i64 (duelOf (duelPlay l0 l1 l2)).mem_.clock_,.slice B5_0_0 m5_0_0 d5_0_0,.slice B5_0_1 m5_0_1 d5_0_1,.slice B5_0_2 m5_0_2 d5_0_2]):=Bx.chg (bs0.out) cc (fun qq => by have h2:=r6_0.out _ qq;skip;omega)
 clear bs0
 have bs0:=n_b
 clear n_b
 have n_b : Hid (Bx w17 (w9.heap.size) 31 #[.int .i64 (duelOf (duelPlay l0 l1 l2)).mem_.clock_,.slice B9_0_0 m9_0_0 d9_0_0,.slice B9_0_1 m9_0_1 d9_0_1,.slice B9_0_2 m9_0_2 d9_0_2]):=Bx.chg (bg0.out) cc (fun qq => by have h2:=r6_0.out _ qq;skip;omega)
 clear bg0
 have bg0:=n_b
 clear n_b
 have zw17 : w16.heap.size + 0 ≤ w17.heap.size:=by have h:=cc.size;(try simp at h);omega
 replace o5_0:=Lib.hid (Duel.W_good.chg o5_0.out cc (fun g hg qq => by have h2:=r6_0.out _ qq;have h1:=hg;omega))
 replace o7_0:=Lib.hid (SlW.chg Job.W_good o7_0.out cc (fun g hg qq => by have h2:=r6_0.out _ qq;have h1:=hg;omega))
 replace o8_0:=own_chg o8_0 cc (fun g hg qq => by have h2:=r6_0.out _ qq;have h1:=r8_0.out g hg;omega)
 replace o9_0:=Lib.hid (Duel.W_good.chg o9_0.out cc (fun g hg qq => by have h2:=r6_0.out _ qq;have h1:=hg;omega))
 replace xx:=cc.ext xx (fun g qq => by have h2:=r6_0.out _ qq;skip;omega)
 replace hs0:=hsO0.ext xx
 replace hs2:=hsO2.ext xx
 replace hs1:=hsO1.ext Job.R_good xx
 clear cc
 clear o6_0
 have r17_0:=r6_0
 clear o17_0
 go_wp2_with fail
 refine (markJobS_any _ _ _ _ (1 + (n0 : Int)) _ _ o7_0.out (fun g hg => by have hg2:=hg.2;(try simp only [World.heap_alloc_size]);omega) (by omega) (by omega) (by omega)).mono ?_
 rintro e w18 ⟨rfl,o18_M,cc⟩
 replace o18_M:=Lib.hid o18_M
 have n_b : Hid (Bx w18 (w5.heap.size) 31 #[.int .i64 (duelOf (duelPlay l0 l1 l2)).mem_.clock_,.slice B5_0_0 m5_0_0 d5_0_0,.slice B5_0_1 m5_0_1 d5_0_1,.slice B5_0_2 m5_0_2 d5_0_2]):=Bx.chg (bs0.out) cc (fun qq => by have h2:=qq;skip;omega)
 clear bs0
 have bs0:=n_b
 clear n_b
 have n_b : Hid (Bx w18 (w9.heap.size) 31 #[.int .i64 (duelOf (duelPlay l0 l1 l2)).mem_.clock_,.slice B9_0_0 m9_0_0 d9_0_0,.slice B9_0_1 m9_0_1 d9_0_1,.slice B9_0_2 m9_0_2 d9_0_2]):=Bx.chg (bg0.out) cc (fun qq => by have h2:=qq;skip;omega)
 clear bg0
 have bg0:=n_b
 clear n_b
 have zw18 : w17.heap.size + 0 ≤ w18.heap.size:=by have h:=cc.size;(try simp at h);omega
 replace o5_0:=Lib.hid (Duel.W_good.chg o5_0.out cc (fun g hg qq => by have h2:=qq;have h1:=hg;omega))
 replace o8_0:=own_chg o8_0 cc (fun g hg qq => by have h2:=qq;have h1:=r8_0.out g hg;omega)
 replace o9_0:=Lib.hid (Duel.W_good.chg o9_0.out cc (fun g hg qq => by have h2:=qq;have h1:=hg;omega))
 replace xx:=cc.ext xx (fun g qq => by have h2:=qq;skip;omega)
 replace hs0:=hsO0.ext xx
 replace hs2:=hsO2.ext xx
 replace hs1:=hsO1.ext Job.R_good xx
 clear cc
 clear o7_0
 clear o18_M
 go_wp2_with fail
 refine (markIntS_any _ _ _ _ _ (1 + (n0 : Int) + (ctl Job.ct l1 : Nat)) _ o8_0 (by omega) (by omega)).mono ?_
 rintro e w19 ⟨rfl,o19_0,cc⟩
 have n_b : Hid (Bx w19 (w5.heap.size) 31 #[.int .i64 (duelOf (duelPlay l0 l1 l2)).mem_.clock_,.slice B5_0_0 m5_0_0 d5_0_0,.slice B5_0_1 m5_0_1 d5_0_1,.slice B5_0_2 m5_0_2 d5_0_2]):=Bx.chg (bs0.out) cc (fun qq => by have h2:=r8_0.out _ qq;skip;omega)
 clear bs0
 have bs0:=n_b
 clear n_b
 have n_b : Hid (Bx w19 (w9.heap.size) 31 #[.int .i64 (duelOf (duelPlay l0 l1 l2)).mem_.clock_,.slice B9_0_0 m9_0_0 d9_0_0,.slice B9_0_1 m9_0_1 d9_0_1,.slice B9_0_2 m9_0_2 d9_0_2]):=Bx.chg (bg0.out) cc (fun qq => by have h2:=r8_0.out _ qq;skip;omega)
 clear bg0
 have bg0:=n_b
 clear n_b
 have zw19 : w18.heap.size + 0 ≤ w19.heap.size:=by have h:=cc.size;(try simp at h);omega
 replace o5_0:=Lib.hid (Duel.W_good.chg o5_0.out cc (fun g hg qq => by have h2:=r8_0.out _ qq;have h1:=hg;omega))
 replace o9_0:=Lib.hid (Duel.W_good.chg o9_0.out cc (fun g hg qq => by have h2:=r8_0.out _ qq;have h1:=hg;omega))
 replace xx:=cc.ext xx (fun g qq => by have h2:=r8_0.out _ qq;skip;omega)
 replace hs0:=hsO0.ext xx
 replace hs2:=hsO2.ext xx
 replace hs1:=hsO1.ext Job.R_good xx
 clear cc
 clear o8_0
 have r19_0:=r8_0
 clear o19_0
 have hq1 : (0 : Int) ≤ 1 + (n0 : Int) + (ctl Job.ct l1 : Nat) + (n2 : Int):=by omega
 have eg0_0 : w19.cell? ⟨w9.heap.size,0,none⟩ = some (.int .i64 (duelOf (duelPlay l0 l1 l2)).mem_.clock_):=bg0.out.cell 0
 have eg0_1 : w19.cell? ⟨w9.heap.size,1,none⟩ = some (.slice B9_0_0 m9_0_0 d9_0_0):=bg0.out.cell 1
 have eg0_2 : w19.cell? ⟨w9.heap.size,2,none⟩ = some (.slice B9_0_1 m9_0_1 d9_0_1):=bg0.out.cell 2
 have eg0_3 : w19.cell? ⟨w9.heap.size,3,none⟩ = some (.slice B9_0_2 m9_0_2 d9_0_2):=bg0.out.cell 3
 have es0_0 : w19.cell? ⟨w5.heap.size,0,none⟩ = some (.int .i64 (duelOf (duelPlay l0 l1 l2)).mem_.clock_):=bs0.out.cell 0
 have es0_1 : w19.cell? ⟨w5.heap.size,1,none⟩ = some (.slice B5_0_0 m5_0_0 d5_0_0):=bs0.out.cell 1
 have es0_2 : w19.cell? ⟨w5.heap.size,2,none⟩ = some (.slice B5_0_1 m5_0_1 d5_0_1):=bs0.out.cell 2
 have es0_3 : w19.cell? ⟨w5.heap.size,3,none⟩ = some (.slice B5_0_2 m5_0_2 d5_0_2):=bs0.out.cell 3
 go_wp2_with fail
 refine (eqDuel_same _ _ _ _ _ _ (Duel.W_R o9_0.out) (Duel.W_R o5_0.out)).mono ?_
 rintro e w20 ⟨rfl,x20⟩
 clear eg0_0 eg0_1 eg0_2 eg0_3 es0_0 es0_1 es0_2 es0_3
 replace bs0:=Lib.hid (bs0.out.ext (Ext.tr (Ext.refl' w19) x20))
 replace bg0:=Lib.hid (bg0.out.ext (Ext.tr (Ext.refl' w19) x20))
 have zw20 : w19.heap.size + 0 ≤ w20.heap.size:=by have h:=x20.size;(try simp at h);omega
 replace o5_0:=Lib.hid (Duel.W_good.ext o5_0.out x20)
 replace o9_0:=Lib.hid (Duel.W_good.ext o9_0.out x20)
 replace xx:=xx.tr x20
 replace hs0:=hsO0.ext xx
 replace hs2:=hsO2.ext xx
 replace hs1:=hsO1.ext Job.R_good xx
 clear x20
 have eg0_0 : w20.cell? ⟨w9.heap.size,0,none⟩ = some (.int .i64 (duelOf (duelPlay l0 l1 l2)).mem_.clock_):=bg0.out.cell 0
 have eg0_1 : w20.cell? ⟨w9.heap.size,1,none⟩ = some (.slice B9_0_0 m9_0_0 d9_0_0):=bg0.out.cell 1
 have eg0_2 : w20.cell? ⟨w9.heap.size,2,none⟩ = some (.slice B9_0_1 m9_0_1 d9_0_1):=bg0.out.cell 2
 have eg0_3 : w20.cell? ⟨w9.heap.size,3,none⟩ = some (.slice B9_0_2 m9_0_2 d9_0_2):=bg0.out.cell 3
 go_wp2_with fail
 refine (markDuel_any _ _ (1) _ _ o9_0.out (fun g hg => by have hg2:=hg.2;(try simp only [World.heap_alloc_size]);omega) (by omega) (by omega)).mono ?_
 rintro e w21 ⟨rfl,o21_M,cc⟩
 replace o21_M:=Lib.hid o21_M
 clear eg0_0 eg0_1 eg0_2 eg0_3
 have n_b : Hid (Bx w21 (w5.heap.size) 31 #[.int .i64 (duelOf (duelPlay l0 l1 l2)).mem_.clock_,.slice B5_0_0 m5_0_0 d5_0_0,.slice B5_0_1 m5_0_1 d5_0_1,.slice B5_0_2 m5_0_2 d5_0_2]):=Bx.chg (bs0.out) cc (fun qq => by have h2:=qq;skip;omega)
 clear bs0
 have bs0:=n_b
 clear n_b
 have n_b : Hid (Bx w21 (w9.heap.size) 31 #[.int .i64 (duelOf (duelPlay l0 l1 l2)).mem_.clock_,.slice B9_0_0 m9_0_0 d9_0_0,.slice B9_0_1 m9_0_1 d9_0_1,.slice B9_0_2 m9_0_2 d9_0_2]):=Bx.chg (bg0.out) cc (fun qq => by have h2:=qq;skip;omega)
 clear bg0
 have bg0:=n_b
 clear n_b
 have zw21 : w20.heap.size + 0 ≤ w21.heap.size:=by have h:=cc.size;(try simp at h);omega
 replace o5_0:=Lib.hid (Duel.W_good.chg o5_0.out cc (fun g hg qq => by have h2:=qq;have h1:=hg;omega))
 replace xx:=cc.ext xx (fun g qq => by have h2:=qq;skip;omega)
 replace hs0:=hsO0.ext xx
 replace hs2:=hsO2.ext xx
 replace hs1:=hsO1.ext Job.R_good xx
 clear cc
 clear o9_0
 have hq2_0 : (0 : Int) ≤ 1 + (Duel.ca (duelOf (duelPlay l0 l1 l2)) : Nat):=by omega
 have hq3 : ((1 + (Duel.ca (duelOf (duelPlay l0 l1 l2)) : Nat)) != (1 + (Duel.ca (duelOf (duelPlay l0 l1 l2)) : Nat))) = false:=by simp
 have eg0_0 : w21.cell? ⟨w9.heap.size,0,none⟩ = some (.int .i64 (duelOf (duelPlay l0 l1 l2)).mem_.clock_):=bg0.out.cell 0
 have eg0_1 : w21.cell? ⟨w9.heap.size,1,none⟩ = some (.slice B9_0_0 m9_0_0 d9_0_0):=bg0.out.cell 1
 have eg0_2 : w21.cell? ⟨w9.heap.size,2,none⟩ = some (.slice B9_0_1 m9_0_1 d9_0_1):=bg0.out.cell 2
 have eg0_3 : w21.cell? ⟨w9.heap.size,3,none⟩ = some (.slice B9_0_2 m9_0_2 d9_0_2):=bg0.out.cell 3
 go_wp2_with fail
 refine (heldDuel_any _ _ (1) _ _ (Duel.W_R o21_M.out) (by omega) (by omega)).mono ?_
 rintro e w22 ⟨rfl,x22⟩
 clear eg0_0 eg0_1 eg0_2 eg0_3
 replace bs0:=Lib.hid (bs0.out.ext (Ext.tr (Ext.refl' w21) x22))
 replace bg0:=Lib.hid (bg0.out.ext (Ext.tr (Ext.refl' w21) x22))
 have zw22 : w21.heap.size + 0 ≤ w22.heap.size:=by have h:=x22.size;(try simp at h);omega
 replace o5_0:=Lib.hid (Duel.W_good.ext o5_0.out x22)
 replace o21_M:=Lib.hid (Duel.W_good.ext o21_M.out x22)
 replace xx:=xx.tr x22
 replace hs0:=hsO0.ext xx
 replace hs2:=hsO2.ext xx
 replace hs1:=hsO1.ext Job.R_good xx
 clear x22
 go_wp2_with fail
 refine (toIntS_any _ _ _ _ _ _ hs0 hN0).mono ?_
 rintro e w23 ⟨B23_0,d23_0,rfl,o23_0,x23⟩
 replace bs0:=Lib.hid (bs0.out.ext (Ext.tr (Ext.refl' w22) x23))
 replace bg0:=Lib.hid (bg0.out.ext (Ext.tr (Ext.refl' w22) x23))
 have zw23 : w22.heap.size + 0 ≤ w23.heap.size:=by have h:=x23.size;(try simp at h);omega
 replace o5_0:=Lib.hid (Duel.W_good.ext o5_0.out x23)
 replace o21_M:=Lib.hid (Duel.W_good.ext o21_M.out x23)
 replace xx:=xx.tr x23
 replace hs0:=hsO0.ext xx
 replace hs2:=hsO2.ext xx
 replace hs1:=hsO1.ext Job.R_good xx
 clear x23
 have r23_0 : Hid (∀ g,(Value.slice B23_0 n0 d23_0).ownBlock = some g → w22.heap.size + 0 ≤ g ∧ g < w23.heap.size):=fun g hg => by have h:=o23_0.lt g hg;(try simp only [World.heap_alloc_size] at h);omega
 go_wp2_with fail
 refine (toJobS_any _ _ _ _ _ _ hs1 hN1 hW1).mono ?_
 rintro e w24 ⟨B24_0,d24_0,rfl,p24_0,x24⟩
 have o24_0:=Lib.hid p24_0
 clear p24_0
 replace bs0:=Lib.hid (bs0.out.ext (Ext.tr (Ext.refl' w23) x24))
 replace bg0:=Lib.hid (bg0.out.ext (Ext.tr (Ext.refl' w23) x24))
 have zw24 : w23.heap.size + 0 ≤ w24.heap.size:=by have h:=x24.size;(try simp at h);omega
 replace o5_0:=Lib.hid (Duel.W_good.ext o5_0.out x24)
 replace o21_M:=Lib.hid (Duel.W_good.ext o21_M.out x24)
 replace o23_0:=own_ext o23_0 x24
 replace xx:=xx.tr x24
 replace hs0:=hsO0.ext xx
 replace hs2:=hsO2.ext xx
 replace hs1:=hsO1.ext Job.R_good xx
 clear x24
 go_wp2_with fail
 refine (toIntS_any _ _ _ _ _ _ hs2 hN2).mono ?_
 rintro e w25 ⟨B25_0,d25_0,rfl,o25_0,x25⟩
 replace bs0:=Lib.hid (bs0.out.ext (Ext.tr (Ext.refl' w24) x25))
 replace bg0:=Lib.hid (bg0.out.ext (Ext.tr (Ext.refl' w24) x25))
 have zw25 : w24.heap.size + 0 ≤ w25.heap.size:=by have h:=x25.size;(try simp at h);omega
 replace o5_0:=Lib.hid (Duel.W_good.ext o5_0.out x25)
 replace o21_M:=Lib.hid (Duel.W_good.ext o21_M.out x25)
 replace o23_0:=own_ext o23_0 x25
 replace o24_0:=Lib.hid (SlW.ext Job.W_good o24_0.out x25)
 replace xx:=xx.tr x25
 replace hs0:=hsO0.ext xx
 replace hs2:=hsO2.ext xx
 replace hs1:=hsO1.ext Job.R_good xx
 clear x25
 have r25_0 : Hid (∀ g,(Value.slice B25_0 n2 d25_0).ownBlock = some g → w24.heap.size + 0 ≤ g ∧ g < w25.heap.size):=fun g hg => by have h:=o25_0.lt g hg;(try simp only [World.heap_alloc_size] at h);omega
 go_wp2_with fail
 refine (impl_DuelPlayR _ _ _ _ _ _ _ _ _ _ _ _ _ _ (ownSl o23_0) hN0 _ (SlW.slr Job.R_good Job.W_R o24_0.out) hN1 HA1.out _ (ownSl o25_0) hN2).mono ?_
 rintro e w26 ⟨B26_0_0,m26_0_0,d26_0_0,B26_0_1,m26_0_1,d26_0_1,B26_0_2,m26_0_2,d26_0_2,rfl,o26_0,x26⟩
 replace bs0:=Lib.hid (bs0.out.ext (Ext.tr (Ext.refl' w25) x26))
 replace bg0:=Lib.hid (bg0.out.ext (Ext.tr (Ext.refl' w25) x26))
 have zw26 : w25.heap.size + 0 ≤ w26.heap.size:=by have h:=x26.size;(try simp at h);omega
 replace o5_0:=Lib.hid (Duel.W_good.ext o5_0.out x26)
 replace o21_M:=Lib.hid (Duel.W_good.ext o21_M.out x26)
 replace o23_0:=own_ext o23_0 x26
 replace o24_0:=Lib.hid (SlW.ext Job.W_good o24_0.out x26)
 replace o25_0:=own_ext o25_0 x26
 replace xx:=xx.tr x26
 replace hs0:=hsO0.ext xx
 replace hs2:=hsO2.ext xx
 replace hs1:=hsO1.ext Job.R_good xx
 clear x26
 clear o23_0
 clear o24_0
 clear o25_0
 have ls0 : w5.heap.size < w26.heap.size:=bs0.out.lt
 have es0_0 : w26.cell? ⟨w5.heap.size,0,none⟩ = some (.int .i64 (duelOf (duelPlay l0 l1 l2)).mem_.clock_):=bs0.out.cell 0
 have es0_1 : w26.cell? ⟨w5.heap.size,1,none⟩ = some (.slice B5_0_0 m5_0_0 d5_0_0):=bs0.out.cell 1
 have es0_2 : w26.cell? ⟨w5.heap.size,2,none⟩ = some (.slice B5_0_1 m5_0_1 d5_0_1):=bs0.out.cell 2
 have es0_3 : w26.cell? ⟨w5.heap.size,3,none⟩ = some (.slice B5_0_2 m5_0_2 d5_0_2):=bs0.out.cell 3
 go_wp2_with fail
 refine (eqDuel_same _ _ _ _ _ _ (Duel.W_R (Duel.W_good.ext o26_0.out ((Ext.refl' w26).al _))) (Duel.W_R (Duel.W_good.ext o5_0.out ((Ext.refl' w26).al _)))).mono ?_
 rintro e w27 ⟨rfl,x27⟩
 clear ls0 es0_0 es0_1 es0_2 es0_3
 replace bs0:=Lib.hid (bs0.out.ext (Ext.tr ((Ext.refl' w26).al _) x27))
 replace bg0:=Lib.hid (bg0.out.ext (Ext.tr ((Ext.refl' w26).al _) x27))
 have bh0 : Hid (Bx w27 (w26.heap.size) 31 #[.int .i64 (duelOf (duelPlay l0 l1 l2)).mem_.clock_,.slice B26_0_0 m26_0_0 d26_0_0,.slice B26_0_1 m26_0_1 d26_0_1,.slice B26_0_2 m26_0_2 d26_0_2]):=Bx.ext (Bx.new' _ _ _ rfl) x27
 have zw27 : w26.heap.size + 1 ≤ w27.heap.size:=by have h:=x27.size;(try simp at h);omega
 replace x27:=Ext.tr ((Ext.refl' w26).al _) x27
 replace o5_0:=Lib.hid (Duel.W_good.ext o5_0.out x27)
 replace o21_M:=Lib.hid (Duel.W_good.ext o21_M.out x27)
 replace o26_0:=Lib.hid (Duel.W_good.ext o26_0.out x27)
 replace xx:=xx.tr x27
 replace hs0:=hsO0.ext xx
 replace hs2:=hsO2.ext xx
 replace hs1:=hsO1.ext Job.R_good xx
 clear x27
 have eg0_0 : w27.cell? ⟨w9.heap.size,0,none⟩ = some (.int .i64 (duelOf (duelPlay l0 l1 l2)).mem_.clock_):=bg0.out.cell 0
 have eg0_1 : w27.cell? ⟨w9.heap.size,1,none⟩ = some (.slice B9_0_0 m9_0_0 d9_0_0):=bg0.out.cell 1
 have eg0_2 : w27.cell? ⟨w9.heap.size,2,none⟩ = some (.slice B9_0_1 m9_0_1 d9_0_1):=bg0.out.cell 2
 have eg0_3 : w27.cell? ⟨w9.heap.size,3,none⟩ = some (.slice B9_0_2 m9_0_2 d9_0_2):=bg0.out.cell 3
 go_wp2_with fail
 refine (heldDuel_any _ _ (1) _ _ (Duel.W_R o21_M.out) (by omega) (by omega)).mono ?_
 rintro e w28 ⟨rfl,x28⟩
 clear eg0_0 eg0_1 eg0_2 eg0_3
 replace bs0:=Lib.hid (bs0.out.ext (Ext.tr (Ext.refl' w27) x28))
 replace bg0:=Lib.hid (bg0.out.ext (Ext.tr (Ext.refl' w27) x28))
 replace bh0:=Lib.hid (bh0.out.ext (Ext.tr (Ext.refl' w27) x28))
 have zw28 : w27.heap.size + 0 ≤ w28.heap.size:=by have h:=x28.size;(try simp at h);omega
 replace o5_0:=Lib.hid (Duel.W_good.ext o5_0.out x28)
 replace o21_M:=Lib.hid (Duel.W_good.ext o21_M.out x28)
 replace o26_0:=Lib.hid (Duel.W_good.ext o26_0.out x28)
 replace xx:=xx.tr x28
 replace hs0:=hsO0.ext xx
 replace hs2:=hsO2.ext xx
 replace hs1:=hsO1.ext Job.R_good xx
 clear x28
 go_wp2
 go_ret
 exact ⟨rfl,xx⟩

end Go.Proofs.YtpmfhfpjiebcjaaGreat
