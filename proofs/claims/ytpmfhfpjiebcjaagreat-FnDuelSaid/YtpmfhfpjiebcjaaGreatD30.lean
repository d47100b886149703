/- ProbeStep of the program. No condition but the length. -/
import Derived.Test.YtpmfhfpjiebcjaaGreatD00
import Derived.Test.YtpmfhfpjiebcjaaGreatD18
namespace Go.Proofs.YtpmfhfpjiebcjaaGreat
open Go.RowKit Go.Deep
set_option linter.unnecessarySimpa false
set_option linter.unusedSimpArgs false
set_option linter.unusedVariables false
set_option maxRecDepth 8000 in
set_option maxHeartbeats 8000000 in
theorem impl_psbad (m : Mem) (A : Option Addr) (n c : Nat) (rv : Int) (pc ph pv pl : Int) (w : World) (S : Nat → Prop) (hs : Sl w S 3 A n (m.cells_.flatMap Word.cells)) (hm : n ≤ 1048576) (hbad : ¬ (memOk m = true ∧ probeOk (⟨pc,ph,pv,pl⟩ : Probe) = true)) :
  Calls Tryz.prog 87 #[.agg #[.int .i64 m.clock_,.slice A n c],.int .i64 rv,.agg #[.int .i64 pc,.int .i64 ph,.int .i64 pv,.int .i64 pl]] w fun e w' => e = .returned (.agg #[.int .i64 (pstep m rv (⟨pc,ph,pv,pl⟩ : Probe)).cell_,.int .i64 (pstep m rv (⟨pc,ph,pv,pl⟩ : Probe)).phase_,.int .i64 (pstep m rv (⟨pc,ph,pv,pl⟩ : Probe)).ver_,.int .i64 (pstep m rv (⟨pc,ph,pv,pl⟩ : Probe)).val_]) ∧ Ext w w':=by
 have hl0 : m.cells_.length = n:=hs.flen Word.cells_length (by omega)
 have HS:=Lib.hid hs
 clear hs
 have M:=Lib.hid (Mine.refl w)
 have HZ:=Lib.hid (pstep_bad (rv:=rv) hbad)
 cases hM : memOk m
 ·skip
  go_enter Tryz.func87,Tryz.ntmps87
  go_wp2_with (first|(go_at_call 65;(with_reducible refine (impl_MemOk m _ n c _ S (by omega) (HS.out.ext M.out.ext)).mono ?_);rintro e w' ⟨rfl,x9⟩;replace M:=Lib.hid (M.out.on x9);clear x9;rw [hM])|((with_reducible show wpList _ _ _ (⟨_,_,_,_,_,none⟩::_) _ _);first|(refine Mine.wp_box M.out rfl 27 _ rfl _ rfl ?_;intro gm w' M';(try simp only [zr_,zm_] at M');replace M:=Lib.hid M';clear M';(try simp only [zr_,zm_]))|(refine Mine.wp_box M.out rfl 66 _ rfl _ rfl ?_;intro gp w' M';(try simp only [zr_,zm_] at M');replace M:=Lib.hid M';clear M';(try simp only [zr_,zm_]))|(refine Mine.wp_alloc M.out rfl 66 rfl (.agg #[.int .i64 0,.int .i64 0,.int .i64 0,.int .i64 0]) (by kernel_rfl) ?_;intro gr w' M';(try simp only [Value.cells,zr_,zm_] at M');replace M:=Lib.hid M';clear M';(try simp only [zr_,zm_]))|((first|refine zGs M.out 27 2 2 ?_|refine zGs M.out 66 1 4 ?_);(try simp only [zr_,zm_]))|(refine zSs M.out 66 0 ?_;intro w' M';(try simp only [zr_,zm_] at M');replace M:=Lib.hid M';clear M')))
  refine bodyPost_ret (M.out.results_cell Tryz.results87 _ 0 rfl rfl _ Tryz.underlying66 (by rfl) (by kernel_rfl)) rfl ?_
  rw [HZ.out]
  exact ⟨rfl,M.out.ext⟩
 have hP : probeOk ⟨pc,ph,pv,pl⟩ = false:=by cases h : probeOk ⟨pc,ph,pv,pl⟩ <;> simp_all
 go_enter Tryz.func87,Tryz.ntmps87
 go_wp2_with (first|(go_at_call 65;(with_reducible refine (impl_MemOk m _ n c _ S (by omega) (HS.out.ext M.out.ext)).mono ?_);rintro e w' ⟨rfl,x9⟩;replace M:=Lib.hid (M.out.on x9);clear x9;rw [hM])|(go_at_call 128;(with_reducible refine (impl_ProbeOk (⟨pc,ph,pv,pl⟩ : Probe) _).mono ?_);rintro e w' ⟨rfl,x9⟩;replace M:=Lib.hid (M.out.on x9);clear x9;rw [hP])|((with_reducible show wpList _ _ _ (⟨_,_,_,_,_,none⟩::_) _ _);first|(refine Mine.wp_box M.out rfl 27 _ rfl _ rfl ?_;intro gm w' M';(try simp only [zr_,zm_] at M');replace M:=Lib.hid M';clear M';(try simp only [zr_,zm_]))|(refine Mine.wp_box M.out rfl 66 _ rfl _ rfl ?_;intro gp w' M';(try simp only [zr_,zm_] at M');replace M:=Lib.hid M';clear M';(try simp only [zr_,zm_]))|(refine Mine.wp_alloc M.out rfl 66 rfl (.agg #[.int .i64 0,.int .i64 0,.int .i64 0,.int .i64 0]) (by kernel_rfl) ?_;intro gr w' M';(try simp only [Value.cells,zr_,zm_] at M');replace M:=Lib.hid M';clear M';(try simp only [zr_,zm_]))|((first|refine zGs M.out 27 2 2 ?_|refine zGs M.out 66 1 4 ?_);(try simp only [zr_,zm_]))|(refine zSs M.out 66 0 ?_;intro w' M';(try simp only [zr_,zm_] at M');replace M:=Lib.hid M';clear M'))|((with_reducible show wpList _ _ _ (⟨_,.load _ _,_,_,_,some _⟩::_) _ _);first|(refine Mine.wp_getsg M.out (by rfl) 66 _ rfl 1 _ 4 rfl rfl (Nat.le_of_ble_eq_true rfl) _ Tryz.underlying66 (by rfl) (by kernel_rfl) ?_;(try simp only [zr_,zm_]))))
 refine bodyPost_ret (M.out.results_cell Tryz.results87 _ 0 rfl rfl _ Tryz.underlying66 (by rfl) (by kernel_rfl)) rfl ?_
 rw [HZ.out]
 exact ⟨rfl,M.out.ext⟩
set_option maxRecDepth 8000 in
set_option maxHeartbeats 8000000 in
theorem impl_ps0 (m : Mem) (A : Option Addr) (n c : Nat) (rv : Int) (i : Nat) (pv pl : Int) (w : World) (S : Nat → Prop) (hs : Sl w S 3 A n (m.cells_.flatMap Word.cells)) (hm : n ≤ 1048576) (hM : memOk m = true) (hP : probeOk (⟨(i : Int),0,pv,pl⟩ : Probe) = true) :
  Calls Tryz.prog 87 #[.agg #[.int .i64 m.clock_,.slice A n c],.int .i64 rv,.agg #[.int .i64 (i : Int),.int .i64 0,.int .i64 pv,.int .i64 pl]] w fun e w' => e = .returned (.agg #[.int .i64 (pstep m rv (⟨(i : Int),0,pv,pl⟩ : Probe)).cell_,.int .i64 (pstep m rv (⟨(i : Int),0,pv,pl⟩ : Probe)).phase_,.int .i64 (pstep m rv (⟨(i : Int),0,pv,pl⟩ : Probe)).ver_,.int .i64 (pstep m rv (⟨(i : Int),0,pv,pl⟩ : Probe)).val_]) ∧ Ext w w':=by
 have hl0 : m.cells_.length = n:=hs.flen Word.cells_length (by omega)
 have HS:=Lib.hid hs
 clear hs
 have M:=Lib.hid (Mine.refl w)
 have HM:=Lib.hid hM
 have HP:=Lib.hid hP
 obtain ⟨q1,-,-,-⟩:=dec_true hP
 have hn8 : n = 8:=by have:=memOk_len hM;omega
 have hi : i < n:=by have:=q1.2;simp only at this;omega
 have hi1 : (i : Int) < (n : Int):=by omega
 obtain ⟨x,hx⟩ : ∃ x,m.cells_[i]? = some x:=⟨_,List.getElem?_eq_getElem (by omega)⟩
 have HX:=Lib.hid hx
 obtain ⟨bM,oM,rfl⟩:=HS.out.addr (by omega)
 have HWB : Hid (bM < w.heap.size):=(word_at HS.out hx hi 0 (by omega)).2
 have HWR : Hid (w.rangeAt bM (oM + i * 3) [.int .i64 x.val_,.int .i64 x.ver_,.int .i64 x.owner_]):=fun u v hu => by
  have h3 : u < 3:=by have:=(List.getElem?_eq_some_iff.1 hu).1;simpa using this
  have h4:=(word_at HS.out HX.out hi u h3).1
  simp only [Word.cells] at h4
  rw [h4];exact hu
 clear q1 hn8 hx hM hP
 by_cases c1 : x.owner_ = 0
 rotate_left
 ·have HZ:=Lib.hid (ps0_no (rv:=rv) HM.out HP.out HX.out (fun q => c1 q.1))
  have b1 : (x.owner_ == 0) = false:=by simpa using c1
  have b1n : (x.owner_ != 0) = true:=by simpa using c1
  clear c1
  go_enter Tryz.func87,Tryz.ntmps87
  go_wp2_with (first|(go_at_call 65;(with_reducible refine (impl_MemOk m _ n c _ S (by omega) (HS.out.ext M.out.ext)).mono ?_);rintro e w' ⟨rfl,x9⟩;replace M:=Lib.hid (M.out.on x9);clear x9;rw [HM.out])|(go_at_call 128;(with_reducible refine (impl_ProbeOk ⟨(i : Int),0,pv,pl⟩ _).mono ?_);rintro e w' ⟨rfl,x9⟩;replace M:=Lib.hid (M.out.on x9);clear x9;rw [HP.out])|((with_reducible show wpList _ _ _ (⟨_,_,_,_,_,none⟩::_) _ _);first|(refine Mine.wp_box M.out rfl 27 _ rfl _ rfl ?_;intro gm w' M';(try simp only [zr_,zm_] at M');replace M:=Lib.hid M';clear M';(try simp only [zr_,zm_]))|(refine Mine.wp_box M.out rfl 66 _ rfl _ rfl ?_;intro gp w' M';(try simp only [zr_,zm_] at M');replace M:=Lib.hid M';clear M';(try simp only [zr_,zm_]))|(refine Mine.wp_alloc M.out rfl 66 rfl (.agg #[.int .i64 0,.int .i64 0,.int .i64 0,.int .i64 0]) (by kernel_rfl) ?_;intro gr w' M';(try simp only [Value.cells,zr_,zm_] at M');replace M:=Lib.hid M';clear M';(try simp only [zr_,zm_]))|((first|refine zGs M.out 27 2 2 ?_|refine zG M.out 2 ?_|refine zG M.out 1 ?_|refine Mine.wp_arg M.out rfl 102 _ rfl _ _ rfl [.int .i64 x.val_,.int .i64 x.ver_,.int .i64 x.owner_] HWR.out HWB.out _ Tryz.underlying102 (by rfl) (by kernel_rfl) ?_|refine zG M.out 0 ?_|refine zGs M.out 66 2 4 ?_);(try simp only [zr_,zm_]))|((first|refine zSs M.out 102 0 ?_|refine zS M.out 2 ?_|refine zSs M.out 66 1 ?_);intro w' M';(try simp only [zr_,zm_] at M');replace M:=Lib.hid M';clear M')|(refine Mine.wp_alloc M.out rfl 102 rfl (.agg #[.int .i64 0,.int .i64 0,.int .i64 0]) (by kernel_rfl) ?_;intro gx w' M';(try simp only [Value.cells,zr_,zm_] at M');replace M:=Lib.hid M';clear M';(try simp only [zr_,zm_])))|((with_reducible show wpList _ _ _ (⟨_,.load _ _,_,_,_,some _⟩::_) _ _);first|(refine Mine.wp_getsg M.out (by rfl) 66 _ rfl 1 _ 4 rfl rfl (Nat.le_of_ble_eq_true rfl) _ Tryz.underlying66 (by rfl) (by kernel_rfl) ?_;(try simp only [zr_,zm_]))))
  refine bodyPost_ret (M.out.results_cell Tryz.results87 _ 1 rfl rfl _ Tryz.underlying66 (by rfl) (by kernel_rfl)) rfl ?_
  rw [HZ.out]
  exact ⟨rfl,M.out.ext⟩
 have b1 : (x.owner_ == 0) = true:=by simp [c1]
 have b1n : (x.owner_ != 0) = false:=by simp [c1]
 have HC1:=Lib.hid c1
 clear c1
 by_cases c2 : x.ver_ ≤ rv
 ·have HZ:=Lib.hid (ps0_yes (rv:=rv) HM.out HP.out HX.out ⟨HC1.out,c2⟩)
  have b2 : decide (x.ver_ ≤ rv) = true:=by simpa using c2
  have b2n : decide (rv < x.ver_) = false:=by simp;omega
  clear c2
  go_enter Tryz.func87,Tryz.ntmps87
  go_wp2_with (first|(go_at_call 65;(with_reducible refine (impl_MemOk m _ n c _ S (by omega) (HS.out.ext M.out.ext)).mono ?_);rintro e w' ⟨rfl,x9⟩;replace M:=Lib.hid (M.out.on x9);clear x9;rw [HM.out])|(go_at_call 128;(with_reducible refine (impl_ProbeOk ⟨(i : Int),0,pv,pl⟩ _).mono ?_);rintro e w' ⟨rfl,x9⟩;replace M:=Lib.hid (M.out.on x9);clear x9;rw [HP.out])|((with_reducible show wpList _ _ _ (⟨_,_,_,_,_,none⟩::_) _ _);first|(refine Mine.wp_box M.out rfl 27 _ rfl _ rfl ?_;intro gm w' M';(try simp only [zr_,zm_] at M');replace M:=Lib.hid M';clear M';(try simp only [zr_,zm_]))|(refine Mine.wp_box M.out rfl 66 _ rfl _ rfl ?_;intro gp w' M';(try simp only [zr_,zm_] at M');replace M:=Lib.hid M';clear M';(try simp only [zr_,zm_]))|(refine Mine.wp_alloc M.out rfl 66 rfl (.agg #[.int .i64 0,.int .i64 0,.int .i64 0,.int .i64 0]) (by kernel_rfl) ?_;intro gr w' M';(try simp only [Value.cells,zr_,zm_] at M');replace M:=Lib.hid M';clear M';(try simp only [zr_,zm_]))|((first|refine zGs M.out 27 2 2 ?_|refine zG M.out 2 ?_|refine zG M.out 1 ?_|refine Mine.wp_arg M.out rfl 102 _ rfl _ _ rfl [.int .i64 x.val_,.int .i64 x.ver_,.int .i64 x.owner_] HWR.out HWB.out _ Tryz.underlying102 (by rfl) (by kernel_rfl) ?_|refine zG M.out 0 ?_|refine zGs M.out 66 2 4 ?_);(try simp only [zr_,zm_]))|((first|refine zSs M.out 102 0 ?_|refine zS M.out 2 ?_|refine zSs M.out 66 1 ?_);intro w' M';(try simp only [zr_,zm_] at M');replace M:=Lib.hid M';clear M')|(refine Mine.wp_alloc M.out rfl 102 rfl (.agg #[.int .i64 0,.int .i64 0,.int .i64 0]) (by kernel_rfl) ?_;intro gx w' M';(try simp only [Value.cells,zr_,zm_] at M');replace M:=Lib.hid M';clear M';(try simp only [zr_,zm_])))|((with_reducible show wpList _ _ _ (⟨_,.load _ _,_,_,_,some _⟩::_) _ _);first|((first|refine Mine.wp_getsg M.out (by rfl) 66 _ rfl 1 _ 4 rfl rfl (Nat.le_of_ble_eq_true rfl) _ Tryz.underlying66 (by rfl) (by kernel_rfl) ?_|refine zGg M.out 0 ?_);(try simp only [zr_,zm_]))))
  refine bodyPost_ret (M.out.results_cell Tryz.results87 _ 1 rfl rfl _ Tryz.underlying66 (by rfl) (by kernel_rfl)) rfl ?_
  rw [HZ.out]
  exact ⟨rfl,M.out.ext⟩
 skip
 ·have HZ:=Lib.hid (ps0_no (rv:=rv) HM.out HP.out HX.out (fun q => c2 q.2))
  have b2 : decide (x.ver_ ≤ rv) = false:=by simpa using c2
  have b2n : decide (rv < x.ver_) = true:=by simp;omega
  clear c2
  go_enter Tryz.func87,Tryz.ntmps87
  go_wp2_with (first|(go_at_call 65;(with_reducible refine (impl_MemOk m _ n c _ S (by omega) (HS.out.ext M.out.ext)).mono ?_);rintro e w' ⟨rfl,x9⟩;replace M:=Lib.hid (M.out.on x9);clear x9;rw [HM.out])|(go_at_call 128;(with_reducible refine (impl_ProbeOk ⟨(i : Int),0,pv,pl⟩ _).mono ?_);rintro e w' ⟨rfl,x9⟩;replace M:=Lib.hid (M.out.on x9);clear x9;rw [HP.out])|((with_reducible show wpList _ _ _ (⟨_,_,_,_,_,none⟩::_) _ _);first|(refine Mine.wp_box M.out rfl 27 _ rfl _ rfl ?_;intro gm w' M';(try simp only [zr_,zm_] at M');replace M:=Lib.hid M';clear M';(try simp only [zr_,zm_]))|(refine Mine.wp_box M.out rfl 66 _ rfl _ rfl ?_;intro gp w' M';(try simp only [zr_,zm_] at M');replace M:=Lib.hid M';clear M';(try simp only [zr_,zm_]))|(refine Mine.wp_alloc M.out rfl 66 rfl (.agg #[.int .i64 0,.int .i64 0,.int .i64 0,.int .i64 0]) (by kernel_rfl) ?_;intro gr w' M';(try simp only [Value.cells,zr_,zm_] at M');replace M:=Lib.hid M';clear M';(try simp only [zr_,zm_]))|((first|refine zGs M.out 27 2 2 ?_|refine zG M.out 2 ?_|refine zG M.out 1 ?_|refine Mine.wp_arg M.out rfl 102 _ rfl _ _ rfl [.int .i64 x.val_,.int .i64 x.ver_,.int .i64 x.owner_] HWR.out HWB.out _ Tryz.underlying102 (by rfl) (by kernel_rfl) ?_|refine zG M.out 0 ?_|refine zGs M.out 66 2 4 ?_);(try simp only [zr_,zm_]))|((first|refine zSs M.out 102 0 ?_|refine zS M.out 2 ?_|refine zSs M.out 66 1 ?_);intro w' M';(try simp only [zr_,zm_] at M');replace M:=Lib.hid M';clear M')|(refine Mine.wp_alloc M.out rfl 102 rfl (.agg #[.int .i64 0,.int .i64 0,.int .i64 0]) (by kernel_rfl) ?_;intro gx w' M';(try simp only [Value.cells,zr_,zm_] at M');replace M:=Lib.hid M';clear M';(try simp only [zr_,zm_])))|((with_reducible show wpList _ _ _ (⟨_,.load _ _,_,_,_,some _⟩::_) _ _);first|((first|refine Mine.wp_getsg M.out (by rfl) 66 _ rfl 1 _ 4 rfl rfl (Nat.le_of_ble_eq_true rfl) _ Tryz.underlying66 (by rfl) (by kernel_rfl) ?_|refine zGg M.out 0 ?_);(try simp only [zr_,zm_]))))
  refine bodyPost_ret (M.out.results_cell Tryz.results87 _ 1 rfl rfl _ Tryz.underlying66 (by rfl) (by kernel_rfl)) rfl ?_
  rw [HZ.out]
  exact ⟨rfl,M.out.ext⟩
set_option maxRecDepth 8000 in
set_option maxHeartbeats 8000000 in
theorem impl_ps1 (m : Mem) (A : Option Addr) (n c : Nat) (rv : Int) (i : Nat) (pv pl : Int) (w : World) (S : Nat → Prop) (hs : Sl w S 3 A n (m.cells_.flatMap Word.cells)) (hm : n ≤ 1048576) (hM : memOk m = true) (hP : probeOk (⟨(i : Int),1,pv,pl⟩ : Probe) = true) :
  Calls Tryz.prog 87 #[.agg #[.int .i64 m.clock_,.slice A n c],.int .i64 rv,.agg #[.int .i64 (i : Int),.int .i64 1,.int .i64 pv,.int .i64 pl]] w fun e w' => e = .returned (.agg #[.int .i64 (pstep m rv (⟨(i : Int),1,pv,pl⟩ : Probe)).cell_,.int .i64 (pstep m rv (⟨(i : Int),1,pv,pl⟩ : Probe)).phase_,.int .i64 (pstep m rv (⟨(i : Int),1,pv,pl⟩ : Probe)).ver_,.int .i64 (pstep m rv (⟨(i : Int),1,pv,pl⟩ : Probe)).val_]) ∧ Ext w w':=by
 have hl0 : m.cells_.length = n:=hs.flen Word.cells_length (by omega)
 have HS:=Lib.hid hs
 clear hs
 have M:=Lib.hid (Mine.refl w)
 have HM:=Lib.hid hM
 have HP:=Lib.hid hP
 obtain ⟨q1,-,-,-⟩:=dec_true hP
 have hn8 : n = 8:=by have:=memOk_len hM;omega
 have hi : i < n:=by have:=q1.2;simp only at this;omega
 have hi1 : (i : Int) < (n : Int):=by omega
 obtain ⟨x,hx⟩ : ∃ x,m.cells_[i]? = some x:=⟨_,List.getElem?_eq_getElem (by omega)⟩
 have HX:=Lib.hid hx
 obtain ⟨bM,oM,rfl⟩:=HS.out.addr (by omega)
 have HWB : Hid (bM < w.heap.size):=(word_at HS.out hx hi 0 (by omega)).2
 have HWR : Hid (w.rangeAt bM (oM + i * 3) [.int .i64 x.val_,.int .i64 x.ver_,.int .i64 x.owner_]):=fun u v hu => by
  have h3 : u < 3:=by have:=(List.getElem?_eq_some_iff.1 hu).1;simpa using this
  have h4:=(word_at HS.out HX.out hi u h3).1
  simp only [Word.cells] at h4
  rw [h4];exact hu
 clear q1 hn8 hx hM hP
 have HZ:=Lib.hid (ps1 (rv:=rv) HM.out HP.out HX.out)
 go_enter Tryz.func87,Tryz.ntmps87
 go_wp2_with (first|(go_at_call 65;(with_reducible refine (impl_MemOk m _ n c _ S (by omega) (HS.out.ext M.out.ext)).mono ?_);rintro e w' ⟨rfl,x9⟩;replace M:=Lib.hid (M.out.on x9);clear x9;rw [HM.out])|(go_at_call 128;(with_reducible refine (impl_ProbeOk ⟨(i : Int),1,pv,pl⟩ _).mono ?_);rintro e w' ⟨rfl,x9⟩;replace M:=Lib.hid (M.out.on x9);clear x9;rw [HP.out])|((with_reducible show wpList _ _ _ (⟨_,_,_,_,_,none⟩::_) _ _);first|(refine Mine.wp_box M.out rfl 27 _ rfl _ rfl ?_;intro gm w' M';(try simp only [zr_,zm_] at M');replace M:=Lib.hid M';clear M';(try simp only [zr_,zm_]))|(refine Mine.wp_box M.out rfl 66 _ rfl _ rfl ?_;intro gp w' M';(try simp only [zr_,zm_] at M');replace M:=Lib.hid M';clear M';(try simp only [zr_,zm_]))|(refine Mine.wp_alloc M.out rfl 66 rfl (.agg #[.int .i64 0,.int .i64 0,.int .i64 0,.int .i64 0]) (by kernel_rfl) ?_;intro gr w' M';(try simp only [Value.cells,zr_,zm_] at M');replace M:=Lib.hid M';clear M';(try simp only [zr_,zm_]))|((first|refine zGs M.out 27 2 2 ?_|refine zG M.out 2 ?_|refine zG M.out 1 ?_|refine Mine.wp_arg M.out rfl 102 _ rfl _ _ rfl [.int .i64 x.val_,.int .i64 x.ver_,.int .i64 x.owner_] HWR.out HWB.out _ Tryz.underlying102 (by rfl) (by kernel_rfl) ?_|refine zG M.out 0 ?_|refine zGs M.out 66 2 4 ?_);(try simp only [zr_,zm_]))|((first|refine zSs M.out 102 0 ?_|refine zS M.out 2 ?_|refine zSs M.out 66 1 ?_);intro w' M';(try simp only [zr_,zm_] at M');replace M:=Lib.hid M';clear M')|(refine Mine.wp_alloc M.out rfl 102 rfl (.agg #[.int .i64 0,.int .i64 0,.int .i64 0]) (by kernel_rfl) ?_;intro gx w' M';(try simp only [Value.cells,zr_,zm_] at M');replace M:=Lib.hid M';clear M';(try simp only [zr_,zm_])))|((with_reducible show wpList _ _ _ (⟨_,.load _ _,_,_,_,some _⟩::_) _ _);first|(refine Mine.wp_getsg M.out (by rfl) 66 _ rfl 1 _ 4 rfl rfl (Nat.le_of_ble_eq_true rfl) _ Tryz.underlying66 (by rfl) (by kernel_rfl) ?_;(try simp only [zr_,zm_]))))
 refine bodyPost_ret (M.out.results_cell Tryz.results87 _ 1 rfl rfl _ Tryz.underlying66 (by rfl) (by kernel_rfl)) rfl ?_
 rw [HZ.out]
 exact ⟨rfl,M.out.ext⟩
set_option maxRecDepth 8000 in
set_option maxHeartbeats 8000000 in
theorem impl_ps2 (m : Mem) (A : Option Addr) (n c : Nat) (rv : Int) (i : Nat) (pv pl : Int) (w : World) (S : Nat → Prop) (hs : Sl w S 3 A n (m.cells_.flatMap Word.cells)) (hm : n ≤ 1048576) (hM : memOk m = true) (hP : probeOk (⟨(i : Int),2,pv,pl⟩ : Probe) = true) :
  Calls Tryz.prog 87 #[.agg #[.int .i64 m.clock_,.slice A n c],.int .i64 rv,.agg #[.int .i64 (i : Int),.int .i64 2,.int .i64 pv,.int .i64 pl]] w fun e w' => e = .returned (.agg #[.int .i64 (pstep m rv (⟨(i : Int),2,pv,pl⟩ : Probe)).cell_,.int .i64 (pstep m rv (⟨(i : Int),2,pv,pl⟩ : Probe)).phase_,.int .i64 (pstep m rv (⟨(i : Int),2,pv,pl⟩ : Probe)).ver_,.int .i64 (pstep m rv (⟨(i : Int),2,pv,pl⟩ : Probe)).val_]) ∧ Ext w w':=by
 have hl0 : m.cells_.length = n:=hs.flen Word.cells_length (by omega)
 have HS:=Lib.hid hs
 clear hs
 have M:=Lib.hid (Mine.refl w)
 have HM:=Lib.hid hM
 have HP:=Lib.hid hP
 obtain ⟨q1,-,-,-⟩:=dec_true hP
 have hn8 : n = 8:=by have:=memOk_len hM;omega
 have hi : i < n:=by have:=q1.2;simp only at this;omega
 have hi1 : (i : Int) < (n : Int):=by omega
 obtain ⟨x,hx⟩ : ∃ x,m.cells_[i]? = some x:=⟨_,List.getElem?_eq_getElem (by omega)⟩
 have HX:=Lib.hid hx
 obtain ⟨bM,oM,rfl⟩:=HS.out.addr (by omega)
 have HWB : Hid (bM < w.heap.size):=(word_at HS.out hx hi 0 (by omega)).2
 have HWR : Hid (w.rangeAt bM (oM + i * 3) [.int .i64 x.val_,.int .i64 x.ver_,.int .i64 x.owner_]):=fun u v hu => by
  have h3 : u < 3:=by have:=(List.getElem?_eq_some_iff.1 hu).1;simpa using this
  have h4:=(word_at HS.out HX.out hi u h3).1
  simp only [Word.cells] at h4
  rw [h4];exact hu
 clear q1 hn8 hx hM hP
 by_cases c1 : x.owner_ = 0
 rotate_left
 ·have HZ:=Lib.hid (ps2_no (rv:=rv) HM.out HP.out HX.out (fun q => c1 q.1))
  have b1 : (x.owner_ == 0) = false:=by simpa using c1
  have b1n : (x.owner_ != 0) = true:=by simpa using c1
  clear c1
  go_enter Tryz.func87,Tryz.ntmps87
  go_wp2_with (first|(go_at_call 65;(with_reducible refine (impl_MemOk m _ n c _ S (by omega) (HS.out.ext M.out.ext)).mono ?_);rintro e w' ⟨rfl,x9⟩;replace M:=Lib.hid (M.out.on x9);clear x9;rw [HM.out])|(go_at_call 128;(with_reducible refine (impl_ProbeOk ⟨(i : Int),2,pv,pl⟩ _).mono ?_);rintro e w' ⟨rfl,x9⟩;replace M:=Lib.hid (M.out.on x9);clear x9;rw [HP.out])|((with_reducible show wpList _ _ _ (⟨_,_,_,_,_,none⟩::_) _ _);first|(refine Mine.wp_box M.out rfl 27 _ rfl _ rfl ?_;intro gm w' M';(try simp only [zr_,zm_] at M');replace M:=Lib.hid M';clear M';(try simp only [zr_,zm_]))|(refine Mine.wp_box M.out rfl 66 _ rfl _ rfl ?_;intro gp w' M';(try simp only [zr_,zm_] at M');replace M:=Lib.hid M';clear M';(try simp only [zr_,zm_]))|(refine Mine.wp_alloc M.out rfl 66 rfl (.agg #[.int .i64 0,.int .i64 0,.int .i64 0,.int .i64 0]) (by kernel_rfl) ?_;intro gr w' M';(try simp only [Value.cells,zr_,zm_] at M');replace M:=Lib.hid M';clear M';(try simp only [zr_,zm_]))|((first|refine zGs M.out 27 2 2 ?_|refine zG M.out 2 ?_|refine zG M.out 1 ?_|refine Mine.wp_arg M.out rfl 102 _ rfl _ _ rfl [.int .i64 x.val_,.int .i64 x.ver_,.int .i64 x.owner_] HWR.out HWB.out _ Tryz.underlying102 (by rfl) (by kernel_rfl) ?_|refine zG M.out 0 ?_|refine zGs M.out 66 2 4 ?_);(try simp only [zr_,zm_]))|((first|refine zSs M.out 102 0 ?_|refine zS M.out 2 ?_|refine zSs M.out 66 1 ?_);intro w' M';(try simp only [zr_,zm_] at M');replace M:=Lib.hid M';clear M')|(refine Mine.wp_alloc M.out rfl 102 rfl (.agg #[.int .i64 0,.int .i64 0,.int .i64 0]) (by kernel_rfl) ?_;intro gx w' M';(try simp only [Value.cells,zr_,zm_] at M');replace M:=Lib.hid M';clear M';(try simp only [zr_,zm_])))|((with_reducible show wpList _ _ _ (⟨_,.load _ _,_,_,_,some _⟩::_) _ _);first|(refine Mine.wp_getsg M.out (by rfl) 66 _ rfl 1 _ 4 rfl rfl (Nat.le_of_ble_eq_true rfl) _ Tryz.underlying66 (by rfl) (by kernel_rfl) ?_;(try simp only [zr_,zm_]))))
  refine bodyPost_ret (M.out.results_cell Tryz.results87 _ 1 rfl rfl _ Tryz.underlying66 (by rfl) (by kernel_rfl)) rfl ?_
  rw [HZ.out]
  exact ⟨rfl,M.out.ext⟩
 have b1 : (x.owner_ == 0) = true:=by simp [c1]
 have b1n : (x.owner_ != 0) = false:=by simp [c1]
 have HC1:=Lib.hid c1
 clear c1
 by_cases c2 : x.ver_ = pv
 ·have HZ:=Lib.hid (ps2_yes (rv:=rv) HM.out HP.out HX.out ⟨HC1.out,c2⟩)
  have b2 : (x.ver_ == pv) = true:=by simpa using c2
  have b2n : (x.ver_ != pv) = false:=by simpa using c2
  clear c2
  go_enter Tryz.func87,Tryz.ntmps87
  go_wp2_with (first|(go_at_call 65;(with_reducible refine (impl_MemOk m _ n c _ S (by omega) (HS.out.ext M.out.ext)).mono ?_);rintro e w' ⟨rfl,x9⟩;replace M:=Lib.hid (M.out.on x9);clear x9;rw [HM.out])|(go_at_call 128;(with_reducible refine (impl_ProbeOk ⟨(i : Int),2,pv,pl⟩ _).mono ?_);rintro e w' ⟨rfl,x9⟩;replace M:=Lib.hid (M.out.on x9);clear x9;rw [HP.out])|((with_reducible show wpList _ _ _ (⟨_,_,_,_,_,none⟩::_) _ _);first|(refine Mine.wp_box M.out rfl 27 _ rfl _ rfl ?_;intro gm w' M';(try simp only [zr_,zm_] at M');replace M:=Lib.hid M';clear M';(try simp only [zr_,zm_]))|(refine Mine.wp_box M.out rfl 66 _ rfl _ rfl ?_;intro gp w' M';(try simp only [zr_,zm_] at M');replace M:=Lib.hid M';clear M';(try simp only [zr_,zm_]))|(refine Mine.wp_alloc M.out rfl 66 rfl (.agg #[.int .i64 0,.int .i64 0,.int .i64 0,.int .i64 0]) (by kernel_rfl) ?_;intro gr w' M';(try simp only [Value.cells,zr_,zm_] at M');replace M:=Lib.hid M';clear M';(try simp only [zr_,zm_]))|((first|refine zGs M.out 27 2 2 ?_|refine zG M.out 2 ?_|refine zG M.out 1 ?_|refine Mine.wp_arg M.out rfl 102 _ rfl _ _ rfl [.int .i64 x.val_,.int .i64 x.ver_,.int .i64 x.owner_] HWR.out HWB.out _ Tryz.underlying102 (by rfl) (by kernel_rfl) ?_|refine zG M.out 0 ?_|refine zGs M.out 66 2 4 ?_);(try simp only [zr_,zm_]))|((first|refine zSs M.out 102 0 ?_|refine zS M.out 2 ?_|refine zSs M.out 66 1 ?_);intro w' M';(try simp only [zr_,zm_] at M');replace M:=Lib.hid M';clear M')|(refine Mine.wp_alloc M.out rfl 102 rfl (.agg #[.int .i64 0,.int .i64 0,.int .i64 0]) (by kernel_rfl) ?_;intro gx w' M';(try simp only [Value.cells,zr_,zm_] at M');replace M:=Lib.hid M';clear M';(try simp only [zr_,zm_])))|((with_reducible show wpList _ _ _ (⟨_,.load _ _,_,_,_,some _⟩::_) _ _);first|((first|refine Mine.wp_getsg M.out (by rfl) 66 _ rfl 1 _ 4 rfl rfl (Nat.le_of_ble_eq_true rfl) _ Tryz.underlying66 (by rfl) (by kernel_rfl) ?_|refine zGg M.out 0 ?_|refine zGg M.out 2 ?_);(try simp only [zr_,zm_]))))
  refine bodyPost_ret (M.out.results_cell Tryz.results87 _ 1 rfl rfl _ Tryz.underlying66 (by rfl) (by kernel_rfl)) rfl ?_
  rw [HZ.out]
  exact ⟨rfl,M.out.ext⟩
 skip
 ·have HZ:=Lib.hid (ps2_no (rv:=rv) HM.out HP.out HX.out (fun q => c2 q.2))
  have b2 : (x.ver_ == pv) = false:=by simpa using c2
  have b2n : (x.ver_ != pv) = true:=by simpa using c2
  clear c2
  go_enter Tryz.func87,Tryz.ntmps87
  go_wp2_with (first|(go_at_call 65;(with_reducible refine (impl_MemOk m _ n c _ S (by omega) (HS.out.ext M.out.ext)).mono ?_);rintro e w' ⟨rfl,x9⟩;replace M:=Lib.hid (M.out.on x9);clear x9;rw [HM.out])|(go_at_call 128;(with_reducible refine (impl_ProbeOk ⟨(i : Int),2,pv,pl⟩ _).mono ?_);rintro e w' ⟨rfl,x9⟩;replace M:=Lib.hid (M.out.on x9);clear x9;rw [HP.out])|((with_reducible show wpList _ _ _ (⟨_,_,_,_,_,none⟩::_) _ _);first|(refine Mine.wp_box M.out rfl 27 _ rfl _ rfl ?_;intro gm w' M';(try simp only [zr_,zm_] at M');replace M:=Lib.hid M';clear M';(try simp only [zr_,zm_]))|(refine Mine.wp_box M.out rfl 66 _ rfl _ rfl ?_;intro gp w' M';(try simp only [zr_,zm_] at M');replace M:=Lib.hid M';clear M';(try simp only [zr_,zm_]))|(refine Mine.wp_alloc M.out rfl 66 rfl (.agg #[.int .i64 0,.int .i64 0,.int .i64 0,.int .i64 0]) (by kernel_rfl) ?_;intro gr w' M';(try simp only [Value.cells,zr_,zm_] at M');replace M:=Lib.hid M';clear M';(try simp only [zr_,zm_]))|((first|refine zGs M.out 27 2 2 ?_|refine zG M.out 2 ?_|refine zG M.out 1 ?_|refine Mine.wp_arg M.out rfl 102 _ rfl _ _ rfl [.int .i64 x.val_,.int .i64 x.ver_,.int .i64 x.owner_] HWR.out HWB.out _ Tryz.underlying102 (by rfl) (by kernel_rfl) ?_|refine zG M.out 0 ?_|refine zGs M.out 66 2 4 ?_);(try simp only [zr_,zm_]))|((first|refine zSs M.out 102 0 ?_|refine zS M.out 2 ?_|refine zSs M.out 66 1 ?_);intro w' M';(try simp only [zr_,zm_] at M');replace M:=Lib.hid M';clear M')|(refine Mine.wp_alloc M.out rfl 102 rfl (.agg #[.int .i64 0,.int .i64 0,.int .i64 0]) (by kernel_rfl) ?_;intro gx w' M';(try simp only [Value.cells,zr_,zm_] at M');replace M:=Lib.hid M';clear M';(try simp only [zr_,zm_])))|((with_reducible show wpList _ _ _ (⟨_,.load _ _,_,_,_,some _⟩::_) _ _);first|((first|refine Mine.wp_getsg M.out (by rfl) 66 _ rfl 1 _ 4 rfl rfl (Nat.le_of_ble_eq_true rfl) _ Tryz.underlying66 (by rfl) (by kernel_rfl) ?_|refine zGg M.out 0 ?_|refine zGg M.out 2 ?_);(try simp only [zr_,zm_]))))
  refine bodyPost_ret (M.out.results_cell Tryz.results87 _ 1 rfl rfl _ Tryz.underlying66 (by rfl) (by kernel_rfl)) rfl ?_
  rw [HZ.out]
  exact ⟨rfl,M.out.ext⟩
set_option maxRecDepth 8000 in
set_option maxHeartbeats 8000000 in
theorem impl_psrest (m : Mem) (A : Option Addr) (n c : Nat) (rv : Int) (i : Nat) (ph pv pl : Int) (w : World) (S : Nat → Prop) (hs : Sl w S 3 A n (m.cells_.flatMap Word.cells)) (hm : n ≤ 1048576) (hM : memOk m = true) (hP : probeOk (⟨(i : Int),ph,pv,pl⟩ : Probe) = true) (h0 : ph ≠ 0) (h1 : ph ≠ 1) (h2 : ph ≠ 2) :
  Calls Tryz.prog 87 #[.agg #[.int .i64 m.clock_,.slice A n c],.int .i64 rv,.agg #[.int .i64 (i : Int),.int .i64 ph,.int .i64 pv,.int .i64 pl]] w fun e w' => e = .returned (.agg #[.int .i64 (pstep m rv (⟨(i : Int),ph,pv,pl⟩ : Probe)).cell_,.int .i64 (pstep m rv (⟨(i : Int),ph,pv,pl⟩ : Probe)).phase_,.int .i64 (pstep m rv (⟨(i : Int),ph,pv,pl⟩ : Probe)).ver_,.int .i64 (pstep m rv (⟨(i : Int),ph,pv,pl⟩ : Probe)).val_]) ∧ Ext w w':=by
 have hl0 : m.cells_.length = n:=hs.flen Word.cells_length (by omega)
 have HS:=Lib.hid hs
 clear hs
 have M:=Lib.hid (Mine.refl w)
 have HM:=Lib.hid hM
 have HP:=Lib.hid hP
 obtain ⟨q1,-,-,-⟩:=dec_true hP
 have hn8 : n = 8:=by have:=memOk_len hM;omega
 have hi : i < n:=by have:=q1.2;simp only at this;omega
 have hi1 : (i : Int) < (n : Int):=by omega
 obtain ⟨x,hx⟩ : ∃ x,m.cells_[i]? = some x:=⟨_,List.getElem?_eq_getElem (by omega)⟩
 have HX:=Lib.hid hx
 obtain ⟨bM,oM,rfl⟩:=HS.out.addr (by omega)
 have HWB : Hid (bM < w.heap.size):=(word_at HS.out hx hi 0 (by omega)).2
 have HWR : Hid (w.rangeAt bM (oM + i * 3) [.int .i64 x.val_,.int .i64 x.ver_,.int .i64 x.owner_]):=fun u v hu => by
  have h3 : u < 3:=by have:=(List.getElem?_eq_some_iff.1 hu).1;simpa using this
  have h4:=(word_at HS.out HX.out hi u h3).1
  simp only [Word.cells] at h4
  rw [h4];exact hu
 clear q1 hn8 hx hM hP
 have HZ:=Lib.hid (ps_rest (m:=m) (rv:=rv) (p:=⟨(i : Int),ph,pv,pl⟩) h0 h1 h2)
 have b0 : (ph == 0) = false:=by simpa using h0
 have b1 : (ph == 1) = false:=by simpa using h1
 have b2 : (ph == 2) = false:=by simpa using h2
 clear h0 h1 h2
 go_enter Tryz.func87,Tryz.ntmps87
 go_wp2_with (first|(go_at_call 65;(with_reducible refine (impl_MemOk m _ n c _ S (by omega) (HS.out.ext M.out.ext)).mono ?_);rintro e w' ⟨rfl,x9⟩;replace M:=Lib.hid (M.out.on x9);clear x9;rw [HM.out])|(go_at_call 128;(with_reducible refine (impl_ProbeOk ⟨(i : Int),ph,pv,pl⟩ _).mono ?_);rintro e w' ⟨rfl,x9⟩;replace M:=Lib.hid (M.out.on x9);clear x9;rw [HP.out])|((with_reducible show wpList _ _ _ (⟨_,_,_,_,_,none⟩::_) _ _);first|(refine Mine.wp_box M.out rfl 27 _ rfl _ rfl ?_;intro gm w' M';(try simp only [zr_,zm_] at M');replace M:=Lib.hid M';clear M';(try simp only [zr_,zm_]))|(refine Mine.wp_box M.out rfl 66 _ rfl _ rfl ?_;intro gp w' M';(try simp only [zr_,zm_] at M');replace M:=Lib.hid M';clear M';(try simp only [zr_,zm_]))|(refine Mine.wp_alloc M.out rfl 66 rfl (.agg #[.int .i64 0,.int .i64 0,.int .i64 0,.int .i64 0]) (by kernel_rfl) ?_;intro gr w' M';(try simp only [Value.cells,zr_,zm_] at M');replace M:=Lib.hid M';clear M';(try simp only [zr_,zm_]))|((first|refine zGs M.out 27 2 2 ?_|refine zG M.out 2 ?_|refine zG M.out 1 ?_|refine Mine.wp_arg M.out rfl 102 _ rfl _ _ rfl [.int .i64 x.val_,.int .i64 x.ver_,.int .i64 x.owner_] HWR.out HWB.out _ Tryz.underlying102 (by rfl) (by kernel_rfl) ?_|refine zGs M.out 66 2 4 ?_);(try simp only [zr_,zm_]))|((first|refine zSs M.out 102 0 ?_|refine zSs M.out 66 1 ?_);intro w' M';(try simp only [zr_,zm_] at M');replace M:=Lib.hid M';clear M')|(refine Mine.wp_alloc M.out rfl 102 rfl (.agg #[.int .i64 0,.int .i64 0,.int .i64 0]) (by kernel_rfl) ?_;intro gx w' M';(try simp only [Value.cells,zr_,zm_] at M');replace M:=Lib.hid M';clear M';(try simp only [zr_,zm_])))|((with_reducible show wpList _ _ _ (⟨_,.load _ _,_,_,_,some _⟩::_) _ _);first|(refine Mine.wp_getsg M.out (by rfl) 66 _ rfl 1 _ 4 rfl rfl (Nat.le_of_ble_eq_true rfl) _ Tryz.underlying66 (by rfl) (by kernel_rfl) ?_;(try simp only [zr_,zm_]))))
 refine bodyPost_ret (M.out.results_cell Tryz.results87 _ 1 rfl rfl _ Tryz.underlying66 (by rfl) (by kernel_rfl)) rfl ?_
 rw [HZ.out]
 exact ⟨rfl,M.out.ext⟩
theorem impl_ProbeStep (m : Mem) (A : Option Addr) (n c : Nat) (rv : Int) (pc ph pv pl : Int) (w : World) (S : Nat → Prop) (hs : Sl w S 3 A n (m.cells_.flatMap Word.cells)) (hm : n ≤ 1048576) :
  Calls Tryz.prog 87 #[.agg #[.int .i64 m.clock_,.slice A n c],.int .i64 rv,.agg #[.int .i64 pc,.int .i64 ph,.int .i64 pv,.int .i64 pl]] w fun e w' => e = .returned (.agg #[.int .i64 (pstep m rv (⟨pc,ph,pv,pl⟩ : Probe)).cell_,.int .i64 (pstep m rv (⟨pc,ph,pv,pl⟩ : Probe)).phase_,.int .i64 (pstep m rv (⟨pc,ph,pv,pl⟩ : Probe)).ver_,.int .i64 (pstep m rv (⟨pc,ph,pv,pl⟩ : Probe)).val_]) ∧ Ext w w':=by
 by_cases h : memOk m = true ∧ probeOk (⟨pc,ph,pv,pl⟩ : Probe) = true
 rotate_left
 ·exact impl_psbad m A n c rv pc ph pv pl w S hs hm h
 obtain ⟨hM,hP⟩:=h
 obtain ⟨i,rfl⟩ : ∃ i : Nat,pc = (i : Int):=⟨pc.toNat,by have:=(dec_true hP).1.1;simp only at this;omega⟩
 by_cases p0 : ph = 0
 ·subst p0;exact impl_ps0 m A n c rv i pv pl w S hs hm hM hP
 by_cases p1 : ph = 1
 ·subst p1;exact impl_ps1 m A n c rv i pv pl w S hs hm hM hP
 by_cases p2 : ph = 2
 ·subst p2;exact impl_ps2 m A n c rv i pv pl w S hs hm hM hP
 exact impl_psrest m A n c rv i ph pv pl w S hs hm hM hP p0 p1 p2

end Go.Proofs.YtpmfhfpjiebcjaaGreat
