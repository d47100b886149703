/- Probes. No condition. What a step of a job computes. No condition. -/
import Derived.Test.YtpmfhfpjiebcjaaGreatE00
import Derived.Test.YtpmfhfpjiebcjaaGreatE14
import Derived.Test.YtpmfhfpjiebcjaaGreatE20
import Derived.Test.YtpmfhfpjiebcjaaGreatE26
import Derived.Test.YtpmfhfpjiebcjaaGreatE27
namespace Go.Proofs.YtpmfhfpjiebcjaaGreat
open Go.RowKit Go.Deep
set_option linter.unusedSimpArgs false
set_option linter.unusedVariables false

noncomputable def pnew (cell : Int) : Probe:=if dec (0 ≤ cell ∧ cell ≤ 7) = true then ⟨cell,0,0,0⟩ else ⟨0,0,0,0⟩
noncomputable def probeOk (p : Probe) : Bool:=dec ((0 ≤ p.cell_ ∧ p.cell_ ≤ 7) ∧ (0 ≤ p.phase_ ∧ p.phase_ ≤ 4) ∧ (0 ≤ p.ver_ ∧ p.ver_ ≤ 1000000) ∧ (0 ≤ p.val_ ∧ p.val_ ≤ 65535))
noncomputable def pstep (m : Mem) (rv : Int) (p : Probe) : Probe :=
 let x:=wordAt m p.cell_.toNat
 if dec (memOk m = true ∧ probeOk p = true) = true then
  if p.phase_ = 0 then (if dec (x.owner_ = 0 ∧ x.ver_ ≤ rv) = true then ⟨p.cell_,1,x.ver_,p.val_⟩ else ⟨p.cell_,4,p.ver_,p.val_⟩)
  else if p.phase_ = 1 then ⟨p.cell_,2,p.ver_,x.val_⟩
  else if p.phase_ = 2 then (if dec (x.owner_ = 0 ∧ x.ver_ = p.ver_) = true then ⟨p.cell_,3,p.ver_,p.val_⟩ else ⟨p.cell_,4,p.ver_,p.val_⟩)
  else p
 else p
theorem pstep_bad {m : Mem} {rv : Int} {p : Probe} (h : ¬ (memOk m = true ∧ probeOk p = true)) : pstep m rv p = p:=by unfold pstep;simp only;rw [dec_no h];rfl
section
variable {m : Mem} {rv : Int} {i : Nat} {pv pl : Int} {x : Word}
theorem ps0_yes (hM : memOk m = true) (hP : probeOk ⟨(i : Int),0,pv,pl⟩ = true) (hx : m.cells_[i]? = some x) (h : x.owner_ = 0 ∧ x.ver_ ≤ rv) : pstep m rv ⟨(i : Int),0,pv,pl⟩ = ⟨(i : Int),1,x.ver_,pl⟩:=by
 unfold pstep wordAt;simp only;rw [dec_yes ⟨hM,hP⟩,Int.toNat_natCast,getD_of hx,dec_yes h];simp
theorem ps0_no (hM : memOk m = true) (hP : probeOk ⟨(i : Int),0,pv,pl⟩ = true) (hx : m.cells_[i]? = some x) (h : ¬ (x.owner_ = 0 ∧ x.ver_ ≤ rv)) : pstep m rv ⟨(i : Int),0,pv,pl⟩ = ⟨(i : Int),4,pv,pl⟩:=by
 unfold pstep wordAt;simp only;rw [dec_yes ⟨hM,hP⟩,Int.toNat_natCast,getD_of hx,dec_no h];simp
theorem ps1 (hM : memOk m = true) (hP : probeOk ⟨(i : Int),1,pv,pl⟩ = true) (hx : m.cells_[i]? = some x) : pstep m rv ⟨(i : Int),1,pv,pl⟩ = ⟨(i : Int),2,pv,x.val_⟩:=by
 unfold pstep wordAt;simp only;rw [dec_yes ⟨hM,hP⟩,Int.toNat_natCast,getD_of hx];simp
theorem ps2_yes (hM : memOk m = true) (hP : probeOk ⟨(i : Int),2,pv,pl⟩ = true) (hx : m.cells_[i]? = some x) (h : x.owner_ = 0 ∧ x.ver_ = pv) : pstep m rv ⟨(i : Int),2,pv,pl⟩ = ⟨(i : Int),3,pv,pl⟩:=by
 unfold pstep wordAt;simp only;rw [dec_yes ⟨hM,hP⟩,Int.toNat_natCast,getD_of hx,dec_yes h];simp
theorem ps2_no (hM : memOk m = true) (hP : probeOk ⟨(i : Int),2,pv,pl⟩ = true) (hx : m.cells_[i]? = some x) (h : ¬ (x.owner_ = 0 ∧ x.ver_ = pv)) : pstep m rv ⟨(i : Int),2,pv,pl⟩ = ⟨(i : Int),4,pv,pl⟩:=by
 unfold pstep wordAt;simp only;rw [dec_yes ⟨hM,hP⟩,Int.toNat_natCast,getD_of hx,dec_no h];simp
theorem ps_rest {m : Mem} {p : Probe} (h0 : p.phase_ ≠ 0) (h1 : p.phase_ ≠ 1) (h2 : p.phase_ ≠ 2) : pstep m rv p = p:=by
 unfold pstep;simp [h0,h1,h2]
end

set_option maxHeartbeats 4000000 in
theorem impl_ProbeNew (x : Int) (w : World) : Calls Tryz.prog 86 #[.int .i64 x] w fun e w' => ∃ b,e = .returned (.tuple #[.agg #[.int .i64 (pnew x).cell_,.int .i64 (pnew x).phase_,.int .i64 (pnew x).ver_,.int .i64 (pnew x).val_],.bool b]) ∧ Ext w w':=by
 have M:=Lib.hid (Mine.refl w)
 by_cases h : 0 ≤ x ∧ x ≤ 7
 ·have dc : decide (0 ≤ x ∧ x ≤ 7) = true:=by simpa using h
  have HZ : Hid (pnew x = ⟨x,0,0,0⟩):=by show _ = _;unfold pnew;rw [dec_yes h];rfl
  clear h
  go_enter Tryz.func86,Tryz.ntmps86
  go_wp2_with (first|(go_at_call 84;(with_reducible refine (icell_is dc _).mono ?_);rintro e w' ⟨rfl,rfl⟩)|((with_reducible show wpList _ _ _ (⟨_,_,_,_,_,none⟩::_) _ _);first|(refine Mine.wp_alloc M.out rfl 66 rfl (.agg #[.int .i64 0,.int .i64 0,.int .i64 0,.int .i64 0]) (by kernel_rfl) ?_;intro gr w' M';(try simp only [Value.cells,zr_,zm_] at M');replace M:=Lib.hid M';clear M';(try simp only [zr_,zm_]))|(refine zSs M.out 66 0 ?_;intro w' M';(try simp only [zr_,zm_] at M');replace M:=Lib.hid M';clear M')))
  refine bodyPost_ret (M.out.results_cell2 Tryz.results86 _ 0 rfl rfl _ Tryz.underlying66 (by rfl) (by kernel_rfl)) rfl ?_
  rw [HZ.out]
  exact ⟨_,rfl,M.out.ext⟩
 skip
 ·have dc : decide (0 ≤ x ∧ x ≤ 7) = false:=by simpa using h
  have HZ : Hid (pnew x = ⟨0,0,0,0⟩):=by show _ = _;unfold pnew;rw [dec_no h];rfl
  clear h
  go_enter Tryz.func86,Tryz.ntmps86
  go_wp2_with (first|(go_at_call 84;(with_reducible refine (icell_is dc _).mono ?_);rintro e w' ⟨rfl,rfl⟩)|((with_reducible show wpList _ _ _ (⟨_,_,_,_,_,none⟩::_) _ _);first|(refine Mine.wp_alloc M.out rfl 66 rfl (.agg #[.int .i64 0,.int .i64 0,.int .i64 0,.int .i64 0]) (by kernel_rfl) ?_;intro gr w' M';(try simp only [Value.cells,zr_,zm_] at M');replace M:=Lib.hid M';clear M';(try simp only [zr_,zm_]))|(refine zSs M.out 66 0 ?_;intro w' M';(try simp only [zr_,zm_] at M');replace M:=Lib.hid M';clear M')))
  refine bodyPost_ret (M.out.results_cell2 Tryz.results86 _ 0 rfl rfl _ Tryz.underlying66 (by rfl) (by kernel_rfl)) rfl ?_
  rw [HZ.out]
  exact ⟨_,rfl,M.out.ext⟩
set_option maxHeartbeats 4000000 in
theorem spec_ProbeNew (x : Int) (w : World) : Calls Tryz.prog 78 #[.int .i64 x] w fun e w' => ∃ b,e = .returned (.tuple #[.agg #[.int .i64 (pnew x).cell_,.int .i64 (pnew x).phase_,.int .i64 (pnew x).ver_,.int .i64 (pnew x).val_],.bool b]) ∧ Ext w w':=by
 have M:=Lib.hid (Mine.refl w)
 by_cases h : 0 ≤ x ∧ x ≤ 7
 ·have dc : decide (0 ≤ x ∧ x ≤ 7) = true:=by simpa using h
  have HZ : Hid (pnew x = ⟨x,0,0,0⟩):=by show _ = _;unfold pnew;rw [dec_yes h];rfl
  clear h
  go_enter Tryz.func78,Tryz.ntmps78
  go_wp2_with (first|(go_at_call 57;(with_reducible refine (scell_is dc _).mono ?_);rintro e w' ⟨rfl,rfl⟩)|((with_reducible show wpList _ _ _ (⟨_,_,_,_,_,none⟩::_) _ _);first|(refine Mine.wp_alloc M.out rfl 66 rfl (.agg #[.int .i64 0,.int .i64 0,.int .i64 0,.int .i64 0]) (by kernel_rfl) ?_;intro gr w' M';(try simp only [Value.cells,zr_,zm_] at M');replace M:=Lib.hid M';clear M';(try simp only [zr_,zm_]))|(refine zSs M.out 66 0 ?_;intro w' M';(try simp only [zr_,zm_] at M');replace M:=Lib.hid M';clear M')))
  refine bodyPost_ret (M.out.results_cell2 Tryz.results78 _ 0 rfl rfl _ Tryz.underlying66 (by rfl) (by kernel_rfl)) rfl ?_
  rw [HZ.out]
  exact ⟨_,rfl,M.out.ext⟩
 skip
 ·have dc : decide (0 ≤ x ∧ x ≤ 7) = false:=by simpa using h
  have HZ : Hid (pnew x = ⟨0,0,0,0⟩):=by show _ = _;unfold pnew;rw [dec_no h];rfl
  clear h
  go_enter Tryz.func78,Tryz.ntmps78
  go_wp2_with (first|(go_at_call 57;(with_reducible refine (scell_is dc _).mono ?_);rintro e w' ⟨rfl,rfl⟩)|((with_reducible show wpList _ _ _ (⟨_,_,_,_,_,none⟩::_) _ _);first|(refine Mine.wp_alloc M.out rfl 66 rfl (.agg #[.int .i64 0,.int .i64 0,.int .i64 0,.int .i64 0]) (by kernel_rfl) ?_;intro gr w' M';(try simp only [Value.cells,zr_,zm_] at M');replace M:=Lib.hid M';clear M';(try simp only [zr_,zm_]))|(refine zSs M.out 66 0 ?_;intro w' M';(try simp only [zr_,zm_] at M');replace M:=Lib.hid M';clear M')))
  refine bodyPost_ret (M.out.results_cell2 Tryz.results78 _ 0 rfl rfl _ Tryz.underlying66 (by rfl) (by kernel_rfl)) rfl ?_
  rw [HZ.out]
  exact ⟨_,rfl,M.out.ext⟩
set_option maxRecDepth 8000 in
set_option maxHeartbeats 4000000 in
theorem impl_ProbeOk (p : Probe) (w : World) : Calls Tryz.prog 128 #[.agg #[.int .i64 p.cell_,.int .i64 p.phase_,.int .i64 p.ver_,.int .i64 p.val_]] w fun e w' => e = .returned (.bool (probeOk p)) ∧ Ext w w':=by
 have M:=Lib.hid (Mine.refl w)
 by_cases q1 : 0 ≤ p.cell_ ∧ p.cell_ ≤ 7
 rotate_left
 ·have HZ : Hid (probeOk p = false):=dec_no fun z => q1 z.1
  have d1 : decide (0 ≤ p.cell_ ∧ p.cell_ ≤ 7) = false:=by simpa using q1
  clear q1
  go_enter Tryz.func128,Tryz.ntmps128
  go_wp2_with (first|(go_at_call 84;(with_reducible refine (icell_is d1 _).mono ?_);rintro e w' ⟨rfl,rfl⟩)|((with_reducible show wpList _ _ _ (⟨_,_,_,_,_,none⟩::_) _ _);first|(refine Mine.wp_box M.out rfl 66 _ rfl _ rfl ?_;intro ga w' M';(try simp only [zr_,zm_] at M');replace M:=Lib.hid M';clear M';(try simp only [zr_,zm_]))|(refine zG M.out 0 ?_;(try simp only [zr_,zm_]))))
  go_ret
  exact ⟨by rw [HZ.out];first|done|rfl,M.out.ext⟩
 have d1 : decide (0 ≤ p.cell_ ∧ p.cell_ ≤ 7) = true:=by simpa using q1
 have Q1:=Lib.hid q1
 clear q1
 by_cases q2 : 0 ≤ p.phase_ ∧ p.phase_ ≤ 4
 rotate_left
 ·have HZ : Hid (probeOk p = false):=dec_no fun z => q2 z.2.1
  have d2 : decide (0 ≤ p.phase_ ∧ p.phase_ ≤ 4) = false:=by simpa using q2
  clear q2
  go_enter Tryz.func128,Tryz.ntmps128
  go_wp2_with (first|(go_at_call 35;(with_reducible refine (with_is d2 _).mono ?_);rintro e w' ⟨rfl,rfl⟩)|(go_at_call 84;(with_reducible refine (icell_is d1 _).mono ?_);rintro e w' ⟨rfl,rfl⟩)|((with_reducible show wpList _ _ _ (⟨_,_,_,_,_,none⟩::_) _ _);first|(refine Mine.wp_box M.out rfl 66 _ rfl _ rfl ?_;intro ga w' M';(try simp only [zr_,zm_] at M');replace M:=Lib.hid M';clear M';(try simp only [zr_,zm_]))|(refine zG M.out 0 ?_;(try simp only [zr_,zm_])))|((with_reducible show wpList _ _ _ (⟨_,.load _ _,_,_,_,some _⟩::_) _ _);first|(refine zGg M.out 0 ?_;(try simp only [zr_,zm_]))))
  go_ret
  exact ⟨by rw [HZ.out];first|done|rfl,M.out.ext⟩
 have d2 : decide (0 ≤ p.phase_ ∧ p.phase_ ≤ 4) = true:=by simpa using q2
 have Q2:=Lib.hid q2
 clear q2
 by_cases q3 : 0 ≤ p.ver_ ∧ p.ver_ ≤ 1000000
 rotate_left
 ·have HZ : Hid (probeOk p = false):=dec_no fun z => q3 z.2.2.1
  have d3 : decide (0 ≤ p.ver_ ∧ p.ver_ ≤ 1000000) = false:=by simpa using q3
  clear q3
  go_enter Tryz.func128,Tryz.ntmps128
  go_wp2_with (first|(go_at_call 35;(with_reducible refine (with_is d2 _).mono ?_);rintro e w' ⟨rfl,rfl⟩)|(go_at_call 35;(with_reducible refine (with_is d3 _).mono ?_);rintro e w' ⟨rfl,rfl⟩)|(go_at_call 84;(with_reducible refine (icell_is d1 _).mono ?_);rintro e w' ⟨rfl,rfl⟩)|((with_reducible show wpList _ _ _ (⟨_,_,_,_,_,none⟩::_) _ _);first|(refine Mine.wp_box M.out rfl 66 _ rfl _ rfl ?_;intro ga w' M';(try simp only [zr_,zm_] at M');replace M:=Lib.hid M';clear M';(try simp only [zr_,zm_]))|(refine zG M.out 0 ?_;(try simp only [zr_,zm_])))|((with_reducible show wpList _ _ _ (⟨_,.load _ _,_,_,_,some _⟩::_) _ _);first|(refine zGg M.out 0 ?_;(try simp only [zr_,zm_]))))
  go_ret
  exact ⟨by rw [HZ.out];first|done|rfl,M.out.ext⟩
 have d3 : decide (0 ≤ p.ver_ ∧ p.ver_ ≤ 1000000) = true:=by simpa using q3
 have Q3:=Lib.hid q3
 clear q3
 by_cases q4 : 0 ≤ p.val_ ∧ p.val_ ≤ 65535
 rotate_left
 ·have HZ : Hid (probeOk p = false):=dec_no fun z => q4 z.2.2.2
  have d4 : decide (0 ≤ p.val_ ∧ p.val_ ≤ 65535) = false:=by simpa using q4
  clear q4
  go_enter Tryz.func128,Tryz.ntmps128
  go_wp2_with (first|(go_at_call 35;(with_reducible refine (with_is d2 _).mono ?_);rintro e w' ⟨rfl,rfl⟩)|(go_at_call 35;(with_reducible refine (with_is d3 _).mono ?_);rintro e w' ⟨rfl,rfl⟩)|(go_at_call 84;(with_reducible refine (icell_is d1 _).mono ?_);rintro e w' ⟨rfl,rfl⟩)|(go_at_call 104;(with_reducible refine (ival_is d4 _).mono ?_);rintro e w' ⟨rfl,rfl⟩)|((with_reducible show wpList _ _ _ (⟨_,_,_,_,_,none⟩::_) _ _);first|(refine Mine.wp_box M.out rfl 66 _ rfl _ rfl ?_;intro ga w' M';(try simp only [zr_,zm_] at M');replace M:=Lib.hid M';clear M';(try simp only [zr_,zm_]))|(refine zG M.out 0 ?_;(try simp only [zr_,zm_])))|((with_reducible show wpList _ _ _ (⟨_,.load _ _,_,_,_,some _⟩::_) _ _);first|(refine zGg M.out 0 ?_;(try simp only [zr_,zm_]))))
  go_ret
  exact ⟨by rw [HZ.out];first|done|rfl,M.out.ext⟩
 have d4 : decide (0 ≤ p.val_ ∧ p.val_ ≤ 65535) = true:=by simpa using q4
 have Q4:=Lib.hid q4
 clear q4
 have HZ : Hid (probeOk p = true):=dec_yes ⟨Q1.out,Q2.out,Q3.out,Q4.out⟩
 go_enter Tryz.func128,Tryz.ntmps128
 go_wp2_with (first|(go_at_call 35;(with_reducible refine (with_is d2 _).mono ?_);rintro e w' ⟨rfl,rfl⟩)|(go_at_call 35;(with_reducible refine (with_is d3 _).mono ?_);rintro e w' ⟨rfl,rfl⟩)|(go_at_call 84;(with_reducible refine (icell_is d1 _).mono ?_);rintro e w' ⟨rfl,rfl⟩)|(go_at_call 104;(with_reducible refine (ival_is d4 _).mono ?_);rintro e w' ⟨rfl,rfl⟩)|((with_reducible show wpList _ _ _ (⟨_,_,_,_,_,none⟩::_) _ _);first|(refine Mine.wp_box M.out rfl 66 _ rfl _ rfl ?_;intro ga w' M';(try simp only [zr_,zm_] at M');replace M:=Lib.hid M';clear M';(try simp only [zr_,zm_]))|(refine zG M.out 0 ?_;(try simp only [zr_,zm_])))|((with_reducible show wpList _ _ _ (⟨_,.load _ _,_,_,_,some _⟩::_) _ _);first|(refine zGg M.out 0 ?_;(try simp only [zr_,zm_]))))
 go_ret
 exact ⟨by rw [HZ.out];first|done|rfl,M.out.ext⟩
set_option maxRecDepth 8000 in
set_option maxHeartbeats 4000000 in
theorem spec_ProbeOk (p : Probe) (w : World) : Calls Tryz.prog 114 #[.agg #[.int .i64 p.cell_,.int .i64 p.phase_,.int .i64 p.ver_,.int .i64 p.val_]] w fun e w' => e = .returned (.bool (probeOk p)) ∧ Ext w w':=by
 have M:=Lib.hid (Mine.refl w)
 by_cases q1 : 0 ≤ p.cell_ ∧ p.cell_ ≤ 7
 rotate_left
 ·have HZ : Hid (probeOk p = false):=dec_no fun z => q1 z.1
  have d1 : decide (0 ≤ p.cell_ ∧ p.cell_ ≤ 7) = false:=by simpa using q1
  clear q1
  go_enter Tryz.func114,Tryz.ntmps114
  go_wp2_with (first|(go_at_call 57;(with_reducible refine (scell_is d1 _).mono ?_);rintro e w' ⟨rfl,rfl⟩)|((with_reducible show wpList _ _ _ (⟨_,_,_,_,_,none⟩::_) _ _);first|(refine Mine.wp_box M.out rfl 66 _ rfl _ rfl ?_;intro ga w' M';(try simp only [zr_,zm_] at M');replace M:=Lib.hid M';clear M';(try simp only [zr_,zm_]))|(refine zG M.out 0 ?_;(try simp only [zr_,zm_]))))
  go_ret
  exact ⟨by rw [HZ.out];first|done|rfl,M.out.ext⟩
 have d1 : decide (0 ≤ p.cell_ ∧ p.cell_ ≤ 7) = true:=by simpa using q1
 have Q1:=Lib.hid q1
 clear q1
 by_cases q2 : 0 ≤ p.phase_ ∧ p.phase_ ≤ 4
 rotate_left
 ·have HZ : Hid (probeOk p = false):=dec_no fun z => q2 z.2.1
  have d2 : decide (0 ≤ p.phase_ ∧ p.phase_ ≤ 4) = false:=by simpa using q2
  clear q2
  go_enter Tryz.func114,Tryz.ntmps114
  go_wp2_with (first|(go_at_call 30;(with_reducible refine (in_is d2 _).mono ?_);rintro e w' ⟨rfl,rfl⟩)|(go_at_call 57;(with_reducible refine (scell_is d1 _).mono ?_);rintro e w' ⟨rfl,rfl⟩)|((with_reducible show wpList _ _ _ (⟨_,_,_,_,_,none⟩::_) _ _);first|(refine Mine.wp_box M.out rfl 66 _ rfl _ rfl ?_;intro ga w' M';(try simp only [zr_,zm_] at M');replace M:=Lib.hid M';clear M';(try simp only [zr_,zm_]))|(refine zG M.out 0 ?_;(try simp only [zr_,zm_])))|((with_reducible show wpList _ _ _ (⟨_,.load _ _,_,_,_,some _⟩::_) _ _);first|(refine zGg M.out 0 ?_;(try simp only [zr_,zm_]))))
  go_ret
  exact ⟨by rw [HZ.out];first|done|rfl,M.out.ext⟩
 have d2 : decide (0 ≤ p.phase_ ∧ p.phase_ ≤ 4) = true:=by simpa using q2
 have Q2:=Lib.hid q2
 clear q2
 by_cases q3 : 0 ≤ p.ver_ ∧ p.ver_ ≤ 1000000
 rotate_left
 ·have HZ : Hid (probeOk p = false):=dec_no fun z => q3 z.2.2.1
  have d3 : decide (0 ≤ p.ver_ ∧ p.ver_ ≤ 1000000) = false:=by simpa using q3
  clear q3
  go_enter Tryz.func114,Tryz.ntmps114
  go_wp2_with (first|(go_at_call 30;(with_reducible refine (in_is d2 _).mono ?_);rintro e w' ⟨rfl,rfl⟩)|(go_at_call 30;(with_reducible refine (in_is d3 _).mono ?_);rintro e w' ⟨rfl,rfl⟩)|(go_at_call 57;(with_reducible refine (scell_is d1 _).mono ?_);rintro e w' ⟨rfl,rfl⟩)|((with_reducible show wpList _ _ _ (⟨_,_,_,_,_,none⟩::_) _ _);first|(refine Mine.wp_box M.out rfl 66 _ rfl _ rfl ?_;intro ga w' M';(try simp only [zr_,zm_] at M');replace M:=Lib.hid M';clear M';(try simp only [zr_,zm_]))|(refine zG M.out 0 ?_;(try simp only [zr_,zm_])))|((with_reducible show wpList _ _ _ (⟨_,.load _ _,_,_,_,some _⟩::_) _ _);first|(refine zGg M.out 0 ?_;(try simp only [zr_,zm_]))))
  go_ret
  exact ⟨by rw [HZ.out];first|done|rfl,M.out.ext⟩
 have d3 : decide (0 ≤ p.ver_ ∧ p.ver_ ≤ 1000000) = true:=by simpa using q3
 have Q3:=Lib.hid q3
 clear q3
 by_cases q4 : 0 ≤ p.val_ ∧ p.val_ ≤ 65535
 rotate_left
 ·have HZ : Hid (probeOk p = false):=dec_no fun z => q4 z.2.2.2
  have d4 : decide (0 ≤ p.val_ ∧ p.val_ ≤ 65535) = false:=by simpa using q4
  clear q4
  go_enter Tryz.func114,Tryz.ntmps114
  go_wp2_with (first|(go_at_call 30;(with_reducible refine (in_is d2 _).mono ?_);rintro e w' ⟨rfl,rfl⟩)|(go_at_call 30;(with_reducible refine (in_is d3 _).mono ?_);rintro e w' ⟨rfl,rfl⟩)|(go_at_call 57;(with_reducible refine (scell_is d1 _).mono ?_);rintro e w' ⟨rfl,rfl⟩)|(go_at_call 103;(with_reducible refine (sval_is d4 _).mono ?_);rintro e w' ⟨rfl,rfl⟩)|((with_reducible show wpList _ _ _ (⟨_,_,_,_,_,none⟩::_) _ _);first|(refine Mine.wp_box M.out rfl 66 _ rfl _ rfl ?_;intro ga w' M';(try simp only [zr_,zm_] at M');replace M:=Lib.hid M';clear M';(try simp only [zr_,zm_]))|(refine zG M.out 0 ?_;(try simp only [zr_,zm_])))|((with_reducible show wpList _ _ _ (⟨_,.load _ _,_,_,_,some _⟩::_) _ _);first|(refine zGg M.out 0 ?_;(try simp only [zr_,zm_]))))
  go_ret
  exact ⟨by rw [HZ.out];first|done|rfl,M.out.ext⟩
 have d4 : decide (0 ≤ p.val_ ∧ p.val_ ≤ 65535) = true:=by simpa using q4
 have Q4:=Lib.hid q4
 clear q4
 have HZ : Hid (probeOk p = true):=dec_yes ⟨Q1.out,Q2.out,Q3.out,Q4.out⟩
 go_enter Tryz.func114,Tryz.ntmps114
 go_wp2_with (first|(go_at_call 30;(with_reducible refine (in_is d2 _).mono ?_);rintro e w' ⟨rfl,rfl⟩)|(go_at_call 30;(with_reducible refine (in_is d3 _).mono ?_);rintro e w' ⟨rfl,rfl⟩)|(go_at_call 57;(with_reducible refine (scell_is d1 _).mono ?_);rintro e w' ⟨rfl,rfl⟩)|(go_at_call 103;(with_reducible refine (sval_is d4 _).mono ?_);rintro e w' ⟨rfl,rfl⟩)|((with_reducible show wpList _ _ _ (⟨_,_,_,_,_,none⟩::_) _ _);first|(refine Mine.wp_box M.out rfl 66 _ rfl _ rfl ?_;intro ga w' M';(try simp only [zr_,zm_] at M');replace M:=Lib.hid M';clear M';(try simp only [zr_,zm_]))|(refine zG M.out 0 ?_;(try simp only [zr_,zm_])))|((with_reducible show wpList _ _ _ (⟨_,.load _ _,_,_,_,some _⟩::_) _ _);first|(refine zGg M.out 0 ?_;(try simp only [zr_,zm_]))))
 go_ret
 exact ⟨by rw [HZ.out];first|done|rfl,M.out.ext⟩

end Go.Proofs.YtpmfhfpjiebcjaaGreat
namespace Go.Proofs.YtpmfhfpjiebcjaaGreat
open Go.RowKit Go.Deep
set_option linter.unusedSimpArgs false
set_option linter.unusedVariables false

def JobRun.zero : JobRun:=⟨0,0,0,0,0,[],false,⟨0,0,0,0⟩,⟨0,0,0,0,0,[],[]⟩⟩
def again (t : Int) : JobRun:=⟨0,t + 1,0,0,0,[],false,⟨0,0,0,0⟩,⟨0,0,0,0,0,[],[]⟩⟩
noncomputable def ccNew (m : Mem) (c : Commit) : Commit:=⟨c.who_,c.rv_,(cstepS m c).ph,(cstepS m c).at_,(cstepS m c).wv,c.puts_,c.reads_⟩
noncomputable def probe0 (j : Job) (x : JobRun) : Probe:=if x.busy_ = true then x.probe_ else pnew (j.reads_.getD x.at_.toNat default)
noncomputable def jread (m : Mem) (j : Job) (x : JobRun) : JobRun :=
 let p:=pstep m x.rv_ (probe0 j x)
 if p.phase_ = 4 then again x.tries_
 else if p.phase_ = 3 then ⟨x.phase_,x.tries_,x.rv_,x.at_ + 1,x.stamp_,x.seen_ ++ [⟨p.cell_,p.val_⟩],false,⟨0,0,0,0⟩,x.commit_⟩
 else ⟨x.phase_,x.tries_,x.rv_,x.at_,x.stamp_,x.seen_,true,p,x.commit_⟩
noncomputable def jcommit (m : Mem) (x : JobRun) : JobRun :=
 let c:=ccNew m x.commit_
 if c.phase_ = 8 then again x.tries_
 else if c.phase_ = 6 then ⟨3,x.tries_,x.rv_,x.at_,c.wv_,x.seen_,x.busy_,x.probe_,⟨0,0,0,0,0,[],[]⟩⟩
 else ⟨x.phase_,x.tries_,x.rv_,x.at_,x.stamp_,x.seen_,x.busy_,x.probe_,c⟩
/-- A step of a job: the memory,the job. -/
noncomputable def jstep (m : Mem) (who : Int) (j : Job) (x : JobRun) : Mem × JobRun :=
 if x.phase_ = 0 then (m,⟨1,x.tries_,m.clock_,x.at_,x.stamp_,x.seen_,x.busy_,x.probe_,x.commit_⟩)
 else if x.phase_ = 1 then
  (if x.at_ = j.reads_.length then
   (if j.puts_.length = 0 then (m,⟨3,x.tries_,x.rv_,x.at_,x.rv_,x.seen_,x.busy_,x.probe_,x.commit_⟩)
    else (m,⟨2,x.tries_,x.rv_,x.at_,x.stamp_,x.seen_,x.busy_,x.probe_,cnew who x.rv_ j.puts_ x.seen_⟩))
   else (m,jread m j x))
 else if x.phase_ = 2 then (⟨(cstepS m x.commit_).k,(cstepS m x.commit_).xs⟩,jcommit m x)
 else (m,x)
theorem Mine.results_cj {P : Program} {b w : World} {rs : List Res} {fn : Func} {s k : Tmp} {ty ty2 : TypeId} (hr : fn.results = #[.cell s ty,.cell k ty2]) (M : Mine b w rs) (tmps : Array Value) (i i2 : Nat) {g : Nat} {t : TypeId} {vs : List Value} (hi : rs[i]? = some (.box g t vs.toArray)) (hx : tmps.getD s undef = .pointer (some ⟨g,0,none⟩))
  (d : TypeDesc) (hu : P.underlying ty = some d) (hd : d.isRow = true) (hf : (P.info? ty).map (·.size) = some vs.length)
  {g2 : Nat} {t2 : TypeId} {vs2 : List Value} (hi2 : rs[i2]? = some (.box g2 t2 vs2.toArray)) (hx2 : tmps.getD k undef = .pointer (some ⟨g2,0,none⟩))
  (d2 : TypeDesc) (hu2 : P.underlying ty2 = some d2) (hd2 : d2.isRow = true) (hf2 : (P.info? ty2).map (·.size) = some vs2.length) : (results fn tmps).run P w = .ok (.tuple #[.agg vs.toArray,.agg vs2.toArray]) w :=
 Mine.results_cc hr M tmps i hi hx d hu hd hf i2 hi2 hx2 d2 hu2 hd2 hf2


end Go.Proofs.YtpmfhfpjiebcjaaGreat
