/- JobsOk of program and reference. No condition but lengths. DuelPlay in plain words; the jobs as entries. No condition. -/
import Derived.Test.YtpmfhfpjiebcjaaGreatD00
import Derived.Test.YtpmfhfpjiebcjaaGreatD19
namespace Go.Proofs.YtpmfhfpjiebcjaaGreat
open Go.RowKit Go.Deep
set_option linter.unnecessarySimpa false
set_option linter.unusedSimpArgs false
set_option linter.unusedVariables false
set_option maxRecDepth 8000 in
set_option maxHeartbeats 8000000 in
theorem impl_JobsOk (A : Option Addr) (n c : Nat) (l : List Int) (A2 : Option Addr) (n2 c2 : Nat) (js : List Job) (w : World) (S : Nat → Prop) (hs : Sl w S 1 A n (ints l)) (hm : n ≤ 1048576) (S2 : Nat → Prop) (h2 : SlR Job.R 2 w S2 A2 n2 js) (hm2 : n2 ≤ 1048576) (hw : ∀ j ∈ js,Job.wt j ≤ 1048576) : Calls Tryz.prog 33 #[.slice A n c,.slice A2 n2 c2] w fun e w' => e = .returned (.bool (jobsOk l js)) ∧ Ext w w':=by
 have hl2 : js.length = n2:=h2.1
 have HS:=Lib.hid hs
 have HJ:=Lib.hid h2
 have HW:=Lib.hid hw
 clear hs h2 hw
 have M:=Lib.hid (Mine.refl w)
 go_enter Tryz.func33,Tryz.ntmps33
 go_wp2
 go_loopw [9] (fun i wr => ∃ k : Nat,k ≤ n2 ∧ i = .int .i64 k ∧ Hid (AllTo (fun _ j => jobOk j) js k) ∧ Hid (Mine w wr [])) (fun i _ => n2 - (intOf i).toNat)
 case atStart => exact ⟨0,Nat.zero_le _,rfl,AllTo.zero _ _,M⟩
 case round =>
  clear M
  obtain ⟨k,hk,rfl,HU,M⟩:=hrel
  by_cases hlt : (k : Int) < (n2 : Int)
  rotate_left
  ·have e : k = js.length:=by omega
   cases hv : valsOk l
   ·have HZ : Hid (jobsOk l js = false):=dec_no fun z => by have:=z.1;rw [hv] at this;exact absurd this (by simp)
    clear e
    go_wp2_with ((go_at_call 64;(with_reducible refine (areValues_any A n c l _ S (HS.out.ext M.out.ext) hm).mono ?_);rintro e w' ⟨rfl,rfl⟩;rw [hv]))
    go_ret
    exact ⟨by rw [HZ.out];first|done|rfl,M.out.ext⟩
   by_cases h4 : n2 ≤ 4
   ·have HZ : Hid (jobsOk l js = true):=dec_yes ⟨hv,by omega,by rw [← e];exact HU.out⟩
    have d4 : decide ((n2 : Int) ≤ 4) = true:=by simp only [decide_eq_true_eq];omega
    clear h4 e
    go_wp2_with ((go_at_call 64;(with_reducible refine (areValues_any A n c l _ S (HS.out.ext M.out.ext) hm).mono ?_);rintro e w' ⟨rfl,rfl⟩;rw [hv]))
    go_ret
    exact ⟨by rw [HZ.out];first|done|rfl,M.out.ext⟩
   ·have HZ : Hid (jobsOk l js = false):=dec_no fun z => h4 (by have:=z.2.1;omega)
    have d4 : decide ((n2 : Int) ≤ 4) = false:=by simp only [decide_eq_false_iff_not];omega
    clear h4 e
    go_wp2_with ((go_at_call 64;(with_reducible refine (areValues_any A n c l _ S (HS.out.ext M.out.ext) hm).mono ?_);rintro e w' ⟨rfl,rfl⟩;rw [hv]))
    go_ret
    exact ⟨by rw [HZ.out];first|done|rfl,M.out.ext⟩
  have HLT : Hid (k < n2):=by show _ < _;omega
  obtain ⟨b,o,rfl⟩:=HJ.out.addr (by omega)
  obtain ⟨j,row,hj,hb,hr,hc⟩:=HJ.out.at_ (k:=k) HLT.out
  have hjw:=HW.out j (List.mem_of_getElem? hj)
  obtain ⟨A0,n0,c0,A1,n1,c1,rfl,⟨k0,m0,s0⟩,⟨k1,m1,s1⟩⟩:=hr
  have hr0 : j.reads_.length = n0:=s0.len
  have hr1 : j.puts_.length = n1:=s1.flen Row.cells_length (by omega)
  have hn0 : n0 ≤ 1048576:=by unfold Job.wt at hjw;omega
  have hn1 : n1 ≤ 1048576:=by unfold Job.wt at hjw;omega
  have HX:=Lib.hid hj
  have HS0:=Lib.hid s0
  have HS1:=Lib.hid s1
  have HC0 : Hid (w.cell? ⟨b,o + k * 2,none⟩ = some (.slice A0 n0 c0) ∧ b < w.heap.size):=⟨by have h:=hc 0 (by omega);rw [Nat.add_zero] at h;exact h,hb⟩
  have HC1 : Hid (w.cell? ⟨b,o + k * 2 + 1,none⟩ = some (.slice A1 n1 c1) ∧ b < w.heap.size):=⟨hc 1 (by omega),hb⟩
  have HRG : Hid (w.rangeAt b (o + k * 2) [.slice A0 n0 c0,.slice A1 n1 c1]):=fun u v hu => by
   have h3 : u < 2:=by have:=(List.getElem?_eq_some_iff.1 hu).1;simpa using this
   rw [hc u h3];exact hu
  have HRB:=Lib.hid hb
  clear hj hb hc s0 s1 k0 m0 k1 m1 hjw
  by_cases q0 : n0 ≤ 8
  rotate_left
  ·have HZ : Hid (jobsOk l js = false):=dec_no (fun z => AllTo.not HX.out (by rw [hl2];exact HLT.out) (fun q : jobOk j => q0 (by have:=q.1;omega)) z.2.2)
   have d0 : decide ((8 : Int) < (n0 : Int)) = true:=by simp only [decide_eq_true_eq];omega
   clear q0
   go_wp2_with (((with_reducible show wpList _ _ _ (⟨_,_,_,_,_,none⟩::_) _ _);first|((first|refine Mine.wp_arg M.out rfl 72 _ rfl _ _ rfl [.slice A0 n0 c0,.slice A1 n1 c1] HRG.out HRB.out _ Tryz.underlying72 (by rfl) (by kernel_rfl) ?_|refine zG M.out 0 ?_);(try simp only [zr_,zm_]))|(refine Mine.wp_alloc M.out rfl 72 rfl (.agg #[.slice none 0 0,.slice none 0 0]) (by kernel_rfl) ?_;intro gj w' M';(try simp only [Value.cells,zr_,zm_] at M');replace M:=Lib.hid M';clear M';(try simp only [zr_,zm_]))|(refine zSs M.out 72 0 ?_;intro w' M';(try simp only [zr_,zm_] at M');replace M:=Lib.hid M';clear M')))
   go_ret
   exact ⟨by rw [HZ.out];first|done|rfl,M.out.ext⟩
  have d0 : decide ((8 : Int) < (n0 : Int)) = false:=by simp only [decide_eq_false_iff_not];omega
  by_cases q1 : n1 ≤ 8
  rotate_left
  ·have HZ : Hid (jobsOk l js = false):=dec_no (fun z => AllTo.not HX.out (by rw [hl2];exact HLT.out) (fun q : jobOk j => q1 (by have:=q.2.1;omega)) z.2.2)
   have d1 : decide ((8 : Int) < (n1 : Int)) = true:=by simp only [decide_eq_true_eq];omega
   clear q1
   go_wp2_with (first|((with_reducible show wpList _ _ _ (⟨_,_,_,_,_,none⟩::_) _ _);first|((first|refine Mine.wp_arg M.out rfl 72 _ rfl _ _ rfl [.slice A0 n0 c0,.slice A1 n1 c1] HRG.out HRB.out _ Tryz.underlying72 (by rfl) (by kernel_rfl) ?_|refine zG M.out 0 ?_);(try simp only [zr_,zm_]))|(refine Mine.wp_alloc M.out rfl 72 rfl (.agg #[.slice none 0 0,.slice none 0 0]) (by kernel_rfl) ?_;intro gj w' M';(try simp only [Value.cells,zr_,zm_] at M');replace M:=Lib.hid M';clear M';(try simp only [zr_,zm_]))|(refine zSs M.out 72 0 ?_;intro w' M';(try simp only [zr_,zm_] at M');replace M:=Lib.hid M';clear M'))|((with_reducible show wpList _ _ _ (⟨_,.load _ _,_,_,_,some _⟩::_) _ _);first|(refine zGg M.out 0 ?_;(try simp only [zr_,zm_]))))
   go_ret
   exact ⟨by rw [HZ.out];first|done|rfl,M.out.ext⟩
  have d1 : decide ((8 : Int) < (n1 : Int)) = false:=by simp only [decide_eq_false_iff_not];omega
  cases h5 : rowsOk j.puts_
  ·have HZ : Hid (jobsOk l js = false):=dec_no (fun z => AllTo.not HX.out (by rw [hl2];exact HLT.out) (fun q : jobOk j => by have:=q.2.2.1;rw [h5] at this;exact absurd this (by simp)) z.2.2)
   go_wp2_with (first|(go_at_call 67;(with_reducible refine (impl_RowsOk A1 n1 c1 j.puts_ _ S2 (HS1.out.ext M.out.ext) hn1).mono ?_);rintro e w' ⟨rfl,x9⟩;replace M:=Lib.hid (M.out.on x9);clear x9;rw [h5])|((with_reducible show wpList _ _ _ (⟨_,_,_,_,_,none⟩::_) _ _);first|((first|refine Mine.wp_arg M.out rfl 72 _ rfl _ _ rfl [.slice A0 n0 c0,.slice A1 n1 c1] HRG.out HRB.out _ Tryz.underlying72 (by rfl) (by kernel_rfl) ?_|refine zG M.out 0 ?_);(try simp only [zr_,zm_]))|(refine Mine.wp_alloc M.out rfl 72 rfl (.agg #[.slice none 0 0,.slice none 0 0]) (by kernel_rfl) ?_;intro gj w' M';(try simp only [Value.cells,zr_,zm_] at M');replace M:=Lib.hid M';clear M';(try simp only [zr_,zm_]))|(refine zSs M.out 72 0 ?_;intro w' M';(try simp only [zr_,zm_] at M');replace M:=Lib.hid M';clear M'))|((with_reducible show wpList _ _ _ (⟨_,.load _ _,_,_,_,some _⟩::_) _ _);first|(refine zGg M.out 0 ?_;(try simp only [zr_,zm_]))))
   go_ret
   exact ⟨by rw [HZ.out];first|done|rfl,M.out.ext⟩
  cases h6 : dec (AllTo (fun _ x => isC x) j.reads_ j.reads_.length)
  ·have HZ : Hid (jobsOk l js = false):=dec_no (fun z => AllTo.not HX.out (by rw [hl2];exact HLT.out) (fun q : jobOk j => dec_false h6 q.2.2.2) z.2.2)
   go_wp2_with (first|(go_at_call 67;(with_reducible refine (impl_RowsOk A1 n1 c1 j.puts_ _ S2 (HS1.out.ext M.out.ext) hn1).mono ?_);rintro e w' ⟨rfl,x9⟩;replace M:=Lib.hid (M.out.on x9);clear x9;rw [h5])|(go_at_call 82;(with_reducible refine (anyjc_any A0 n0 c0 j.reads_ _ S2 (HS0.out.ext M.out.ext) (by omega)).mono ?_);rintro e w' ⟨rfl,x9⟩;replace M:=Lib.hid (M.out.on x9);clear x9;rw [h6])|((with_reducible show wpList _ _ _ (⟨_,_,_,_,_,none⟩::_) _ _);first|((first|refine Mine.wp_arg M.out rfl 72 _ rfl _ _ rfl [.slice A0 n0 c0,.slice A1 n1 c1] HRG.out HRB.out _ Tryz.underlying72 (by rfl) (by kernel_rfl) ?_|refine zG M.out 0 ?_);(try simp only [zr_,zm_]))|(refine Mine.wp_alloc M.out rfl 72 rfl (.agg #[.slice none 0 0,.slice none 0 0]) (by kernel_rfl) ?_;intro gj w' M';(try simp only [Value.cells,zr_,zm_] at M');replace M:=Lib.hid M';clear M';(try simp only [zr_,zm_]))|(refine zSs M.out 72 0 ?_;intro w' M';(try simp only [zr_,zm_] at M');replace M:=Lib.hid M';clear M'))|((with_reducible show wpList _ _ _ (⟨_,.load _ _,_,_,_,some _⟩::_) _ _);first|(refine zGg M.out 0 ?_;(try simp only [zr_,zm_]))))
   go_ret
   exact ⟨by rw [HZ.out];first|done|rfl,M.out.ext⟩
  have HO : Hid (jobOk j):=⟨by omega,by omega,h5,dec_true h6⟩
  go_wp2_with (first|(go_at_call 67;(with_reducible refine (impl_RowsOk A1 n1 c1 j.puts_ _ S2 (HS1.out.ext M.out.ext) hn1).mono ?_);rintro e w' ⟨rfl,x9⟩;replace M:=Lib.hid (M.out.on x9);clear x9;rw [h5])|(go_at_call 82;(with_reducible refine (anyjc_any A0 n0 c0 j.reads_ _ S2 (HS0.out.ext M.out.ext) (by omega)).mono ?_);rintro e w' ⟨rfl,x9⟩;replace M:=Lib.hid (M.out.on x9);clear x9;rw [h6])|((with_reducible show wpList _ _ _ (⟨_,_,_,_,_,none⟩::_) _ _);first|((first|refine Mine.wp_arg M.out rfl 72 _ rfl _ _ rfl [.slice A0 n0 c0,.slice A1 n1 c1] HRG.out HRB.out _ Tryz.underlying72 (by rfl) (by kernel_rfl) ?_|refine zG M.out 0 ?_);(try simp only [zr_,zm_]))|(refine Mine.wp_alloc M.out rfl 72 rfl (.agg #[.slice none 0 0,.slice none 0 0]) (by kernel_rfl) ?_;intro gj w' M';(try simp only [Value.cells,zr_,zm_] at M');replace M:=Lib.hid M';clear M';(try simp only [zr_,zm_]))|(refine zSs M.out 72 0 ?_;intro w' M';(try simp only [zr_,zm_] at M');replace M:=Lib.hid M';clear M'))|((with_reducible show wpList _ _ _ (⟨_,.load _ _,_,_,_,some _⟩::_) _ _);first|(refine zGg M.out 0 ?_;(try simp only [zr_,zm_]))))
  go_roundw
  case rel => exact ⟨k + 1,HLT.out,by go_num,Lib.hid (HU.out.succ HX.out HO.out),Lib.hid (Mine.of M.out.ext)⟩
  case measure => have:=HLT.out;simp [intOf];omega
set_option maxRecDepth 8000 in
set_option maxHeartbeats 8000000 in
theorem spec_JobsOk (A : Option Addr) (n c : Nat) (l : List Int) (A2 : Option Addr) (n2 c2 : Nat) (js : List Job) (w : World) (S : Nat → Prop) (hs : Sl w S 1 A n (ints l)) (hm : n ≤ 1048576) (S2 : Nat → Prop) (h2 : SlR Job.R 2 w S2 A2 n2 js) (hm2 : n2 ≤ 1048576) (hw : ∀ j ∈ js,Job.wt j ≤ 1048576) : Calls Tryz.prog 19 #[.slice A n c,.slice A2 n2 c2] w fun e w' => e = .returned (.bool (jobsOk l js)) ∧ Ext w w':=by
 have hl2 : js.length = n2:=h2.1
 have HS:=Lib.hid hs
 have HJ:=Lib.hid h2
 have HW:=Lib.hid hw
 clear hs h2 hw
 have M:=Lib.hid (Mine.refl w)
 cases hv : valsOk l
 ·have HZ : Hid (jobsOk l js = false):=dec_no fun z => by have:=z.1;rw [hv] at this;exact absurd this (by simp)
  go_enter Tryz.func19,Tryz.ntmps19
  go_wp2_with ((go_at_call 55;(with_reducible refine (l3Vals_any A n c l _ S (HS.out.ext M.out.ext) hm).mono ?_);rintro e w' ⟨rfl,rfl⟩;rw [hv]))
  go_ret
  exact ⟨by rw [HZ.out];first|done|rfl,M.out.ext⟩
 by_cases h4 : n2 ≤ 4
 rotate_left
 ·have HZ : Hid (jobsOk l js = false):=dec_no fun z => h4 (by have:=z.2.1;omega)
  have d4 : decide ((4 : Int) < (n2 : Int)) = true:=by simp only [decide_eq_true_eq];omega
  clear h4
  go_enter Tryz.func19,Tryz.ntmps19
  go_wp2_with ((go_at_call 55;(with_reducible refine (l3Vals_any A n c l _ S (HS.out.ext M.out.ext) hm).mono ?_);rintro e w' ⟨rfl,rfl⟩;rw [hv]))
  go_ret
  exact ⟨by rw [HZ.out];first|done|rfl,M.out.ext⟩
 have d4 : decide ((4 : Int) < (n2 : Int)) = false:=by simp only [decide_eq_false_iff_not];omega
 have HV:=Lib.hid hv
 have H4:=Lib.hid h4
 go_enter Tryz.func19,Tryz.ntmps19
 go_wp2_with ((go_at_call 55;(with_reducible refine (l3Vals_any A n c l _ S (HS.out.ext M.out.ext) hm).mono ?_);rintro e w' ⟨rfl,rfl⟩;rw [hv]))
 clear hv h4 d4
 go_loopw [5] (fun i wr => ∃ k : Nat,k ≤ n2 ∧ i = .int .i64 k ∧ Hid (AllTo (fun _ j => jobOk j) js k) ∧ Hid (Mine w wr [])) (fun i _ => n2 - (intOf i).toNat)
 case atStart => exact ⟨0,Nat.zero_le _,rfl,AllTo.zero _ _,M⟩
 case round =>
  clear M
  obtain ⟨k,hk,rfl,HU,M⟩:=hrel
  by_cases hlt : (k : Int) < (n2 : Int)
  rotate_left
  ·have e : k = js.length:=by omega
   have HZ : Hid (jobsOk l js = true):=dec_yes ⟨HV.out,by have:=H4.out;omega,by rw [← e];exact HU.out⟩
   clear e
   go_wp2
   go_ret
   exact ⟨by rw [HZ.out];first|done|rfl,M.out.ext⟩
  have HLT : Hid (k < n2):=by show _ < _;omega
  obtain ⟨b,o,rfl⟩:=HJ.out.addr (by omega)
  obtain ⟨j,row,hj,hb,hr,hc⟩:=HJ.out.at_ (k:=k) HLT.out
  have hjw:=HW.out j (List.mem_of_getElem? hj)
  obtain ⟨A0,n0,c0,A1,n1,c1,rfl,⟨k0,m0,s0⟩,⟨k1,m1,s1⟩⟩:=hr
  have hr0 : j.reads_.length = n0:=s0.len
  have hr1 : j.puts_.length = n1:=s1.flen Row.cells_length (by omega)
  have hn0 : n0 ≤ 1048576:=by unfold Job.wt at hjw;omega
  have hn1 : n1 ≤ 1048576:=by unfold Job.wt at hjw;omega
  have HX:=Lib.hid hj
  have HS0:=Lib.hid s0
  have HS1:=Lib.hid s1
  have HC0 : Hid (w.cell? ⟨b,o + k * 2,none⟩ = some (.slice A0 n0 c0) ∧ b < w.heap.size):=⟨by have h:=hc 0 (by omega);rw [Nat.add_zero] at h;exact h,hb⟩
  have HC1 : Hid (w.cell? ⟨b,o + k * 2 + 1,none⟩ = some (.slice A1 n1 c1) ∧ b < w.heap.size):=⟨hc 1 (by omega),hb⟩
  have HRG : Hid (w.rangeAt b (o + k * 2) [.slice A0 n0 c0,.slice A1 n1 c1]):=fun u v hu => by
   have h3 : u < 2:=by have:=(List.getElem?_eq_some_iff.1 hu).1;simpa using this
   rw [hc u h3];exact hu
  have HRB:=Lib.hid hb
  clear hj hb hc s0 s1 k0 m0 k1 m1 hjw
  by_cases q0 : n0 ≤ 8
  rotate_left
  ·have HZ : Hid (jobsOk l js = false):=dec_no (fun z => AllTo.not HX.out (by rw [hl2];exact HLT.out) (fun q : jobOk j => q0 (by have:=q.1;omega)) z.2.2)
   have d0 : decide ((8 : Int) < (n0 : Int)) = true:=by simp only [decide_eq_true_eq];omega
   clear q0
   go_wp2_with (((with_reducible show wpList _ _ _ (⟨_,_,_,_,_,none⟩::_) _ _);first|(refine Mine.wp_argc M.out rfl 22 _ rfl _ _ HC0.out rfl _ Tryz.underlying22 (by rfl) ?_;(try simp only [zr_,zm_]))))
   go_ret
   exact ⟨by rw [HZ.out];first|done|rfl,M.out.ext⟩
  have d0 : decide ((8 : Int) < (n0 : Int)) = false:=by simp only [decide_eq_false_iff_not];omega
  by_cases q1 : n1 ≤ 8
  rotate_left
  ·have HZ : Hid (jobsOk l js = false):=dec_no (fun z => AllTo.not HX.out (by rw [hl2];exact HLT.out) (fun q : jobOk j => q1 (by have:=q.2.1;omega)) z.2.2)
   have d1 : decide ((8 : Int) < (n1 : Int)) = true:=by simp only [decide_eq_true_eq];omega
   clear q1
   go_wp2_with (first|((with_reducible show wpList _ _ _ (⟨_,_,_,_,_,none⟩::_) _ _);first|(refine Mine.wp_argc M.out rfl 22 _ rfl _ _ HC0.out rfl _ Tryz.underlying22 (by rfl) ?_;(try simp only [zr_,zm_])))|((with_reducible show wpList _ _ _ (⟨_,.load _ _,_,_,_,some _⟩::_) _ _);first|(refine Mine.wp_getgc M.out (by rfl) 51 _ rfl _ _ HC1.out rfl _ Tryz.underlying51 (by rfl) ?_;(try simp only [zr_,zm_]))))
   go_ret
   exact ⟨by rw [HZ.out];first|done|rfl,M.out.ext⟩
  have d1 : decide ((8 : Int) < (n1 : Int)) = false:=by simp only [decide_eq_false_iff_not];omega
  cases h5 : rowsOk j.puts_
  ·have HZ : Hid (jobsOk l js = false):=dec_no (fun z => AllTo.not HX.out (by rw [hl2];exact HLT.out) (fun q : jobOk j => by have:=q.2.2.1;rw [h5] at this;exact absurd this (by simp)) z.2.2)
   go_wp2_with (first|(go_at_call 56;(with_reducible refine (spec_RowsOk A1 n1 c1 j.puts_ _ S2 (HS1.out.ext M.out.ext) hn1).mono ?_);rintro e w' ⟨rfl,x9⟩;replace M:=Lib.hid (M.out.on x9);clear x9;rw [h5])|((with_reducible show wpList _ _ _ (⟨_,_,_,_,_,none⟩::_) _ _);first|(refine Mine.wp_argc M.out rfl 22 _ rfl _ _ HC0.out rfl _ Tryz.underlying22 (by rfl) ?_;(try simp only [zr_,zm_])))|((with_reducible show wpList _ _ _ (⟨_,.load _ _,_,_,_,some _⟩::_) _ _);first|(refine Mine.wp_getgc M.out (by rfl) 51 _ rfl _ _ HC1.out rfl _ Tryz.underlying51 (by rfl) ?_;(try simp only [zr_,zm_]))))
   go_ret
   exact ⟨by rw [HZ.out];first|done|rfl,M.out.ext⟩
  go_wp2_with (first|(go_at_call 56;(with_reducible refine (spec_RowsOk A1 n1 c1 j.puts_ _ S2 (HS1.out.ext M.out.ext) hn1).mono ?_);rintro e w' ⟨rfl,x9⟩;replace M:=Lib.hid (M.out.on x9);clear x9;rw [h5])|((with_reducible show wpList _ _ _ (⟨_,_,_,_,_,none⟩::_) _ _);first|(refine Mine.wp_argc M.out rfl 22 _ rfl _ _ HC0.out rfl _ Tryz.underlying22 (by rfl) ?_;(try simp only [zr_,zm_])))|((with_reducible show wpList _ _ _ (⟨_,.load _ _,_,_,_,some _⟩::_) _ _);first|(refine Mine.wp_getgc M.out (by rfl) 51 _ rfl _ _ HC1.out rfl _ Tryz.underlying51 (by rfl) ?_;(try simp only [zr_,zm_]))))
  go_loopw [6] (fun i wr => ∃ q : Nat,q ≤ n0 ∧ i = .int .i64 q ∧ Hid (AllTo (fun _ x => isC x) j.reads_ q) ∧ Hid (Mine w wr [])) (fun i _ => n0 - (intOf i).toNat)
  case atStart => exact ⟨0,Nat.zero_le _,rfl,AllTo.zero _ _,M⟩
  case round =>
   clear M
   obtain ⟨q,hq,rfl,HQ,M⟩:=hrel
   by_cases hql : (q : Int) < (n0 : Int)
   rotate_left
   ·have HO : Hid (jobOk j):=⟨by omega,by omega,h5,by rw [hr0,← (show q = n0 by omega)];exact HQ.out⟩
    go_wp2_with (((with_reducible show wpList _ _ _ (⟨_,_,_,_,_,none⟩::_) _ _);first|(refine Mine.wp_argc M.out rfl 22 _ rfl _ _ HC0.out rfl _ Tryz.underlying22 (by rfl) ?_;(try simp only [zr_,zm_]))))
    go_roundw
    case rel => exact ⟨k + 1,HLT.out,by go_num,Lib.hid (HU.out.succ HX.out HO.out),M⟩
    case measure => have:=HLT.out;simp [intOf];omega
   have HQL : Hid (q < n0):=by show _ < _;omega
   obtain ⟨b0,o0,rfl⟩:=HS0.out.addr (by omega)
   obtain ⟨v,hv,hb,cv⟩:=HS0.out.int_cell (k:=q) HQL.out
   have HV2:=Lib.hid hv
   have HC : Hid (w.cell? ⟨b0,o0 + q,none⟩ = some (.int .i64 v) ∧ b0 < w.heap.size):=⟨cv,hb⟩
   clear hv hb cv
   by_cases hc : 0 ≤ v ∧ v ≤ 7
   rotate_left
   ·have HZ : Hid (jobsOk l js = false):=dec_no (fun z => AllTo.not HX.out (by rw [hl2];exact HLT.out) (fun q : jobOk j => AllTo.not HV2.out (by rw [hr0];exact HQL.out) (fun p => hc p) q.2.2.2) z.2.2)
    have dc : decide (0 ≤ v ∧ v ≤ 7) = false:=by simpa using hc
    clear hc
    go_wp2_with (first|(go_at_call 57;(with_reducible refine (scell_is dc _).mono ?_);rintro e w' ⟨rfl,rfl⟩)|((with_reducible show wpList _ _ _ (⟨_,_,_,_,_,none⟩::_) _ _);first|((first|refine Mine.wp_argc M.out rfl 22 _ rfl _ _ HC0.out rfl _ Tryz.underlying22 (by rfl) ?_|refine Mine.wp_argc M.out rfl 3 _ rfl _ _ HC.out rfl _ Tryz.underlying3 (by rfl) ?_);(try simp only [zr_,zm_]))))
    go_ret
    exact ⟨by rw [HZ.out];first|done|rfl,M.out.ext⟩
   have dc : decide (0 ≤ v ∧ v ≤ 7) = true:=by simpa using hc
   have HCC : Hid (isC v):=hc
   clear hc
   go_wp2_with (first|(go_at_call 57;(with_reducible refine (scell_is dc _).mono ?_);rintro e w' ⟨rfl,rfl⟩)|((with_reducible show wpList _ _ _ (⟨_,_,_,_,_,none⟩::_) _ _);first|((first|refine Mine.wp_argc M.out rfl 22 _ rfl _ _ HC0.out rfl _ Tryz.underlying22 (by rfl) ?_|refine Mine.wp_argc M.out rfl 3 _ rfl _ _ HC.out rfl _ Tryz.underlying3 (by rfl) ?_);(try simp only [zr_,zm_]))))
   go_roundw
   case rel => exact ⟨q + 1,HQL.out,by go_num,Lib.hid (HQ.out.succ HV2.out HCC.out),M⟩
   case measure => have:=HQL.out;simp [intOf];omega

end Go.Proofs.YtpmfhfpjiebcjaaGreat
namespace Go.Proofs.YtpmfhfpjiebcjaaGreat
open Go.RowKit Go.Deep
set_option linter.unnecessarySimpa false
set_option linter.unusedSimpArgs false
set_option linter.unusedVariables false

/-- A job and where its three slices lie. -/
structure JEnt where
 s : Option Addr × Nat × Nat
 p : Option Addr × Nat × Nat
 r : Option Addr × Nat × Nat
 x : JobRun
def jcell (e : JEnt) : List Value:=(.int .i64 e.x.phase_)::(.int .i64 e.x.tries_)::(.int .i64 e.x.rv_)::(.int .i64 e.x.at_)::(.int .i64 e.x.stamp_)::(.slice e.s.1 e.s.2.1 e.s.2.2)::(.bool e.x.busy_)::(.int .i64 e.x.probe_.cell_)::(.int .i64 e.x.probe_.phase_)::(.int .i64 e.x.probe_.ver_)::(.int .i64 e.x.probe_.val_)::(.int .i64 e.x.commit_.who_)::(.int .i64 e.x.commit_.rv_)::(.int .i64 e.x.commit_.phase_)::(.int .i64 e.x.commit_.at_)::(.int .i64 e.x.commit_.wv_)::(.slice e.p.1 e.p.2.1 e.p.2.2)::(.slice e.r.1 e.r.2.1 e.r.2.2)::[]
theorem jcell_length (e : JEnt) : (jcell e).length = 18:=rfl
def jrows (e : JEnt) : List Res:=[.row 97 2 e.s.1 e.s.2.1 e.s.2.2 (e.x.seen_.flatMap Row.cells),.row 97 2 e.p.1 e.p.2.1 e.p.2.2 (e.x.commit_.puts_.flatMap Row.cells),.row 3 1 e.r.1 e.r.2.1 e.r.2.2 (ints e.x.commit_.reads_)]
def jrest (js : List JEnt) (k : Nat) : List Res:=(js.take k ++ js.drop (k + 1)).flatMap jrows
theorem js_out {js : List JEnt} {k : Nat} {p : JEnt} (h : js[k]? = some p) : (js.flatMap jrows).Perm (jrows p ++ jrest js k):=by
 obtain ⟨hk,he⟩:=List.getElem?_eq_some_iff.1 h
 have e : js = js.take k ++ p::js.drop (k + 1):=by rw [← he,List.getElem_cons_drop hk,List.take_append_drop]
 have h1 : (js.take k ++ p::js.drop (k + 1)).Perm (p::(js.take k ++ js.drop (k + 1))):=List.perm_middle
 unfold jrest
 conv => lhs;rw [e]
 have h2:=h1.flatMap_right jrows
 simpa using h2
theorem js_in {js : List JEnt} {k : Nat} (p : JEnt) (hk : k < js.length) : (jrows p ++ jrest js k).Perm ((js.set k p).flatMap jrows):=by
 have h1 : (js.take k ++ p::js.drop (k + 1)).Perm (p::(js.take k ++ js.drop (k + 1))):=List.perm_middle
 rw [List.set_eq_take_append_cons_drop,if_pos hk]
 unfold jrest
 have h2:=h1.flatMap_right jrows
 simpa using h2.symm
/-- What a duel has come to. -/
structure DS where
 m : Mem
 xs : List JobRun
 h : List Wrote
/-- A commit begins to store: the history grows. -/
noncomputable def evS (m : Mem) (x : JobRun) : Bool:=dec (x.phase_ = 2 ∧ (x.commit_.phase_ = 2 ∨ x.commit_.phase_ = 3) ∧ (cstepS m x.commit_).ph = 4)
noncomputable def dstep (jobs : List Job) (s : DS) (k : Nat) : DS :=
 let x:=s.xs.getD k JobRun.zero
 let r:=jstep s.m ((k : Int) + 1) (jobs.getD k default) x
 ⟨r.1,s.xs.set k r.2,if evS s.m x = true then s.h ++ [⟨r.2.commit_.wv_,(k : Int) + 1,r.2.commit_.puts_⟩] else s.h⟩
noncomputable def dto (jobs : List Job) (s : DS) (picks : List Int) : Nat → DS
 | 0 => s
 | q + 1 => match picks[q]? with
  | some v => if dec (0 ≤ v ∧ v ≤ (jobs.length : Int) - 1) = true then dstep jobs (dto jobs s picks q) v.toNat else dto jobs s picks q
  | none => dto jobs s picks q
noncomputable def duelPlay (cells : List Int) (jobs : List Job) (picks : List Int) : DS :=
 if dec (jobsOk cells jobs = true ∧ picks.length ≤ 400) = true then dto jobs ⟨⟨0,cells.map mkW⟩,List.replicate jobs.length JobRun.zero,[]⟩ picks picks.length else ⟨⟨0,[]⟩,[],[]⟩
end Go.Proofs.YtpmfhfpjiebcjaaGreat
