/- DuelPlay of the program. No condition but lengths. -/
import Derived.Test.YtpmfhfpjiebcjaaGreatD00
import Derived.Test.YtpmfhfpjiebcjaaGreatD38
namespace Go.Proofs.YtpmfhfpjiebcjaaGreat
open Go.RowKit Go.Deep
set_option linter.unnecessarySimpa false
set_option linter.unusedSimpArgs false
set_option linter.unusedVariables false
set_option maxRecDepth 8000 in
set_option maxHeartbeats 32000000 in
theorem impl_DuelPlay (A0 : Option Addr) (n0 c0 : Nat) (l : List Int) (A1 : Option Addr) (n1 c1 : Nat) (jobs : List Job) (A2 : Option Addr) (n2 c2 : Nat) (picks : List Int) (w : World) (S0 : Nat → Prop) (h0 : Sl w S0 1 A0 n0 (ints l)) (hm0 : n0 ≤ 1048576) (S1 : Nat → Prop) (h1 : SlR Job.R 2 w S1 A1 n1 jobs) (hm1 : n1 ≤ 1048576) (hw : ∀ j ∈ jobs,Job.wt j ≤ 1048576) (S2 : Nat → Prop) (h2 : Sl w S2 1 A2 n2 (ints picks)) (hm2 : n2 ≤ 1100002) :
  Calls Tryz.prog 9 #[.slice A0 n0 c0,.slice A1 n1 c1,.slice A2 n2 c2] w fun e w' => ∃ AM nm cm AJ nj cj AH nh ch,e = .returned (.agg #[.int .i64 (duelPlay l jobs picks).m.clock_,.slice AM nm cm,.slice AJ nj cj,.slice AH nh ch]) ∧ Hid (DuelV w w' (duelPlay l jobs picks) AM nm cm AJ nj cj AH nh ch):=by
 have hl0 : l.length = n0:=h0.len
 have hl1 : jobs.length = n1:=h1.1
 have hl2 : picks.length = n2:=h2.len
 have H0:=Lib.hid h0
 have H1:=Lib.hid h1
 have H2:=Lib.hid h2
 have HW:=Lib.hid hw
 clear h0 h1 h2 hw
 have M:=Lib.hid (Mine.refl w)
 cases hok : jobsOk l jobs
 ·have hbad : ¬ (jobsOk l jobs = true ∧ picks.length ≤ 400):=fun z => by have:=z.1;rw [hok] at this;cases this
  have HZ:=Lib.hid (play_bad hbad)
  clear hbad
  go_enter Tryz.func9,Tryz.ntmps9
  go_wp2_with (((with_reducible show wpList _ _ _ (⟨_,_,_,_,_,none⟩::_) _ _);first|(refine Mine.wp_alloc M.out rfl 31 rfl (.agg #[.int .i64 0,.slice none 0 0,.slice none 0 0,.slice none 0 0]) (by kernel_rfl) ?_;intro gr w' M';(try simp only [Value.cells,zr_,zm_] at M');replace M:=Lib.hid M';clear M';(try simp only [zr_,zm_]))))
  go_wp2_with (first|(go_at_call 33;(with_reducible refine (impl_JobsOk A0 n0 c0 l A1 n1 c1 jobs _ S0 (H0.out.ext M.out.ext) hm0 S1 (H1.out.ext Job.R_good M.out.ext) hm1 HW.out).mono ?_);rintro e w' ⟨rfl,x9⟩;replace M:=Lib.hid (M.out.on x9);clear x9;rw [hok])|((with_reducible show wpList _ _ _ (⟨_,_,_,_,_,none⟩::_) _ _);first|(refine zSs M.out 31 0 ?_;intro w' M';(try simp only [zr_,zm_] at M');replace M:=Lib.hid M';clear M')))
  refine bodyPost_ret (M.out.results_cell Tryz.results9 _ 0 rfl rfl _ Tryz.underlying31 (by rfl) (by kernel_rfl)) rfl ?_
  rw [HZ.out]
  exact ⟨none,0,0,none,0,0,none,0,0,rfl,Lib.hid (DuelV.zero M.out)⟩
 by_cases hp : n2 ≤ 400
 rotate_left
 ·have hbad : ¬ (jobsOk l jobs = true ∧ picks.length ≤ 400):=fun z => hp (by omega)
  have d4 : decide ((400 : Int) < (n2 : Int)) = true:=decide_eq_true (by omega)
  clear hp
  have HZ:=Lib.hid (play_bad hbad)
  clear hbad
  go_enter Tryz.func9,Tryz.ntmps9
  go_wp2_with (((with_reducible show wpList _ _ _ (⟨_,_,_,_,_,none⟩::_) _ _);first|(refine Mine.wp_alloc M.out rfl 31 rfl (.agg #[.int .i64 0,.slice none 0 0,.slice none 0 0,.slice none 0 0]) (by kernel_rfl) ?_;intro gr w' M';(try simp only [Value.cells,zr_,zm_] at M');replace M:=Lib.hid M';clear M';(try simp only [zr_,zm_]))))
  go_wp2_with (first|(go_at_call 33;(with_reducible refine (impl_JobsOk A0 n0 c0 l A1 n1 c1 jobs _ S0 (H0.out.ext M.out.ext) hm0 S1 (H1.out.ext Job.R_good M.out.ext) hm1 HW.out).mono ?_);rintro e w' ⟨rfl,x9⟩;replace M:=Lib.hid (M.out.on x9);clear x9;rw [hok])|((with_reducible show wpList _ _ _ (⟨_,_,_,_,_,none⟩::_) _ _);first|(refine zSs M.out 31 0 ?_;intro w' M';(try simp only [zr_,zm_] at M');replace M:=Lib.hid M';clear M')))
  refine bodyPost_ret (M.out.results_cell Tryz.results9 _ 0 rfl rfl _ Tryz.underlying31 (by rfl) (by kernel_rfl)) rfl ?_
  rw [HZ.out]
  exact ⟨none,0,0,none,0,0,none,0,0,rfl,Lib.hid (DuelV.zero M.out)⟩
 have d4 : decide ((400 : Int) < (n2 : Int)) = false:=decide_eq_false (by omega)
 have HZ:=Lib.hid (play_good ⟨hok,by omega⟩ : duelPlay l jobs picks = _)
 have hn4 : n1 ≤ 4:=by have:=jobsOk_le hok;omega
 have HV:=Lib.hid (jobsOk_vals hok)
 have HD0:=Lib.hid (DI.zero l jobs (by omega))
 have hn1i : 0 ≤ (n1 : Int) ∧ (n1 : Int) ≤ 4:=by omega
 go_enter Tryz.func9,Tryz.ntmps9
 go_wp2_with (((with_reducible show wpList _ _ _ (⟨_,_,_,_,_,none⟩::_) _ _);first|(refine Mine.wp_alloc M.out rfl 31 rfl (.agg #[.int .i64 0,.slice none 0 0,.slice none 0 0,.slice none 0 0]) (by kernel_rfl) ?_;intro gr w' M';(try simp only [Value.cells,zr_,zm_] at M');replace M:=Lib.hid M';clear M';(try simp only [zr_,zm_]))))
 go_wp2_with (first|(go_at_call 33;(with_reducible refine (impl_JobsOk A0 n0 c0 l A1 n1 c1 jobs _ S0 (H0.out.ext M.out.ext) hm0 S1 (H1.out.ext Job.R_good M.out.ext) hm1 HW.out).mono ?_);rintro e w' ⟨rfl,x9⟩;replace M:=Lib.hid (M.out.on x9);clear x9;rw [hok])|(go_at_call 34;(with_reducible refine (impl_MemNew A0 n0 c0 l _ S0 (H0.out.ext M.out.ext) hm0 HV.out).mono ?_);rintro e w' ⟨B,d,rfl,M9⟩;have M8:=M.out.call M9;replace M:=Lib.hid M8;clear M8 M9)|((with_reducible show wpList _ _ _ (⟨_,_,_,_,_,none⟩::_) _ _);first|(refine Mine.wp_make M.out rfl _ _ 28 rfl 68 _ _ _ Tryz.underlying28 Tryz.infoJobRun n1 rfl rfl (by omega) (by unfold maxLen;omega) ?_;intro gJ w' M';(try simp only [zr_,zm_] at M');replace M:=Lib.hid M';clear M';(try simp only [zr_,zm_]))|(refine Mine.wp_alloc M.out rfl 31 rfl (.agg #[.int .i64 0,.slice none 0 0,.slice none 0 0,.slice none 0 0]) (by kernel_rfl) ?_;intro gd w' M';(try simp only [Value.cells,zr_,zm_] at M');replace M:=Lib.hid M';clear M';(try simp only [zr_,zm_]))|((first|refine zSs M.out 31 0 ?_|refine zSs M.out 27 1 ?_);intro w' M';(try simp only [zr_,zm_] at M');replace M:=Lib.hid M';clear M')))
 simp only [List.cons_append,List.nil_append,List.set_cons_succ,List.set_cons_zero,made_jobs2] at M
 have ML:=Lib.hid (DuelL.start (cells:=l) hl1 M.out)
 clear M
 go_wp2
 go_loopw [32] (fun i wr => ∃ q : Nat,q ≤ n2 ∧ i = .int .i64 q ∧ Hid (DuelL w wr (dto jobs (d0 l jobs) picks q) gd gJ n1 [.box gr 31 #[.int .i64 0,.slice none 0 0,.slice none 0 0,.slice none 0 0]])) (fun i _ => n2 - (intOf i).toNat)
 case atStart => exact ⟨0,Nat.zero_le _,rfl,ML⟩
 case round =>
  clear ML
  obtain ⟨q,hq,rfl,HL⟩:=hrel
  by_cases hlt : (q : Int) < (n2 : Int)
  rotate_left
  ·skip
   have e : picks.length = q:=by omega
   have HE:=Lib.hid e
   clear e
   obtain ⟨AM,nm,cm,AH,nh,ch,js,es,hs1,hs2,M1⟩:=HL.out.done
   have M:=Lib.hid M1
   have HS1:=Lib.hid hs1
   have HS2:=Lib.hid hs2
   clear M1 hs1 hs2
   go_wp2_with (((with_reducible show wpList _ _ _ (⟨_,_,_,_,_,none⟩::_) _ _);first|(refine zGs M.out 31 1 4 ?_;(try simp only [zr_,zm_]))|(refine zSs M.out 31 0 ?_;intro w' M';(try simp only [zr_,zm_] at M');replace M:=Lib.hid M';clear M')))
   refine bodyPost_ret (M.out.results_cell Tryz.results9 _ 0 rfl rfl _ Tryz.underlying31 (by rfl) (by kernel_rfl)) rfl ?_
   rw [HZ.out,HE.out]
   exact ⟨_,_,_,_,_,_,_,_,_,rfl,Lib.hid (DuelV.done HS1.out HS2.out M.out)⟩
  have HLT : Hid (q < n2):=by show _ < _;omega
  obtain ⟨b2,o2,rfl⟩:=H2.out.addr (by omega)
  obtain ⟨v,hv,hb,cv⟩:=H2.out.int_cell (k:=q) HLT.out
  have HPK:=Lib.hid hv
  have HC : Hid (w.cell? ⟨b2,o2 + q,none⟩ = some (.int .i64 v) ∧ b2 < w.heap.size):=⟨cv,hb⟩
  clear hv hb cv
  have M : Hid (Mine w wr []):=by obtain ⟨AM,nm,cm,AH,nh,ch,js,es,-,-,M1⟩:=HL.out;exact Lib.hid (M1.sub s0_)
  by_cases hz : 0 ≤ v ∧ v ≤ (n1 : Int) - 1
  rotate_left
  ·have dz : decide (0 ≤ v ∧ v ≤ (n1 : Int) - 1) = false:=decide_eq_false hz
   have HD:=Lib.hid (dto_miss (jobs:=jobs) (s:=d0 l jobs) HPK.out (by rw [hl1];exact hz))
   clear hz
   go_wp2_with (first|(go_at_call 35;(with_reducible refine (with_is dz _).mono ?_);rintro e w' ⟨rfl,rfl⟩)|((with_reducible show wpList _ _ _ (⟨_,_,_,_,_,none⟩::_) _ _);first|(refine Mine.wp_argc M.out rfl 3 _ rfl _ _ HC.out rfl _ Tryz.underlying3 (by rfl) ?_;(try simp only [zr_,zm_]))))
   go_roundw
   case rel => exact ⟨q + 1,HLT.out,by go_num,by rw [HD.out];exact HL⟩
   case measure => have:=HLT.out;simp [intOf];omega
  have dz : decide (0 ≤ v ∧ v ≤ (n1 : Int) - 1) = true:=decide_eq_true hz
  obtain ⟨k,rfl⟩ : ∃ k : Nat,v = (k : Int):=⟨v.toNat,by omega⟩
  have hk : k < n1:=by omega
  have HK : Hid (k < n1):=hk
  have hk1 : (k : Int) < (n1 : Int):=by omega
  have hdh:=dto_hit (jobs:=jobs) (s:=d0 l jobs) HPK.out (by rw [hl1];exact hz)
  rw [Int.toNat_natCast] at hdh
  have HDI:=Lib.hid (DI.to (cells:=l) (picks:=picks) HD0.out q)
  obtain ⟨s,hs⟩ : ∃ s,s = dto jobs (d0 l jobs) picks q:=⟨_,rfl⟩
  have HDI2 : Hid (DI q jobs s):=by rw [hs];exact HDI
  rw [← hs] at HL hdh
  have HD:=Lib.hid hdh
  clear hdh HDI hs hz
  obtain ⟨bJ,oJ,j,B0,k0,f0,B1,k1,f1,rfl,hbJ,hj,hrg,sj0,hk0,sj1,hkk1⟩:=job_at H1.out HW.out hk
  have HRG:=Lib.hid hrg
  have HRB:=Lib.hid hbJ
  have HJ:=Lib.hid hj
  have HS0:=Lib.hid sj0
  have HS1:=Lib.hid sj1
  obtain ⟨AM,nm,cm,AH,nh,ch,js,es,hs1,hs2,M1⟩:=HL.out
  clear M
  have HX1:=Lib.hid hs1
  have HX2:=Lib.hid hs2
  have hjl : js.length = n1:=by have h:=congrArg List.length hs1;rw [List.length_map,HDI2.out.2.1] at h;omega
  obtain ⟨p,hp⟩ : ∃ p,js[k]? = some p:=⟨_,List.getElem?_eq_getElem (by omega)⟩
  have HP:=Lib.hid hp
  have hx : s.xs[k]? = some p.x:=by rw [← hs1,List.getElem?_map,hp];rfl
  have HJI : Hid (JI q k j p.x):=by have h:=HDI2.out.2.2.2.2 k p.x hx;rw [List.getD_eq_getElem?_getD,hj] at h;exact h
  have HMC : Hid (s.m.cells_.length ≤ 1048576):=HDI2.out.1
  have HHL : Hid (es.length ≤ q):=by have h:=congrArg List.length hs2;rw [List.length_map] at h;have:=HDI2.out.2.2.1;show _ ≤ _;omega
  have hq4 : q ≤ 400:=by omega
  have M:=Lib.hid M1
  clear hrg hbJ hj sj0 sj1 hs1 hs2 hx hp hjl hk
  clear M1
  go_wp2_with (first|(go_at_call 35;(with_reducible refine (with_is dz _).mono ?_);rintro e w' ⟨rfl,rfl⟩)|(go_at_call 36;refine (impl_stepE s.m AM nm cm k q j B0 k0 f0 B1 k1 f1 js p es (some ⟨gJ,0,none⟩) n1 n1 AH nh ch gd HP.out hn4 w _ _ S1 S1 HS0.out hk0 HS1.out hkk1 HMC.out HJI.out hq4 HHL.out M.out).mono ?_;rintro e w' ⟨E1,x1,y1,p',AH',nh',ch',es',hp',he',rfl,M9⟩;replace M:=Lib.hid M9;clear M9;have HP1:=Lib.hid hp';have HE1:=Lib.hid he';clear hp' he')|((with_reducible show wpList _ _ _ (⟨_,_,_,_,_,none⟩::_) _ _);first|((first|refine Mine.wp_argc M.out rfl 3 _ rfl _ _ HC.out rfl _ Tryz.underlying3 (by rfl) ?_|refine Mine.wp_arg M.out rfl 72 _ rfl _ _ rfl [.slice B0 k0 f0,.slice B1 k1 f1] HRG.out HRB.out _ Tryz.underlying72 (by rfl) (by kernel_rfl) ?_);(try simp only [zr_,zm_]))))
  go_roundw
  case rel => exact ⟨q + 1,HLT.out,by go_num,by rw [HD.out];exact Lib.hid (DuelL.next HJ.out HP.out HX1.out HX2.out HP1.out HE1.out M.out)⟩
  case measure => have:=HLT.out;simp [intOf];omega

end Go.Proofs.YtpmfhfpjiebcjaaGreat
