/- DuelPlay of the reference. No condition but lengths. -/
import Derived.Test.YtpmfhfpjiebcjaaGreatE00
import Derived.Test.YtpmfhfpjiebcjaaGreatE44
import Derived.Deep.CutRange
namespace Go.Proofs.YtpmfhfpjiebcjaaGreat
open Go.RowKit Go.Deep
set_option linter.unusedSimpArgs false
set_option linter.unusedVariables false
set_option maxRecDepth 8000 in
set_option maxHeartbeats 32000000 in
theorem spec_DuelPlay (A0 : Option Addr) (n0 c0 : Nat) (l : List Int) (A1 : Option Addr) (n1 c1 : Nat) (jobs : List Job) (A2 : Option Addr) (n2 c2 : Nat) (picks : List Int) (w : World) (S0 : Nat → Prop) (h0 : Sl w S0 1 A0 n0 (ints l)) (hm0 : n0 ≤ 1048576) (S1 : Nat → Prop) (h1 : SlR Job.R 2 w S1 A1 n1 jobs) (hm1 : n1 ≤ 1048576) (hw : ∀ j ∈ jobs,Job.wt j ≤ 1048576) (S2 : Nat → Prop) (h2 : Sl w S2 1 A2 n2 (ints picks)) (hm2 : n2 ≤ 1048576) :
  Calls Tryz.prog 6 #[.slice A0 n0 c0,.slice A1 n1 c1,.slice A2 n2 c2] w fun e w' => ∃ AM nm cm AJ nj cj AH nh ch,e = .returned (.agg #[.int .i64 (duelPlay l jobs picks).m.clock_,.slice AM nm cm,.slice AJ nj cj,.slice AH nh ch]) ∧ Hid (DuelV w w' (duelPlay l jobs picks) AM nm cm AJ nj cj AH nh ch):=by
 have hl0 : l.length = n0:=h0.len
 have hl1 : jobs.length = n1:=h1.1
 have hl2 : picks.length = n2:=h2.len
 have H0:=Lib.hid h0
 have H1:=Lib.hid h1
 have H2:=Lib.hid h2
 have HW:=Lib.hid hw
 clear h0 h1 h2 hw
 have M:=Lib.hid (Mine.refl w)
 cases hok : jobsOk l jobs
 ·have hbad : ¬ (jobsOk l jobs = true ∧ picks.length ≤ 400):=fun z => by have:=z.1;rw [hok] at this;cases this
  have HZ:=Lib.hid (play_bad hbad)
  clear hbad
  go_enter Tryz.func6,Tryz.ntmps6
  go_wp2_with (((with_reducible show wpList _ _ _ (⟨_,_,_,_,_,none⟩::_) _ _);first|(refine Mine.wp_alloc M.out rfl 31 rfl (.agg #[.int .i64 0,.slice none 0 0,.slice none 0 0,.slice none 0 0]) (by kernel_rfl) ?_;intro gr w' M';(try simp only [Value.cells,zr_,zm_] at M');replace M:=Lib.hid M';clear M';(try simp only [zr_,zm_]))))
  go_wp2_with (first|(go_at_call 19;(with_reducible refine (spec_JobsOk A0 n0 c0 l A1 n1 c1 jobs _ S0 (H0.out.ext M.out.ext) hm0 S1 (H1.out.ext Job.R_good M.out.ext) hm1 HW.out).mono ?_);rintro e w' ⟨rfl,x9⟩;replace M:=Lib.hid (M.out.on x9);clear x9;rw [hok])|((with_reducible show wpList _ _ _ (⟨_,_,_,_,_,none⟩::_) _ _);first|(refine zSs M.out 31 0 ?_;intro w' M';(try simp only [zr_,zm_] at M');replace M:=Lib.hid M';clear M')))
  refine bodyPost_ret (M.out.results_cell Tryz.results6 _ 0 rfl rfl _ Tryz.underlying31 (by rfl) (by kernel_rfl)) rfl ?_
  rw [HZ.out]
  exact ⟨none,0,0,none,0,0,none,0,0,rfl,Lib.hid (DuelV.zero M.out)⟩
 by_cases hp : n2 ≤ 400
 rotate_left
 ·have hbad : ¬ (jobsOk l jobs = true ∧ picks.length ≤ 400):=fun z => hp (by omega)
  have d4 : decide ((400 : Int) < (n2 : Int)) = true:=decide_eq_true (by omega)
  clear hp
  have HZ:=Lib.hid (play_bad hbad)
  clear hbad
  go_enter Tryz.func6,Tryz.ntmps6
  go_wp2_with (((with_reducible show wpList _ _ _ (⟨_,_,_,_,_,none⟩::_) _ _);first|(refine Mine.wp_alloc M.out rfl 31 rfl (.agg #[.int .i64 0,.slice none 0 0,.slice none 0 0,.slice none 0 0]) (by kernel_rfl) ?_;intro gr w' M';(try simp only [Value.cells,zr_,zm_] at M');replace M:=Lib.hid M';clear M';(try simp only [zr_,zm_]))))
  go_wp2_with (first|(go_at_call 19;(with_reducible refine (spec_JobsOk A0 n0 c0 l A1 n1 c1 jobs _ S0 (H0.out.ext M.out.ext) hm0 S1 (H1.out.ext Job.R_good M.out.ext) hm1 HW.out).mono ?_);rintro e w' ⟨rfl,x9⟩;replace M:=Lib.hid (M.out.on x9);clear x9;rw [hok])|((with_reducible show wpList _ _ _ (⟨_,_,_,_,_,none⟩::_) _ _);first|(refine zSs M.out 31 0 ?_;intro w' M';(try simp only [zr_,zm_] at M');replace M:=Lib.hid M';clear M')))
  refine bodyPost_ret (M.out.results_cell Tryz.results6 _ 0 rfl rfl _ Tryz.underlying31 (by rfl) (by kernel_rfl)) rfl ?_
  rw [HZ.out]
  exact ⟨none,0,0,none,0,0,none,0,0,rfl,Lib.hid (DuelV.zero M.out)⟩
 have d4 : decide ((400 : Int) < (n2 : Int)) = false:=decide_eq_false (by omega)
 have HZ:=Lib.hid (play_good ⟨hok,by omega⟩ : duelPlay l jobs picks = _)
 have hn4 : n1 ≤ 4:=by have:=jobsOk_le hok;omega
 have HV:=Lib.hid (jobsOk_vals hok)
 have HD0:=Lib.hid (DI.zero l jobs (by omega))
 have hn1i : 0 ≤ (n1 : Int) ∧ (n1 : Int) ≤ 4:=by omega
 go_enter Tryz.func6,Tryz.ntmps6
 go_wp2_with (((with_reducible show wpList _ _ _ (⟨_,_,_,_,_,none⟩::_) _ _);first|(refine Mine.wp_alloc M.out rfl 31 rfl (.agg #[.int .i64 0,.slice none 0 0,.slice none 0 0,.slice none 0 0]) (by kernel_rfl) ?_;intro gr w' M';(try simp only [Value.cells,zr_,zm_] at M');replace M:=Lib.hid M';clear M';(try simp only [zr_,zm_]))))
 go_wp2_with (first|(go_at_call 19;(with_reducible refine (spec_JobsOk A0 n0 c0 l A1 n1 c1 jobs _ S0 (H0.out.ext M.out.ext) hm0 S1 (H1.out.ext Job.R_good M.out.ext) hm1 HW.out).mono ?_);rintro e w' ⟨rfl,x9⟩;replace M:=Lib.hid (M.out.on x9);clear x9;rw [hok])|(go_at_call 29;(with_reducible refine (spec_MemNew A0 n0 c0 l _ S0 (H0.out.ext M.out.ext) hm0 HV.out).mono ?_);rintro e w' ⟨B,d,rfl,M9⟩;have M8:=M.out.call M9;replace M:=Lib.hid M8;clear M8 M9)|((with_reducible show wpList _ _ _ (⟨_,_,_,_,_,none⟩::_) _ _);first|(refine Mine.wp_alloc M.out rfl 27 rfl (.agg #[.int .i64 0,.slice none 0 0]) (by kernel_rfl) ?_;intro g7 w' M';(try simp only [Value.cells,zr_,zm_] at M');replace M:=Lib.hid M';clear M';(try simp only [zr_,zm_]))|(refine zSs M.out 27 0 ?_;intro w' M';(try simp only [zr_,zm_] at M');replace M:=Lib.hid M';clear M')))
 simp only [List.cons_append,List.nil_append] at M
 go_cut [9] from 30 (fun v9 wr => ∃ gd gJ,v9 = .pointer (some ⟨gd,0,none⟩) ∧ Mine w wr (.box gd 31 #[.int .i64 0,.slice B n0 d,.slice (some ⟨gJ,0,none⟩) n1 n1,.slice none 0 0]::.row 68 18 (some ⟨gJ,0,none⟩) n1 n1 ((List.replicate n1 zJ).flatMap jcell)::.box g7 27 #[.int .i64 0,.slice B n0 d]::.row 102 3 B n0 d ((l.map mkW).flatMap Word.cells)::[.box gr 31 #[.int .i64 0,.slice none 0 0,.slice none 0 0,.slice none 0 0]]))
 ·skip
  refine Mine.region_head M.out 6 (by kernel_rfl) (by kernel_rfl) ?_
  intro w' M'
  replace M:=Lib.hid M'
  clear M'
  refine zTL 0 ?_;intro K hK;((refine zDs 27 0 2 ?_;(try simp only [zr_,zm_]);go_big_quiet_on))
  refine zXL 1 ?_;(try simp only [zs_,zl_])
  refine zXL 2 ?_;(try simp only [zs_,zl_])
  refine HQ.grows (D:=[3]) (E:=[5]) (fun i v r => if i = 5 then (∃ g,v = .pointer (some ⟨g,0,none⟩) ∧ r = .box g 31 #[.int .i64 0,.slice none 0 0,.slice none 0 0,.slice none 0 0]) else (∃ g,v = .slice (some ⟨g,0,none⟩) n1 n1 ∧ r = .row 68 18 (some ⟨g,0,none⟩) n1 n1 ((List.replicate n1 zJ).flatMap jcell))) 1 (by kernel_rfl) (by kernel_rfl) (by simp) ?gro M.out ?cont
  case gro =>
   intro i hi o ho
   simp only [List.cons_append,List.nil_append,List.mem_cons,List.not_mem_nil,or_false] at hi
   rcases hi with rfl|rfl
   ·obtain rfl:=Option.some.inj ho
    refine Gro.imp (Gro.make 28 _ _ rfl 68 (.agg (List.toArray ((.int .i64 0)::(.int .i64 0)::(.int .i64 0)::(.int .i64 0)::(.int .i64 0)::(.slice none 0 0)::(.bool false)::(.int .i64 0)::(.int .i64 0)::(.int .i64 0)::(.int .i64 0)::(.int .i64 0)::(.int .i64 0)::(.int .i64 0)::(.int .i64 0)::(.int .i64 0)::(.slice none 0 0)::(.slice none 0 0)::[]))) 18 192 Tryz.underlying28 Tryz.infoJobRun n1 rfl rfl (by omega) (by unfold maxLen;omega)) ?_
    rintro v r ⟨g,hv,hr⟩
    rw [made_jobs] at hr
    exact ⟨g,hv,hr⟩
   ·obtain rfl:=Option.some.inj ho
    refine Gro.imp (Gro.alloc 31 rfl (.agg #[.int .i64 0,.slice none 0 0,.slice none 0 0,.slice none 0 0]) (by kernel_rfl)) ?_
    rintro v r ⟨g,hv,hr⟩
    exact ⟨g,hv,hr⟩
  case cont =>
   intro Es hEs vals rows hv w' M'
   rcases hEs with rfl|rfl
   ·skip
    obtain ⟨gJ,hv3,hr3⟩:=hv 3 (by simp)
    simp only [List.cons_append,List.nil_append,List.append_nil,List.map_cons,List.map_nil,hr3] at M'
    replace M:=Lib.hid M'
    clear M'
    simp only [List.cons_append,List.nil_append,List.append_nil,putAll,setAll,List.foldl_cons,List.foldl_nil]
    simp only [dAt_succ,dAt_zero]
    simp only [hv3]
    simp only [zs_,zl_]
    clear hv
    show HQ _ _ _ _ _ _ 2 _ _ _
    refine zXL 4 ?_;(try simp only [zs_,zl_])
    refine HQ.noisy (rs:=[5]) (by kernel_rfl) (by simp) (AllG.cons rfl (Nat.le_of_ble_eq_true rfl) (fun K hK => ?_) AllG.nil)
    go_simp
    replace M:=Lib.hid (M.out.box 31 #[.int .i64 0,.slice none 0 0,.slice none 0 0,.slice none 0 0])
    refine hK.out _ _ (M.out.sub (sd_ (sd_ s1_))) ?_
    clear hK K
    (try simp only [zs_,zl_])
    refine HQ.end_ (by kernel_rfl) ?_
    simp only [List.drop_succ_cons,List.drop_zero]
    go_wp2_with (((with_reducible show wpList _ _ _ (⟨_,_,_,_,_,none⟩::_) _ _);first|(refine zSs M.out 31 0 ?_;intro w' M';(try simp only [zr_,zm_] at M');replace M:=Lib.hid M';clear M')))
    go_meet
    case rel => exact ⟨_,gJ,rfl,M.out⟩
   ·skip
    obtain ⟨gJ,hv3,hr3⟩:=hv 3 (by simp)
    obtain ⟨gd,hv5,hr5⟩:=hv 5 (by simp)
    simp only [List.cons_append,List.nil_append,List.append_nil,List.map_cons,List.map_nil,hr3,hr5] at M'
    replace M:=Lib.hid M'
    clear M'
    simp only [List.cons_append,List.nil_append,List.append_nil,putAll,setAll,List.foldl_cons,List.foldl_nil]
    simp only [dAt_succ,dAt_zero]
    simp only [hv3,hv5]
    simp only [zs_,zl_]
    clear hv
    show HQ _ _ _ _ _ _ 1 _ _ _
    refine zXL 4 ?_;(try simp only [zs_,zl_])
    refine HQ.end_ (by kernel_rfl) ?_
    simp only [List.drop_succ_cons,List.drop_zero]
    go_wp2_with (((with_reducible show wpList _ _ _ (⟨_,_,_,_,_,none⟩::_) _ _);first|(refine zSs M.out 31 1 ?_;intro w' M';(try simp only [zr_,zm_] at M');replace M:=Lib.hid M';clear M')))
    go_meet
    case rel => exact ⟨_,gJ,rfl,M.out.perm (List.Perm.swap _ _ _)⟩
 clear M
 obtain ⟨gd,gJ,rfl,M1⟩:=hcut
 have M:=Lib.hid (M1.perm (((List.perm_append_comm (l₁:=[_,_,_]) (l₂:=[_])).append_right _)))
 clear M1
 simp only [List.cons_append,List.nil_append] at M
 have ML:=Lib.hid (DuelL.start (cells:=l) hl1 M.out)
 clear M
 go_wp2
 go_loopw [10] (fun i wr => ∃ q : Nat,q ≤ n2 ∧ i = .int .i64 q ∧ Hid (DuelL w wr (dto jobs (d0 l jobs) picks q) gd gJ n1 [.box g7 27 #[.int .i64 0,.slice B n0 d],.box gr 31 #[.int .i64 0,.slice none 0 0,.slice none 0 0,.slice none 0 0]])) (fun i _ => n2 - (intOf i).toNat)
 case atStart => exact ⟨0,Nat.zero_le _,rfl,ML⟩
 case round =>
  clear ML
  obtain ⟨q,hq,rfl,HL⟩:=hrel
  by_cases hlt : (q : Int) < (n2 : Int)
  rotate_left
  ·skip
   have e : picks.length = q:=by omega
   have HE:=Lib.hid e
   clear e
   obtain ⟨AM,nm,cm,AH,nh,ch,js,es,hs1,hs2,M1⟩:=(DuelL.swapFR HL.out).done
   have M:=Lib.hid M1
   have HS1:=Lib.hid hs1
   have HS2:=Lib.hid hs2
   clear M1 hs1 hs2
   go_wp2_with (((with_reducible show wpList _ _ _ (⟨_,_,_,_,_,none⟩::_) _ _);first|(refine zGs M.out 31 1 4 ?_;(try simp only [zr_,zm_]))|(refine zSs M.out 31 0 ?_;intro w' M';(try simp only [zr_,zm_] at M');replace M:=Lib.hid M';clear M')))
   refine bodyPost_ret (M.out.results_cell Tryz.results6 _ 0 rfl rfl _ Tryz.underlying31 (by rfl) (by kernel_rfl)) rfl ?_
   rw [HZ.out,HE.out]
   exact ⟨_,_,_,_,_,_,_,_,_,rfl,Lib.hid (DuelV.done HS1.out HS2.out M.out)⟩
  have HLT : Hid (q < n2):=by show _ < _;omega
  obtain ⟨b2,o2,rfl⟩:=H2.out.addr (by omega)
  obtain ⟨v,hv,hb,cv⟩:=H2.out.int_cell (k:=q) HLT.out
  have HPK:=Lib.hid hv
  have HC : Hid (w.cell? ⟨b2,o2 + q,none⟩ = some (.int .i64 v) ∧ b2 < w.heap.size):=⟨cv,hb⟩
  clear hv hb cv
  have M : Hid (Mine w wr []):=by obtain ⟨AM,nm,cm,AH,nh,ch,js,es,-,-,M1⟩:=HL.out;exact Lib.hid (M1.sub s0_)
  by_cases hz : 0 ≤ v ∧ v ≤ (n1 : Int) - 1
  rotate_left
  ·have dz : decide (0 ≤ v ∧ v ≤ (n1 : Int) - 1) = false:=decide_eq_false hz
   have HD:=Lib.hid (dto_miss (jobs:=jobs) (s:=d0 l jobs) HPK.out (by rw [hl1];exact hz))
   clear hz
   go_wp2_with (first|(go_at_call 30;(with_reducible refine (in_is dz _).mono ?_);rintro e w' ⟨rfl,rfl⟩)|((with_reducible show wpList _ _ _ (⟨_,_,_,_,_,none⟩::_) _ _);first|(refine Mine.wp_argc M.out rfl 3 _ rfl _ _ HC.out rfl _ Tryz.underlying3 (by rfl) ?_;(try simp only [zr_,zm_]))))
   go_roundw
   case rel => exact ⟨q + 1,HLT.out,by go_num,by rw [HD.out];exact HL⟩
   case measure => have:=HLT.out;simp [intOf];omega
  have dz : decide (0 ≤ v ∧ v ≤ (n1 : Int) - 1) = true:=decide_eq_true hz
  obtain ⟨k,rfl⟩ : ∃ k : Nat,v = (k : Int):=⟨v.toNat,by omega⟩
  have hk : k < n1:=by omega
  have HK : Hid (k < n1):=hk
  have hk1 : (k : Int) < (n1 : Int):=by omega
  have hdh:=dto_hit (jobs:=jobs) (s:=d0 l jobs) HPK.out (by rw [hl1];exact hz)
  rw [Int.toNat_natCast] at hdh
  have HDI:=Lib.hid (DI.to (cells:=l) (picks:=picks) HD0.out q)
  obtain ⟨s,hs⟩ : ∃ s,s = dto jobs (d0 l jobs) picks q:=⟨_,rfl⟩
  have HDI2 : Hid (DI q jobs s):=by rw [hs];exact HDI
  rw [← hs] at HL hdh
  have HD:=Lib.hid hdh
  clear hdh HDI hs hz
  obtain ⟨bJ,oJ,j,B0,k0,f0,B1,k1,f1,rfl,hbJ,hj,hrg,sj0,hk0,sj1,hkk1⟩:=job_at H1.out HW.out hk
  have HRG:=Lib.hid hrg
  have HRB:=Lib.hid hbJ
  have HJ:=Lib.hid hj
  have HS0:=Lib.hid sj0
  have HS1:=Lib.hid sj1
  obtain ⟨AM,nm,cm,AH,nh,ch,js,es,hs1,hs2,M1⟩:=HL.out
  clear M
  have HX1:=Lib.hid hs1
  have HX2:=Lib.hid hs2
  have hjl : js.length = n1:=by have h:=congrArg List.length hs1;rw [List.length_map,HDI2.out.2.1] at h;omega
  obtain ⟨p,hp⟩ : ∃ p,js[k]? = some p:=⟨_,List.getElem?_eq_getElem (by omega)⟩
  have HP:=Lib.hid hp
  have hx : s.xs[k]? = some p.x:=by rw [← hs1,List.getElem?_map,hp];rfl
  have HJI : Hid (JI q k j p.x):=by have h:=HDI2.out.2.2.2.2 k p.x hx;rw [List.getD_eq_getElem?_getD,hj] at h;exact h
  have HMC : Hid (s.m.cells_.length ≤ 1048576):=HDI2.out.1
  have HHL : Hid (es.length ≤ q):=by have h:=congrArg List.length hs2;rw [List.length_map] at h;have:=HDI2.out.2.2.1;show _ ≤ _;omega
  have hq4 : q ≤ 400:=by omega
  have M:=Lib.hid M1
  clear hrg hbJ hj sj0 sj1 hs1 hs2 hx hp hjl hk
  clear M
  obtain ⟨FR,hFR⟩ : ∃ FR,FR = (es.map erow ++ [.box g7 27 #[.int .i64 0,.slice B n0 d],.box gr 31 #[.int .i64 0,.slice none 0 0,.slice none 0 0,.slice none 0 0]]):=⟨_,rfl⟩
  rw [← hFR] at M1
  have HFR:=Lib.hid hFR
  clear hFR
  have M2 : Mine w wr (.row 102 3 AM nm cm (s.m.cells_.flatMap Word.cells)::.row 97 2 p.s.1 p.s.2.1 p.s.2.2 (p.x.seen_.flatMap Row.cells)::.row 97 2 p.p.1 p.p.2.1 p.p.2.2 (p.x.commit_.puts_.flatMap Row.cells)::.row 3 1 p.r.1 p.r.2.1 p.r.2.2 (ints p.x.commit_.reads_)::.box gd 31 #[.int .i64 s.m.clock_,.slice AM nm cm,.slice (some ⟨gJ,0,none⟩) n1 n1,.slice AH nh ch]::.row 68 18 (some ⟨gJ,0,none⟩) n1 n1 (js.flatMap jcell)::.row 53 3 AH nh ch (es.flatMap ecell)::(jrest js k ++ FR)):=(M1.perm (perm_no (js_out HP.out).symm).symm).perm ((List.perm_append_comm (l₁:=[_,_,_]) (l₂:=[_,_,_,_])).append_right (jrest js k ++ FR))
  clear M1
  have M:=Lib.hid M2
  clear M2
  obtain ⟨J,hJ⟩ : ∃ J,J = jstep s.m ((k : Int) + 1) j p.x:=⟨_,rfl⟩
  have HJJ:=Lib.hid hJ
  have HST : Hid (∀ (w9 : World) (X : List Res),Mine w w9 (.row 102 3 AM nm cm (s.m.cells_.flatMap Word.cells)::(jrows p ++ X)) → Calls Tryz.prog 31 #[.agg #[.int .i64 s.m.clock_,.slice AM nm cm],.int .i64 ((k : Int) + 1),.agg #[.slice B0 k0 f0,.slice B1 k1 f1],.agg (jcell p).toArray] w9 fun e w' => ∃ B1 m1 e1 p',p'.x = J.2 ∧ e = .returned (.tuple #[.agg #[.int .i64 J.1.clock_,.slice B1 m1 e1],.agg (jcell p').toArray]) ∧ Mine w w' (.row 102 3 B1 m1 e1 (J.1.cells_.flatMap Word.cells)::(jrows p' ++ X))):=by
   intro w9 X M9
   rw [hJ]
   exact spec_stepE s.m AM nm cm k q j B0 k0 f0 B1 k1 f1 p w w9 X S1 S1 HS0.out hk0 HS1.out hkk1 HMC.out HJI.out hq4 M9
  clear hJ
  have HJC : Hid (∀ q,q < (jcell p).length → (js.flatMap jcell)[k * 18 + q]? = (jcell p)[q]?):=jat HP.out
  have HPH : Hid ((js.flatMap jcell)[k * 18 + 13]? = some (.int .i64 p.x.commit_.phase_)):=HJC.out 13 (Nat.le_of_ble_eq_true rfl)
  have HWK : Hid (IntKind.i64.wrap ((k : Int) + 1) = (k : Int) + 1):=Go.IntWalk.i64_in _ (by omega)
  go_wp2_with (first|(go_at_call 30;(with_reducible refine (in_is dz _).mono ?_);rintro e w' ⟨rfl,rfl⟩)|((with_reducible show wpList _ _ _ (⟨_,_,_,_,_,none⟩::_) _ _);first|((first|refine Mine.wp_argc M.out rfl 3 _ rfl _ _ HC.out rfl _ Tryz.underlying3 (by rfl) ?_|refine zG M.out 4 ?_|refine Mine.wp_getr M.out rfl _ _ rfl 5 _ rfl rfl _ (by exact HPH.out) _ (by first|exact Tryz.underlying3) (by rfl) ?_);(try simp only [zr_,zm_]))))
  go_cut [13,14] from 58 to 109 (fun v13 v14 wx => ∃ gA gB,v13 = .pointer (some ⟨gA,0,none⟩) ∧ v14 = .pointer (some ⟨gB,0,none⟩) ∧ ∃ (E1 : Option Addr) (x1 y1 : Nat) (p' : JEnt),p'.x = J.2 ∧ Mine w wx (.box gA 27 #[.int .i64 J.1.clock_,.slice E1 x1 y1]::.box gB 68 (jcell p').toArray::.row 102 3 E1 x1 y1 (J.1.cells_.flatMap Word.cells)::(jrows p' ++ (.box gd 31 #[.int .i64 s.m.clock_,.slice AM nm cm,.slice (some ⟨gJ,0,none⟩) n1 n1,.slice AH nh ch]::.row 68 18 (some ⟨gJ,0,none⟩) n1 n1 (js.flatMap jcell)::.row 53 3 AH nh ch (es.flatMap ecell)::(jrest js k ++ FR)))))
  ·skip
   have MT:=Lib.hid (M.out.sub (sd_ (sd_ (sd_ (sd_ (sk_ (sk_ s0_)))))))
   refine Mine.region_allS MT.out M.out 21 (by kernel_rfl) rfl ?_
   intro w' M'
   replace M:=Lib.hid M'
   clear M'
   clear MT
   refine zXA 0 ?_;(try simp only [zs_,zl_])
   refine zTA 1 ?_;intro K hK;((refine zDs 27 0 2 ?_;(try simp only [zr_,zm_]);go_big_quiet_on))
   refine zXA 2 ?_;(try simp only [zs_,zl_])
   refine zXA 3 ?_;(try simp only [zs_,zl_])
   refine zXA 4 ?_;(try simp only [zs_,zl_])
   refine zXA 5 ?_;(try simp only [zs_,zl_])
   refine zXA 6 ?_;(try simp only [zs_,zl_])
   refine zTA 7 ?_;intro K hK;((refine Mine.rd_argall 72 _ rfl _ _ rfl [.slice B0 k0 f0,.slice B1 k1 f1] HRG.out HRB.out _ Tryz.underlying72 (by rfl) (by kernel_rfl) ?_;(try simp only [zr_,zm_]);go_big_quiet_on))
   refine zXA 8 ?_;(try simp only [zs_,zl_])
   refine zTA 9 ?_;intro K hK;((refine zD 0 ?_;(try simp only [zr_,zm_]);go_big_quiet_on))
   refine zXA 10 ?_;(try simp only [zs_,zl_])
   refine zXA 11 ?_;(try simp only [zs_,zl_])
   refine zTA 12 ?_;intro K hK;((refine Mine.rd_getrs 68 _ rfl 1 _ rfl rfl (jcell p) HJC.out _ Tryz.underlying68 (by rfl) (by kernel_rfl) ?_;(try simp only [zr_,zm_]);go_big_quiet_on))
   refine HA.noisy (rs:=[13,17,18]) (by kernel_rfl) (by simp) (AllA.cons rfl (Nat.le_of_ble_eq_true rfl) (fun K hK => ?_) (AllA.cons rfl (Nat.le_of_ble_eq_true rfl) (fun K hK => ?_) (AllA.cons rfl (Nat.le_of_ble_eq_true rfl) (fun K hK => ?_) AllA.nil)))
   go_simp
   go_at_call 31
   rw [HWK.out]
   refine (HST.out _ _ M.out).mono ?_
   rintro e w1 ⟨E1,x1,y1,p',hp',rfl,M4⟩
   replace M:=Lib.hid M4
   clear M4
   have M5 : Mine w w1 (.row 102 3 E1 x1 y1 (J.1.cells_.flatMap Word.cells)::.row 97 2 p'.s.1 p'.s.2.1 p'.s.2.2 (p'.x.seen_.flatMap Row.cells)::.row 97 2 p'.p.1 p'.p.2.1 p'.p.2.2 (p'.x.commit_.puts_.flatMap Row.cells)::.row 3 1 p'.r.1 p'.r.2.1 p'.r.2.2 (ints p'.x.commit_.reads_)::_):=M.out
   replace M:=Lib.hid M5
   clear M5
   refine hK.out _ _ (M.out.sub (sd_ (sd_ (sd_ (sd_ (sk_ (sk_ s0_))))))) ?_
   clear hK K
   (try simp only [zs_,zl_])
   refine zXA 14 ?_;(try simp only [zs_,zl_])
   refine zXA 15 ?_;(try simp only [zs_,zl_])
   refine zXA 16 ?_;(try simp only [zs_,zl_])
   refine HA.noisy (rs:=[17,18]) (by kernel_rfl) (by simp) (AllA.cons rfl (Nat.le_of_ble_eq_true rfl) (fun K hK => ?_) (AllA.cons rfl (Nat.le_of_ble_eq_true rfl) (fun K hK => ?_) AllA.nil))
   go_simp
   replace M:=Lib.hid (M.out.box 27 #[.int .i64 0,.slice none 0 0])
   refine hK.out _ (w1.alloc (.cells #[.int .i64 0,.slice none 0 0] 27)) (M.out.sub (sd_ (sd_ (sd_ (sd_ (sd_ (sk_ (sk_ s0_)))))))) ?_
   clear hK K
   (try simp only [zs_,zl_])
   generalize w1.heap.size = gA at M ⊢
   generalize w1.alloc (.cells #[.int .i64 0,.slice none 0 0] 27) = wv2 at M ⊢
   refine HA.noisy (rs:=[18]) (by kernel_rfl) (by simp) (AllA.cons rfl (Nat.le_of_ble_eq_true rfl) (fun K hK => ?_) AllA.nil)
   go_simp
   replace M:=Lib.hid (M.out.box 68 (List.toArray ((.int .i64 0)::(.int .i64 0)::(.int .i64 0)::(.int .i64 0)::(.int .i64 0)::(.slice none 0 0)::(.bool false)::(.int .i64 0)::(.int .i64 0)::(.int .i64 0)::(.int .i64 0)::(.int .i64 0)::(.int .i64 0)::(.int .i64 0)::(.int .i64 0)::(.int .i64 0)::(.slice none 0 0)::(.slice none 0 0)::[])))
   refine hK.out _ (wv2.alloc (.cells (List.toArray ((.int .i64 0)::(.int .i64 0)::(.int .i64 0)::(.int .i64 0)::(.int .i64 0)::(.slice none 0 0)::(.bool false)::(.int .i64 0)::(.int .i64 0)::(.int .i64 0)::(.int .i64 0)::(.int .i64 0)::(.int .i64 0)::(.int .i64 0)::(.int .i64 0)::(.int .i64 0)::(.slice none 0 0)::(.slice none 0 0)::[])) 68)) (M.out.sub (sd_ (sd_ (sd_ (sd_ (sd_ (sd_ (sk_ (sk_ s0_))))))))) ?_
   clear hK K
   (try simp only [zs_,zl_])
   generalize wv2.heap.size = gB at M ⊢
   generalize wv2.alloc (.cells (List.toArray ((.int .i64 0)::(.int .i64 0)::(.int .i64 0)::(.int .i64 0)::(.int .i64 0)::(.slice none 0 0)::(.bool false)::(.int .i64 0)::(.int .i64 0)::(.int .i64 0)::(.int .i64 0)::(.int .i64 0)::(.int .i64 0)::(.int .i64 0)::(.int .i64 0)::(.int .i64 0)::(.slice none 0 0)::(.slice none 0 0)::[])) 68) = wv3 at M ⊢
   replace M:=Lib.hid (M.out.perm (List.Perm.swap _ _ _))
   rotate_left
   go_simp
   replace M:=Lib.hid (M.out.box 68 (List.toArray ((.int .i64 0)::(.int .i64 0)::(.int .i64 0)::(.int .i64 0)::(.int .i64 0)::(.slice none 0 0)::(.bool false)::(.int .i64 0)::(.int .i64 0)::(.int .i64 0)::(.int .i64 0)::(.int .i64 0)::(.int .i64 0)::(.int .i64 0)::(.int .i64 0)::(.int .i64 0)::(.slice none 0 0)::(.slice none 0 0)::[])))
   refine hK.out _ (w1.alloc (.cells (List.toArray ((.int .i64 0)::(.int .i64 0)::(.int .i64 0)::(.int .i64 0)::(.int .i64 0)::(.slice none 0 0)::(.bool false)::(.int .i64 0)::(.int .i64 0)::(.int .i64 0)::(.int .i64 0)::(.int .i64 0)::(.int .i64 0)::(.int .i64 0)::(.int .i64 0)::(.int .i64 0)::(.slice none 0 0)::(.slice none 0 0)::[])) 68)) (M.out.sub (sd_ (sd_ (sd_ (sd_ (sd_ (sk_ (sk_ s0_)))))))) ?_
   clear hK K
   (try simp only [zs_,zl_])
   generalize w1.heap.size = gB at M ⊢
   generalize w1.alloc (.cells (List.toArray ((.int .i64 0)::(.int .i64 0)::(.int .i64 0)::(.int .i64 0)::(.int .i64 0)::(.slice none 0 0)::(.bool false)::(.int .i64 0)::(.int .i64 0)::(.int .i64 0)::(.int .i64 0)::(.int .i64 0)::(.int .i64 0)::(.int .i64 0)::(.int .i64 0)::(.int .i64 0)::(.slice none 0 0)::(.slice none 0 0)::[])) 68) = wv4 at M ⊢
   refine HA.noisy (rs:=[17]) (by kernel_rfl) (by simp) (AllA.cons rfl (Nat.le_of_ble_eq_true rfl) (fun K hK => ?_) AllA.nil)
   go_simp
   replace M:=Lib.hid (M.out.box 27 #[.int .i64 0,.slice none 0 0])
   refine hK.out _ (wv4.alloc (.cells #[.int .i64 0,.slice none 0 0] 27)) (M.out.sub (sd_ (sd_ (sd_ (sd_ (sd_ (sd_ (sk_ (sk_ s0_))))))))) ?_
   clear hK K
   (try simp only [zs_,zl_])
   generalize wv4.heap.size = gA at M ⊢
   generalize wv4.alloc (.cells #[.int .i64 0,.slice none 0 0] 27) = wv5 at M ⊢
   rotate_left
   go_simp
   replace M:=Lib.hid (M.out.box 27 #[.int .i64 0,.slice none 0 0])
   refine hK.out _ (w'.alloc (.cells #[.int .i64 0,.slice none 0 0] 27)) (M.out.sub (sd_ (sd_ (sd_ (sd_ (sd_ (sk_ (sk_ s0_)))))))) ?_
   clear hK K
   (try simp only [zs_,zl_])
   generalize w'.heap.size = gA at M ⊢
   generalize w'.alloc (.cells #[.int .i64 0,.slice none 0 0] 27) = wv6 at M ⊢
   refine HA.noisy (rs:=[13,18]) (by kernel_rfl) (by simp) (AllA.cons rfl (Nat.le_of_ble_eq_true rfl) (fun K hK => ?_) (AllA.cons rfl (Nat.le_of_ble_eq_true rfl) (fun K hK => ?_) AllA.nil))
   replace M:=Lib.hid M.out.p4
   go_simp
   go_at_call 31
   rw [HWK.out]
   refine (HST.out _ _ M.out).mono ?_
   rintro e w7 ⟨E1,x1,y1,p',hp',rfl,M4⟩
   replace M:=Lib.hid M4
   clear M4
   have M5 : Mine w w7 (.row 102 3 E1 x1 y1 (J.1.cells_.flatMap Word.cells)::.row 97 2 p'.s.1 p'.s.2.1 p'.s.2.2 (p'.x.seen_.flatMap Row.cells)::.row 97 2 p'.p.1 p'.p.2.1 p'.p.2.2 (p'.x.commit_.puts_.flatMap Row.cells)::.row 3 1 p'.r.1 p'.r.2.1 p'.r.2.2 (ints p'.x.commit_.reads_)::_):=M.out
   replace M:=Lib.hid M5
   clear M5
   replace M:=Lib.hid M.out.p4r
   refine hK.out _ _ (M.out.sub (sd_ (sd_ (sd_ (sd_ (sd_ (sk_ (sk_ s0_)))))))) ?_
   clear hK K
   (try simp only [zs_,zl_])
   refine zXA 14 ?_;(try simp only [zs_,zl_])
   refine zXA 15 ?_;(try simp only [zs_,zl_])
   refine zXA 16 ?_;(try simp only [zs_,zl_])
   refine HA.noisy (rs:=[18]) (by kernel_rfl) (by simp) (AllA.cons rfl (Nat.le_of_ble_eq_true rfl) (fun K hK => ?_) AllA.nil)
   go_simp
   replace M:=Lib.hid (M.out.box 68 (List.toArray ((.int .i64 0)::(.int .i64 0)::(.int .i64 0)::(.int .i64 0)::(.int .i64 0)::(.slice none 0 0)::(.bool false)::(.int .i64 0)::(.int .i64 0)::(.int .i64 0)::(.int .i64 0)::(.int .i64 0)::(.int .i64 0)::(.int .i64 0)::(.int .i64 0)::(.int .i64 0)::(.slice none 0 0)::(.slice none 0 0)::[])))
   refine hK.out _ (w7.alloc (.cells (List.toArray ((.int .i64 0)::(.int .i64 0)::(.int .i64 0)::(.int .i64 0)::(.int .i64 0)::(.slice none 0 0)::(.bool false)::(.int .i64 0)::(.int .i64 0)::(.int .i64 0)::(.int .i64 0)::(.int .i64 0)::(.int .i64 0)::(.int .i64 0)::(.int .i64 0)::(.int .i64 0)::(.slice none 0 0)::(.slice none 0 0)::[])) 68)) (M.out.sub (sd_ (sd_ (sd_ (sd_ (sd_ (sd_ (sk_ (sk_ s0_))))))))) ?_
   clear hK K
   (try simp only [zs_,zl_])
   generalize w7.heap.size = gB at M ⊢
   generalize w7.alloc (.cells (List.toArray ((.int .i64 0)::(.int .i64 0)::(.int .i64 0)::(.int .i64 0)::(.int .i64 0)::(.slice none 0 0)::(.bool false)::(.int .i64 0)::(.int .i64 0)::(.int .i64 0)::(.int .i64 0)::(.int .i64 0)::(.int .i64 0)::(.int .i64 0)::(.int .i64 0)::(.int .i64 0)::(.slice none 0 0)::(.slice none 0 0)::[])) 68) = wv8 at M ⊢
   replace M:=Lib.hid (M.out.perm (List.Perm.swap _ _ _))
   rotate_left
   go_simp
   replace M:=Lib.hid (M.out.box 68 (List.toArray ((.int .i64 0)::(.int .i64 0)::(.int .i64 0)::(.int .i64 0)::(.int .i64 0)::(.slice none 0 0)::(.bool false)::(.int .i64 0)::(.int .i64 0)::(.int .i64 0)::(.int .i64 0)::(.int .i64 0)::(.int .i64 0)::(.int .i64 0)::(.int .i64 0)::(.int .i64 0)::(.slice none 0 0)::(.slice none 0 0)::[])))
   refine hK.out _ (wv6.alloc (.cells (List.toArray ((.int .i64 0)::(.int .i64 0)::(.int .i64 0)::(.int .i64 0)::(.int .i64 0)::(.slice none 0 0)::(.bool false)::(.int .i64 0)::(.int .i64 0)::(.int .i64 0)::(.int .i64 0)::(.int .i64 0)::(.int .i64 0)::(.int .i64 0)::(.int .i64 0)::(.int .i64 0)::(.slice none 0 0)::(.slice none 0 0)::[])) 68)) (M.out.sub (sd_ (sd_ (sd_ (sd_ (sd_ (sd_ (sk_ (sk_ s0_))))))))) ?_
   clear hK K
   (try simp only [zs_,zl_])
   generalize wv6.heap.size = gB at M ⊢
   generalize wv6.alloc (.cells (List.toArray ((.int .i64 0)::(.int .i64 0)::(.int .i64 0)::(.int .i64 0)::(.int .i64 0)::(.slice none 0 0)::(.bool false)::(.int .i64 0)::(.int .i64 0)::(.int .i64 0)::(.int .i64 0)::(.int .i64 0)::(.int .i64 0)::(.int .i64 0)::(.int .i64 0)::(.int .i64 0)::(.slice none 0 0)::(.slice none 0 0)::[])) 68) = wv9 at M ⊢
   refine HA.noisy (rs:=[13]) (by kernel_rfl) (by simp) (AllA.cons rfl (Nat.le_of_ble_eq_true rfl) (fun K hK => ?_) AllA.nil)
   replace M:=Lib.hid M.out.p42
   go_simp
   go_at_call 31
   rw [HWK.out]
   refine (HST.out _ _ M.out).mono ?_
   rintro e w10 ⟨E1,x1,y1,p',hp',rfl,M4⟩
   replace M:=Lib.hid M4
   clear M4
   have M5 : Mine w w10 (.row 102 3 E1 x1 y1 (J.1.cells_.flatMap Word.cells)::.row 97 2 p'.s.1 p'.s.2.1 p'.s.2.2 (p'.x.seen_.flatMap Row.cells)::.row 97 2 p'.p.1 p'.p.2.1 p'.p.2.2 (p'.x.commit_.puts_.flatMap Row.cells)::.row 3 1 p'.r.1 p'.r.2.1 p'.r.2.2 (ints p'.x.commit_.reads_)::_):=M.out
   replace M:=Lib.hid M5
   clear M5
   replace M:=Lib.hid M.out.p4r2
   refine hK.out _ _ (M.out.sub (sd_ (sd_ (sd_ (sd_ (sd_ (sd_ (sk_ (sk_ s0_))))))))) ?_
   clear hK K
   (try simp only [zs_,zl_])
   refine zXA 14 ?_;(try simp only [zs_,zl_])
   refine zXA 15 ?_;(try simp only [zs_,zl_])
   refine zXA 16 ?_;(try simp only [zs_,zl_])
   replace M:=Lib.hid (M.out.perm (List.Perm.swap _ _ _))
   rotate_left
   go_simp
   replace M:=Lib.hid (M.out.box 68 (List.toArray ((.int .i64 0)::(.int .i64 0)::(.int .i64 0)::(.int .i64 0)::(.int .i64 0)::(.slice none 0 0)::(.bool false)::(.int .i64 0)::(.int .i64 0)::(.int .i64 0)::(.int .i64 0)::(.int .i64 0)::(.int .i64 0)::(.int .i64 0)::(.int .i64 0)::(.int .i64 0)::(.slice none 0 0)::(.slice none 0 0)::[])))
   refine hK.out _ (w'.alloc (.cells (List.toArray ((.int .i64 0)::(.int .i64 0)::(.int .i64 0)::(.int .i64 0)::(.int .i64 0)::(.slice none 0 0)::(.bool false)::(.int .i64 0)::(.int .i64 0)::(.int .i64 0)::(.int .i64 0)::(.int .i64 0)::(.int .i64 0)::(.int .i64 0)::(.int .i64 0)::(.int .i64 0)::(.slice none 0 0)::(.slice none 0 0)::[])) 68)) (M.out.sub (sd_ (sd_ (sd_ (sd_ (sd_ (sk_ (sk_ s0_)))))))) ?_
   clear hK K
   (try simp only [zs_,zl_])
   generalize w'.heap.size = gB at M ⊢
   generalize w'.alloc (.cells (List.toArray ((.int .i64 0)::(.int .i64 0)::(.int .i64 0)::(.int .i64 0)::(.int .i64 0)::(.slice none 0 0)::(.bool false)::(.int .i64 0)::(.int .i64 0)::(.int .i64 0)::(.int .i64 0)::(.int .i64 0)::(.int .i64 0)::(.int .i64 0)::(.int .i64 0)::(.int .i64 0)::(.slice none 0 0)::(.slice none 0 0)::[])) 68) = wv11 at M ⊢
   refine HA.noisy (rs:=[13,17]) (by kernel_rfl) (by simp) (AllA.cons rfl (Nat.le_of_ble_eq_true rfl) (fun K hK => ?_) (AllA.cons rfl (Nat.le_of_ble_eq_true rfl) (fun K hK => ?_) AllA.nil))
   replace M:=Lib.hid M.out.p4
   go_simp
   go_at_call 31
   rw [HWK.out]
   refine (HST.out _ _ M.out).mono ?_
   rintro e w12 ⟨E1,x1,y1,p',hp',rfl,M4⟩
   replace M:=Lib.hid M4
   clear M4
   have M5 : Mine w w12 (.row 102 3 E1 x1 y1 (J.1.cells_.flatMap Word.cells)::.row 97 2 p'.s.1 p'.s.2.1 p'.s.2.2 (p'.x.seen_.flatMap Row.cells)::.row 97 2 p'.p.1 p'.p.2.1 p'.p.2.2 (p'.x.commit_.puts_.flatMap Row.cells)::.row 3 1 p'.r.1 p'.r.2.1 p'.r.2.2 (ints p'.x.commit_.reads_)::_):=M.out
   replace M:=Lib.hid M5
   clear M5
   replace M:=Lib.hid M.out.p4r
   refine hK.out _ _ (M.out.sub (sd_ (sd_ (sd_ (sd_ (sd_ (sk_ (sk_ s0_)))))))) ?_
   clear hK K
   (try simp only [zs_,zl_])
   refine zXA 14 ?_;(try simp only [zs_,zl_])
   refine zXA 15 ?_;(try simp only [zs_,zl_])
   refine zXA 16 ?_;(try simp only [zs_,zl_])
   refine HA.noisy (rs:=[17]) (by kernel_rfl) (by simp) (AllA.cons rfl (Nat.le_of_ble_eq_true rfl) (fun K hK => ?_) AllA.nil)
   go_simp
   replace M:=Lib.hid (M.out.box 27 #[.int .i64 0,.slice none 0 0])
   refine hK.out _ (w12.alloc (.cells #[.int .i64 0,.slice none 0 0] 27)) (M.out.sub (sd_ (sd_ (sd_ (sd_ (sd_ (sd_ (sk_ (sk_ s0_))))))))) ?_
   clear hK K
   (try simp only [zs_,zl_])
   generalize w12.heap.size = gA at M ⊢
   generalize w12.alloc (.cells #[.int .i64 0,.slice none 0 0] 27) = wv13 at M ⊢
   rotate_left
   go_simp
   replace M:=Lib.hid (M.out.box 27 #[.int .i64 0,.slice none 0 0])
   refine hK.out _ (wv11.alloc (.cells #[.int .i64 0,.slice none 0 0] 27)) (M.out.sub (sd_ (sd_ (sd_ (sd_ (sd_ (sd_ (sk_ (sk_ s0_))))))))) ?_
   clear hK K
   (try simp only [zs_,zl_])
   generalize wv11.heap.size = gA at M ⊢
   generalize wv11.alloc (.cells #[.int .i64 0,.slice none 0 0] 27) = wv14 at M ⊢
   refine HA.noisy (rs:=[13]) (by kernel_rfl) (by simp) (AllA.cons rfl (Nat.le_of_ble_eq_true rfl) (fun K hK => ?_) AllA.nil)
   replace M:=Lib.hid M.out.p42
   go_simp
   go_at_call 31
   rw [HWK.out]
   refine (HST.out _ _ M.out).mono ?_
   rintro e w15 ⟨E1,x1,y1,p',hp',rfl,M4⟩
   replace M:=Lib.hid M4
   clear M4
   have M5 : Mine w w15 (.row 102 3 E1 x1 y1 (J.1.cells_.flatMap Word.cells)::.row 97 2 p'.s.1 p'.s.2.1 p'.s.2.2 (p'.x.seen_.flatMap Row.cells)::.row 97 2 p'.p.1 p'.p.2.1 p'.p.2.2 (p'.x.commit_.puts_.flatMap Row.cells)::.row 3 1 p'.r.1 p'.r.2.1 p'.r.2.2 (ints p'.x.commit_.reads_)::_):=M.out
   replace M:=Lib.hid M5
   clear M5
   replace M:=Lib.hid M.out.p4r2
   refine hK.out _ _ (M.out.sub (sd_ (sd_ (sd_ (sd_ (sd_ (sd_ (sk_ (sk_ s0_))))))))) ?_
   clear hK K
   (try simp only [zs_,zl_])
   refine zXA 14 ?_;(try simp only [zs_,zl_])
   refine zXA 15 ?_;(try simp only [zs_,zl_])
   refine zXA 16 ?_;(try simp only [zs_,zl_])
   rotate_left
   all_goals (
    refine HA.noisy (rs:=[19]) (by kernel_rfl) (by simp) (AllA.cons rfl (Nat.le_of_ble_eq_true rfl) (fun K hK => ?_) AllA.nil)
    refine Mine.step_sets M.out (by rfl) 27 _ _ (by rfl) (by rfl) 0 _ (by rfl) (by rfl) _ (by rfl) (Nat.le_of_ble_eq_true rfl) (by simp [Value.oneCell']) (by kernel_rfl) ?_
    intro w' M'
    simp only [zr_,zm_] at M'
    replace M:=Lib.hid M'
    clear M'
    refine hK.out _ _ (M.out.sub (sd_ (sd_ (sd_ (sd_ (sd_ (sd_ (sk_ (sk_ s0_))))))))) ?_
    clear hK K
    (try simp only [zs_,zl_])
    refine HA.noisy (rs:=[20]) (by kernel_rfl) (by simp) (AllA.cons rfl (Nat.le_of_ble_eq_true rfl) (fun K hK => ?_) AllA.nil)
    refine Mine.step_sets M.out (by rfl) 68 _ _ (by rfl) (by rfl) 1 _ (by rfl) (by rfl) (jcell p') (by rfl) (Nat.le_of_ble_eq_true rfl) (by simp [jcell,Value.oneCell']) (by kernel_rfl) ?_
    intro w' M'
    rw [show putAt (((.int .i64 0)::(.int .i64 0)::(.int .i64 0)::(.int .i64 0)::(.int .i64 0)::(.slice none 0 0)::(.bool false)::(.int .i64 0)::(.int .i64 0)::(.int .i64 0)::(.int .i64 0)::(.int .i64 0)::(.int .i64 0)::(.int .i64 0)::(.int .i64 0)::(.int .i64 0)::(.slice none 0 0)::(.slice none 0 0)::[]) : List Value) 0 (jcell p') = jcell p' from rfl] at M'
    replace M:=Lib.hid M'
    clear M'
    refine hK.out _ _ (M.out.sub (sd_ (sd_ (sd_ (sd_ (sd_ (sd_ (sk_ (sk_ s0_))))))))) ?_
    clear hK K
    (try simp only [zs_,zl_])
    refine HA.end_ (by kernel_rfl) ?_
    go_wp2_with fail
    go_meet
    case rel => exact ⟨_,_,rfl,rfl,E1,x1,y1,p',hp',M.out⟩
    )
  clear M
  obtain ⟨gA,gB,rfl,rfl,E1,x1,y1,p',hp',M1⟩:=hcut
  have M : Hid (Mine w wc (.box gA 27 #[.int .i64 J.1.clock_,.slice E1 x1 y1]::.box gB 68 (jcell p').toArray::.row 102 3 E1 x1 y1 (J.1.cells_.flatMap Word.cells)::.row 97 2 p'.s.1 p'.s.2.1 p'.s.2.2 (p'.x.seen_.flatMap Row.cells)::.row 97 2 p'.p.1 p'.p.2.1 p'.p.2.2 (p'.x.commit_.puts_.flatMap Row.cells)::.row 3 1 p'.r.1 p'.r.2.1 p'.r.2.2 (ints p'.x.commit_.reads_)::.box gd 31 #[.int .i64 s.m.clock_,.slice AM nm cm,.slice (some ⟨gJ,0,none⟩) n1 n1,.slice AH nh ch]::.row 68 18 (some ⟨gJ,0,none⟩) n1 n1 (js.flatMap jcell)::.row 53 3 AH nh ch (es.flatMap ecell)::(jrest js k ++ FR))):=Lib.hid M1
  clear M1
  have HPX:=Lib.hid hp'
  have hev : Hid (evS s.m p.x = decide ((p.x.commit_.phase_ = 2 ∨ p.x.commit_.phase_ = 3) ∧ p'.x.commit_.phase_ = 4)):=by rw [hp',HJJ.out];exact evS_is _ _ _ _
  have hpl : p'.p.2.1 ≤ 8:=by
   have h1:=(HJI.out.step s.m).2.2.2.1
   have h2 : p'.x.commit_.puts_.length = p'.p.2.1:=(M.out.row_sl 4 rfl).flen Row.cells_length (by omega)
   rw [hp',HJJ.out] at h2
   omega
  have hnh : nh ≤ 400:=by have h1:=HHL.out;have h2 : es.length = nh:=(M.out.row_sl 8 rfl).flen ecell_length (by omega);omega
  clear hp'
  by_cases z4 : p'.x.commit_.phase_ = 4
  rotate_left
  ·have a4 : (p'.x.commit_.phase_ == 4) = false:=by simpa using z4
   have HEV : Hid (evS s.m p.x = false):=by rw [hev.out];exact decide_eq_false fun z => z4 z.2
   clear z4
   by_cases z2 : p.x.commit_.phase_ = 2
   ·have a2 : (p.x.commit_.phase_ == 2) = true:=by simp [z2]
    have HZ2:=Lib.hid z2
    clear z2
    go_wp2_with (first|((with_reducible show wpList _ _ _ (⟨_,_,_,_,_,none⟩::_) _ _);first|((first|refine zGs M.out 27 0 2 ?_|refine zG M.out 6 ?_|refine Mine.wp_getall M.out rfl 68 _ rfl 1 rfl rfl _ Tryz.underlying68 (by rfl) (by kernel_rfl) ?_);(try simp only [zr_,zm_]))|(refine zSs M.out 27 6 ?_;intro w' M';(try simp only [zr_,zm_] at M');replace M:=Lib.hid M';clear M')|(refine Mine.wp_puts M.out rfl 68 _ _ rfl rfl 7 _ rfl rfl (jcell p') rfl (by simp only [jcell_length];omega) (by simp [jcell,Value.oneCell']) (by kernel_rfl) ?_;intro w' M';replace M:=Lib.hid M';clear M'))|((with_reducible show wpList _ _ _ (⟨_,.load _ _,_,_,_,some _⟩::_) _ _);first|(refine Mine.wp_getg M.out (by rfl) _ _ rfl 1 _ rfl rfl (.int .i64 p'.x.commit_.phase_) rfl _ (by first|exact Tryz.underlying3) (by rfl) ?_;(try simp only [zr_,zm_]))))
    go_roundw
    case rel =>
     refine ⟨q + 1,HLT.out,by go_num,?_⟩
     rw [HD.out]
     refine Lib.hid (DuelL.next (AM:=E1) (nm:=x1) (cm:=y1) (AH:=AH) (nh:=nh) (ch:=ch) HJ.out HP.out HX1.out HX2.out (HPX.out.trans (by rw [HJJ.out])) (by rw [HEV.out];rfl) ?_)
     rw [← HJJ.out,← jput p' (List.getElem?_eq_some_iff.1 HP.out).1]
     have M9:=M.out
     skip
     have hin:=js_in p' (List.getElem?_eq_some_iff.1 HP.out).1
     rw [HFR.out] at M9
     exact spec_back hin M9
    case measure => have:=HLT.out;simp [intOf];omega
   have a2 : (p.x.commit_.phase_ == 2) = false:=by simpa using z2
   by_cases z3 : p.x.commit_.phase_ = 3
   ·have a3 : (p.x.commit_.phase_ == 3) = true:=by simp [z3]
    have HZ3:=Lib.hid z3
    clear z3 z2
    go_wp2_with (first|((with_reducible show wpList _ _ _ (⟨_,_,_,_,_,none⟩::_) _ _);first|((first|refine zGs M.out 27 0 2 ?_|refine zG M.out 6 ?_|refine Mine.wp_getall M.out rfl 68 _ rfl 1 rfl rfl _ Tryz.underlying68 (by rfl) (by kernel_rfl) ?_);(try simp only [zr_,zm_]))|(refine zSs M.out 27 6 ?_;intro w' M';(try simp only [zr_,zm_] at M');replace M:=Lib.hid M';clear M')|(refine Mine.wp_puts M.out rfl 68 _ _ rfl rfl 7 _ rfl rfl (jcell p') rfl (by simp only [jcell_length];omega) (by simp [jcell,Value.oneCell']) (by kernel_rfl) ?_;intro w' M';replace M:=Lib.hid M';clear M'))|((with_reducible show wpList _ _ _ (⟨_,.load _ _,_,_,_,some _⟩::_) _ _);first|(refine Mine.wp_getg M.out (by rfl) _ _ rfl 1 _ rfl rfl (.int .i64 p'.x.commit_.phase_) rfl _ (by first|exact Tryz.underlying3) (by rfl) ?_;(try simp only [zr_,zm_]))))
    go_roundw
    case rel =>
     refine ⟨q + 1,HLT.out,by go_num,?_⟩
     rw [HD.out]
     refine Lib.hid (DuelL.next (AM:=E1) (nm:=x1) (cm:=y1) (AH:=AH) (nh:=nh) (ch:=ch) HJ.out HP.out HX1.out HX2.out (HPX.out.trans (by rw [HJJ.out])) (by rw [HEV.out];rfl) ?_)
     rw [← HJJ.out,← jput p' (List.getElem?_eq_some_iff.1 HP.out).1]
     have M9:=M.out
     skip
     have hin:=js_in p' (List.getElem?_eq_some_iff.1 HP.out).1
     rw [HFR.out] at M9
     exact spec_back hin M9
    case measure => have:=HLT.out;simp [intOf];omega
   have a3 : (p.x.commit_.phase_ == 3) = false:=by simpa using z3
   clear z2 z3
   go_wp2_with (((with_reducible show wpList _ _ _ (⟨_,_,_,_,_,none⟩::_) _ _);first|((first|refine zGs M.out 27 0 2 ?_|refine zG M.out 6 ?_|refine Mine.wp_getall M.out rfl 68 _ rfl 1 rfl rfl _ Tryz.underlying68 (by rfl) (by kernel_rfl) ?_);(try simp only [zr_,zm_]))|(refine zSs M.out 27 6 ?_;intro w' M';(try simp only [zr_,zm_] at M');replace M:=Lib.hid M';clear M')|(refine Mine.wp_puts M.out rfl 68 _ _ rfl rfl 7 _ rfl rfl (jcell p') rfl (by simp only [jcell_length];omega) (by simp [jcell,Value.oneCell']) (by kernel_rfl) ?_;intro w' M';replace M:=Lib.hid M';clear M')))
   go_roundw
   case rel =>
    refine ⟨q + 1,HLT.out,by go_num,?_⟩
    rw [HD.out]
    refine Lib.hid (DuelL.next (AM:=E1) (nm:=x1) (cm:=y1) (AH:=AH) (nh:=nh) (ch:=ch) HJ.out HP.out HX1.out HX2.out (HPX.out.trans (by rw [HJJ.out])) (by rw [HEV.out];rfl) ?_)
    rw [← HJJ.out,← jput p' (List.getElem?_eq_some_iff.1 HP.out).1]
    have M9:=M.out
    skip
    have hin:=js_in p' (List.getElem?_eq_some_iff.1 HP.out).1
    rw [HFR.out] at M9
    exact spec_back hin M9
   case measure => have:=HLT.out;simp [intOf];omega
  have a4 : (p'.x.commit_.phase_ == 4) = true:=by simp [z4]
  by_cases z2 : p.x.commit_.phase_ = 2
  ·have a2 : (p.x.commit_.phase_ == 2) = true:=by simp [z2]
   have HEV : Hid (evS s.m p.x = true):=by rw [hev.out];exact decide_eq_true ⟨.inl z2,z4⟩
   have HZ2:=Lib.hid z2
   have HZ4:=Lib.hid z4
   clear z2 z4
   go_wp2_with (first|((with_reducible show wpList _ _ _ (⟨_,_,_,_,_,none⟩::_) _ _);first|((first|refine zGs M.out 27 0 2 ?_|refine zG M.out 6 ?_|refine Mine.wp_getall M.out rfl 68 _ rfl 1 rfl rfl _ Tryz.underlying68 (by rfl) (by kernel_rfl) ?_);(try simp only [zr_,zm_]))|(refine zSs M.out 27 6 ?_;intro w' M';(try simp only [zr_,zm_] at M');replace M:=Lib.hid M';clear M')|(refine Mine.wp_puts M.out rfl 68 _ _ rfl rfl 7 _ rfl rfl (jcell p') rfl (by simp only [jcell_length];omega) (by simp [jcell,Value.oneCell']) (by kernel_rfl) ?_;intro w' M';replace M:=Lib.hid M';clear M'))|((with_reducible show wpList _ _ _ (⟨_,.load _ _,_,_,_,some _⟩::_) _ _);first|(refine Mine.wp_getg M.out (by rfl) _ _ rfl 1 _ rfl rfl (.int .i64 p'.x.commit_.phase_) rfl _ (by first|exact Tryz.underlying3) (by rfl) ?_;(try simp only [zr_,zm_]))))
   have MT:=Lib.hid (M.out.sub (sd_ (sk_ (sd_ (sd_ (sk_ (sd_ (sk_ s0_))))))))
   refine Mine.region_headS MT.out M.out 15 (by kernel_rfl) (by kernel_rfl) ?_
   intro w' M'
   replace M:=Lib.hid M'
   clear M'
   clear MT
   refine zXL 0 ?_;(try simp only [zs_,zl_])
   refine zTL 1 ?_;intro K hK;((refine zD 2 ?_;(try simp only [zr_,zm_]);go_big_quiet_on))
   refine zXL 2 ?_;(try simp only [zs_,zl_])
   refine zXL 3 ?_;(try simp only [zs_,zl_])
   refine zTL 4 ?_;intro K hK;((refine Mine.rd_get _ _ rfl 0 _ rfl rfl (.int .i64 p'.x.commit_.wv_) rfl _ (by first|exact Tryz.underlying3) (by rfl) ?_;(try simp only [zr_,zm_]);go_big_quiet_on))
   refine zXL 5 ?_;(try simp only [zs_,zl_])
   refine zXL 6 ?_;(try simp only [zs_,zl_])
   refine zXL 8 ?_;(try simp only [zs_,zl_])
   refine zXL 9 ?_;(try simp only [zs_,zl_])
   refine zTL 10 ?_;intro K hK;((refine Mine.rd_get _ _ rfl 0 _ rfl rfl (.slice p'.p.1 p'.p.2.1 p'.p.2.2) rfl _ (by first|exact Tryz.underlying51) (by rfl) ?_;(try simp only [zr_,zm_]);go_big_quiet_on))
   refine HQ.noisy (rs:=[7]) (by kernel_rfl) (by simp) (AllG.cons rfl (Nat.le_of_ble_eq_true rfl) (fun K hK => ?_) AllG.nil)
   go_simp
   replace M:=Lib.hid (M.out.own (own_emptyR _) ((Ext.refl' _).al _))
   refine hK.out _ _ (M.out.sub (sd_ (sd_ (sk_ (sd_ (sd_ (sk_ (sd_ (sk_ s0_))))))))) ?_
   clear hK K
   (try simp only [zs_,zl_])
   refine HQ.noisy (rs:=[11]) (by kernel_rfl) (by simp) (AllG.cons rfl (Nat.le_of_ble_eq_true rfl) (fun K hK => ?_) AllG.nil)
   refine Mine.step_pour M.out (by rfl) _ _ 51 (by rfl) 97 _ _ _ Tryz.underlying51 Tryz.infoRow (by rfl) (by omega) 0 (by rfl) (by rfl) _ p'.p.1 p'.p.2.1 p'.p.2.2 _ (by rfl) (M.out.row_sl 5 rfl) (row_one _) (by omega) (by unfold maxLen;omega) ?_
   intro A2 c2 w' M'
   simp only [zr_,zm_,List.flatMap_nil,List.nil_append,Nat.zero_add] at M' ⊢
   replace M:=Lib.hid M'
   clear M'
   refine hK.out _ _ (M.out.sub (sd_ (sd_ (sk_ (sd_ (sd_ (sk_ (sd_ (sk_ s0_))))))))) ?_
   clear hK K
   (try simp only [zs_,zl_])
   refine zXL 12 ?_;(try simp only [zs_,zl_])
   refine HQ.noisy (rs:=[13]) (by kernel_rfl) (by simp) (AllG.cons rfl (Nat.le_of_ble_eq_true rfl) (fun K hK => ?_) AllG.nil)
   go_simp
   refine hK.out _ _ ((M.out.sub (sd_ (sd_ (sk_ (sd_ (sd_ (sk_ (sd_ (sk_ s0_))))))))).al _) ?_
   clear hK K
   (try simp only [zs_,zl_])
   refine HQ.noisy (rs:=[14]) (by kernel_rfl) (by simp) (AllG.cons rfl (Nat.le_of_ble_eq_true rfl) (fun K hK => ?_) AllG.nil)
   refine Mine.step_push M.out (by rfl) _ _ _ (by rfl) 53 _ _ _ Tryz.underlying29 Tryz.infoWrote rfl (by omega) 9 (by rfl) (by rfl) [.int .i64 p'.x.commit_.wv_,.int .i64 (IntKind.i64.wrap ((k : Int) + 1)),.slice A2 p'.p.2.1 c2] _ (by rfl) (by rfl) (by rfl) (by simp [Value.oneCell']) (by omega) (by unfold maxLen;omega) ?_
   intro A3 c3 w' M'
   rw [HWK.out] at M'
   simp only [zr_,zm_] at M'
   replace M:=Lib.hid M'
   clear M'
   refine hK.out _ _ (M.out.sub (sd_ (sd_ (sk_ (sd_ (sd_ (sk_ (sd_ (sk_ s0_))))))))) ?_
   clear hK K
   (try simp only [zs_,zl_])
   refine HQ.end_ (by kernel_rfl) ?_
   simp only [List.drop_succ_cons,List.drop_zero]
   go_wp2_with (((with_reducible show wpList _ _ _ (⟨_,_,_,_,_,none⟩::_) _ _);first|(refine zS M.out 7 ?_;intro w' M';(try simp only [zr_,zm_] at M');replace M:=Lib.hid M';clear M')))
   go_roundw
   case rel =>
    refine ⟨q + 1,HLT.out,by go_num,?_⟩
    rw [HD.out]
    refine Lib.hid (DuelL.next (AM:=E1) (nm:=x1) (cm:=y1) (AH:=A3) (nh:=nh + 1) (ch:=c3) (es':=es ++ [((A2,p'.p.2.1,c2),⟨p'.x.commit_.wv_,(k : Int) + 1,p'.x.commit_.puts_⟩)]) HJ.out HP.out HX1.out HX2.out (HPX.out.trans (by rw [HJJ.out])) (by rw [HEV.out,if_pos rfl,List.map_append];rfl) ?_)
    rw [← HJJ.out,← jput p' (List.getElem?_eq_some_iff.1 HP.out).1,List.flatMap_append,List.map_append,List.append_assoc (es.map erow)]
    have M9:=M.out
    have hin:=js_in p' (List.getElem?_eq_some_iff.1 HP.out).1
    rw [HFR.out] at M9
    exact spec_backE hin M9
   case measure => have:=HLT.out;simp [intOf];omega
  have a2 : (p.x.commit_.phase_ == 2) = false:=by simpa using z2
  by_cases z3 : p.x.commit_.phase_ = 3
  ·have a3 : (p.x.commit_.phase_ == 3) = true:=by simp [z3]
   have HEV : Hid (evS s.m p.x = true):=by rw [hev.out];exact decide_eq_true ⟨.inr z3,z4⟩
   have HZ3:=Lib.hid z3
   have HZ4:=Lib.hid z4
   clear z2 z3 z4
   go_wp2_with (first|((with_reducible show wpList _ _ _ (⟨_,_,_,_,_,none⟩::_) _ _);first|((first|refine zGs M.out 27 0 2 ?_|refine zG M.out 6 ?_|refine Mine.wp_getall M.out rfl 68 _ rfl 1 rfl rfl _ Tryz.underlying68 (by rfl) (by kernel_rfl) ?_);(try simp only [zr_,zm_]))|(refine zSs M.out 27 6 ?_;intro w' M';(try simp only [zr_,zm_] at M');replace M:=Lib.hid M';clear M')|(refine Mine.wp_puts M.out rfl 68 _ _ rfl rfl 7 _ rfl rfl (jcell p') rfl (by simp only [jcell_length];omega) (by simp [jcell,Value.oneCell']) (by kernel_rfl) ?_;intro w' M';replace M:=Lib.hid M';clear M'))|((with_reducible show wpList _ _ _ (⟨_,.load _ _,_,_,_,some _⟩::_) _ _);first|(refine Mine.wp_getg M.out (by rfl) _ _ rfl 1 _ rfl rfl (.int .i64 p'.x.commit_.phase_) rfl _ (by first|exact Tryz.underlying3) (by rfl) ?_;(try simp only [zr_,zm_]))))
   have MT:=Lib.hid (M.out.sub (sd_ (sk_ (sd_ (sd_ (sk_ (sd_ (sk_ s0_))))))))
   refine Mine.region_headS MT.out M.out 15 (by kernel_rfl) (by kernel_rfl) ?_
   intro w' M'
   replace M:=Lib.hid M'
   clear M'
   clear MT
   refine zXL 0 ?_;(try simp only [zs_,zl_])
   refine zTL 1 ?_;intro K hK;((refine zD 2 ?_;(try simp only [zr_,zm_]);go_big_quiet_on))
   refine zXL 2 ?_;(try simp only [zs_,zl_])
   refine zXL 3 ?_;(try simp only [zs_,zl_])
   refine zTL 4 ?_;intro K hK;((refine Mine.rd_get _ _ rfl 0 _ rfl rfl (.int .i64 p'.x.commit_.wv_) rfl _ (by first|exact Tryz.underlying3) (by rfl) ?_;(try simp only [zr_,zm_]);go_big_quiet_on))
   refine zXL 5 ?_;(try simp only [zs_,zl_])
   refine zXL 6 ?_;(try simp only [zs_,zl_])
   refine zXL 8 ?_;(try simp only [zs_,zl_])
   refine zXL 9 ?_;(try simp only [zs_,zl_])
   refine zTL 10 ?_;intro K hK;((refine Mine.rd_get _ _ rfl 0 _ rfl rfl (.slice p'.p.1 p'.p.2.1 p'.p.2.2) rfl _ (by first|exact Tryz.underlying51) (by rfl) ?_;(try simp only [zr_,zm_]);go_big_quiet_on))
   refine HQ.noisy (rs:=[7]) (by kernel_rfl) (by simp) (AllG.cons rfl (Nat.le_of_ble_eq_true rfl) (fun K hK => ?_) AllG.nil)
   go_simp
   replace M:=Lib.hid (M.out.own (own_emptyR _) ((Ext.refl' _).al _))
   refine hK.out _ _ (M.out.sub (sd_ (sd_ (sk_ (sd_ (sd_ (sk_ (sd_ (sk_ s0_))))))))) ?_
   clear hK K
   (try simp only [zs_,zl_])
   refine HQ.noisy (rs:=[11]) (by kernel_rfl) (by simp) (AllG.cons rfl (Nat.le_of_ble_eq_true rfl) (fun K hK => ?_) AllG.nil)
   refine Mine.step_pour M.out (by rfl) _ _ 51 (by rfl) 97 _ _ _ Tryz.underlying51 Tryz.infoRow (by rfl) (by omega) 0 (by rfl) (by rfl) _ p'.p.1 p'.p.2.1 p'.p.2.2 _ (by rfl) (M.out.row_sl 5 rfl) (row_one _) (by omega) (by unfold maxLen;omega) ?_
   intro A2 c2 w' M'
   simp only [zr_,zm_,List.flatMap_nil,List.nil_append,Nat.zero_add] at M' ⊢
   replace M:=Lib.hid M'
   clear M'
   refine hK.out _ _ (M.out.sub (sd_ (sd_ (sk_ (sd_ (sd_ (sk_ (sd_ (sk_ s0_))))))))) ?_
   clear hK K
   (try simp only [zs_,zl_])
   refine zXL 12 ?_;(try simp only [zs_,zl_])
   refine HQ.noisy (rs:=[13]) (by kernel_rfl) (by simp) (AllG.cons rfl (Nat.le_of_ble_eq_true rfl) (fun K hK => ?_) AllG.nil)
   go_simp
   refine hK.out _ _ ((M.out.sub (sd_ (sd_ (sk_ (sd_ (sd_ (sk_ (sd_ (sk_ s0_))))))))).al _) ?_
   clear hK K
   (try simp only [zs_,zl_])
   refine HQ.noisy (rs:=[14]) (by kernel_rfl) (by simp) (AllG.cons rfl (Nat.le_of_ble_eq_true rfl) (fun K hK => ?_) AllG.nil)
   refine Mine.step_push M.out (by rfl) _ _ _ (by rfl) 53 _ _ _ Tryz.underlying29 Tryz.infoWrote rfl (by omega) 9 (by rfl) (by rfl) [.int .i64 p'.x.commit_.wv_,.int .i64 (IntKind.i64.wrap ((k : Int) + 1)),.slice A2 p'.p.2.1 c2] _ (by rfl) (by rfl) (by rfl) (by simp [Value.oneCell']) (by omega) (by unfold maxLen;omega) ?_
   intro A3 c3 w' M'
   rw [HWK.out] at M'
   simp only [zr_,zm_] at M'
   replace M:=Lib.hid M'
   clear M'
   refine hK.out _ _ (M.out.sub (sd_ (sd_ (sk_ (sd_ (sd_ (sk_ (sd_ (sk_ s0_))))))))) ?_
   clear hK K
   (try simp only [zs_,zl_])
   refine HQ.end_ (by kernel_rfl) ?_
   simp only [List.drop_succ_cons,List.drop_zero]
   go_wp2_with (((with_reducible show wpList _ _ _ (⟨_,_,_,_,_,none⟩::_) _ _);first|(refine zS M.out 7 ?_;intro w' M';(try simp only [zr_,zm_] at M');replace M:=Lib.hid M';clear M')))
   go_roundw
   case rel =>
    refine ⟨q + 1,HLT.out,by go_num,?_⟩
    rw [HD.out]
    refine Lib.hid (DuelL.next (AM:=E1) (nm:=x1) (cm:=y1) (AH:=A3) (nh:=nh + 1) (ch:=c3) (es':=es ++ [((A2,p'.p.2.1,c2),⟨p'.x.commit_.wv_,(k : Int) + 1,p'.x.commit_.puts_⟩)]) HJ.out HP.out HX1.out HX2.out (HPX.out.trans (by rw [HJJ.out])) (by rw [HEV.out,if_pos rfl,List.map_append];rfl) ?_)
    rw [← HJJ.out,← jput p' (List.getElem?_eq_some_iff.1 HP.out).1,List.flatMap_append,List.map_append,List.append_assoc (es.map erow)]
    have M9:=M.out
    have hin:=js_in p' (List.getElem?_eq_some_iff.1 HP.out).1
    rw [HFR.out] at M9
    exact spec_backE hin M9
   case measure => have:=HLT.out;simp [intOf];omega
  have a3 : (p.x.commit_.phase_ == 3) = false:=by simpa using z3
  have HEV : Hid (evS s.m p.x = false):=by rw [hev.out];exact decide_eq_false fun z => z.1.elim z2 z3
  have HZ4:=Lib.hid z4
  clear z2 z3 z4
  go_wp2_with (((with_reducible show wpList _ _ _ (⟨_,_,_,_,_,none⟩::_) _ _);first|((first|refine zGs M.out 27 0 2 ?_|refine zG M.out 6 ?_|refine Mine.wp_getall M.out rfl 68 _ rfl 1 rfl rfl _ Tryz.underlying68 (by rfl) (by kernel_rfl) ?_);(try simp only [zr_,zm_]))|(refine zSs M.out 27 6 ?_;intro w' M';(try simp only [zr_,zm_] at M');replace M:=Lib.hid M';clear M')|(refine Mine.wp_puts M.out rfl 68 _ _ rfl rfl 7 _ rfl rfl (jcell p') rfl (by simp only [jcell_length];omega) (by simp [jcell,Value.oneCell']) (by kernel_rfl) ?_;intro w' M';replace M:=Lib.hid M';clear M')))
  go_roundw
  case rel =>
   refine ⟨q + 1,HLT.out,by go_num,?_⟩
   rw [HD.out]
   refine Lib.hid (DuelL.next (AM:=E1) (nm:=x1) (cm:=y1) (AH:=AH) (nh:=nh) (ch:=ch) HJ.out HP.out HX1.out HX2.out (HPX.out.trans (by rw [HJJ.out])) (by rw [HEV.out];rfl) ?_)
   rw [← HJJ.out,← jput p' (List.getElem?_eq_some_iff.1 HP.out).1]
   have M9:=M.out
   skip
   have hin:=js_in p' (List.getElem?_eq_some_iff.1 HP.out).1
   rw [HFR.out] at M9
   exact spec_back hin M9
  case measure => have:=HLT.out;simp [intOf];omega

end Go.Proofs.YtpmfhfpjiebcjaaGreat
