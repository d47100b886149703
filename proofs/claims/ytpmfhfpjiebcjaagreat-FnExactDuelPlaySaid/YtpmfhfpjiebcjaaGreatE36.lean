/- A step of a job in the reference: a commit. No condition but lengths. A step of a job in the reference. No condition but lengths. -/
import Derived.Test.YtpmfhfpjiebcjaaGreatE00
import Derived.Test.YtpmfhfpjiebcjaaGreatE34
import Derived.Test.YtpmfhfpjiebcjaaGreatE31
import Derived.Test.YtpmfhfpjiebcjaaGreatE35
namespace Go.Proofs.YtpmfhfpjiebcjaaGreat
open Go.RowKit Go.Deep
set_option linter.unusedSimpArgs false
set_option linter.unusedVariables false
set_option maxRecDepth 8000 in
set_option maxHeartbeats 16000000 in
theorem spec_k2 (m : Mem) (AM : Option Addr) (n cm : Nat) (who : Int) (j : Job) (A0 : Option Addr) (n0 c0 : Nat) (A1 : Option Addr) (n1 c1 : Nat) (at_ : Int) (tr rv st : Int) (seen : List Row) (busy : Bool) (pc pp pv pl cw crv cph cat cwv : Int) (cps : List Row) (crs : List Int) (As : Option Addr) (ns cs : Nat) (Ap : Option Addr) (np cp : Nat) (Ar : Option Addr) (nr cr : Nat) (b w : World) (fr : List Res) (S0 S1 : Nat → Prop) (h0 : Sl b S0 1 A0 n0 (ints j.reads_)) (hn0 : n0 ≤ 1048576) (h1 : Sl b S1 2 A1 n1 (j.puts_.flatMap Row.cells)) (hn1 : n1 ≤ 1048576) (hnM : n ≤ 1048576) (hns : ns ≤ 1000000) (hnp : np ≤ 1048576) (hnr : nr ≤ 1048576) (htr : 0 ≤ tr ∧ tr ≤ 1000000) (hat : 0 ≤ at_ ∧ at_ ≤ (n0 : Int)) (M1 : Mine b w (.row 102 3 AM n cm ((m.cells_).flatMap Word.cells)::.row 97 2 As ns cs ((seen).flatMap Row.cells)::.row 97 2 Ap np cp ((cps).flatMap Row.cells)::.row 3 1 Ar nr cr (ints (crs))::fr))  :
  Calls Tryz.prog 31 #[.agg #[.int .i64 m.clock_,.slice AM n cm],.int .i64 who,.agg #[.slice A0 n0 c0,.slice A1 n1 c1],.agg (List.toArray ((.int .i64 2)::(.int .i64 tr)::(.int .i64 rv)::(.int .i64 at_)::(.int .i64 st)::(.slice As ns cs)::(.bool busy)::(.int .i64 pc)::(.int .i64 pp)::(.int .i64 pv)::(.int .i64 pl)::(.int .i64 cw)::(.int .i64 crv)::(.int .i64 cph)::(.int .i64 cat)::(.int .i64 cwv)::(.slice Ap np cp)::(.slice Ar nr cr)::[]))] w fun e w' => ∃ B1 m1 e1 B2 m2 e2 B3 m3 e3 B4 m4 e4,e = .returned (.tuple #[.agg #[.int .i64 (jstep m who j ⟨2,tr,rv,at_,st,seen,busy,⟨pc,pp,pv,pl⟩,⟨cw,crv,cph,cat,cwv,cps,crs⟩⟩).1.clock_,.slice B1 m1 e1],.agg (List.toArray ((.int .i64 ((jstep m who j ⟨2,tr,rv,at_,st,seen,busy,⟨pc,pp,pv,pl⟩,⟨cw,crv,cph,cat,cwv,cps,crs⟩⟩).2).phase_)::(.int .i64 ((jstep m who j ⟨2,tr,rv,at_,st,seen,busy,⟨pc,pp,pv,pl⟩,⟨cw,crv,cph,cat,cwv,cps,crs⟩⟩).2).tries_)::(.int .i64 ((jstep m who j ⟨2,tr,rv,at_,st,seen,busy,⟨pc,pp,pv,pl⟩,⟨cw,crv,cph,cat,cwv,cps,crs⟩⟩).2).rv_)::(.int .i64 ((jstep m who j ⟨2,tr,rv,at_,st,seen,busy,⟨pc,pp,pv,pl⟩,⟨cw,crv,cph,cat,cwv,cps,crs⟩⟩).2).at_)::(.int .i64 ((jstep m who j ⟨2,tr,rv,at_,st,seen,busy,⟨pc,pp,pv,pl⟩,⟨cw,crv,cph,cat,cwv,cps,crs⟩⟩).2).stamp_)::(.slice B2 m2 e2)::(.bool ((jstep m who j ⟨2,tr,rv,at_,st,seen,busy,⟨pc,pp,pv,pl⟩,⟨cw,crv,cph,cat,cwv,cps,crs⟩⟩).2).busy_)::(.int .i64 ((jstep m who j ⟨2,tr,rv,at_,st,seen,busy,⟨pc,pp,pv,pl⟩,⟨cw,crv,cph,cat,cwv,cps,crs⟩⟩).2).probe_.cell_)::(.int .i64 ((jstep m who j ⟨2,tr,rv,at_,st,seen,busy,⟨pc,pp,pv,pl⟩,⟨cw,crv,cph,cat,cwv,cps,crs⟩⟩).2).probe_.phase_)::(.int .i64 ((jstep m who j ⟨2,tr,rv,at_,st,seen,busy,⟨pc,pp,pv,pl⟩,⟨cw,crv,cph,cat,cwv,cps,crs⟩⟩).2).probe_.ver_)::(.int .i64 ((jstep m who j ⟨2,tr,rv,at_,st,seen,busy,⟨pc,pp,pv,pl⟩,⟨cw,crv,cph,cat,cwv,cps,crs⟩⟩).2).probe_.val_)::(.int .i64 ((jstep m who j ⟨2,tr,rv,at_,st,seen,busy,⟨pc,pp,pv,pl⟩,⟨cw,crv,cph,cat,cwv,cps,crs⟩⟩).2).commit_.who_)::(.int .i64 ((jstep m who j ⟨2,tr,rv,at_,st,seen,busy,⟨pc,pp,pv,pl⟩,⟨cw,crv,cph,cat,cwv,cps,crs⟩⟩).2).commit_.rv_)::(.int .i64 ((jstep m who j ⟨2,tr,rv,at_,st,seen,busy,⟨pc,pp,pv,pl⟩,⟨cw,crv,cph,cat,cwv,cps,crs⟩⟩).2).commit_.phase_)::(.int .i64 ((jstep m who j ⟨2,tr,rv,at_,st,seen,busy,⟨pc,pp,pv,pl⟩,⟨cw,crv,cph,cat,cwv,cps,crs⟩⟩).2).commit_.at_)::(.int .i64 ((jstep m who j ⟨2,tr,rv,at_,st,seen,busy,⟨pc,pp,pv,pl⟩,⟨cw,crv,cph,cat,cwv,cps,crs⟩⟩).2).commit_.wv_)::(.slice B3 m3 e3)::(.slice B4 m4 e4)::[]))]) ∧ Mine b w' (.row 102 3 B1 m1 e1 (((jstep m who j ⟨2,tr,rv,at_,st,seen,busy,⟨pc,pp,pv,pl⟩,⟨cw,crv,cph,cat,cwv,cps,crs⟩⟩).1.cells_).flatMap Word.cells)::.row 97 2 B2 m2 e2 (((jstep m who j ⟨2,tr,rv,at_,st,seen,busy,⟨pc,pp,pv,pl⟩,⟨cw,crv,cph,cat,cwv,cps,crs⟩⟩).2.seen_).flatMap Row.cells)::.row 97 2 B3 m3 e3 (((jstep m who j ⟨2,tr,rv,at_,st,seen,busy,⟨pc,pp,pv,pl⟩,⟨cw,crv,cph,cat,cwv,cps,crs⟩⟩).2.commit_.puts_).flatMap Row.cells)::.row 3 1 B4 m4 e4 (ints ((jstep m who j ⟨2,tr,rv,at_,st,seen,busy,⟨pc,pp,pv,pl⟩,⟨cw,crv,cph,cat,cwv,cps,crs⟩⟩).2.commit_.reads_))::fr):=by
 have hl0 : j.reads_.length = n0:=h0.len
 have hl1 : j.puts_.length = n1:=h1.flen Row.cells_length (by omega)
 have H0:=Lib.hid h0
 have H1:=Lib.hid h1
 have M:=Lib.hid M1
 clear h0 h1 M1
 obtain ⟨zk,zx,zp,za,zw,hq⟩ : ∃ zk zx zp za zw,cstepS m ⟨cw,crv,cph,cat,cwv,cps,crs⟩ = ⟨zk,zx,zp,za,zw⟩:=⟨_,_,_,_,_,rfl⟩
 have HQQ:=Lib.hid hq
 have HJ : jstep m who j ⟨2,tr,rv,at_,st,seen,busy,⟨pc,pp,pv,pl⟩,⟨cw,crv,cph,cat,cwv,cps,crs⟩⟩ = (⟨zk,zx⟩,jcommit m ⟨2,tr,rv,at_,st,seen,busy,⟨pc,pp,pv,pl⟩,⟨cw,crv,cph,cat,cwv,cps,crs⟩⟩):=by unfold jstep;simp [hq]
 by_cases z8 : zp = 8
 ·subst z8
  have HZ : Hid (jstep m who j ⟨2,tr,rv,at_,st,seen,busy,⟨pc,pp,pv,pl⟩,⟨cw,crv,cph,cat,cwv,cps,crs⟩⟩ = (⟨zk,zx⟩,again tr)):=by
   show _ = _
   rw [HJ]
   unfold jcommit ccNew
   simp only [hq]
   simp
  clear HJ hq
  go_enter Tryz.func31,Tryz.ntmps31
  go_wp2_with (first|(go_at_call 80;(with_reducible refine (spec_CommitStep_is m AM n cm cw crv cwv cph cat cps crs Ap np cp Ar nr cr _ _ (M.out.row_sl 5 rfl) hnM _ (M.out.row_sl 7 rfl) hnp _ (M.out.row_sl 8 rfl) hnr _ _ _ _ _ HQQ.out).mono ?_);rintro e w' ⟨Bm,dm,Bp,dp,Br,dr,rfl,M9⟩;have M8:=M.out.call M9;replace M:=Lib.hid M8;clear M8 M9)|((with_reducible show wpList _ _ _ (⟨_,_,_,_,_,none⟩::_) _ _);first|(refine Mine.wp_box M.out rfl 27 _ rfl _ rfl ?_;intro gm w' M';(try simp only [zr_,zm_] at M');replace M:=Lib.hid M';clear M';(try simp only [zr_,zm_]))|(refine Mine.wp_box M.out rfl 72 _ rfl _ rfl ?_;intro gj w' M';(try simp only [zr_,zm_] at M');replace M:=Lib.hid M';clear M';(try simp only [zr_,zm_]))|(refine Mine.wp_box M.out rfl 68 _ rfl _ rfl ?_;intro gx w' M';(try simp only [zr_,zm_] at M');replace M:=Lib.hid M';clear M';(try simp only [zr_,zm_]))|(refine Mine.wp_alloc M.out rfl 27 rfl (.agg #[.int .i64 0,.slice none 0 0]) (by kernel_rfl) ?_;intro g8 w' M';(try simp only [Value.cells,zr_,zm_] at M');replace M:=Lib.hid M';clear M';(try simp only [zr_,zm_]))|(refine Mine.wp_alloc M.out rfl 68 rfl (.agg (List.toArray ((.int .i64 0)::(.int .i64 0)::(.int .i64 0)::(.int .i64 0)::(.int .i64 0)::(.slice none 0 0)::(.bool false)::(.int .i64 0)::(.int .i64 0)::(.int .i64 0)::(.int .i64 0)::(.int .i64 0)::(.int .i64 0)::(.int .i64 0)::(.int .i64 0)::(.int .i64 0)::(.slice none 0 0)::(.slice none 0 0)::[]))) (by kernel_rfl) ?_;intro g9 w' M';(try simp only [Value.cells,zr_,zm_] at M');replace M:=Lib.hid M';clear M';(try simp only [zr_,zm_]))|((first|refine zG M.out 2 ?_|refine zGs M.out 27 4 2 ?_|refine zGs M.out 64 2 7 ?_|refine zGs M.out 27 1 2 ?_|refine zGs M.out 64 0 7 ?_|refine zG M.out 0 ?_);(try simp only [zr_,zm_]))|((first|refine zSs M.out 27 1 ?_|refine zSs M.out 64 0 ?_|refine zSs M.out 27 9 ?_|refine zSs M.out 64 7 ?_);intro w' M';(try simp only [zr_,zm_] at M');replace M:=Lib.hid M';clear M')|(refine Mine.wp_alloc M.out rfl 64 rfl (.agg #[.int .i64 0,.int .i64 0,.int .i64 0,.int .i64 0,.int .i64 0,.slice none 0 0,.slice none 0 0]) (by kernel_rfl) ?_;intro gc w' M';(try simp only [Value.cells,zr_,zm_] at M');replace M:=Lib.hid M';clear M';(try simp only [zr_,zm_]))))
  simp only [List.cons_append,List.nil_append] at M
  have MT:=Lib.hid (M.out.sub (sk_ (sk_ (sk_ (sk_ (sk_ (sk_ (sd_ (sk_ (sk_ (sk_ (sk_ (sk_ (sk_ (sk_ s1_)))))))))))))))
  refine Mine.region_headS MT.out M.out 6 (by kernel_rfl) (by kernel_rfl) ?_
  intro w' M'
  replace M:=Lib.hid M'
  clear M'
  clear MT
  refine zTL 0 ?_;intro K hK;((refine zDs 27 8 2 ?_;(try simp only [zr_,zm_]);go_big_quiet_on))
  refine zXL 1 ?_;(try simp only [zs_,zl_])
  refine zTL 2 ?_;intro K hK;((refine zD 6 ?_;(try simp only [zr_,zm_]);go_big_quiet_on))
  refine zXL 3 ?_;(try simp only [zs_,zl_])
  refine zXL 4 ?_;(try simp only [zs_,zl_])
  refine HQ.noisy (rs:=[5]) (by kernel_rfl) (by simp) (AllG.cons rfl (Nat.le_of_ble_eq_true rfl) (fun K hK => ?_) AllG.nil)
  refine Mine.step_sets M.out (by rfl) 27 _ _ (by rfl) (by rfl) 6 _ (by rfl) (by rfl) _ (by rfl) (Nat.le_of_ble_eq_true rfl) (by simp [Value.oneCell']) (by kernel_rfl) ?_
  intro w' M'
  simp only [zr_,zm_] at M'
  replace M:=Lib.hid M'
  clear M'
  refine hK.out _ _ (M.out.sub (sk_ (sk_ (sk_ (sk_ (sk_ (sk_ (sd_ (sk_ (sk_ (sk_ (sk_ (sk_ (sk_ (sk_ s1_))))))))))))))) ?_
  clear hK K
  (try simp only [zs_,zl_])
  refine HQ.end_ (by kernel_rfl) ?_
  simp only [List.drop_succ_cons,List.drop_zero]
  go_wp2_with (((with_reducible show wpList _ _ _ (⟨_,_,_,_,_,none⟩::_) _ _);first|(refine zSs M.out 68 5 ?_;intro w' M';(try simp only [zr_,zm_] at M');replace M:=Lib.hid M';clear M')))
  refine bodyPost_ret (M.out.results_cj Tryz.results31 _ 6 5 rfl rfl _ Tryz.underlying27 (by rfl) (by kernel_rfl) rfl rfl _ Tryz.underlying68 (by rfl) (by kernel_rfl)) rfl ?_
  rw [HZ.out]
  replace M:=Lib.hid (M.out.sub (sd_ (sd_ (sk_ (sd_ (sd_ (sd_ (sd_ (sd_ (sd_ (sd_ (sd_ (sd_ (sd_ (sd_ s1_)))))))))))))))
  have M9:=((M.out.nil 3 1).nil 97 2).nil 97 2
  have M8:=M9.perm (List.perm_middle (l₁:=[_,_,_]))
  rw [show IntKind.i64.wrap (tr + 1) = tr + 1 from Go.IntWalk.i64_in _ (by omega)]
  exact ⟨_,_,_,_,_,_,_,_,_,_,_,_,rfl,M8⟩
 have b8 : (zp == 8) = false:=by simpa using z8
 by_cases z6 : zp = 6
 ·subst z6
  have HZ : Hid (jstep m who j ⟨2,tr,rv,at_,st,seen,busy,⟨pc,pp,pv,pl⟩,⟨cw,crv,cph,cat,cwv,cps,crs⟩⟩ = (⟨zk,zx⟩,⟨3,tr,rv,at_,zw,seen,busy,⟨pc,pp,pv,pl⟩,⟨0,0,0,0,0,[],[]⟩⟩)):=by
   show _ = _
   rw [HJ]
   unfold jcommit ccNew
   simp only [hq]
   simp
  clear HJ hq z8 b8
  go_enter Tryz.func31,Tryz.ntmps31
  go_wp2_with (first|(go_at_call 80;(with_reducible refine (spec_CommitStep_is m AM n cm cw crv cwv cph cat cps crs Ap np cp Ar nr cr _ _ (M.out.row_sl 5 rfl) hnM _ (M.out.row_sl 7 rfl) hnp _ (M.out.row_sl 8 rfl) hnr _ _ _ _ _ HQQ.out).mono ?_);rintro e w' ⟨Bm,dm,Bp,dp,Br,dr,rfl,M9⟩;have M8:=M.out.call M9;replace M:=Lib.hid M8;clear M8 M9)|((with_reducible show wpList _ _ _ (⟨_,_,_,_,_,none⟩::_) _ _);first|(refine Mine.wp_box M.out rfl 27 _ rfl _ rfl ?_;intro gm w' M';(try simp only [zr_,zm_] at M');replace M:=Lib.hid M';clear M';(try simp only [zr_,zm_]))|(refine Mine.wp_box M.out rfl 72 _ rfl _ rfl ?_;intro gj w' M';(try simp only [zr_,zm_] at M');replace M:=Lib.hid M';clear M';(try simp only [zr_,zm_]))|(refine Mine.wp_box M.out rfl 68 _ rfl _ rfl ?_;intro gx w' M';(try simp only [zr_,zm_] at M');replace M:=Lib.hid M';clear M';(try simp only [zr_,zm_]))|(refine Mine.wp_alloc M.out rfl 27 rfl (.agg #[.int .i64 0,.slice none 0 0]) (by kernel_rfl) ?_;intro g8 w' M';(try simp only [Value.cells,zr_,zm_] at M');replace M:=Lib.hid M';clear M';(try simp only [zr_,zm_]))|(refine Mine.wp_alloc M.out rfl 68 rfl (.agg (List.toArray ((.int .i64 0)::(.int .i64 0)::(.int .i64 0)::(.int .i64 0)::(.int .i64 0)::(.slice none 0 0)::(.bool false)::(.int .i64 0)::(.int .i64 0)::(.int .i64 0)::(.int .i64 0)::(.int .i64 0)::(.int .i64 0)::(.int .i64 0)::(.int .i64 0)::(.int .i64 0)::(.slice none 0 0)::(.slice none 0 0)::[]))) (by kernel_rfl) ?_;intro g9 w' M';(try simp only [Value.cells,zr_,zm_] at M');replace M:=Lib.hid M';clear M';(try simp only [zr_,zm_]))|((first|refine zG M.out 2 ?_|refine zGs M.out 27 4 2 ?_|refine zGs M.out 64 2 7 ?_|refine zGs M.out 27 1 2 ?_|refine zGs M.out 64 0 7 ?_|refine zG M.out 0 ?_);(try simp only [zr_,zm_]))|((first|refine zSs M.out 27 1 ?_|refine zSs M.out 64 0 ?_|refine zSs M.out 27 9 ?_|refine zSs M.out 64 7 ?_|refine zS M.out 7 ?_);intro w' M';(try simp only [zr_,zm_] at M');replace M:=Lib.hid M';clear M')|(refine Mine.wp_alloc M.out rfl 64 rfl (.agg #[.int .i64 0,.int .i64 0,.int .i64 0,.int .i64 0,.int .i64 0,.slice none 0 0,.slice none 0 0]) (by kernel_rfl) ?_;intro gc w' M';(try simp only [Value.cells,zr_,zm_] at M');replace M:=Lib.hid M';clear M';(try simp only [zr_,zm_]))))
  simp only [List.cons_append,List.nil_append] at M
  have MT:=Lib.hid (M.out.sub (sk_ (sk_ (sk_ (sk_ (sk_ (sk_ (sd_ (sk_ (sk_ (sk_ (sk_ (sk_ (sk_ (sk_ s1_)))))))))))))))
  refine Mine.region_headS MT.out M.out 3 (by kernel_rfl) (by kernel_rfl) ?_
  intro w' M'
  replace M:=Lib.hid M'
  clear M'
  clear MT
  refine zT 0 ?_;intro K hK;((refine zDs 27 8 2 ?_;(try simp only [zr_,zm_]);go_big_quiet_on))
  refine zT 1 ?_;intro K hK;((refine zDs 68 6 18 ?_;(try simp only [zr_,zm_]);go_big_quiet_on))
  refine HQ.noisy (rs:=[2]) (by kernel_rfl) (by simp) (AllG.cons rfl (Nat.le_of_ble_eq_true rfl) (fun K hK => ?_) AllG.nil)
  refine Mine.step_sets M.out (by rfl) 27 _ _ (by rfl) (by rfl) 6 _ (by rfl) (by rfl) _ (by rfl) (Nat.le_of_ble_eq_true rfl) (by simp [Value.oneCell']) (by kernel_rfl) ?_
  intro w' M'
  simp only [zr_,zm_] at M'
  replace M:=Lib.hid M'
  clear M'
  refine hK.out _ _ (M.out.sub (sk_ (sk_ (sk_ (sk_ (sk_ (sk_ (sd_ (sk_ (sk_ (sk_ (sk_ (sk_ (sk_ (sk_ s1_))))))))))))))) ?_
  clear hK K
  (try simp only [zs_,zl_])
  refine HQ.end_ (by kernel_rfl) ?_
  simp only [List.drop_succ_cons,List.drop_zero]
  go_wp2_with (((with_reducible show wpList _ _ _ (⟨_,_,_,_,_,none⟩::_) _ _);first|(refine zSs M.out 68 5 ?_;intro w' M';(try simp only [zr_,zm_] at M');replace M:=Lib.hid M';clear M')))
  refine bodyPost_ret (M.out.results_cj Tryz.results31 _ 6 5 rfl rfl _ Tryz.underlying27 (by rfl) (by kernel_rfl) rfl rfl _ Tryz.underlying68 (by rfl) (by kernel_rfl)) rfl ?_
  rw [HZ.out]
  replace M:=Lib.hid (M.out.sub (sd_ (sd_ (sk_ (sd_ (sd_ (sd_ (sd_ (sd_ (sd_ (sd_ (sd_ (sk_ (sd_ (sd_ s1_)))))))))))))))
  have M9:=(M.out.nil 3 1).nil 97 2
  have M8:=M9.perm (List.perm_middle (l₁:=[_,_]))
  have M7:=M8.perm (List.Perm.cons _ (List.perm_middle (l₁:=[_,_])))
  exact ⟨_,_,_,_,_,_,_,_,_,_,_,_,rfl,M7⟩
 have b6 : (zp == 6) = false:=by simpa using z6
 have HZ : Hid (jstep m who j ⟨2,tr,rv,at_,st,seen,busy,⟨pc,pp,pv,pl⟩,⟨cw,crv,cph,cat,cwv,cps,crs⟩⟩ = (⟨zk,zx⟩,⟨2,tr,rv,at_,st,seen,busy,⟨pc,pp,pv,pl⟩,⟨cw,crv,zp,za,zw,cps,crs⟩⟩)):=by
  show _ = _
  rw [HJ]
  unfold jcommit ccNew
  simp only [hq]
  simp [z8,z6]
 clear HJ hq z8 z6
 go_enter Tryz.func31,Tryz.ntmps31
 go_wp2_with (first|(go_at_call 80;(with_reducible refine (spec_CommitStep_is m AM n cm cw crv cwv cph cat cps crs Ap np cp Ar nr cr _ _ (M.out.row_sl 5 rfl) hnM _ (M.out.row_sl 7 rfl) hnp _ (M.out.row_sl 8 rfl) hnr _ _ _ _ _ HQQ.out).mono ?_);rintro e w' ⟨Bm,dm,Bp,dp,Br,dr,rfl,M9⟩;have M8:=M.out.call M9;replace M:=Lib.hid M8;clear M8 M9)|((with_reducible show wpList _ _ _ (⟨_,_,_,_,_,none⟩::_) _ _);first|(refine Mine.wp_box M.out rfl 27 _ rfl _ rfl ?_;intro gm w' M';(try simp only [zr_,zm_] at M');replace M:=Lib.hid M';clear M';(try simp only [zr_,zm_]))|(refine Mine.wp_box M.out rfl 72 _ rfl _ rfl ?_;intro gj w' M';(try simp only [zr_,zm_] at M');replace M:=Lib.hid M';clear M';(try simp only [zr_,zm_]))|(refine Mine.wp_box M.out rfl 68 _ rfl _ rfl ?_;intro gx w' M';(try simp only [zr_,zm_] at M');replace M:=Lib.hid M';clear M';(try simp only [zr_,zm_]))|(refine Mine.wp_alloc M.out rfl 27 rfl (.agg #[.int .i64 0,.slice none 0 0]) (by kernel_rfl) ?_;intro g8 w' M';(try simp only [Value.cells,zr_,zm_] at M');replace M:=Lib.hid M';clear M';(try simp only [zr_,zm_]))|(refine Mine.wp_alloc M.out rfl 68 rfl (.agg (List.toArray ((.int .i64 0)::(.int .i64 0)::(.int .i64 0)::(.int .i64 0)::(.int .i64 0)::(.slice none 0 0)::(.bool false)::(.int .i64 0)::(.int .i64 0)::(.int .i64 0)::(.int .i64 0)::(.int .i64 0)::(.int .i64 0)::(.int .i64 0)::(.int .i64 0)::(.int .i64 0)::(.slice none 0 0)::(.slice none 0 0)::[]))) (by kernel_rfl) ?_;intro g9 w' M';(try simp only [Value.cells,zr_,zm_] at M');replace M:=Lib.hid M';clear M';(try simp only [zr_,zm_]))|((first|refine zG M.out 2 ?_|refine zGs M.out 27 4 2 ?_|refine zGs M.out 64 2 7 ?_|refine zGs M.out 27 1 2 ?_|refine zGs M.out 64 0 7 ?_|refine zG M.out 0 ?_);(try simp only [zr_,zm_]))|((first|refine zSs M.out 27 1 ?_|refine zSs M.out 64 0 ?_|refine zSs M.out 27 9 ?_|refine zSs M.out 64 7 ?_);intro w' M';(try simp only [zr_,zm_] at M');replace M:=Lib.hid M';clear M')|(refine Mine.wp_alloc M.out rfl 64 rfl (.agg #[.int .i64 0,.int .i64 0,.int .i64 0,.int .i64 0,.int .i64 0,.slice none 0 0,.slice none 0 0]) (by kernel_rfl) ?_;intro gc w' M';(try simp only [Value.cells,zr_,zm_] at M');replace M:=Lib.hid M';clear M';(try simp only [zr_,zm_]))))
 simp only [List.cons_append,List.nil_append] at M
 have MT:=Lib.hid (M.out.sub (sk_ (sk_ (sk_ (sk_ (sk_ (sk_ (sd_ (sk_ (sk_ (sk_ (sk_ (sk_ (sk_ (sk_ s1_)))))))))))))))
 refine Mine.region_headS MT.out M.out 3 (by kernel_rfl) (by kernel_rfl) ?_
 intro w' M'
 replace M:=Lib.hid M'
 clear M'
 clear MT
 refine zT 0 ?_;intro K hK;((refine zDs 27 8 2 ?_;(try simp only [zr_,zm_]);go_big_quiet_on))
 refine zT 1 ?_;intro K hK;((refine zDs 68 6 18 ?_;(try simp only [zr_,zm_]);go_big_quiet_on))
 refine HQ.noisy (rs:=[2]) (by kernel_rfl) (by simp) (AllG.cons rfl (Nat.le_of_ble_eq_true rfl) (fun K hK => ?_) AllG.nil)
 refine Mine.step_sets M.out (by rfl) 27 _ _ (by rfl) (by rfl) 6 _ (by rfl) (by rfl) _ (by rfl) (Nat.le_of_ble_eq_true rfl) (by simp [Value.oneCell']) (by kernel_rfl) ?_
 intro w' M'
 simp only [zr_,zm_] at M'
 replace M:=Lib.hid M'
 clear M'
 refine hK.out _ _ (M.out.sub (sk_ (sk_ (sk_ (sk_ (sk_ (sk_ (sd_ (sk_ (sk_ (sk_ (sk_ (sk_ (sk_ (sk_ s1_))))))))))))))) ?_
 clear hK K
 (try simp only [zs_,zl_])
 refine HQ.end_ (by kernel_rfl) ?_
 simp only [List.drop_succ_cons,List.drop_zero]
 go_wp2_with (((with_reducible show wpList _ _ _ (⟨_,_,_,_,_,none⟩::_) _ _);first|(refine zSs M.out 68 5 ?_;intro w' M';(try simp only [zr_,zm_] at M');replace M:=Lib.hid M';clear M')))
 refine bodyPost_ret (M.out.results_cj Tryz.results31 _ 6 5 rfl rfl _ Tryz.underlying27 (by rfl) (by kernel_rfl) rfl rfl _ Tryz.underlying68 (by rfl) (by kernel_rfl)) rfl ?_
 rw [HZ.out]
 replace M:=Lib.hid (M.out.sub (sd_ (sd_ (sk_ (sk_ (sk_ (sd_ (sd_ (sd_ (sd_ (sd_ (sd_ (sk_ (sd_ (sd_ s1_)))))))))))))))
 replace M:=Lib.hid (M.out.perm (List.perm_middle (l₁:=[_,_])))
 simp only [List.cons_append,List.nil_append] at M
 replace M:=Lib.hid (M.out.perm (List.perm_middle (l₁:=[_,_])))
 simp only [List.cons_append,List.nil_append] at M
 replace M:=Lib.hid (M.out.perm (List.perm_middle (l₁:=[_,_,_])))
 simp only [List.cons_append,List.nil_append] at M
 replace M:=Lib.hid (M.out.perm (List.perm_middle (l₁:=[_,_,_])))
 simp only [List.cons_append,List.nil_append] at M
 exact ⟨_,_,_,_,_,_,_,_,_,_,_,_,rfl,M.out⟩

end Go.Proofs.YtpmfhfpjiebcjaaGreat
namespace Go.Proofs.YtpmfhfpjiebcjaaGreat
open Go.RowKit Go.Deep
set_option linter.unusedSimpArgs false
set_option linter.unusedVariables false
set_option maxRecDepth 8000 in
set_option maxHeartbeats 16000000 in
theorem spec_kG (m : Mem) (AM : Option Addr) (n cm : Nat) (who : Int) (j : Job) (A0 : Option Addr) (n0 c0 : Nat) (A1 : Option Addr) (n1 c1 : Nat) (phs at_ : Int) (tr rv st : Int) (seen : List Row) (busy : Bool) (pc pp pv pl cw crv cph cat cwv : Int) (cps : List Row) (crs : List Int) (As : Option Addr) (ns cs : Nat) (Ap : Option Addr) (np cp : Nat) (Ar : Option Addr) (nr cr : Nat) (b w : World) (fr : List Res) (S0 S1 : Nat → Prop) (h0 : Sl b S0 1 A0 n0 (ints j.reads_)) (hn0 : n0 ≤ 1048576) (h1 : Sl b S1 2 A1 n1 (j.puts_.flatMap Row.cells)) (hn1 : n1 ≤ 1048576) (hnM : n ≤ 1048576) (hns : ns ≤ 1000000) (hnp : np ≤ 1048576) (hnr : nr ≤ 1048576) (htr : 0 ≤ tr ∧ tr ≤ 1000000) (hat : 0 ≤ at_ ∧ at_ ≤ (n0 : Int)) (M1 : Mine b w (.row 102 3 AM n cm ((m.cells_).flatMap Word.cells)::.row 97 2 As ns cs ((seen).flatMap Row.cells)::.row 97 2 Ap np cp ((cps).flatMap Row.cells)::.row 3 1 Ar nr cr (ints (crs))::fr))  :
  Calls Tryz.prog 31 #[.agg #[.int .i64 m.clock_,.slice AM n cm],.int .i64 who,.agg #[.slice A0 n0 c0,.slice A1 n1 c1],.agg (List.toArray ((.int .i64 phs)::(.int .i64 tr)::(.int .i64 rv)::(.int .i64 at_)::(.int .i64 st)::(.slice As ns cs)::(.bool busy)::(.int .i64 pc)::(.int .i64 pp)::(.int .i64 pv)::(.int .i64 pl)::(.int .i64 cw)::(.int .i64 crv)::(.int .i64 cph)::(.int .i64 cat)::(.int .i64 cwv)::(.slice Ap np cp)::(.slice Ar nr cr)::[]))] w fun e w' => ∃ B1 m1 e1 B2 m2 e2 B3 m3 e3 B4 m4 e4,e = .returned (.tuple #[.agg #[.int .i64 (jstep m who j ⟨phs,tr,rv,at_,st,seen,busy,⟨pc,pp,pv,pl⟩,⟨cw,crv,cph,cat,cwv,cps,crs⟩⟩).1.clock_,.slice B1 m1 e1],.agg (List.toArray ((.int .i64 ((jstep m who j ⟨phs,tr,rv,at_,st,seen,busy,⟨pc,pp,pv,pl⟩,⟨cw,crv,cph,cat,cwv,cps,crs⟩⟩).2).phase_)::(.int .i64 ((jstep m who j ⟨phs,tr,rv,at_,st,seen,busy,⟨pc,pp,pv,pl⟩,⟨cw,crv,cph,cat,cwv,cps,crs⟩⟩).2).tries_)::(.int .i64 ((jstep m who j ⟨phs,tr,rv,at_,st,seen,busy,⟨pc,pp,pv,pl⟩,⟨cw,crv,cph,cat,cwv,cps,crs⟩⟩).2).rv_)::(.int .i64 ((jstep m who j ⟨phs,tr,rv,at_,st,seen,busy,⟨pc,pp,pv,pl⟩,⟨cw,crv,cph,cat,cwv,cps,crs⟩⟩).2).at_)::(.int .i64 ((jstep m who j ⟨phs,tr,rv,at_,st,seen,busy,⟨pc,pp,pv,pl⟩,⟨cw,crv,cph,cat,cwv,cps,crs⟩⟩).2).stamp_)::(.slice B2 m2 e2)::(.bool ((jstep m who j ⟨phs,tr,rv,at_,st,seen,busy,⟨pc,pp,pv,pl⟩,⟨cw,crv,cph,cat,cwv,cps,crs⟩⟩).2).busy_)::(.int .i64 ((jstep m who j ⟨phs,tr,rv,at_,st,seen,busy,⟨pc,pp,pv,pl⟩,⟨cw,crv,cph,cat,cwv,cps,crs⟩⟩).2).probe_.cell_)::(.int .i64 ((jstep m who j ⟨phs,tr,rv,at_,st,seen,busy,⟨pc,pp,pv,pl⟩,⟨cw,crv,cph,cat,cwv,cps,crs⟩⟩).2).probe_.phase_)::(.int .i64 ((jstep m who j ⟨phs,tr,rv,at_,st,seen,busy,⟨pc,pp,pv,pl⟩,⟨cw,crv,cph,cat,cwv,cps,crs⟩⟩).2).probe_.ver_)::(.int .i64 ((jstep m who j ⟨phs,tr,rv,at_,st,seen,busy,⟨pc,pp,pv,pl⟩,⟨cw,crv,cph,cat,cwv,cps,crs⟩⟩).2).probe_.val_)::(.int .i64 ((jstep m who j ⟨phs,tr,rv,at_,st,seen,busy,⟨pc,pp,pv,pl⟩,⟨cw,crv,cph,cat,cwv,cps,crs⟩⟩).2).commit_.who_)::(.int .i64 ((jstep m who j ⟨phs,tr,rv,at_,st,seen,busy,⟨pc,pp,pv,pl⟩,⟨cw,crv,cph,cat,cwv,cps,crs⟩⟩).2).commit_.rv_)::(.int .i64 ((jstep m who j ⟨phs,tr,rv,at_,st,seen,busy,⟨pc,pp,pv,pl⟩,⟨cw,crv,cph,cat,cwv,cps,crs⟩⟩).2).commit_.phase_)::(.int .i64 ((jstep m who j ⟨phs,tr,rv,at_,st,seen,busy,⟨pc,pp,pv,pl⟩,⟨cw,crv,cph,cat,cwv,cps,crs⟩⟩).2).commit_.at_)::(.int .i64 ((jstep m who j ⟨phs,tr,rv,at_,st,seen,busy,⟨pc,pp,pv,pl⟩,⟨cw,crv,cph,cat,cwv,cps,crs⟩⟩).2).commit_.wv_)::(.slice B3 m3 e3)::(.slice B4 m4 e4)::[]))]) ∧ Mine b w' (.row 102 3 B1 m1 e1 (((jstep m who j ⟨phs,tr,rv,at_,st,seen,busy,⟨pc,pp,pv,pl⟩,⟨cw,crv,cph,cat,cwv,cps,crs⟩⟩).1.cells_).flatMap Word.cells)::.row 97 2 B2 m2 e2 (((jstep m who j ⟨phs,tr,rv,at_,st,seen,busy,⟨pc,pp,pv,pl⟩,⟨cw,crv,cph,cat,cwv,cps,crs⟩⟩).2.seen_).flatMap Row.cells)::.row 97 2 B3 m3 e3 (((jstep m who j ⟨phs,tr,rv,at_,st,seen,busy,⟨pc,pp,pv,pl⟩,⟨cw,crv,cph,cat,cwv,cps,crs⟩⟩).2.commit_.puts_).flatMap Row.cells)::.row 3 1 B4 m4 e4 (ints ((jstep m who j ⟨phs,tr,rv,at_,st,seen,busy,⟨pc,pp,pv,pl⟩,⟨cw,crv,cph,cat,cwv,cps,crs⟩⟩).2.commit_.reads_))::fr):=by
 have hl0 : j.reads_.length = n0:=h0.len
 have hl1 : j.puts_.length = n1:=h1.flen Row.cells_length (by omega)
 have H0:=Lib.hid h0
 have H1:=Lib.hid h1
 have M:=Lib.hid M1
 clear h0 h1 M1
 by_cases p0 : phs = 0
 ·subst p0;exact spec_k0 m AM n cm who j A0 n0 c0 A1 n1 c1 at_ tr rv st seen busy pc pp pv pl cw crv cph cat cwv cps crs As ns cs Ap np cp Ar nr cr b w fr S0 S1 H0.out hn0 H1.out hn1 hnM hns hnp hnr htr hat M.out
 by_cases p1 : phs = 1
 ·subst p1
  by_cases hz : at_ = (j.reads_.length : Int)
  ·by_cases hp : j.puts_.length = 0
   ·exact spec_k1a m AM n cm who j A0 n0 c0 A1 n1 c1 at_ tr rv st seen busy pc pp pv pl cw crv cph cat cwv cps crs As ns cs Ap np cp Ar nr cr b w fr S0 S1 H0.out hn0 H1.out hn1 hnM hns hnp hnr htr hat M.out hz hp
   ·exact spec_k1b m AM n cm who j A0 n0 c0 A1 n1 c1 at_ tr rv st seen busy pc pp pv pl cw crv cph cat cwv cps crs As ns cs Ap np cp Ar nr cr b w fr S0 S1 H0.out hn0 H1.out hn1 hnM hns hnp hnr htr hat M.out hz hp
  ·obtain ⟨a,rfl⟩ : ∃ a : Nat,at_ = (a : Int):=⟨at_.toNat,by omega⟩
   exact spec_k1r m AM n cm who j A0 n0 c0 A1 n1 c1 a tr rv st seen busy pc pp pv pl cw crv cph cat cwv cps crs As ns cs Ap np cp Ar nr cr b w fr S0 S1 H0.out hn0 H1.out hn1 hnM hns hnp hnr htr hat M.out (by omega)
 by_cases p2 : phs = 2
 ·subst p2;exact spec_k2 m AM n cm who j A0 n0 c0 A1 n1 c1 at_ tr rv st seen busy pc pp pv pl cw crv cph cat cwv cps crs As ns cs Ap np cp Ar nr cr b w fr S0 S1 H0.out hn0 H1.out hn1 hnM hns hnp hnr htr hat M.out
 exact spec_k9 m AM n cm who j A0 n0 c0 A1 n1 c1 phs at_ tr rv st seen busy pc pp pv pl cw crv cph cat cwv cps crs As ns cs Ap np cp Ar nr cr b w fr S0 S1 H0.out hn0 H1.out hn1 hnM hns hnp hnr htr hat M.out p0 p1 p2

end Go.Proofs.YtpmfhfpjiebcjaaGreat
