/- Steps of probes and commits, their answers given. No condition. A step of a job in the reference: all is read. No condition but lengths. -/
import Derived.Test.YtpmfhfpjiebcjaaGreatE28
import Derived.Test.YtpmfhfpjiebcjaaGreatE32
import Derived.Test.YtpmfhfpjiebcjaaGreatE33
import Derived.Test.YtpmfhfpjiebcjaaGreatE00
namespace Go.Proofs.YtpmfhfpjiebcjaaGreat
open Go.RowKit Go.Deep
set_option linter.unusedSimpArgs false
set_option linter.unusedVariables false

theorem spec_ProbeStep_is {m : Mem} {A : Option Addr} {n c : Nat} {rv pc ph pv pl zc zp zv zl : Int} {w : World} {S : Nat → Prop} (hq : pstep m rv ⟨pc,ph,pv,pl⟩ = ⟨zc,zp,zv,zl⟩) (hs : Sl w S 3 A n (m.cells_.flatMap Word.cells)) (hm : n ≤ 1048576) :
  Calls Tryz.prog 79 #[.agg #[.int .i64 m.clock_,.slice A n c],.int .i64 rv,.agg #[.int .i64 pc,.int .i64 ph,.int .i64 pv,.int .i64 pl]] w fun e w' => e = .returned (.agg #[.int .i64 zc,.int .i64 zp,.int .i64 zv,.int .i64 zl]) ∧ Ext w w':=by
 have h:=spec_ProbeStep m A n c rv pc ph pv pl w S hs hm
 rw [hq] at h
 exact h
theorem impl_ProbeStep_is {m : Mem} {A : Option Addr} {n c : Nat} {rv pc ph pv pl zc zp zv zl : Int} {w : World} {S : Nat → Prop} (hq : pstep m rv ⟨pc,ph,pv,pl⟩ = ⟨zc,zp,zv,zl⟩) (hs : Sl w S 3 A n (m.cells_.flatMap Word.cells)) (hm : n ≤ 1048576) :
  Calls Tryz.prog 87 #[.agg #[.int .i64 m.clock_,.slice A n c],.int .i64 rv,.agg #[.int .i64 pc,.int .i64 ph,.int .i64 pv,.int .i64 pl]] w fun e w' => e = .returned (.agg #[.int .i64 zc,.int .i64 zp,.int .i64 zv,.int .i64 zl]) ∧ Ext w w':=by
 have h:=impl_ProbeStep m A n c rv pc ph pv pl w S hs hm
 rw [hq] at h
 exact h
theorem spec_ProbeNew_is {x zc zp zv zl : Int} (hq : pnew x = ⟨zc,zp,zv,zl⟩) (w : World) : Calls Tryz.prog 78 #[.int .i64 x] w fun e w' => ∃ b,e = .returned (.tuple #[.agg #[.int .i64 zc,.int .i64 zp,.int .i64 zv,.int .i64 zl],.bool b]) ∧ Ext w w':=by
 have h:=spec_ProbeNew x w
 rw [hq] at h
 exact h
theorem impl_ProbeNew_is {x zc zp zv zl : Int} (hq : pnew x = ⟨zc,zp,zv,zl⟩) (w : World) : Calls Tryz.prog 86 #[.int .i64 x] w fun e w' => ∃ b,e = .returned (.tuple #[.agg #[.int .i64 zc,.int .i64 zp,.int .i64 zv,.int .i64 zl],.bool b]) ∧ Ext w w':=by
 have h:=impl_ProbeNew x w
 rw [hq] at h
 exact h

theorem spec_CommitStep_is (m : Mem) (A : Option Addr) (n cm : Nat) (who rv wv : Int) (ph at_ : Int) (ps : List Row) (rs : List Int) (Ap : Option Addr) (np cp : Nat) (Ar : Option Addr) (nr cr : Nat) (w : World) (SM : Nat → Prop) (hsM : Sl w SM 3 A n (m.cells_.flatMap Word.cells)) (hnM : n ≤ 1048576) (S1 : Nat → Prop) (h1 : Sl w S1 2 Ap np (ps.flatMap Row.cells)) (hm1 : np ≤ 1048576) (S2 : Nat → Prop) (h2 : Sl w S2 1 Ar nr (ints rs)) (hm2 : nr ≤ 1048576) (zk : Int) (zx : List Word) (zp za zw : Int) (hq : cstepS m ⟨who,rv,ph,at_,wv,ps,rs⟩ = ⟨zk,zx,zp,za,zw⟩) : Calls Tryz.prog 80 #[.agg #[.int .i64 m.clock_,.slice A n cm],.agg #[.int .i64 who,.int .i64 rv,.int .i64 ph,.int .i64 at_,.int .i64 wv,.slice Ap np cp,.slice Ar nr cr]] w fun e w' => ∃ B d Bp dp Br dr,e = .returned (.tuple #[.agg #[.int .i64 zk,.slice B n d],.agg #[.int .i64 who,.int .i64 rv,.int .i64 zp,.int .i64 za,.int .i64 zw,.slice Bp np dp,.slice Br nr dr]]) ∧ Mine w w' [.row 102 3 B n d (zx.flatMap Word.cells),.row 97 2 Bp np dp (ps.flatMap Row.cells),.row 3 1 Br nr dr (ints rs)]:=by
 have h:=spec_CommitStep m A n cm who rv wv ph at_ ps rs Ap np cp Ar nr cr w SM hsM hnM S1 h1 hm1 S2 h2 hm2
 rw [hq] at h
 exact h
theorem impl_CommitStep_is (m : Mem) (A : Option Addr) (n cm : Nat) (who rv wv : Int) (ph at_ : Int) (ps : List Row) (rs : List Int) (Ap : Option Addr) (np cp : Nat) (Ar : Option Addr) (nr cr : Nat) (w : World) (SM : Nat → Prop) (hsM : Sl w SM 3 A n (m.cells_.flatMap Word.cells)) (hnM : n ≤ 1048576) (S1 : Nat → Prop) (h1 : Sl w S1 2 Ap np (ps.flatMap Row.cells)) (hm1 : np ≤ 1048576) (S2 : Nat → Prop) (h2 : Sl w S2 1 Ar nr (ints rs)) (hm2 : nr ≤ 1048576) (zk : Int) (zx : List Word) (zp za zw : Int) (hq : cstepS m ⟨who,rv,ph,at_,wv,ps,rs⟩ = ⟨zk,zx,zp,za,zw⟩) : Calls Tryz.prog 89 #[.agg #[.int .i64 m.clock_,.slice A n cm],.agg #[.int .i64 who,.int .i64 rv,.int .i64 ph,.int .i64 at_,.int .i64 wv,.slice Ap np cp,.slice Ar nr cr]] w fun e w' => ∃ B d Bp dp Br dr,e = .returned (.tuple #[.agg #[.int .i64 zk,.slice B n d],.agg #[.int .i64 who,.int .i64 rv,.int .i64 zp,.int .i64 za,.int .i64 zw,.slice Bp np dp,.slice Br nr dr]]) ∧ Mine w w' [.row 102 3 B n d (zx.flatMap Word.cells),.row 97 2 Bp np dp (ps.flatMap Row.cells),.row 3 1 Br nr dr (ints rs)]:=by
 have h:=impl_CommitStep m A n cm who rv wv ph at_ ps rs Ap np cp Ar nr cr w SM hsM hnM S1 h1 hm1 S2 h2 hm2
 rw [hq] at h
 exact h

end Go.Proofs.YtpmfhfpjiebcjaaGreat
namespace Go.Proofs.YtpmfhfpjiebcjaaGreat
open Go.RowKit Go.Deep
set_option linter.unusedSimpArgs false
set_option linter.unusedVariables false
set_option maxRecDepth 8000 in
set_option maxHeartbeats 16000000 in
theorem spec_k1a (m : Mem) (AM : Option Addr) (n cm : Nat) (who : Int) (j : Job) (A0 : Option Addr) (n0 c0 : Nat) (A1 : Option Addr) (n1 c1 : Nat) (at_ : Int) (tr rv st : Int) (seen : List Row) (busy : Bool) (pc pp pv pl cw crv cph cat cwv : Int) (cps : List Row) (crs : List Int) (As : Option Addr) (ns cs : Nat) (Ap : Option Addr) (np cp : Nat) (Ar : Option Addr) (nr cr : Nat) (b w : World) (fr : List Res) (S0 S1 : Nat → Prop) (h0 : Sl b S0 1 A0 n0 (ints j.reads_)) (hn0 : n0 ≤ 1048576) (h1 : Sl b S1 2 A1 n1 (j.puts_.flatMap Row.cells)) (hn1 : n1 ≤ 1048576) (hnM : n ≤ 1048576) (hns : ns ≤ 1000000) (hnp : np ≤ 1048576) (hnr : nr ≤ 1048576) (htr : 0 ≤ tr ∧ tr ≤ 1000000) (hat : 0 ≤ at_ ∧ at_ ≤ (n0 : Int)) (M1 : Mine b w (.row 102 3 AM n cm ((m.cells_).flatMap Word.cells)::.row 97 2 As ns cs ((seen).flatMap Row.cells)::.row 97 2 Ap np cp ((cps).flatMap Row.cells)::.row 3 1 Ar nr cr (ints (crs))::fr)) (hz : at_ = (j.reads_.length : Int)) (hp : j.puts_.length = 0) :
  Calls Tryz.prog 31 #[.agg #[.int .i64 m.clock_,.slice AM n cm],.int .i64 who,.agg #[.slice A0 n0 c0,.slice A1 n1 c1],.agg (List.toArray ((.int .i64 1)::(.int .i64 tr)::(.int .i64 rv)::(.int .i64 at_)::(.int .i64 st)::(.slice As ns cs)::(.bool busy)::(.int .i64 pc)::(.int .i64 pp)::(.int .i64 pv)::(.int .i64 pl)::(.int .i64 cw)::(.int .i64 crv)::(.int .i64 cph)::(.int .i64 cat)::(.int .i64 cwv)::(.slice Ap np cp)::(.slice Ar nr cr)::[]))] w fun e w' => ∃ B1 m1 e1 B2 m2 e2 B3 m3 e3 B4 m4 e4,e = .returned (.tuple #[.agg #[.int .i64 (jstep m who j ⟨1,tr,rv,at_,st,seen,busy,⟨pc,pp,pv,pl⟩,⟨cw,crv,cph,cat,cwv,cps,crs⟩⟩).1.clock_,.slice B1 m1 e1],.agg (List.toArray ((.int .i64 ((jstep m who j ⟨1,tr,rv,at_,st,seen,busy,⟨pc,pp,pv,pl⟩,⟨cw,crv,cph,cat,cwv,cps,crs⟩⟩).2).phase_)::(.int .i64 ((jstep m who j ⟨1,tr,rv,at_,st,seen,busy,⟨pc,pp,pv,pl⟩,⟨cw,crv,cph,cat,cwv,cps,crs⟩⟩).2).tries_)::(.int .i64 ((jstep m who j ⟨1,tr,rv,at_,st,seen,busy,⟨pc,pp,pv,pl⟩,⟨cw,crv,cph,cat,cwv,cps,crs⟩⟩).2).rv_)::(.int .i64 ((jstep m who j ⟨1,tr,rv,at_,st,seen,busy,⟨pc,pp,pv,pl⟩,⟨cw,crv,cph,cat,cwv,cps,crs⟩⟩).2).at_)::(.int .i64 ((jstep m who j ⟨1,tr,rv,at_,st,seen,busy,⟨pc,pp,pv,pl⟩,⟨cw,crv,cph,cat,cwv,cps,crs⟩⟩).2).stamp_)::(.slice B2 m2 e2)::(.bool ((jstep m who j ⟨1,tr,rv,at_,st,seen,busy,⟨pc,pp,pv,pl⟩,⟨cw,crv,cph,cat,cwv,cps,crs⟩⟩).2).busy_)::(.int .i64 ((jstep m who j ⟨1,tr,rv,at_,st,seen,busy,⟨pc,pp,pv,pl⟩,⟨cw,crv,cph,cat,cwv,cps,crs⟩⟩).2).probe_.cell_)::(.int .i64 ((jstep m who j ⟨1,tr,rv,at_,st,seen,busy,⟨pc,pp,pv,pl⟩,⟨cw,crv,cph,cat,cwv,cps,crs⟩⟩).2).probe_.phase_)::(.int .i64 ((jstep m who j ⟨1,tr,rv,at_,st,seen,busy,⟨pc,pp,pv,pl⟩,⟨cw,crv,cph,cat,cwv,cps,crs⟩⟩).2).probe_.ver_)::(.int .i64 ((jstep m who j ⟨1,tr,rv,at_,st,seen,busy,⟨pc,pp,pv,pl⟩,⟨cw,crv,cph,cat,cwv,cps,crs⟩⟩).2).probe_.val_)::(.int .i64 ((jstep m who j ⟨1,tr,rv,at_,st,seen,busy,⟨pc,pp,pv,pl⟩,⟨cw,crv,cph,cat,cwv,cps,crs⟩⟩).2).commit_.who_)::(.int .i64 ((jstep m who j ⟨1,tr,rv,at_,st,seen,busy,⟨pc,pp,pv,pl⟩,⟨cw,crv,cph,cat,cwv,cps,crs⟩⟩).2).commit_.rv_)::(.int .i64 ((jstep m who j ⟨1,tr,rv,at_,st,seen,busy,⟨pc,pp,pv,pl⟩,⟨cw,crv,cph,cat,cwv,cps,crs⟩⟩).2).commit_.phase_)::(.int .i64 ((jstep m who j ⟨1,tr,rv,at_,st,seen,busy,⟨pc,pp,pv,pl⟩,⟨cw,crv,cph,cat,cwv,cps,crs⟩⟩).2).commit_.at_)::(.int .i64 ((jstep m who j ⟨1,tr,rv,at_,st,seen,busy,⟨pc,pp,pv,pl⟩,⟨cw,crv,cph,cat,cwv,cps,crs⟩⟩).2).commit_.wv_)::(.slice B3 m3 e3)::(.slice B4 m4 e4)::[]))]) ∧ Mine b w' (.row 102 3 B1 m1 e1 (((jstep m who j ⟨1,tr,rv,at_,st,seen,busy,⟨pc,pp,pv,pl⟩,⟨cw,crv,cph,cat,cwv,cps,crs⟩⟩).1.cells_).flatMap Word.cells)::.row 97 2 B2 m2 e2 (((jstep m who j ⟨1,tr,rv,at_,st,seen,busy,⟨pc,pp,pv,pl⟩,⟨cw,crv,cph,cat,cwv,cps,crs⟩⟩).2.seen_).flatMap Row.cells)::.row 97 2 B3 m3 e3 (((jstep m who j ⟨1,tr,rv,at_,st,seen,busy,⟨pc,pp,pv,pl⟩,⟨cw,crv,cph,cat,cwv,cps,crs⟩⟩).2.commit_.puts_).flatMap Row.cells)::.row 3 1 B4 m4 e4 (ints ((jstep m who j ⟨1,tr,rv,at_,st,seen,busy,⟨pc,pp,pv,pl⟩,⟨cw,crv,cph,cat,cwv,cps,crs⟩⟩).2.commit_.reads_))::fr):=by
 have hl0 : j.reads_.length = n0:=h0.len
 have hl1 : j.puts_.length = n1:=h1.flen Row.cells_length (by omega)
 have H0:=Lib.hid h0
 have H1:=Lib.hid h1
 have M:=Lib.hid M1
 clear h0 h1 M1
 have HZ : Hid (jstep m who j ⟨1,tr,rv,at_,st,seen,busy,⟨pc,pp,pv,pl⟩,⟨cw,crv,cph,cat,cwv,cps,crs⟩⟩ = (m,⟨3,tr,rv,at_,rv,seen,busy,⟨pc,pp,pv,pl⟩,⟨cw,crv,cph,cat,cwv,cps,crs⟩⟩)):=by show _ = _;unfold jstep;simp [hz,hp]
 have ba : (at_ == (n0 : Int)) = true:=by simp;omega
 have bp : ((n1 : Int) == 0) = true:=by simp;omega
 clear hz hp
 go_enter Tryz.func31,Tryz.ntmps31
 go_wp2_with (((with_reducible show wpList _ _ _ (⟨_,_,_,_,_,none⟩::_) _ _);first|(refine Mine.wp_box M.out rfl 27 _ rfl _ rfl ?_;intro gm w' M';(try simp only [zr_,zm_] at M');replace M:=Lib.hid M';clear M';(try simp only [zr_,zm_]))|(refine Mine.wp_box M.out rfl 72 _ rfl _ rfl ?_;intro gj w' M';(try simp only [zr_,zm_] at M');replace M:=Lib.hid M';clear M';(try simp only [zr_,zm_]))|(refine Mine.wp_box M.out rfl 68 _ rfl _ rfl ?_;intro gx w' M';(try simp only [zr_,zm_] at M');replace M:=Lib.hid M';clear M';(try simp only [zr_,zm_]))|(refine Mine.wp_alloc M.out rfl 27 rfl (.agg #[.int .i64 0,.slice none 0 0]) (by kernel_rfl) ?_;intro g8 w' M';(try simp only [Value.cells,zr_,zm_] at M');replace M:=Lib.hid M';clear M';(try simp only [zr_,zm_]))|(refine Mine.wp_alloc M.out rfl 68 rfl (.agg (List.toArray ((.int .i64 0)::(.int .i64 0)::(.int .i64 0)::(.int .i64 0)::(.int .i64 0)::(.slice none 0 0)::(.bool false)::(.int .i64 0)::(.int .i64 0)::(.int .i64 0)::(.int .i64 0)::(.int .i64 0)::(.int .i64 0)::(.int .i64 0)::(.int .i64 0)::(.int .i64 0)::(.slice none 0 0)::(.slice none 0 0)::[]))) (by kernel_rfl) ?_;intro g9 w' M';(try simp only [Value.cells,zr_,zm_] at M');replace M:=Lib.hid M';clear M';(try simp only [zr_,zm_]))|((first|refine zG M.out 2 ?_|refine zG M.out 3 ?_);(try simp only [zr_,zm_]))|(refine zS M.out 2 ?_;intro w' M';(try simp only [zr_,zm_] at M');replace M:=Lib.hid M';clear M')))
 have MT:=Lib.hid (M.out.sub (sk_ (sd_ (sk_ (sk_ (sk_ (sk_ (sk_ (sk_ (sk_ s1_))))))))))
 refine Mine.region_headS MT.out M.out 3 (by kernel_rfl) (by kernel_rfl) ?_
 intro w' M'
 replace M:=Lib.hid M'
 clear M'
 clear MT
 refine zT 0 ?_;intro K hK;((refine zDs 27 3 2 ?_;(try simp only [zr_,zm_]);go_big_quiet_on))
 refine zT 1 ?_;intro K hK;((refine zDs 68 1 18 ?_;(try simp only [zr_,zm_]);go_big_quiet_on))
 refine HQ.noisy (rs:=[2]) (by kernel_rfl) (by simp) (AllG.cons rfl (Nat.le_of_ble_eq_true rfl) (fun K hK => ?_) AllG.nil)
 refine Mine.step_sets M.out (by rfl) 27 _ _ (by rfl) (by rfl) 1 _ (by rfl) (by rfl) _ (by rfl) (Nat.le_of_ble_eq_true rfl) (by simp [Value.oneCell']) (by kernel_rfl) ?_
 intro w' M'
 simp only [zr_,zm_] at M'
 replace M:=Lib.hid M'
 clear M'
 refine hK.out _ _ (M.out.sub (sk_ (sd_ (sk_ (sk_ (sk_ (sk_ (sk_ (sk_ (sk_ s1_)))))))))) ?_
 clear hK K
 (try simp only [zs_,zl_])
 refine HQ.end_ (by kernel_rfl) ?_
 simp only [List.drop_succ_cons,List.drop_zero]
 go_wp2_with (((with_reducible show wpList _ _ _ (⟨_,_,_,_,_,none⟩::_) _ _);first|(refine zSs M.out 68 0 ?_;intro w' M';(try simp only [zr_,zm_] at M');replace M:=Lib.hid M';clear M')))
 refine bodyPost_ret (M.out.results_cj Tryz.results31 _ 1 0 rfl rfl _ Tryz.underlying27 (by rfl) (by kernel_rfl) rfl rfl _ Tryz.underlying68 (by rfl) (by kernel_rfl)) rfl ?_
 rw [HZ.out]
 replace M:=Lib.hid (M.out.sub (sd_ (sd_ (sd_ (sd_ (sd_ (sk_ (sk_ (sk_ (sk_ s1_))))))))))
 replace M:=Lib.hid (M.out.perm (List.perm_middle (l₁:=[_,_,_])))
 simp only [List.cons_append,List.nil_append] at M
 replace M:=Lib.hid (M.out.perm (List.perm_middle (l₁:=[_,_,_])))
 simp only [List.cons_append,List.nil_append] at M
 replace M:=Lib.hid (M.out.perm (List.perm_middle (l₁:=[_,_,_])))
 simp only [List.cons_append,List.nil_append] at M
 replace M:=Lib.hid (M.out.perm (List.perm_middle (l₁:=[_,_,_])))
 simp only [List.cons_append,List.nil_append] at M
 exact ⟨_,_,_,_,_,_,_,_,_,_,_,_,rfl,M.out⟩
set_option maxRecDepth 8000 in
set_option maxHeartbeats 16000000 in
theorem spec_k1b (m : Mem) (AM : Option Addr) (n cm : Nat) (who : Int) (j : Job) (A0 : Option Addr) (n0 c0 : Nat) (A1 : Option Addr) (n1 c1 : Nat) (at_ : Int) (tr rv st : Int) (seen : List Row) (busy : Bool) (pc pp pv pl cw crv cph cat cwv : Int) (cps : List Row) (crs : List Int) (As : Option Addr) (ns cs : Nat) (Ap : Option Addr) (np cp : Nat) (Ar : Option Addr) (nr cr : Nat) (b w : World) (fr : List Res) (S0 S1 : Nat → Prop) (h0 : Sl b S0 1 A0 n0 (ints j.reads_)) (hn0 : n0 ≤ 1048576) (h1 : Sl b S1 2 A1 n1 (j.puts_.flatMap Row.cells)) (hn1 : n1 ≤ 1048576) (hnM : n ≤ 1048576) (hns : ns ≤ 1000000) (hnp : np ≤ 1048576) (hnr : nr ≤ 1048576) (htr : 0 ≤ tr ∧ tr ≤ 1000000) (hat : 0 ≤ at_ ∧ at_ ≤ (n0 : Int)) (M1 : Mine b w (.row 102 3 AM n cm ((m.cells_).flatMap Word.cells)::.row 97 2 As ns cs ((seen).flatMap Row.cells)::.row 97 2 Ap np cp ((cps).flatMap Row.cells)::.row 3 1 Ar nr cr (ints (crs))::fr)) (hz : at_ = (j.reads_.length : Int)) (hp : ¬ j.puts_.length = 0) :
  Calls Tryz.prog 31 #[.agg #[.int .i64 m.clock_,.slice AM n cm],.int .i64 who,.agg #[.slice A0 n0 c0,.slice A1 n1 c1],.agg (List.toArray ((.int .i64 1)::(.int .i64 tr)::(.int .i64 rv)::(.int .i64 at_)::(.int .i64 st)::(.slice As ns cs)::(.bool busy)::(.int .i64 pc)::(.int .i64 pp)::(.int .i64 pv)::(.int .i64 pl)::(.int .i64 cw)::(.int .i64 crv)::(.int .i64 cph)::(.int .i64 cat)::(.int .i64 cwv)::(.slice Ap np cp)::(.slice Ar nr cr)::[]))] w fun e w' => ∃ B1 m1 e1 B2 m2 e2 B3 m3 e3 B4 m4 e4,e = .returned (.tuple #[.agg #[.int .i64 (jstep m who j ⟨1,tr,rv,at_,st,seen,busy,⟨pc,pp,pv,pl⟩,⟨cw,crv,cph,cat,cwv,cps,crs⟩⟩).1.clock_,.slice B1 m1 e1],.agg (List.toArray ((.int .i64 ((jstep m who j ⟨1,tr,rv,at_,st,seen,busy,⟨pc,pp,pv,pl⟩,⟨cw,crv,cph,cat,cwv,cps,crs⟩⟩).2).phase_)::(.int .i64 ((jstep m who j ⟨1,tr,rv,at_,st,seen,busy,⟨pc,pp,pv,pl⟩,⟨cw,crv,cph,cat,cwv,cps,crs⟩⟩).2).tries_)::(.int .i64 ((jstep m who j ⟨1,tr,rv,at_,st,seen,busy,⟨pc,pp,pv,pl⟩,⟨cw,crv,cph,cat,cwv,cps,crs⟩⟩).2).rv_)::(.int .i64 ((jstep m who j ⟨1,tr,rv,at_,st,seen,busy,⟨pc,pp,pv,pl⟩,⟨cw,crv,cph,cat,cwv,cps,crs⟩⟩).2).at_)::(.int .i64 ((jstep m who j ⟨1,tr,rv,at_,st,seen,busy,⟨pc,pp,pv,pl⟩,⟨cw,crv,cph,cat,cwv,cps,crs⟩⟩).2).stamp_)::(.slice B2 m2 e2)::(.bool ((jstep m who j ⟨1,tr,rv,at_,st,seen,busy,⟨pc,pp,pv,pl⟩,⟨cw,crv,cph,cat,cwv,cps,crs⟩⟩).2).busy_)::(.int .i64 ((jstep m who j ⟨1,tr,rv,at_,st,seen,busy,⟨pc,pp,pv,pl⟩,⟨cw,crv,cph,cat,cwv,cps,crs⟩⟩).2).probe_.cell_)::(.int .i64 ((jstep m who j ⟨1,tr,rv,at_,st,seen,busy,⟨pc,pp,pv,pl⟩,⟨cw,crv,cph,cat,cwv,cps,crs⟩⟩).2).probe_.phase_)::(.int .i64 ((jstep m who j ⟨1,tr,rv,at_,st,seen,busy,⟨pc,pp,pv,pl⟩,⟨cw,crv,cph,cat,cwv,cps,crs⟩⟩).2).probe_.ver_)::(.int .i64 ((jstep m who j ⟨1,tr,rv,at_,st,seen,busy,⟨pc,pp,pv,pl⟩,⟨cw,crv,cph,cat,cwv,cps,crs⟩⟩).2).probe_.val_)::(.int .i64 ((jstep m who j ⟨1,tr,rv,at_,st,seen,busy,⟨pc,pp,pv,pl⟩,⟨cw,crv,cph,cat,cwv,cps,crs⟩⟩).2).commit_.who_)::(.int .i64 ((jstep m who j ⟨1,tr,rv,at_,st,seen,busy,⟨pc,pp,pv,pl⟩,⟨cw,crv,cph,cat,cwv,cps,crs⟩⟩).2).commit_.rv_)::(.int .i64 ((jstep m who j ⟨1,tr,rv,at_,st,seen,busy,⟨pc,pp,pv,pl⟩,⟨cw,crv,cph,cat,cwv,cps,crs⟩⟩).2).commit_.phase_)::(.int .i64 ((jstep m who j ⟨1,tr,rv,at_,st,seen,busy,⟨pc,pp,pv,pl⟩,⟨cw,crv,cph,cat,cwv,cps,crs⟩⟩).2).commit_.at_)::(.int .i64 ((jstep m who j ⟨1,tr,rv,at_,st,seen,busy,⟨pc,pp,pv,pl⟩,⟨cw,crv,cph,cat,cwv,cps,crs⟩⟩).2).commit_.wv_)::(.slice B3 m3 e3)::(.slice B4 m4 e4)::[]))]) ∧ Mine b w' (.row 102 3 B1 m1 e1 (((jstep m who j ⟨1,tr,rv,at_,st,seen,busy,⟨pc,pp,pv,pl⟩,⟨cw,crv,cph,cat,cwv,cps,crs⟩⟩).1.cells_).flatMap Word.cells)::.row 97 2 B2 m2 e2 (((jstep m who j ⟨1,tr,rv,at_,st,seen,busy,⟨pc,pp,pv,pl⟩,⟨cw,crv,cph,cat,cwv,cps,crs⟩⟩).2.seen_).flatMap Row.cells)::.row 97 2 B3 m3 e3 (((jstep m who j ⟨1,tr,rv,at_,st,seen,busy,⟨pc,pp,pv,pl⟩,⟨cw,crv,cph,cat,cwv,cps,crs⟩⟩).2.commit_.puts_).flatMap Row.cells)::.row 3 1 B4 m4 e4 (ints ((jstep m who j ⟨1,tr,rv,at_,st,seen,busy,⟨pc,pp,pv,pl⟩,⟨cw,crv,cph,cat,cwv,cps,crs⟩⟩).2.commit_.reads_))::fr):=by
 have hl0 : j.reads_.length = n0:=h0.len
 have hl1 : j.puts_.length = n1:=h1.flen Row.cells_length (by omega)
 have H0:=Lib.hid h0
 have H1:=Lib.hid h1
 have M:=Lib.hid M1
 clear h0 h1 M1
 have HZ : Hid (jstep m who j ⟨1,tr,rv,at_,st,seen,busy,⟨pc,pp,pv,pl⟩,⟨cw,crv,cph,cat,cwv,cps,crs⟩⟩ = (m,⟨2,tr,rv,at_,st,seen,busy,⟨pc,pp,pv,pl⟩,cnew who rv j.puts_ seen⟩)):=by show _ = _;unfold jstep;simp [hz,hp]
 have ba : (at_ == (n0 : Int)) = true:=by simp;omega
 have bp : ((n1 : Int) == 0) = false:=by simp;omega
 clear hz hp
 go_enter Tryz.func31,Tryz.ntmps31
 go_wp2_with (first|(go_at_call 77;(with_reducible refine (spec_CommitNew who rv A1 n1 c1 j.puts_ As ns cs seen _ S1 (H1.out.ext M.out.ext) hn1 _ (M.out.row_sl 6 rfl) (by omega)).mono ?_);rintro e w' ⟨Bp,mp,dp,Br,mr,dr,bb,rfl,M9⟩;have M8:=M.out.call M9;replace M:=Lib.hid M8;clear M8 M9)|((with_reducible show wpList _ _ _ (⟨_,_,_,_,_,none⟩::_) _ _);first|(refine Mine.wp_box M.out rfl 27 _ rfl _ rfl ?_;intro gm w' M';(try simp only [zr_,zm_] at M');replace M:=Lib.hid M';clear M';(try simp only [zr_,zm_]))|(refine Mine.wp_box M.out rfl 72 _ rfl _ rfl ?_;intro gj w' M';(try simp only [zr_,zm_] at M');replace M:=Lib.hid M';clear M';(try simp only [zr_,zm_]))|(refine Mine.wp_box M.out rfl 68 _ rfl _ rfl ?_;intro gx w' M';(try simp only [zr_,zm_] at M');replace M:=Lib.hid M';clear M';(try simp only [zr_,zm_]))|(refine Mine.wp_alloc M.out rfl 27 rfl (.agg #[.int .i64 0,.slice none 0 0]) (by kernel_rfl) ?_;intro g8 w' M';(try simp only [Value.cells,zr_,zm_] at M');replace M:=Lib.hid M';clear M';(try simp only [zr_,zm_]))|(refine Mine.wp_alloc M.out rfl 68 rfl (.agg (List.toArray ((.int .i64 0)::(.int .i64 0)::(.int .i64 0)::(.int .i64 0)::(.int .i64 0)::(.slice none 0 0)::(.bool false)::(.int .i64 0)::(.int .i64 0)::(.int .i64 0)::(.int .i64 0)::(.int .i64 0)::(.int .i64 0)::(.int .i64 0)::(.int .i64 0)::(.int .i64 0)::(.slice none 0 0)::(.slice none 0 0)::[]))) (by kernel_rfl) ?_;intro g9 w' M';(try simp only [Value.cells,zr_,zm_] at M');replace M:=Lib.hid M';clear M';(try simp only [zr_,zm_]))|((first|refine zG M.out 2 ?_|refine zG M.out 3 ?_|refine zGs M.out 64 0 7 ?_);(try simp only [zr_,zm_]))|((first|refine zSs M.out 64 0 ?_|refine zSs M.out 64 5 ?_|refine zS M.out 5 ?_);intro w' M';(try simp only [zr_,zm_] at M');replace M:=Lib.hid M';clear M')|(refine Mine.wp_alloc M.out rfl 64 rfl (.agg #[.int .i64 0,.int .i64 0,.int .i64 0,.int .i64 0,.int .i64 0,.slice none 0 0,.slice none 0 0]) (by kernel_rfl) ?_;intro gc w' M';(try simp only [Value.cells,zr_,zm_] at M');replace M:=Lib.hid M';clear M';(try simp only [zr_,zm_]))))
 simp only [List.cons_append,List.nil_append] at M
 have MT:=Lib.hid (M.out.sub (sk_ (sk_ (sk_ (sk_ (sd_ (sk_ (sk_ (sk_ (sk_ (sk_ (sk_ (sk_ s1_)))))))))))))
 refine Mine.region_headS MT.out M.out 3 (by kernel_rfl) (by kernel_rfl) ?_
 intro w' M'
 replace M:=Lib.hid M'
 clear M'
 clear MT
 refine zT 0 ?_;intro K hK;((refine zDs 27 6 2 ?_;(try simp only [zr_,zm_]);go_big_quiet_on))
 refine zT 1 ?_;intro K hK;((refine zDs 68 4 18 ?_;(try simp only [zr_,zm_]);go_big_quiet_on))
 refine HQ.noisy (rs:=[2]) (by kernel_rfl) (by simp) (AllG.cons rfl (Nat.le_of_ble_eq_true rfl) (fun K hK => ?_) AllG.nil)
 refine Mine.step_sets M.out (by rfl) 27 _ _ (by rfl) (by rfl) 4 _ (by rfl) (by rfl) _ (by rfl) (Nat.le_of_ble_eq_true rfl) (by simp [Value.oneCell']) (by kernel_rfl) ?_
 intro w' M'
 simp only [zr_,zm_] at M'
 replace M:=Lib.hid M'
 clear M'
 refine hK.out _ _ (M.out.sub (sk_ (sk_ (sk_ (sk_ (sd_ (sk_ (sk_ (sk_ (sk_ (sk_ (sk_ (sk_ s1_))))))))))))) ?_
 clear hK K
 (try simp only [zs_,zl_])
 refine HQ.end_ (by kernel_rfl) ?_
 simp only [List.drop_succ_cons,List.drop_zero]
 go_wp2_with (((with_reducible show wpList _ _ _ (⟨_,_,_,_,_,none⟩::_) _ _);first|(refine zSs M.out 68 3 ?_;intro w' M';(try simp only [zr_,zm_] at M');replace M:=Lib.hid M';clear M')))
 refine bodyPost_ret (M.out.results_cj Tryz.results31 _ 4 3 rfl rfl _ Tryz.underlying27 (by rfl) (by kernel_rfl) rfl rfl _ Tryz.underlying68 (by rfl) (by kernel_rfl)) rfl ?_
 rw [HZ.out]
 replace M:=Lib.hid (M.out.sub (sd_ (sk_ (sk_ (sd_ (sd_ (sd_ (sd_ (sd_ (sk_ (sk_ (sd_ (sd_ s1_)))))))))))))
 replace M:=Lib.hid (M.out.perm (List.perm_middle (l₁:=[_])))
 simp only [List.cons_append,List.nil_append] at M
 replace M:=Lib.hid (M.out.perm (List.perm_middle (l₁:=[_])))
 simp only [List.cons_append,List.nil_append] at M
 replace M:=Lib.hid (M.out.perm (List.perm_middle (l₁:=[_,_,_])))
 simp only [List.cons_append,List.nil_append] at M
 replace M:=Lib.hid (M.out.perm (List.perm_middle (l₁:=[_,_,_])))
 simp only [List.cons_append,List.nil_append] at M
 exact ⟨_,_,_,_,_,_,_,_,_,_,_,_,rfl,M.out⟩

end Go.Proofs.YtpmfhfpjiebcjaaGreat
