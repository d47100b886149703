/- ProbeStep of the reference. No condition but the length. Steps of probes and commits, their answers given. No condition. A step of a job in the reference: all is read. No condition but lengths. A step of a job in the reference: a read. No condition but lengths. A step of a job in the reference: a commit. No condition but lengths. A step of a job in the reference. No condition but lengths. A job that restarts. No condition. A step of a job in the program: idle, done. No condition but lengths. -/
import Derived.Test.YtpmfhfpjiebcjaaGreatD00
import Derived.Test.YtpmfhfpjiebcjaaGreatD18
import Derived.Test.YtpmfhfpjiebcjaaGreatD19
import Derived.Test.YtpmfhfpjiebcjaaGreatD30
import Derived.Test.YtpmfhfpjiebcjaaGreatD29
namespace Go.Proofs.YtpmfhfpjiebcjaaGreat
open Go.RowKit Go.Deep
set_option linter.unnecessarySimpa false
set_option linter.unusedSimpArgs false
set_option linter.unusedVariables false
end Go.Proofs.YtpmfhfpjiebcjaaGreat
namespace Go.Proofs.YtpmfhfpjiebcjaaGreat
open Go.RowKit Go.Deep
set_option linter.unnecessarySimpa false
set_option linter.unusedSimpArgs false
set_option linter.unusedVariables false

theorem impl_ProbeStep_is {m : Mem} {A : Option Addr} {n c : Nat} {rv pc ph pv pl zc zp zv zl : Int} {w : World} {S : Nat → Prop} (hq : pstep m rv ⟨pc,ph,pv,pl⟩ = ⟨zc,zp,zv,zl⟩) (hs : Sl w S 3 A n (m.cells_.flatMap Word.cells)) (hm : n ≤ 1048576) :
  Calls Tryz.prog 87 #[.agg #[.int .i64 m.clock_,.slice A n c],.int .i64 rv,.agg #[.int .i64 pc,.int .i64 ph,.int .i64 pv,.int .i64 pl]] w fun e w' => e = .returned (.agg #[.int .i64 zc,.int .i64 zp,.int .i64 zv,.int .i64 zl]) ∧ Ext w w':=by
 have h:=impl_ProbeStep m A n c rv pc ph pv pl w S hs hm
 rw [hq] at h
 exact h
theorem impl_ProbeNew_is {x zc zp zv zl : Int} (hq : pnew x = ⟨zc,zp,zv,zl⟩) (w : World) : Calls Tryz.prog 86 #[.int .i64 x] w fun e w' => ∃ b,e = .returned (.tuple #[.agg #[.int .i64 zc,.int .i64 zp,.int .i64 zv,.int .i64 zl],.bool b]) ∧ Ext w w':=by
 have h:=impl_ProbeNew x w
 rw [hq] at h
 exact h

theorem impl_CommitStep_is (m : Mem) (A : Option Addr) (n cm : Nat) (who rv wv : Int) (ph at_ : Int) (ps : List Row) (rs : List Int) (Ap : Option Addr) (np cp : Nat) (Ar : Option Addr) (nr cr : Nat) (w : World) (SM : Nat → Prop) (hsM : Sl w SM 3 A n (m.cells_.flatMap Word.cells)) (hnM : n ≤ 1048576) (S1 : Nat → Prop) (h1 : Sl w S1 2 Ap np (ps.flatMap Row.cells)) (hm1 : np ≤ 1048576) (S2 : Nat → Prop) (h2 : Sl w S2 1 Ar nr (ints rs)) (hm2 : nr ≤ 1048576) (zk : Int) (zx : List Word) (zp za zw : Int) (hq : cstepS m ⟨who,rv,ph,at_,wv,ps,rs⟩ = ⟨zk,zx,zp,za,zw⟩) : Calls Tryz.prog 89 #[.agg #[.int .i64 m.clock_,.slice A n cm],.agg #[.int .i64 who,.int .i64 rv,.int .i64 ph,.int .i64 at_,.int .i64 wv,.slice Ap np cp,.slice Ar nr cr]] w fun e w' => ∃ B d Bp dp Br dr,e = .returned (.tuple #[.agg #[.int .i64 zk,.slice B n d],.agg #[.int .i64 who,.int .i64 rv,.int .i64 zp,.int .i64 za,.int .i64 zw,.slice Bp np dp,.slice Br nr dr]]) ∧ Mine w w' [.row 102 3 B n d (zx.flatMap Word.cells),.row 97 2 Bp np dp (ps.flatMap Row.cells),.row 3 1 Br nr dr (ints rs)]:=by
 have h:=impl_CommitStep m A n cm who rv wv ph at_ ps rs Ap np cp Ar nr cr w SM hsM hnM S1 h1 hm1 S2 h2 hm2
 rw [hq] at h
 exact h

end Go.Proofs.YtpmfhfpjiebcjaaGreat
namespace Go.Proofs.YtpmfhfpjiebcjaaGreat
open Go.RowKit Go.Deep
set_option linter.unnecessarySimpa false
set_option linter.unusedSimpArgs false
set_option linter.unusedVariables false
end Go.Proofs.YtpmfhfpjiebcjaaGreat
namespace Go.Proofs.YtpmfhfpjiebcjaaGreat
open Go.RowKit Go.Deep
set_option linter.unnecessarySimpa false
set_option linter.unusedSimpArgs false
set_option linter.unusedVariables false
end Go.Proofs.YtpmfhfpjiebcjaaGreat
namespace Go.Proofs.YtpmfhfpjiebcjaaGreat
open Go.RowKit Go.Deep
set_option linter.unnecessarySimpa false
set_option linter.unusedSimpArgs false
set_option linter.unusedVariables false
end Go.Proofs.YtpmfhfpjiebcjaaGreat
namespace Go.Proofs.YtpmfhfpjiebcjaaGreat
open Go.RowKit Go.Deep
set_option linter.unnecessarySimpa false
set_option linter.unusedSimpArgs false
set_option linter.unusedVariables false
end Go.Proofs.YtpmfhfpjiebcjaaGreat
namespace Go.Proofs.YtpmfhfpjiebcjaaGreat
open Go.RowKit Go.Deep
set_option linter.unnecessarySimpa false
set_option linter.unusedSimpArgs false
set_option linter.unusedVariables false

set_option maxRecDepth 8000 in
set_option maxHeartbeats 8000000 in
theorem impl_again (phs : Int) (at_ : Int) (tr rv st : Int) (seen : List Row) (busy : Bool) (pc pp pv pl cw crv cph cat cwv : Int) (cps : List Row) (crs : List Int) (As : Option Addr) (ns cs : Nat) (Ap : Option Addr) (np cp : Nat) (Ar : Option Addr) (nr cr : Nat) (w : World) (htr : 0 ≤ tr ∧ tr ≤ 1000000) : Calls Tryz.prog 88 #[.agg (List.toArray ((.int .i64 phs)::(.int .i64 tr)::(.int .i64 rv)::(.int .i64 at_)::(.int .i64 st)::(.slice As ns cs)::(.bool busy)::(.int .i64 pc)::(.int .i64 pp)::(.int .i64 pv)::(.int .i64 pl)::(.int .i64 cw)::(.int .i64 crv)::(.int .i64 cph)::(.int .i64 cat)::(.int .i64 cwv)::(.slice Ap np cp)::(.slice Ar nr cr)::[]))] w fun e w' => e = .returned (.agg (List.toArray ((.int .i64 ((again tr)).phase_)::(.int .i64 ((again tr)).tries_)::(.int .i64 ((again tr)).rv_)::(.int .i64 ((again tr)).at_)::(.int .i64 ((again tr)).stamp_)::(.slice none 0 0)::(.bool ((again tr)).busy_)::(.int .i64 ((again tr)).probe_.cell_)::(.int .i64 ((again tr)).probe_.phase_)::(.int .i64 ((again tr)).probe_.ver_)::(.int .i64 ((again tr)).probe_.val_)::(.int .i64 ((again tr)).commit_.who_)::(.int .i64 ((again tr)).commit_.rv_)::(.int .i64 ((again tr)).commit_.phase_)::(.int .i64 ((again tr)).commit_.at_)::(.int .i64 ((again tr)).commit_.wv_)::(.slice none 0 0)::(.slice none 0 0)::[]))) ∧ Ext w w':=by
 have M:=Lib.hid (Mine.refl w)
 go_enter Tryz.func88,Tryz.ntmps88
 go_wp2_with (first|((with_reducible show wpList _ _ _ (⟨_,_,_,_,_,none⟩::_) _ _);first|(refine Mine.wp_box M.out rfl 68 _ rfl _ rfl ?_;intro gx w' M';(try simp only [zr_,zm_] at M');replace M:=Lib.hid M';clear M';(try simp only [zr_,zm_]))|(refine Mine.wp_alloc M.out rfl 68 rfl (.agg (List.toArray ((.int .i64 0)::(.int .i64 0)::(.int .i64 0)::(.int .i64 0)::(.int .i64 0)::(.slice none 0 0)::(.bool false)::(.int .i64 0)::(.int .i64 0)::(.int .i64 0)::(.int .i64 0)::(.int .i64 0)::(.int .i64 0)::(.int .i64 0)::(.int .i64 0)::(.int .i64 0)::(.slice none 0 0)::(.slice none 0 0)::[]))) (by kernel_rfl) ?_;intro gr w' M';(try simp only [Value.cells,zr_,zm_] at M');replace M:=Lib.hid M';clear M';(try simp only [zr_,zm_]))|(refine zG M.out 1 ?_;(try simp only [zr_,zm_]))|(refine zSs M.out 68 0 ?_;intro w' M';(try simp only [zr_,zm_] at M');replace M:=Lib.hid M';clear M')))
 refine bodyPost_ret (M.out.results_cell Tryz.results88 _ 0 rfl rfl _ Tryz.underlying68 (by rfl) (by kernel_rfl)) rfl ?_
 exact ⟨rfl,M.out.ext⟩

end Go.Proofs.YtpmfhfpjiebcjaaGreat
namespace Go.Proofs.YtpmfhfpjiebcjaaGreat
open Go.RowKit Go.Deep
set_option linter.unnecessarySimpa false
set_option linter.unusedSimpArgs false
set_option linter.unusedVariables false
set_option maxRecDepth 8000 in
set_option maxHeartbeats 16000000 in
theorem impl_k0 (m : Mem) (AM : Option Addr) (n cm : Nat) (k : Nat) (j : Job) (A0 : Option Addr) (n0 c0 : Nat) (A1 : Option Addr) (n1 c1 : Nat) (at_ : Int) (tr rv st : Int) (seen : List Row) (busy : Bool) (pc pp pv pl cw crv cph cat cwv : Int) (cps : List Row) (crs : List Int) (As : Option Addr) (ns cs : Nat) (Ap : Option Addr) (np cp : Nat) (Ar : Option Addr) (nr cr : Nat) (AJ : Option Addr) (nj cj : Nat) (AH : Option Addr) (nh ch : Nat) (gd : Nat) (XJ XH : List Value) (hk : k < nj) (hnj : nj ≤ 4) (hnh : nh ≤ 1000000) (hJC : ∀ q,q < (((.int .i64 0)::(.int .i64 tr)::(.int .i64 rv)::(.int .i64 at_)::(.int .i64 st)::(.slice As ns cs)::(.bool busy)::(.int .i64 pc)::(.int .i64 pp)::(.int .i64 pv)::(.int .i64 pl)::(.int .i64 cw)::(.int .i64 crv)::(.int .i64 cph)::(.int .i64 cat)::(.int .i64 cwv)::(.slice Ap np cp)::(.slice Ar nr cr)::[]) : List Value).length → XJ[k * 18 + q]? = (((.int .i64 0)::(.int .i64 tr)::(.int .i64 rv)::(.int .i64 at_)::(.int .i64 st)::(.slice As ns cs)::(.bool busy)::(.int .i64 pc)::(.int .i64 pp)::(.int .i64 pv)::(.int .i64 pl)::(.int .i64 cw)::(.int .i64 crv)::(.int .i64 cph)::(.int .i64 cat)::(.int .i64 cwv)::(.slice Ap np cp)::(.slice Ar nr cr)::[]) : List Value)[q]?) (b w : World) (fr : List Res) (S0 S1 : Nat → Prop) (h0 : Sl b S0 1 A0 n0 (ints j.reads_)) (hn0 : n0 ≤ 1048576) (h1 : Sl b S1 2 A1 n1 (j.puts_.flatMap Row.cells)) (hn1 : n1 ≤ 1048576) (hnM : n ≤ 1048576) (hns : ns ≤ 1000000) (hnp : np ≤ 1048576) (hnr : nr ≤ 1048576) (htr : 0 ≤ tr ∧ tr ≤ 1000000) (hat : 0 ≤ at_ ∧ at_ ≤ (n0 : Int)) (M1 : Mine b w (.box gd 31 #[.int .i64 m.clock_,.slice AM n cm,.slice AJ nj cj,.slice AH nh ch]::.row 68 18 AJ nj cj XJ::.row 53 3 AH nh ch XH::.row 102 3 AM n cm ((m.cells_).flatMap Word.cells)::.row 97 2 As ns cs ((seen).flatMap Row.cells)::.row 97 2 Ap np cp ((cps).flatMap Row.cells)::.row 3 1 Ar nr cr (ints (crs))::fr))  :
  Calls Tryz.prog 36 #[.pointer (some ⟨gd,0,none⟩),.int .i64 (k : Int),.agg #[.slice A0 n0 c0,.slice A1 n1 c1]] w fun e w' => ∃ B1 m1 e1 B2 m2 e2 B3 m3 e3 B4 m4 e4,e = .returned (.tuple #[]) ∧ Mine b w' (.box gd 31 #[.int .i64 (jstep m ((k : Int) + 1) j ⟨0,tr,rv,at_,st,seen,busy,⟨pc,pp,pv,pl⟩,⟨cw,crv,cph,cat,cwv,cps,crs⟩⟩).1.clock_,.slice B1 m1 e1,.slice AJ nj cj,.slice AH nh ch]::.row 68 18 AJ nj cj (putAt XJ (k * 18) ((.int .i64 ((jstep m ((k : Int) + 1) j ⟨0,tr,rv,at_,st,seen,busy,⟨pc,pp,pv,pl⟩,⟨cw,crv,cph,cat,cwv,cps,crs⟩⟩).2).phase_)::(.int .i64 ((jstep m ((k : Int) + 1) j ⟨0,tr,rv,at_,st,seen,busy,⟨pc,pp,pv,pl⟩,⟨cw,crv,cph,cat,cwv,cps,crs⟩⟩).2).tries_)::(.int .i64 ((jstep m ((k : Int) + 1) j ⟨0,tr,rv,at_,st,seen,busy,⟨pc,pp,pv,pl⟩,⟨cw,crv,cph,cat,cwv,cps,crs⟩⟩).2).rv_)::(.int .i64 ((jstep m ((k : Int) + 1) j ⟨0,tr,rv,at_,st,seen,busy,⟨pc,pp,pv,pl⟩,⟨cw,crv,cph,cat,cwv,cps,crs⟩⟩).2).at_)::(.int .i64 ((jstep m ((k : Int) + 1) j ⟨0,tr,rv,at_,st,seen,busy,⟨pc,pp,pv,pl⟩,⟨cw,crv,cph,cat,cwv,cps,crs⟩⟩).2).stamp_)::(.slice B2 m2 e2)::(.bool ((jstep m ((k : Int) + 1) j ⟨0,tr,rv,at_,st,seen,busy,⟨pc,pp,pv,pl⟩,⟨cw,crv,cph,cat,cwv,cps,crs⟩⟩).2).busy_)::(.int .i64 ((jstep m ((k : Int) + 1) j ⟨0,tr,rv,at_,st,seen,busy,⟨pc,pp,pv,pl⟩,⟨cw,crv,cph,cat,cwv,cps,crs⟩⟩).2).probe_.cell_)::(.int .i64 ((jstep m ((k : Int) + 1) j ⟨0,tr,rv,at_,st,seen,busy,⟨pc,pp,pv,pl⟩,⟨cw,crv,cph,cat,cwv,cps,crs⟩⟩).2).probe_.phase_)::(.int .i64 ((jstep m ((k : Int) + 1) j ⟨0,tr,rv,at_,st,seen,busy,⟨pc,pp,pv,pl⟩,⟨cw,crv,cph,cat,cwv,cps,crs⟩⟩).2).probe_.ver_)::(.int .i64 ((jstep m ((k : Int) + 1) j ⟨0,tr,rv,at_,st,seen,busy,⟨pc,pp,pv,pl⟩,⟨cw,crv,cph,cat,cwv,cps,crs⟩⟩).2).probe_.val_)::(.int .i64 ((jstep m ((k : Int) + 1) j ⟨0,tr,rv,at_,st,seen,busy,⟨pc,pp,pv,pl⟩,⟨cw,crv,cph,cat,cwv,cps,crs⟩⟩).2).commit_.who_)::(.int .i64 ((jstep m ((k : Int) + 1) j ⟨0,tr,rv,at_,st,seen,busy,⟨pc,pp,pv,pl⟩,⟨cw,crv,cph,cat,cwv,cps,crs⟩⟩).2).commit_.rv_)::(.int .i64 ((jstep m ((k : Int) + 1) j ⟨0,tr,rv,at_,st,seen,busy,⟨pc,pp,pv,pl⟩,⟨cw,crv,cph,cat,cwv,cps,crs⟩⟩).2).commit_.phase_)::(.int .i64 ((jstep m ((k : Int) + 1) j ⟨0,tr,rv,at_,st,seen,busy,⟨pc,pp,pv,pl⟩,⟨cw,crv,cph,cat,cwv,cps,crs⟩⟩).2).commit_.at_)::(.int .i64 ((jstep m ((k : Int) + 1) j ⟨0,tr,rv,at_,st,seen,busy,⟨pc,pp,pv,pl⟩,⟨cw,crv,cph,cat,cwv,cps,crs⟩⟩).2).commit_.wv_)::(.slice B3 m3 e3)::(.slice B4 m4 e4)::[]))::.row 53 3 AH nh ch XH::.row 102 3 B1 m1 e1 (((jstep m ((k : Int) + 1) j ⟨0,tr,rv,at_,st,seen,busy,⟨pc,pp,pv,pl⟩,⟨cw,crv,cph,cat,cwv,cps,crs⟩⟩).1.cells_).flatMap Word.cells)::.row 97 2 B2 m2 e2 (((jstep m ((k : Int) + 1) j ⟨0,tr,rv,at_,st,seen,busy,⟨pc,pp,pv,pl⟩,⟨cw,crv,cph,cat,cwv,cps,crs⟩⟩).2.seen_).flatMap Row.cells)::.row 97 2 B3 m3 e3 (((jstep m ((k : Int) + 1) j ⟨0,tr,rv,at_,st,seen,busy,⟨pc,pp,pv,pl⟩,⟨cw,crv,cph,cat,cwv,cps,crs⟩⟩).2.commit_.puts_).flatMap Row.cells)::.row 3 1 B4 m4 e4 (ints ((jstep m ((k : Int) + 1) j ⟨0,tr,rv,at_,st,seen,busy,⟨pc,pp,pv,pl⟩,⟨cw,crv,cph,cat,cwv,cps,crs⟩⟩).2.commit_.reads_))::fr):=by
 have hl0 : j.reads_.length = n0:=h0.len
 have hl1 : j.puts_.length = n1:=h1.flen Row.cells_length (by omega)
 have H0:=Lib.hid h0
 have H1:=Lib.hid h1
 have M:=Lib.hid M1
 have HJC:=Lib.hid hJC
 have hk1 : (k : Int) < (nj : Int):=by omega
 obtain ⟨gJ,rfl⟩:=M1.addr 1 rfl (by omega)
 clear h0 h1 M1 hJC
 have HZ : Hid (jstep m ((k : Int) + 1) j ⟨0,tr,rv,at_,st,seen,busy,⟨pc,pp,pv,pl⟩,⟨cw,crv,cph,cat,cwv,cps,crs⟩⟩ = (m,⟨1,tr,m.clock_,at_,st,seen,busy,⟨pc,pp,pv,pl⟩,⟨cw,crv,cph,cat,cwv,cps,crs⟩⟩)):=by show _ = _;unfold jstep;simp
 go_enter Tryz.func36,Tryz.ntmps36
 go_wp2_with (((with_reducible show wpList _ _ _ (⟨_,_,_,_,_,none⟩::_) _ _);first|(refine Mine.wp_box M.out rfl 72 _ rfl _ rfl ?_;intro gj w' M';(try simp only [zr_,zm_] at M');replace M:=Lib.hid M';clear M';(try simp only [zr_,zm_]))|((first|refine zG M.out 1 ?_|refine Mine.wp_getrs M.out rfl 68 _ rfl 2 _ rfl rfl (((.int .i64 0)::(.int .i64 tr)::(.int .i64 rv)::(.int .i64 at_)::(.int .i64 st)::(.slice As ns cs)::(.bool busy)::(.int .i64 pc)::(.int .i64 pp)::(.int .i64 pv)::(.int .i64 pl)::(.int .i64 cw)::(.int .i64 crv)::(.int .i64 cph)::(.int .i64 cat)::(.int .i64 cwv)::(.slice Ap np cp)::(.slice Ar nr cr)::[]) : List Value) HJC.out _ Tryz.underlying68 (by rfl) (by kernel_rfl) ?_|refine zG M.out 0 ?_|refine zG M.out 2 ?_);(try simp only [zr_,zm_]))|(refine Mine.wp_alloc M.out rfl 68 rfl (.agg (List.toArray ((.int .i64 0)::(.int .i64 0)::(.int .i64 0)::(.int .i64 0)::(.int .i64 0)::(.slice none 0 0)::(.bool false)::(.int .i64 0)::(.int .i64 0)::(.int .i64 0)::(.int .i64 0)::(.int .i64 0)::(.int .i64 0)::(.int .i64 0)::(.int .i64 0)::(.int .i64 0)::(.slice none 0 0)::(.slice none 0 0)::[]))) (by kernel_rfl) ?_;intro gx w' M';(try simp only [Value.cells,zr_,zm_] at M');replace M:=Lib.hid M';clear M';(try simp only [zr_,zm_]))|((first|refine zSs M.out 68 0 ?_|refine zS M.out 0 ?_);intro w' M';(try simp only [zr_,zm_] at M');replace M:=Lib.hid M';clear M')))
 refine Mine.region_head M.out 6 (by kernel_rfl) (by kernel_rfl) ?_
 intro w' M'
 replace M:=Lib.hid M'
 clear M'
 refine zXT 0 ?_;(try simp only [zs_,zl_])
 refine zXT 1 ?_;(try simp only [zs_,zl_])
 refine zXT 2 ?_;(try simp only [zs_,zl_])
 refine zT 3 ?_;intro K hK;((refine zD 2 ?_;(try simp only [zr_,zm_]);go_big_quiet_on))
 refine zXT 4 ?_;(try simp only [zs_,zl_])
 refine zT 5 ?_;intro K hK;((refine zDs 68 0 18 ?_;(try simp only [zr_,zm_]);go_big_quiet_on))
 refine HQ.end_ (by kernel_rfl) ?_
 simp only [List.drop_succ_cons,List.drop_zero]
 go_wp2_with (((with_reducible show wpList _ _ _ (⟨_,_,_,_,_,none⟩::_) _ _);first|(refine Mine.wp_puts M.out rfl 68 _ _ rfl rfl 3 _ rfl rfl _ rfl (by simp only [List.length_cons,List.length_nil];omega) (by simp [Value.oneCell']) (by kernel_rfl) ?_;intro w' M';replace M:=Lib.hid M';clear M')))
 first|refine bodyPost_ret (v:=.tuple #[]) (by simp [results,Tryz.results36,go_sem]) rfl ?_|refine bodyPost_end (v:=.tuple #[]) (by simp [results,Tryz.results36,go_sem]) rfl ?_
 rw [HZ.out]
 replace M:=Lib.hid (M.out.sub (sd_ (sd_ (sk_ (sk_ (sk_ (sk_ (sk_ (sk_ (sk_ s1_))))))))))
 replace M:=Lib.hid (M.out.perm (List.perm_middle (l₁:=[_,_,_,_,_,_])))
 simp only [List.cons_append,List.nil_append] at M
 replace M:=Lib.hid (M.out.perm (List.perm_middle (l₁:=[_,_,_,_,_,_])))
 simp only [List.cons_append,List.nil_append] at M
 replace M:=Lib.hid (M.out.perm (List.perm_middle (l₁:=[_,_,_,_,_,_])))
 simp only [List.cons_append,List.nil_append] at M
 replace M:=Lib.hid (M.out.perm (List.perm_middle (l₁:=[_,_,_,_,_,_])))
 simp only [List.cons_append,List.nil_append] at M
 replace M:=Lib.hid (M.out.perm (List.perm_middle (l₁:=[_,_,_,_,_,_])))
 simp only [List.cons_append,List.nil_append] at M
 replace M:=Lib.hid (M.out.perm (List.perm_middle (l₁:=[_,_,_,_,_,_])))
 simp only [List.cons_append,List.nil_append] at M
 replace M:=Lib.hid (M.out.perm (List.perm_middle (l₁:=[_,_,_,_,_,_])))
 simp only [List.cons_append,List.nil_append] at M
 exact ⟨_,_,_,_,_,_,_,_,_,_,_,_,rfl,M.out⟩
set_option maxRecDepth 8000 in
set_option maxHeartbeats 16000000 in
theorem impl_k9 (m : Mem) (AM : Option Addr) (n cm : Nat) (k : Nat) (j : Job) (A0 : Option Addr) (n0 c0 : Nat) (A1 : Option Addr) (n1 c1 : Nat) (phs at_ : Int) (tr rv st : Int) (seen : List Row) (busy : Bool) (pc pp pv pl cw crv cph cat cwv : Int) (cps : List Row) (crs : List Int) (As : Option Addr) (ns cs : Nat) (Ap : Option Addr) (np cp : Nat) (Ar : Option Addr) (nr cr : Nat) (AJ : Option Addr) (nj cj : Nat) (AH : Option Addr) (nh ch : Nat) (gd : Nat) (XJ XH : List Value) (hk : k < nj) (hnj : nj ≤ 4) (hnh : nh ≤ 1000000) (hJC : ∀ q,q < (((.int .i64 phs)::(.int .i64 tr)::(.int .i64 rv)::(.int .i64 at_)::(.int .i64 st)::(.slice As ns cs)::(.bool busy)::(.int .i64 pc)::(.int .i64 pp)::(.int .i64 pv)::(.int .i64 pl)::(.int .i64 cw)::(.int .i64 crv)::(.int .i64 cph)::(.int .i64 cat)::(.int .i64 cwv)::(.slice Ap np cp)::(.slice Ar nr cr)::[]) : List Value).length → XJ[k * 18 + q]? = (((.int .i64 phs)::(.int .i64 tr)::(.int .i64 rv)::(.int .i64 at_)::(.int .i64 st)::(.slice As ns cs)::(.bool busy)::(.int .i64 pc)::(.int .i64 pp)::(.int .i64 pv)::(.int .i64 pl)::(.int .i64 cw)::(.int .i64 crv)::(.int .i64 cph)::(.int .i64 cat)::(.int .i64 cwv)::(.slice Ap np cp)::(.slice Ar nr cr)::[]) : List Value)[q]?) (b w : World) (fr : List Res) (S0 S1 : Nat → Prop) (h0 : Sl b S0 1 A0 n0 (ints j.reads_)) (hn0 : n0 ≤ 1048576) (h1 : Sl b S1 2 A1 n1 (j.puts_.flatMap Row.cells)) (hn1 : n1 ≤ 1048576) (hnM : n ≤ 1048576) (hns : ns ≤ 1000000) (hnp : np ≤ 1048576) (hnr : nr ≤ 1048576) (htr : 0 ≤ tr ∧ tr ≤ 1000000) (hat : 0 ≤ at_ ∧ at_ ≤ (n0 : Int)) (M1 : Mine b w (.box gd 31 #[.int .i64 m.clock_,.slice AM n cm,.slice AJ nj cj,.slice AH nh ch]::.row 68 18 AJ nj cj XJ::.row 53 3 AH nh ch XH::.row 102 3 AM n cm ((m.cells_).flatMap Word.cells)::.row 97 2 As ns cs ((seen).flatMap Row.cells)::.row 97 2 Ap np cp ((cps).flatMap Row.cells)::.row 3 1 Ar nr cr (ints (crs))::fr)) (p0 : phs ≠ 0) (p1 : phs ≠ 1) (p2 : phs ≠ 2) :
  Calls Tryz.prog 36 #[.pointer (some ⟨gd,0,none⟩),.int .i64 (k : Int),.agg #[.slice A0 n0 c0,.slice A1 n1 c1]] w fun e w' => ∃ B1 m1 e1 B2 m2 e2 B3 m3 e3 B4 m4 e4,e = .returned (.tuple #[]) ∧ Mine b w' (.box gd 31 #[.int .i64 (jstep m ((k : Int) + 1) j ⟨phs,tr,rv,at_,st,seen,busy,⟨pc,pp,pv,pl⟩,⟨cw,crv,cph,cat,cwv,cps,crs⟩⟩).1.clock_,.slice B1 m1 e1,.slice AJ nj cj,.slice AH nh ch]::.row 68 18 AJ nj cj (putAt XJ (k * 18) ((.int .i64 ((jstep m ((k : Int) + 1) j ⟨phs,tr,rv,at_,st,seen,busy,⟨pc,pp,pv,pl⟩,⟨cw,crv,cph,cat,cwv,cps,crs⟩⟩).2).phase_)::(.int .i64 ((jstep m ((k : Int) + 1) j ⟨phs,tr,rv,at_,st,seen,busy,⟨pc,pp,pv,pl⟩,⟨cw,crv,cph,cat,cwv,cps,crs⟩⟩).2).tries_)::(.int .i64 ((jstep m ((k : Int) + 1) j ⟨phs,tr,rv,at_,st,seen,busy,⟨pc,pp,pv,pl⟩,⟨cw,crv,cph,cat,cwv,cps,crs⟩⟩).2).rv_)::(.int .i64 ((jstep m ((k : Int) + 1) j ⟨phs,tr,rv,at_,st,seen,busy,⟨pc,pp,pv,pl⟩,⟨cw,crv,cph,cat,cwv,cps,crs⟩⟩).2).at_)::(.int .i64 ((jstep m ((k : Int) + 1) j ⟨phs,tr,rv,at_,st,seen,busy,⟨pc,pp,pv,pl⟩,⟨cw,crv,cph,cat,cwv,cps,crs⟩⟩).2).stamp_)::(.slice B2 m2 e2)::(.bool ((jstep m ((k : Int) + 1) j ⟨phs,tr,rv,at_,st,seen,busy,⟨pc,pp,pv,pl⟩,⟨cw,crv,cph,cat,cwv,cps,crs⟩⟩).2).busy_)::(.int .i64 ((jstep m ((k : Int) + 1) j ⟨phs,tr,rv,at_,st,seen,busy,⟨pc,pp,pv,pl⟩,⟨cw,crv,cph,cat,cwv,cps,crs⟩⟩).2).probe_.cell_)::(.int .i64 ((jstep m ((k : Int) + 1) j ⟨phs,tr,rv,at_,st,seen,busy,⟨pc,pp,pv,pl⟩,⟨cw,crv,cph,cat,cwv,cps,crs⟩⟩).2).probe_.phase_)::(.int .i64 ((jstep m ((k : Int) + 1) j ⟨phs,tr,rv,at_,st,seen,busy,⟨pc,pp,pv,pl⟩,⟨cw,crv,cph,cat,cwv,cps,crs⟩⟩).2).probe_.ver_)::(.int .i64 ((jstep m ((k : Int) + 1) j ⟨phs,tr,rv,at_,st,seen,busy,⟨pc,pp,pv,pl⟩,⟨cw,crv,cph,cat,cwv,cps,crs⟩⟩).2).probe_.val_)::(.int .i64 ((jstep m ((k : Int) + 1) j ⟨phs,tr,rv,at_,st,seen,busy,⟨pc,pp,pv,pl⟩,⟨cw,crv,cph,cat,cwv,cps,crs⟩⟩).2).commit_.who_)::(.int .i64 ((jstep m ((k : Int) + 1) j ⟨phs,tr,rv,at_,st,seen,busy,⟨pc,pp,pv,pl⟩,⟨cw,crv,cph,cat,cwv,cps,crs⟩⟩).2).commit_.rv_)::(.int .i64 ((jstep m ((k : Int) + 1) j ⟨phs,tr,rv,at_,st,seen,busy,⟨pc,pp,pv,pl⟩,⟨cw,crv,cph,cat,cwv,cps,crs⟩⟩).2).commit_.phase_)::(.int .i64 ((jstep m ((k : Int) + 1) j ⟨phs,tr,rv,at_,st,seen,busy,⟨pc,pp,pv,pl⟩,⟨cw,crv,cph,cat,cwv,cps,crs⟩⟩).2).commit_.at_)::(.int .i64 ((jstep m ((k : Int) + 1) j ⟨phs,tr,rv,at_,st,seen,busy,⟨pc,pp,pv,pl⟩,⟨cw,crv,cph,cat,cwv,cps,crs⟩⟩).2).commit_.wv_)::(.slice B3 m3 e3)::(.slice B4 m4 e4)::[]))::.row 53 3 AH nh ch XH::.row 102 3 B1 m1 e1 (((jstep m ((k : Int) + 1) j ⟨phs,tr,rv,at_,st,seen,busy,⟨pc,pp,pv,pl⟩,⟨cw,crv,cph,cat,cwv,cps,crs⟩⟩).1.cells_).flatMap Word.cells)::.row 97 2 B2 m2 e2 (((jstep m ((k : Int) + 1) j ⟨phs,tr,rv,at_,st,seen,busy,⟨pc,pp,pv,pl⟩,⟨cw,crv,cph,cat,cwv,cps,crs⟩⟩).2.seen_).flatMap Row.cells)::.row 97 2 B3 m3 e3 (((jstep m ((k : Int) + 1) j ⟨phs,tr,rv,at_,st,seen,busy,⟨pc,pp,pv,pl⟩,⟨cw,crv,cph,cat,cwv,cps,crs⟩⟩).2.commit_.puts_).flatMap Row.cells)::.row 3 1 B4 m4 e4 (ints ((jstep m ((k : Int) + 1) j ⟨phs,tr,rv,at_,st,seen,busy,⟨pc,pp,pv,pl⟩,⟨cw,crv,cph,cat,cwv,cps,crs⟩⟩).2.commit_.reads_))::fr):=by
 have hl0 : j.reads_.length = n0:=h0.len
 have hl1 : j.puts_.length = n1:=h1.flen Row.cells_length (by omega)
 have H0:=Lib.hid h0
 have H1:=Lib.hid h1
 have M:=Lib.hid M1
 have HJC:=Lib.hid hJC
 have hk1 : (k : Int) < (nj : Int):=by omega
 obtain ⟨gJ,rfl⟩:=M1.addr 1 rfl (by omega)
 clear h0 h1 M1 hJC
 have HZ : Hid (jstep m ((k : Int) + 1) j ⟨phs,tr,rv,at_,st,seen,busy,⟨pc,pp,pv,pl⟩,⟨cw,crv,cph,cat,cwv,cps,crs⟩⟩ = (m,⟨phs,tr,rv,at_,st,seen,busy,⟨pc,pp,pv,pl⟩,⟨cw,crv,cph,cat,cwv,cps,crs⟩⟩)):=by show _ = _;unfold jstep;simp [p0,p1,p2]
 have b0 : (phs == 0) = false:=by simpa using p0
 have b1 : (phs == 1) = false:=by simpa using p1
 have b2 : (phs == 2) = false:=by simpa using p2
 clear p0 p1 p2
 go_enter Tryz.func36,Tryz.ntmps36
 go_wp2_with (((with_reducible show wpList _ _ _ (⟨_,_,_,_,_,none⟩::_) _ _);first|(refine Mine.wp_box M.out rfl 72 _ rfl _ rfl ?_;intro gj w' M';(try simp only [zr_,zm_] at M');replace M:=Lib.hid M';clear M';(try simp only [zr_,zm_]))|((first|refine zG M.out 1 ?_|refine Mine.wp_getrs M.out rfl 68 _ rfl 2 _ rfl rfl (((.int .i64 phs)::(.int .i64 tr)::(.int .i64 rv)::(.int .i64 at_)::(.int .i64 st)::(.slice As ns cs)::(.bool busy)::(.int .i64 pc)::(.int .i64 pp)::(.int .i64 pv)::(.int .i64 pl)::(.int .i64 cw)::(.int .i64 crv)::(.int .i64 cph)::(.int .i64 cat)::(.int .i64 cwv)::(.slice Ap np cp)::(.slice Ar nr cr)::[]) : List Value) HJC.out _ Tryz.underlying68 (by rfl) (by kernel_rfl) ?_|refine zG M.out 0 ?_);(try simp only [zr_,zm_]))|(refine Mine.wp_alloc M.out rfl 68 rfl (.agg (List.toArray ((.int .i64 0)::(.int .i64 0)::(.int .i64 0)::(.int .i64 0)::(.int .i64 0)::(.slice none 0 0)::(.bool false)::(.int .i64 0)::(.int .i64 0)::(.int .i64 0)::(.int .i64 0)::(.int .i64 0)::(.int .i64 0)::(.int .i64 0)::(.int .i64 0)::(.int .i64 0)::(.slice none 0 0)::(.slice none 0 0)::[]))) (by kernel_rfl) ?_;intro gx w' M';(try simp only [Value.cells,zr_,zm_] at M');replace M:=Lib.hid M';clear M';(try simp only [zr_,zm_]))|(refine zSs M.out 68 0 ?_;intro w' M';(try simp only [zr_,zm_] at M');replace M:=Lib.hid M';clear M')))
 refine Mine.region_head M.out 6 (by kernel_rfl) (by kernel_rfl) ?_
 intro w' M'
 replace M:=Lib.hid M'
 clear M'
 refine zXT 0 ?_;(try simp only [zs_,zl_])
 refine zXT 1 ?_;(try simp only [zs_,zl_])
 refine zXT 2 ?_;(try simp only [zs_,zl_])
 refine zT 3 ?_;intro K hK;((refine zD 2 ?_;(try simp only [zr_,zm_]);go_big_quiet_on))
 refine zXT 4 ?_;(try simp only [zs_,zl_])
 refine zT 5 ?_;intro K hK;((refine zDs 68 0 18 ?_;(try simp only [zr_,zm_]);go_big_quiet_on))
 refine HQ.end_ (by kernel_rfl) ?_
 simp only [List.drop_succ_cons,List.drop_zero]
 go_wp2_with (((with_reducible show wpList _ _ _ (⟨_,_,_,_,_,none⟩::_) _ _);first|(refine Mine.wp_puts M.out rfl 68 _ _ rfl rfl 3 _ rfl rfl _ rfl (by simp only [List.length_cons,List.length_nil];omega) (by simp [Value.oneCell']) (by kernel_rfl) ?_;intro w' M';replace M:=Lib.hid M';clear M')))
 first|refine bodyPost_ret (v:=.tuple #[]) (by simp [results,Tryz.results36,go_sem]) rfl ?_|refine bodyPost_end (v:=.tuple #[]) (by simp [results,Tryz.results36,go_sem]) rfl ?_
 rw [HZ.out]
 replace M:=Lib.hid (M.out.sub (sd_ (sd_ (sk_ (sk_ (sk_ (sk_ (sk_ (sk_ (sk_ s1_))))))))))
 replace M:=Lib.hid (M.out.perm (List.perm_middle (l₁:=[_,_,_,_,_,_])))
 simp only [List.cons_append,List.nil_append] at M
 replace M:=Lib.hid (M.out.perm (List.perm_middle (l₁:=[_,_,_,_,_,_])))
 simp only [List.cons_append,List.nil_append] at M
 replace M:=Lib.hid (M.out.perm (List.perm_middle (l₁:=[_,_,_,_,_,_])))
 simp only [List.cons_append,List.nil_append] at M
 replace M:=Lib.hid (M.out.perm (List.perm_middle (l₁:=[_,_,_,_,_,_])))
 simp only [List.cons_append,List.nil_append] at M
 replace M:=Lib.hid (M.out.perm (List.perm_middle (l₁:=[_,_,_,_,_,_])))
 simp only [List.cons_append,List.nil_append] at M
 replace M:=Lib.hid (M.out.perm (List.perm_middle (l₁:=[_,_,_,_,_,_])))
 simp only [List.cons_append,List.nil_append] at M
 replace M:=Lib.hid (M.out.perm (List.perm_middle (l₁:=[_,_,_,_,_,_])))
 simp only [List.cons_append,List.nil_append] at M
 exact ⟨_,_,_,_,_,_,_,_,_,_,_,_,rfl,M.out⟩

end Go.Proofs.YtpmfhfpjiebcjaaGreat
