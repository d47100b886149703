/- A step of a job in the program: all is read. No condition but lengths. -/
import Derived.Test.YtpmfhfpjiebcjaaGreatD00
import Derived.Test.YtpmfhfpjiebcjaaGreatD31
namespace Go.Proofs.YtpmfhfpjiebcjaaGreat
open Go.RowKit Go.Deep
set_option linter.unnecessarySimpa false
set_option linter.unusedSimpArgs false
set_option linter.unusedVariables false
set_option maxRecDepth 8000 in
set_option maxHeartbeats 16000000 in
theorem impl_k1a (m : Mem) (AM : Option Addr) (n cm : Nat) (k : Nat) (j : Job) (A0 : Option Addr) (n0 c0 : Nat) (A1 : Option Addr) (n1 c1 : Nat) (at_ : Int) (tr rv st : Int) (seen : List Row) (busy : Bool) (pc pp pv pl cw crv cph cat cwv : Int) (cps : List Row) (crs : List Int) (As : Option Addr) (ns cs : Nat) (Ap : Option Addr) (np cp : Nat) (Ar : Option Addr) (nr cr : Nat) (AJ : Option Addr) (nj cj : Nat) (AH : Option Addr) (nh ch : Nat) (gd : Nat) (XJ XH : List Value) (hk : k < nj) (hnj : nj ≤ 4) (hnh : nh ≤ 1000000) (hJC : ∀ q,q < (((.int .i64 1)::(.int .i64 tr)::(.int .i64 rv)::(.int .i64 at_)::(.int .i64 st)::(.slice As ns cs)::(.bool busy)::(.int .i64 pc)::(.int .i64 pp)::(.int .i64 pv)::(.int .i64 pl)::(.int .i64 cw)::(.int .i64 crv)::(.int .i64 cph)::(.int .i64 cat)::(.int .i64 cwv)::(.slice Ap np cp)::(.slice Ar nr cr)::[]) : List Value).length → XJ[k * 18 + q]? = (((.int .i64 1)::(.int .i64 tr)::(.int .i64 rv)::(.int .i64 at_)::(.int .i64 st)::(.slice As ns cs)::(.bool busy)::(.int .i64 pc)::(.int .i64 pp)::(.int .i64 pv)::(.int .i64 pl)::(.int .i64 cw)::(.int .i64 crv)::(.int .i64 cph)::(.int .i64 cat)::(.int .i64 cwv)::(.slice Ap np cp)::(.slice Ar nr cr)::[]) : List Value)[q]?) (b w : World) (fr : List Res) (S0 S1 : Nat → Prop) (h0 : Sl b S0 1 A0 n0 (ints j.reads_)) (hn0 : n0 ≤ 1048576) (h1 : Sl b S1 2 A1 n1 (j.puts_.flatMap Row.cells)) (hn1 : n1 ≤ 1048576) (hnM : n ≤ 1048576) (hns : ns ≤ 1000000) (hnp : np ≤ 1048576) (hnr : nr ≤ 1048576) (htr : 0 ≤ tr ∧ tr ≤ 1000000) (hat : 0 ≤ at_ ∧ at_ ≤ (n0 : Int)) (M1 : Mine b w (.box gd 31 #[.int .i64 m.clock_,.slice AM n cm,.slice AJ nj cj,.slice AH nh ch]::.row 68 18 AJ nj cj XJ::.row 53 3 AH nh ch XH::.row 102 3 AM n cm ((m.cells_).flatMap Word.cells)::.row 97 2 As ns cs ((seen).flatMap Row.cells)::.row 97 2 Ap np cp ((cps).flatMap Row.cells)::.row 3 1 Ar nr cr (ints (crs))::fr)) (hz : at_ = (j.reads_.length : Int)) (hp : j.puts_.length = 0) :
  Calls Tryz.prog 36 #[.pointer (some ⟨gd,0,none⟩),.int .i64 (k : Int),.agg #[.slice A0 n0 c0,.slice A1 n1 c1]] w fun e w' => ∃ B1 m1 e1 B2 m2 e2 B3 m3 e3 B4 m4 e4,e = .returned (.tuple #[]) ∧ Mine b w' (.box gd 31 #[.int .i64 (jstep m ((k : Int) + 1) j ⟨1,tr,rv,at_,st,seen,busy,⟨pc,pp,pv,pl⟩,⟨cw,crv,cph,cat,cwv,cps,crs⟩⟩).1.clock_,.slice B1 m1 e1,.slice AJ nj cj,.slice AH nh ch]::.row 68 18 AJ nj cj (putAt XJ (k * 18) ((.int .i64 ((jstep m ((k : Int) + 1) j ⟨1,tr,rv,at_,st,seen,busy,⟨pc,pp,pv,pl⟩,⟨cw,crv,cph,cat,cwv,cps,crs⟩⟩).2).phase_)::(.int .i64 ((jstep m ((k : Int) + 1) j ⟨1,tr,rv,at_,st,seen,busy,⟨pc,pp,pv,pl⟩,⟨cw,crv,cph,cat,cwv,cps,crs⟩⟩).2).tries_)::(.int .i64 ((jstep m ((k : Int) + 1) j ⟨1,tr,rv,at_,st,seen,busy,⟨pc,pp,pv,pl⟩,⟨cw,crv,cph,cat,cwv,cps,crs⟩⟩).2).rv_)::(.int .i64 ((jstep m ((k : Int) + 1) j ⟨1,tr,rv,at_,st,seen,busy,⟨pc,pp,pv,pl⟩,⟨cw,crv,cph,cat,cwv,cps,crs⟩⟩).2).at_)::(.int .i64 ((jstep m ((k : Int) + 1) j ⟨1,tr,rv,at_,st,seen,busy,⟨pc,pp,pv,pl⟩,⟨cw,crv,cph,cat,cwv,cps,crs⟩⟩).2).stamp_)::(.slice B2 m2 e2)::(.bool ((jstep m ((k : Int) + 1) j ⟨1,tr,rv,at_,st,seen,busy,⟨pc,pp,pv,pl⟩,⟨cw,crv,cph,cat,cwv,cps,crs⟩⟩).2).busy_)::(.int .i64 ((jstep m ((k : Int) + 1) j ⟨1,tr,rv,at_,st,seen,busy,⟨pc,pp,pv,pl⟩,⟨cw,crv,cph,cat,cwv,cps,crs⟩⟩).2).probe_.cell_)::(.int .i64 ((jstep m ((k : Int) + 1) j ⟨1,tr,rv,at_,st,seen,busy,⟨pc,pp,pv,pl⟩,⟨cw,crv,cph,cat,cwv,cps,crs⟩⟩).2).probe_.phase_)::(.int .i64 ((jstep m ((k : Int) + 1) j ⟨1,tr,rv,at_,st,seen,busy,⟨pc,pp,pv,pl⟩,⟨cw,crv,cph,cat,cwv,cps,crs⟩⟩).2).probe_.ver_)::(.int .i64 ((jstep m ((k : Int) + 1) j ⟨1,tr,rv,at_,st,seen,busy,⟨pc,pp,pv,pl⟩,⟨cw,crv,cph,cat,cwv,cps,crs⟩⟩).2).probe_.val_)::(.int .i64 ((jstep m ((k : Int) + 1) j ⟨1,tr,rv,at_,st,seen,busy,⟨pc,pp,pv,pl⟩,⟨cw,crv,cph,cat,cwv,cps,crs⟩⟩).2).commit_.who_)::(.int .i64 ((jstep m ((k : Int) + 1) j ⟨1,tr,rv,at_,st,seen,busy,⟨pc,pp,pv,pl⟩,⟨cw,crv,cph,cat,cwv,cps,crs⟩⟩).2).commit_.rv_)::(.int .i64 ((jstep m ((k : Int) + 1) j ⟨1,tr,rv,at_,st,seen,busy,⟨pc,pp,pv,pl⟩,⟨cw,crv,cph,cat,cwv,cps,crs⟩⟩).2).commit_.phase_)::(.int .i64 ((jstep m ((k : Int) + 1) j ⟨1,tr,rv,at_,st,seen,busy,⟨pc,pp,pv,pl⟩,⟨cw,crv,cph,cat,cwv,cps,crs⟩⟩).2).commit_.at_)::(.int .i64 ((jstep m ((k : Int) + 1) j ⟨1,tr,rv,at_,st,seen,busy,⟨pc,pp,pv,pl⟩,⟨cw,crv,cph,cat,cwv,cps,crs⟩⟩).2).commit_.wv_)::(.slice B3 m3 e3)::(.slice B4 m4 e4)::[]))::.row 53 3 AH nh ch XH::.row 102 3 B1 m1 e1 (((jstep m ((k : Int) + 1) j ⟨1,tr,rv,at_,st,seen,busy,⟨pc,pp,pv,pl⟩,⟨cw,crv,cph,cat,cwv,cps,crs⟩⟩).1.cells_).flatMap Word.cells)::.row 97 2 B2 m2 e2 (((jstep m ((k : Int) + 1) j ⟨1,tr,rv,at_,st,seen,busy,⟨pc,pp,pv,pl⟩,⟨cw,crv,cph,cat,cwv,cps,crs⟩⟩).2.seen_).flatMap Row.cells)::.row 97 2 B3 m3 e3 (((jstep m ((k : Int) + 1) j ⟨1,tr,rv,at_,st,seen,busy,⟨pc,pp,pv,pl⟩,⟨cw,crv,cph,cat,cwv,cps,crs⟩⟩).2.commit_.puts_).flatMap Row.cells)::.row 3 1 B4 m4 e4 (ints ((jstep m ((k : Int) + 1) j ⟨1,tr,rv,at_,st,seen,busy,⟨pc,pp,pv,pl⟩,⟨cw,crv,cph,cat,cwv,cps,crs⟩⟩).2.commit_.reads_))::fr):=by
 have hl0 : j.reads_.length = n0:=h0.len
 have hl1 : j.puts_.length = n1:=h1.flen Row.cells_length (by omega)
 have H0:=Lib.hid h0
 have H1:=Lib.hid h1
 have M:=Lib.hid M1
 have HJC:=Lib.hid hJC
 have hk1 : (k : Int) < (nj : Int):=by omega
 obtain ⟨gJ,rfl⟩:=M1.addr 1 rfl (by omega)
 clear h0 h1 M1 hJC
 have HZ : Hid (jstep m ((k : Int) + 1) j ⟨1,tr,rv,at_,st,seen,busy,⟨pc,pp,pv,pl⟩,⟨cw,crv,cph,cat,cwv,cps,crs⟩⟩ = (m,⟨3,tr,rv,at_,rv,seen,busy,⟨pc,pp,pv,pl⟩,⟨cw,crv,cph,cat,cwv,cps,crs⟩⟩)):=by show _ = _;unfold jstep;simp [hz,hp]
 have ba : (at_ == (n0 : Int)) = true:=by simp;omega
 have bp : ((n1 : Int) == 0) = true:=by simp;omega
 clear hz hp
 go_enter Tryz.func36,Tryz.ntmps36
 go_wp2_with (first|((with_reducible show wpList _ _ _ (⟨_,_,_,_,_,none⟩::_) _ _);first|(refine Mine.wp_box M.out rfl 72 _ rfl _ rfl ?_;intro gj w' M';(try simp only [zr_,zm_] at M');replace M:=Lib.hid M';clear M';(try simp only [zr_,zm_]))|((first|refine zG M.out 1 ?_|refine Mine.wp_getrs M.out rfl 68 _ rfl 2 _ rfl rfl (((.int .i64 1)::(.int .i64 tr)::(.int .i64 rv)::(.int .i64 at_)::(.int .i64 st)::(.slice As ns cs)::(.bool busy)::(.int .i64 pc)::(.int .i64 pp)::(.int .i64 pv)::(.int .i64 pl)::(.int .i64 cw)::(.int .i64 crv)::(.int .i64 cph)::(.int .i64 cat)::(.int .i64 cwv)::(.slice Ap np cp)::(.slice Ar nr cr)::[]) : List Value) HJC.out _ Tryz.underlying68 (by rfl) (by kernel_rfl) ?_|refine zG M.out 0 ?_);(try simp only [zr_,zm_]))|(refine Mine.wp_alloc M.out rfl 68 rfl (.agg (List.toArray ((.int .i64 0)::(.int .i64 0)::(.int .i64 0)::(.int .i64 0)::(.int .i64 0)::(.slice none 0 0)::(.bool false)::(.int .i64 0)::(.int .i64 0)::(.int .i64 0)::(.int .i64 0)::(.int .i64 0)::(.int .i64 0)::(.int .i64 0)::(.int .i64 0)::(.int .i64 0)::(.slice none 0 0)::(.slice none 0 0)::[]))) (by kernel_rfl) ?_;intro gx w' M';(try simp only [Value.cells,zr_,zm_] at M');replace M:=Lib.hid M';clear M';(try simp only [zr_,zm_]))|((first|refine zSs M.out 68 0 ?_|refine zS M.out 0 ?_);intro w' M';(try simp only [zr_,zm_] at M');replace M:=Lib.hid M';clear M'))|((with_reducible show wpList _ _ _ (⟨_,.load _ _,_,_,_,some _⟩::_) _ _);first|((first|refine zGg M.out 0 ?_|refine zGg M.out 1 ?_);(try simp only [zr_,zm_]))))
 refine Mine.region_head M.out 6 (by kernel_rfl) (by kernel_rfl) ?_
 intro w' M'
 replace M:=Lib.hid M'
 clear M'
 refine zXT 0 ?_;(try simp only [zs_,zl_])
 refine zXT 1 ?_;(try simp only [zs_,zl_])
 refine zXT 2 ?_;(try simp only [zs_,zl_])
 refine zT 3 ?_;intro K hK;((refine zD 2 ?_;(try simp only [zr_,zm_]);go_big_quiet_on))
 refine zXT 4 ?_;(try simp only [zs_,zl_])
 refine zT 5 ?_;intro K hK;((refine zDs 68 0 18 ?_;(try simp only [zr_,zm_]);go_big_quiet_on))
 refine HQ.end_ (by kernel_rfl) ?_
 simp only [List.drop_succ_cons,List.drop_zero]
 go_wp2_with (((with_reducible show wpList _ _ _ (⟨_,_,_,_,_,none⟩::_) _ _);first|(refine Mine.wp_puts M.out rfl 68 _ _ rfl rfl 3 _ rfl rfl _ rfl (by simp only [List.length_cons,List.length_nil];omega) (by simp [Value.oneCell']) (by kernel_rfl) ?_;intro w' M';replace M:=Lib.hid M';clear M')))
 first|refine bodyPost_ret (v:=.tuple #[]) (by simp [results,Tryz.results36,go_sem]) rfl ?_|refine bodyPost_end (v:=.tuple #[]) (by simp [results,Tryz.results36,go_sem]) rfl ?_
 rw [HZ.out]
 replace M:=Lib.hid (M.out.sub (sd_ (sd_ (sk_ (sk_ (sk_ (sk_ (sk_ (sk_ (sk_ s1_))))))))))
 replace M:=Lib.hid (M.out.perm (List.perm_middle (l₁:=[_,_,_,_,_,_])))
 simp only [List.cons_append,List.nil_append] at M
 replace M:=Lib.hid (M.out.perm (List.perm_middle (l₁:=[_,_,_,_,_,_])))
 simp only [List.cons_append,List.nil_append] at M
 replace M:=Lib.hid (M.out.perm (List.perm_middle (l₁:=[_,_,_,_,_,_])))
 simp only [List.cons_append,List.nil_append] at M
 replace M:=Lib.hid (M.out.perm (List.perm_middle (l₁:=[_,_,_,_,_,_])))
 simp only [List.cons_append,List.nil_append] at M
 replace M:=Lib.hid (M.out.perm (List.perm_middle (l₁:=[_,_,_,_,_,_])))
 simp only [List.cons_append,List.nil_append] at M
 replace M:=Lib.hid (M.out.perm (List.perm_middle (l₁:=[_,_,_,_,_,_])))
 simp only [List.cons_append,List.nil_append] at M
 replace M:=Lib.hid (M.out.perm (List.perm_middle (l₁:=[_,_,_,_,_,_])))
 simp only [List.cons_append,List.nil_append] at M
 exact ⟨_,_,_,_,_,_,_,_,_,_,_,_,rfl,M.out⟩
set_option maxRecDepth 8000 in
set_option maxHeartbeats 16000000 in
theorem impl_k1b (m : Mem) (AM : Option Addr) (n cm : Nat) (k : Nat) (j : Job) (A0 : Option Addr) (n0 c0 : Nat) (A1 : Option Addr) (n1 c1 : Nat) (at_ : Int) (tr rv st : Int) (seen : List Row) (busy : Bool) (pc pp pv pl cw crv cph cat cwv : Int) (cps : List Row) (crs : List Int) (As : Option Addr) (ns cs : Nat) (Ap : Option Addr) (np cp : Nat) (Ar : Option Addr) (nr cr : Nat) (AJ : Option Addr) (nj cj : Nat) (AH : Option Addr) (nh ch : Nat) (gd : Nat) (XJ XH : List Value) (hk : k < nj) (hnj : nj ≤ 4) (hnh : nh ≤ 1000000) (hJC : ∀ q,q < (((.int .i64 1)::(.int .i64 tr)::(.int .i64 rv)::(.int .i64 at_)::(.int .i64 st)::(.slice As ns cs)::(.bool busy)::(.int .i64 pc)::(.int .i64 pp)::(.int .i64 pv)::(.int .i64 pl)::(.int .i64 cw)::(.int .i64 crv)::(.int .i64 cph)::(.int .i64 cat)::(.int .i64 cwv)::(.slice Ap np cp)::(.slice Ar nr cr)::[]) : List Value).length → XJ[k * 18 + q]? = (((.int .i64 1)::(.int .i64 tr)::(.int .i64 rv)::(.int .i64 at_)::(.int .i64 st)::(.slice As ns cs)::(.bool busy)::(.int .i64 pc)::(.int .i64 pp)::(.int .i64 pv)::(.int .i64 pl)::(.int .i64 cw)::(.int .i64 crv)::(.int .i64 cph)::(.int .i64 cat)::(.int .i64 cwv)::(.slice Ap np cp)::(.slice Ar nr cr)::[]) : List Value)[q]?) (b w : World) (fr : List Res) (S0 S1 : Nat → Prop) (h0 : Sl b S0 1 A0 n0 (ints j.reads_)) (hn0 : n0 ≤ 1048576) (h1 : Sl b S1 2 A1 n1 (j.puts_.flatMap Row.cells)) (hn1 : n1 ≤ 1048576) (hnM : n ≤ 1048576) (hns : ns ≤ 1000000) (hnp : np ≤ 1048576) (hnr : nr ≤ 1048576) (htr : 0 ≤ tr ∧ tr ≤ 1000000) (hat : 0 ≤ at_ ∧ at_ ≤ (n0 : Int)) (M1 : Mine b w (.box gd 31 #[.int .i64 m.clock_,.slice AM n cm,.slice AJ nj cj,.slice AH nh ch]::.row 68 18 AJ nj cj XJ::.row 53 3 AH nh ch XH::.row 102 3 AM n cm ((m.cells_).flatMap Word.cells)::.row 97 2 As ns cs ((seen).flatMap Row.cells)::.row 97 2 Ap np cp ((cps).flatMap Row.cells)::.row 3 1 Ar nr cr (ints (crs))::fr)) (hz : at_ = (j.reads_.length : Int)) (hp : ¬ j.puts_.length = 0) :
  Calls Tryz.prog 36 #[.pointer (some ⟨gd,0,none⟩),.int .i64 (k : Int),.agg #[.slice A0 n0 c0,.slice A1 n1 c1]] w fun e w' => ∃ B1 m1 e1 B2 m2 e2 B3 m3 e3 B4 m4 e4,e = .returned (.tuple #[]) ∧ Mine b w' (.box gd 31 #[.int .i64 (jstep m ((k : Int) + 1) j ⟨1,tr,rv,at_,st,seen,busy,⟨pc,pp,pv,pl⟩,⟨cw,crv,cph,cat,cwv,cps,crs⟩⟩).1.clock_,.slice B1 m1 e1,.slice AJ nj cj,.slice AH nh ch]::.row 68 18 AJ nj cj (putAt XJ (k * 18) ((.int .i64 ((jstep m ((k : Int) + 1) j ⟨1,tr,rv,at_,st,seen,busy,⟨pc,pp,pv,pl⟩,⟨cw,crv,cph,cat,cwv,cps,crs⟩⟩).2).phase_)::(.int .i64 ((jstep m ((k : Int) + 1) j ⟨1,tr,rv,at_,st,seen,busy,⟨pc,pp,pv,pl⟩,⟨cw,crv,cph,cat,cwv,cps,crs⟩⟩).2).tries_)::(.int .i64 ((jstep m ((k : Int) + 1) j ⟨1,tr,rv,at_,st,seen,busy,⟨pc,pp,pv,pl⟩,⟨cw,crv,cph,cat,cwv,cps,crs⟩⟩).2).rv_)::(.int .i64 ((jstep m ((k : Int) + 1) j ⟨1,tr,rv,at_,st,seen,busy,⟨pc,pp,pv,pl⟩,⟨cw,crv,cph,cat,cwv,cps,crs⟩⟩).2).at_)::(.int .i64 ((jstep m ((k : Int) + 1) j ⟨1,tr,rv,at_,st,seen,busy,⟨pc,pp,pv,pl⟩,⟨cw,crv,cph,cat,cwv,cps,crs⟩⟩).2).stamp_)::(.slice B2 m2 e2)::(.bool ((jstep m ((k : Int) + 1) j ⟨1,tr,rv,at_,st,seen,busy,⟨pc,pp,pv,pl⟩,⟨cw,crv,cph,cat,cwv,cps,crs⟩⟩).2).busy_)::(.int .i64 ((jstep m ((k : Int) + 1) j ⟨1,tr,rv,at_,st,seen,busy,⟨pc,pp,pv,pl⟩,⟨cw,crv,cph,cat,cwv,cps,crs⟩⟩).2).probe_.cell_)::(.int .i64 ((jstep m ((k : Int) + 1) j ⟨1,tr,rv,at_,st,seen,busy,⟨pc,pp,pv,pl⟩,⟨cw,crv,cph,cat,cwv,cps,crs⟩⟩).2).probe_.phase_)::(.int .i64 ((jstep m ((k : Int) + 1) j ⟨1,tr,rv,at_,st,seen,busy,⟨pc,pp,pv,pl⟩,⟨cw,crv,cph,cat,cwv,cps,crs⟩⟩).2).probe_.ver_)::(.int .i64 ((jstep m ((k : Int) + 1) j ⟨1,tr,rv,at_,st,seen,busy,⟨pc,pp,pv,pl⟩,⟨cw,crv,cph,cat,cwv,cps,crs⟩⟩).2).probe_.val_)::(.int .i64 ((jstep m ((k : Int) + 1) j ⟨1,tr,rv,at_,st,seen,busy,⟨pc,pp,pv,pl⟩,⟨cw,crv,cph,cat,cwv,cps,crs⟩⟩).2).commit_.who_)::(.int .i64 ((jstep m ((k : Int) + 1) j ⟨1,tr,rv,at_,st,seen,busy,⟨pc,pp,pv,pl⟩,⟨cw,crv,cph,cat,cwv,cps,crs⟩⟩).2).commit_.rv_)::(.int .i64 ((jstep m ((k : Int) + 1) j ⟨1,tr,rv,at_,st,seen,busy,⟨pc,pp,pv,pl⟩,⟨cw,crv,cph,cat,cwv,cps,crs⟩⟩).2).commit_.phase_)::(.int .i64 ((jstep m ((k : Int) + 1) j ⟨1,tr,rv,at_,st,seen,busy,⟨pc,pp,pv,pl⟩,⟨cw,crv,cph,cat,cwv,cps,crs⟩⟩).2).commit_.at_)::(.int .i64 ((jstep m ((k : Int) + 1) j ⟨1,tr,rv,at_,st,seen,busy,⟨pc,pp,pv,pl⟩,⟨cw,crv,cph,cat,cwv,cps,crs⟩⟩).2).commit_.wv_)::(.slice B3 m3 e3)::(.slice B4 m4 e4)::[]))::.row 53 3 AH nh ch XH::.row 102 3 B1 m1 e1 (((jstep m ((k : Int) + 1) j ⟨1,tr,rv,at_,st,seen,busy,⟨pc,pp,pv,pl⟩,⟨cw,crv,cph,cat,cwv,cps,crs⟩⟩).1.cells_).flatMap Word.cells)::.row 97 2 B2 m2 e2 (((jstep m ((k : Int) + 1) j ⟨1,tr,rv,at_,st,seen,busy,⟨pc,pp,pv,pl⟩,⟨cw,crv,cph,cat,cwv,cps,crs⟩⟩).2.seen_).flatMap Row.cells)::.row 97 2 B3 m3 e3 (((jstep m ((k : Int) + 1) j ⟨1,tr,rv,at_,st,seen,busy,⟨pc,pp,pv,pl⟩,⟨cw,crv,cph,cat,cwv,cps,crs⟩⟩).2.commit_.puts_).flatMap Row.cells)::.row 3 1 B4 m4 e4 (ints ((jstep m ((k : Int) + 1) j ⟨1,tr,rv,at_,st,seen,busy,⟨pc,pp,pv,pl⟩,⟨cw,crv,cph,cat,cwv,cps,crs⟩⟩).2.commit_.reads_))::fr):=by
 have hl0 : j.reads_.length = n0:=h0.len
 have hl1 : j.puts_.length = n1:=h1.flen Row.cells_length (by omega)
 have H0:=Lib.hid h0
 have H1:=Lib.hid h1
 have M:=Lib.hid M1
 have HJC:=Lib.hid hJC
 have hk1 : (k : Int) < (nj : Int):=by omega
 obtain ⟨gJ,rfl⟩:=M1.addr 1 rfl (by omega)
 clear h0 h1 M1 hJC
 have HZ : Hid (jstep m ((k : Int) + 1) j ⟨1,tr,rv,at_,st,seen,busy,⟨pc,pp,pv,pl⟩,⟨cw,crv,cph,cat,cwv,cps,crs⟩⟩ = (m,⟨2,tr,rv,at_,st,seen,busy,⟨pc,pp,pv,pl⟩,cnew ((k : Int) + 1) rv j.puts_ seen⟩)):=by show _ = _;unfold jstep;simp [hz,hp]
 have ba : (at_ == (n0 : Int)) = true:=by simp;omega
 have bp : ((n1 : Int) == 0) = false:=by simp;omega
 clear hz hp
 go_enter Tryz.func36,Tryz.ntmps36
 go_wp2_with (first|(go_at_call 85;(with_reducible refine (impl_CommitNew ((k : Int) + 1) rv A1 n1 c1 j.puts_ As ns cs seen _ S1 (H1.out.ext M.out.ext) hn1 _ (M.out.row_sl 6 rfl) (by omega)).mono ?_);rintro e w' ⟨Bp,mp,dp,Br,mr,dr,bb,rfl,M9⟩;have M8:=M.out.call M9;replace M:=Lib.hid M8;clear M8 M9)|((with_reducible show wpList _ _ _ (⟨_,_,_,_,_,none⟩::_) _ _);first|(refine Mine.wp_box M.out rfl 72 _ rfl _ rfl ?_;intro gj w' M';(try simp only [zr_,zm_] at M');replace M:=Lib.hid M';clear M';(try simp only [zr_,zm_]))|((first|refine zG M.out 1 ?_|refine Mine.wp_getrs M.out rfl 68 _ rfl 2 _ rfl rfl (((.int .i64 1)::(.int .i64 tr)::(.int .i64 rv)::(.int .i64 at_)::(.int .i64 st)::(.slice As ns cs)::(.bool busy)::(.int .i64 pc)::(.int .i64 pp)::(.int .i64 pv)::(.int .i64 pl)::(.int .i64 cw)::(.int .i64 crv)::(.int .i64 cph)::(.int .i64 cat)::(.int .i64 cwv)::(.slice Ap np cp)::(.slice Ar nr cr)::[]) : List Value) HJC.out _ Tryz.underlying68 (by rfl) (by kernel_rfl) ?_|refine zG M.out 0 ?_);(try simp only [zr_,zm_]))|(refine Mine.wp_alloc M.out rfl 68 rfl (.agg (List.toArray ((.int .i64 0)::(.int .i64 0)::(.int .i64 0)::(.int .i64 0)::(.int .i64 0)::(.slice none 0 0)::(.bool false)::(.int .i64 0)::(.int .i64 0)::(.int .i64 0)::(.int .i64 0)::(.int .i64 0)::(.int .i64 0)::(.int .i64 0)::(.int .i64 0)::(.int .i64 0)::(.slice none 0 0)::(.slice none 0 0)::[]))) (by kernel_rfl) ?_;intro gx w' M';(try simp only [Value.cells,zr_,zm_] at M');replace M:=Lib.hid M';clear M';(try simp only [zr_,zm_]))|((first|refine zSs M.out 68 0 ?_|refine zSs M.out 64 2 ?_|refine zS M.out 2 ?_);intro w' M';(try simp only [zr_,zm_] at M');replace M:=Lib.hid M';clear M'))|((with_reducible show wpList _ _ _ (⟨_,.load _ _,_,_,_,some _⟩::_) _ _);first|((first|refine zGg M.out 0 ?_|refine zGg M.out 1 ?_);(try simp only [zr_,zm_]))))
 simp only [List.cons_append,List.nil_append] at M
 refine Mine.region_head M.out 6 (by kernel_rfl) (by kernel_rfl) ?_
 intro w' M'
 replace M:=Lib.hid M'
 clear M'
 refine zXT 0 ?_;(try simp only [zs_,zl_])
 refine zXT 1 ?_;(try simp only [zs_,zl_])
 refine zXT 2 ?_;(try simp only [zs_,zl_])
 refine zT 3 ?_;intro K hK;((refine zD 4 ?_;(try simp only [zr_,zm_]);go_big_quiet_on))
 refine zXT 4 ?_;(try simp only [zs_,zl_])
 refine zT 5 ?_;intro K hK;((refine zDs 68 2 18 ?_;(try simp only [zr_,zm_]);go_big_quiet_on))
 refine HQ.end_ (by kernel_rfl) ?_
 simp only [List.drop_succ_cons,List.drop_zero]
 go_wp2_with (((with_reducible show wpList _ _ _ (⟨_,_,_,_,_,none⟩::_) _ _);first|(refine Mine.wp_puts M.out rfl 68 _ _ rfl rfl 5 _ rfl rfl _ rfl (by simp only [List.length_cons,List.length_nil];omega) (by simp [Value.oneCell']) (by kernel_rfl) ?_;intro w' M';replace M:=Lib.hid M';clear M')))
 first|refine bodyPost_ret (v:=.tuple #[]) (by simp [results,Tryz.results36,go_sem]) rfl ?_|refine bodyPost_end (v:=.tuple #[]) (by simp [results,Tryz.results36,go_sem]) rfl ?_
 rw [HZ.out]
 replace M:=Lib.hid (M.out.sub (sk_ (sk_ (sd_ (sd_ (sk_ (sk_ (sk_ (sk_ (sk_ (sd_ (sd_ s1_))))))))))))
 replace M:=Lib.hid (M.out.perm (List.perm_middle (l₁:=[_])))
 simp only [List.cons_append,List.nil_append] at M
 replace M:=Lib.hid (M.out.perm (List.perm_middle (l₁:=[_])))
 simp only [List.cons_append,List.nil_append] at M
 replace M:=Lib.hid (M.out.perm (List.perm_middle (l₁:=[_,_,_,_,_,_])))
 simp only [List.cons_append,List.nil_append] at M
 replace M:=Lib.hid (M.out.perm (List.perm_middle (l₁:=[_,_,_,_,_,_])))
 simp only [List.cons_append,List.nil_append] at M
 replace M:=Lib.hid (M.out.perm (List.perm_middle (l₁:=[_,_,_,_,_,_])))
 simp only [List.cons_append,List.nil_append] at M
 replace M:=Lib.hid (M.out.perm (List.perm_middle (l₁:=[_,_,_,_,_,_])))
 simp only [List.cons_append,List.nil_append] at M
 replace M:=Lib.hid (M.out.perm (List.perm_middle (l₁:=[_,_,_,_,_,_])))
 simp only [List.cons_append,List.nil_append] at M
 exact ⟨_,_,_,_,_,_,_,_,_,_,_,_,rfl,M.out⟩

end Go.Proofs.YtpmfhfpjiebcjaaGreat
