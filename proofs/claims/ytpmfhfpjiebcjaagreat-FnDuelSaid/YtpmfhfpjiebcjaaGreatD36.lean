/- A step of a job in the program: a commit begins to store. No condition but lengths. -/
import Derived.Test.YtpmfhfpjiebcjaaGreatD00
import Derived.Test.YtpmfhfpjiebcjaaGreatD31
namespace Go.Proofs.YtpmfhfpjiebcjaaGreat
open Go.RowKit Go.Deep
set_option linter.unnecessarySimpa false
set_option linter.unusedSimpArgs false
set_option linter.unusedVariables false
set_option maxRecDepth 8000 in
set_option maxHeartbeats 16000000 in
theorem impl_k2e (m : Mem) (AM : Option Addr) (n cm : Nat) (k : Nat) (j : Job) (A0 : Option Addr) (n0 c0 : Nat) (A1 : Option Addr) (n1 c1 : Nat) (at_ : Int) (tr rv st : Int) (seen : List Row) (busy : Bool) (pc pp pv pl cw crv cph cat cwv : Int) (cps : List Row) (crs : List Int) (As : Option Addr) (ns cs : Nat) (Ap : Option Addr) (np cp : Nat) (Ar : Option Addr) (nr cr : Nat) (AJ : Option Addr) (nj cj : Nat) (AH : Option Addr) (nh ch : Nat) (gd : Nat) (XJ XH : List Value) (hk : k < nj) (hnj : nj ≤ 4) (hnh : nh ≤ 1000000) (hJC : ∀ q,q < (((.int .i64 2)::(.int .i64 tr)::(.int .i64 rv)::(.int .i64 at_)::(.int .i64 st)::(.slice As ns cs)::(.bool busy)::(.int .i64 pc)::(.int .i64 pp)::(.int .i64 pv)::(.int .i64 pl)::(.int .i64 cw)::(.int .i64 crv)::(.int .i64 cph)::(.int .i64 cat)::(.int .i64 cwv)::(.slice Ap np cp)::(.slice Ar nr cr)::[]) : List Value).length → XJ[k * 18 + q]? = (((.int .i64 2)::(.int .i64 tr)::(.int .i64 rv)::(.int .i64 at_)::(.int .i64 st)::(.slice As ns cs)::(.bool busy)::(.int .i64 pc)::(.int .i64 pp)::(.int .i64 pv)::(.int .i64 pl)::(.int .i64 cw)::(.int .i64 crv)::(.int .i64 cph)::(.int .i64 cat)::(.int .i64 cwv)::(.slice Ap np cp)::(.slice Ar nr cr)::[]) : List Value)[q]?) (b w : World) (fr : List Res) (S0 S1 : Nat → Prop) (h0 : Sl b S0 1 A0 n0 (ints j.reads_)) (hn0 : n0 ≤ 1048576) (h1 : Sl b S1 2 A1 n1 (j.puts_.flatMap Row.cells)) (hn1 : n1 ≤ 1048576) (hnM : n ≤ 1048576) (hns : ns ≤ 1000000) (hnp : np ≤ 1048576) (hnr : nr ≤ 1048576) (htr : 0 ≤ tr ∧ tr ≤ 1000000) (hat : 0 ≤ at_ ∧ at_ ≤ (n0 : Int)) (M1 : Mine b w (.box gd 31 #[.int .i64 m.clock_,.slice AM n cm,.slice AJ nj cj,.slice AH nh ch]::.row 68 18 AJ nj cj XJ::.row 53 3 AH nh ch XH::.row 102 3 AM n cm ((m.cells_).flatMap Word.cells)::.row 97 2 As ns cs ((seen).flatMap Row.cells)::.row 97 2 Ap np cp ((cps).flatMap Row.cells)::.row 3 1 Ar nr cr (ints (crs))::fr)) (hev : ((cph = 2 ∨ cph = 3) ∧ (cstepS m ⟨cw,crv,cph,cat,cwv,cps,crs⟩).ph = 4)) :
  Calls Tryz.prog 36 #[.pointer (some ⟨gd,0,none⟩),.int .i64 (k : Int),.agg #[.slice A0 n0 c0,.slice A1 n1 c1]] w fun e w' => ∃ B1 m1 e1 B2 m2 e2 B3 m3 e3 B4 m4 e4 B5 m5 e5 B6 m6 e6,e = .returned (.tuple #[]) ∧ Mine b w' (.row 97 2 B6 m6 e6 ((jstep m ((k : Int) + 1) j ⟨2,tr,rv,at_,st,seen,busy,⟨pc,pp,pv,pl⟩,⟨cw,crv,cph,cat,cwv,cps,crs⟩⟩).2.commit_.puts_.flatMap Row.cells)::.box gd 31 #[.int .i64 (jstep m ((k : Int) + 1) j ⟨2,tr,rv,at_,st,seen,busy,⟨pc,pp,pv,pl⟩,⟨cw,crv,cph,cat,cwv,cps,crs⟩⟩).1.clock_,.slice B1 m1 e1,.slice AJ nj cj,.slice B5 m5 e5]::.row 68 18 AJ nj cj (putAt XJ (k * 18) ((.int .i64 ((jstep m ((k : Int) + 1) j ⟨2,tr,rv,at_,st,seen,busy,⟨pc,pp,pv,pl⟩,⟨cw,crv,cph,cat,cwv,cps,crs⟩⟩).2).phase_)::(.int .i64 ((jstep m ((k : Int) + 1) j ⟨2,tr,rv,at_,st,seen,busy,⟨pc,pp,pv,pl⟩,⟨cw,crv,cph,cat,cwv,cps,crs⟩⟩).2).tries_)::(.int .i64 ((jstep m ((k : Int) + 1) j ⟨2,tr,rv,at_,st,seen,busy,⟨pc,pp,pv,pl⟩,⟨cw,crv,cph,cat,cwv,cps,crs⟩⟩).2).rv_)::(.int .i64 ((jstep m ((k : Int) + 1) j ⟨2,tr,rv,at_,st,seen,busy,⟨pc,pp,pv,pl⟩,⟨cw,crv,cph,cat,cwv,cps,crs⟩⟩).2).at_)::(.int .i64 ((jstep m ((k : Int) + 1) j ⟨2,tr,rv,at_,st,seen,busy,⟨pc,pp,pv,pl⟩,⟨cw,crv,cph,cat,cwv,cps,crs⟩⟩).2).stamp_)::(.slice B2 m2 e2)::(.bool ((jstep m ((k : Int) + 1) j ⟨2,tr,rv,at_,st,seen,busy,⟨pc,pp,pv,pl⟩,⟨cw,crv,cph,cat,cwv,cps,crs⟩⟩).2).busy_)::(.int .i64 ((jstep m ((k : Int) + 1) j ⟨2,tr,rv,at_,st,seen,busy,⟨pc,pp,pv,pl⟩,⟨cw,crv,cph,cat,cwv,cps,crs⟩⟩).2).probe_.cell_)::(.int .i64 ((jstep m ((k : Int) + 1) j ⟨2,tr,rv,at_,st,seen,busy,⟨pc,pp,pv,pl⟩,⟨cw,crv,cph,cat,cwv,cps,crs⟩⟩).2).probe_.phase_)::(.int .i64 ((jstep m ((k : Int) + 1) j ⟨2,tr,rv,at_,st,seen,busy,⟨pc,pp,pv,pl⟩,⟨cw,crv,cph,cat,cwv,cps,crs⟩⟩).2).probe_.ver_)::(.int .i64 ((jstep m ((k : Int) + 1) j ⟨2,tr,rv,at_,st,seen,busy,⟨pc,pp,pv,pl⟩,⟨cw,crv,cph,cat,cwv,cps,crs⟩⟩).2).probe_.val_)::(.int .i64 ((jstep m ((k : Int) + 1) j ⟨2,tr,rv,at_,st,seen,busy,⟨pc,pp,pv,pl⟩,⟨cw,crv,cph,cat,cwv,cps,crs⟩⟩).2).commit_.who_)::(.int .i64 ((jstep m ((k : Int) + 1) j ⟨2,tr,rv,at_,st,seen,busy,⟨pc,pp,pv,pl⟩,⟨cw,crv,cph,cat,cwv,cps,crs⟩⟩).2).commit_.rv_)::(.int .i64 ((jstep m ((k : Int) + 1) j ⟨2,tr,rv,at_,st,seen,busy,⟨pc,pp,pv,pl⟩,⟨cw,crv,cph,cat,cwv,cps,crs⟩⟩).2).commit_.phase_)::(.int .i64 ((jstep m ((k : Int) + 1) j ⟨2,tr,rv,at_,st,seen,busy,⟨pc,pp,pv,pl⟩,⟨cw,crv,cph,cat,cwv,cps,crs⟩⟩).2).commit_.at_)::(.int .i64 ((jstep m ((k : Int) + 1) j ⟨2,tr,rv,at_,st,seen,busy,⟨pc,pp,pv,pl⟩,⟨cw,crv,cph,cat,cwv,cps,crs⟩⟩).2).commit_.wv_)::(.slice B3 m3 e3)::(.slice B4 m4 e4)::[]))::.row 53 3 B5 m5 e5 (XH ++ [.int .i64 (jstep m ((k : Int) + 1) j ⟨2,tr,rv,at_,st,seen,busy,⟨pc,pp,pv,pl⟩,⟨cw,crv,cph,cat,cwv,cps,crs⟩⟩).2.commit_.wv_,.int .i64 cw,.slice B6 m6 e6])::.row 102 3 B1 m1 e1 (((jstep m ((k : Int) + 1) j ⟨2,tr,rv,at_,st,seen,busy,⟨pc,pp,pv,pl⟩,⟨cw,crv,cph,cat,cwv,cps,crs⟩⟩).1.cells_).flatMap Word.cells)::.row 97 2 B2 m2 e2 (((jstep m ((k : Int) + 1) j ⟨2,tr,rv,at_,st,seen,busy,⟨pc,pp,pv,pl⟩,⟨cw,crv,cph,cat,cwv,cps,crs⟩⟩).2.seen_).flatMap Row.cells)::.row 97 2 B3 m3 e3 (((jstep m ((k : Int) + 1) j ⟨2,tr,rv,at_,st,seen,busy,⟨pc,pp,pv,pl⟩,⟨cw,crv,cph,cat,cwv,cps,crs⟩⟩).2.commit_.puts_).flatMap Row.cells)::.row 3 1 B4 m4 e4 (ints ((jstep m ((k : Int) + 1) j ⟨2,tr,rv,at_,st,seen,busy,⟨pc,pp,pv,pl⟩,⟨cw,crv,cph,cat,cwv,cps,crs⟩⟩).2.commit_.reads_))::fr):=by
 have hl0 : j.reads_.length = n0:=h0.len
 have hl1 : j.puts_.length = n1:=h1.flen Row.cells_length (by omega)
 have H0:=Lib.hid h0
 have H1:=Lib.hid h1
 have M:=Lib.hid M1
 have HJC:=Lib.hid hJC
 have hk1 : (k : Int) < (nj : Int):=by omega
 obtain ⟨gJ,rfl⟩:=M1.addr 1 rfl (by omega)
 clear h0 h1 M1 hJC
 obtain ⟨zk,zx,zp,za,zw,hq⟩ : ∃ zk zx zp za zw,cstepS m ⟨cw,crv,cph,cat,cwv,cps,crs⟩ = ⟨zk,zx,zp,za,zw⟩:=⟨_,_,_,_,_,rfl⟩
 have HQQ:=Lib.hid hq
 rw [hq] at hev
 simp only at hev
 have HJ : jstep m ((k : Int) + 1) j ⟨2,tr,rv,at_,st,seen,busy,⟨pc,pp,pv,pl⟩,⟨cw,crv,cph,cat,cwv,cps,crs⟩⟩ = (⟨zk,zx⟩,jcommit m ⟨2,tr,rv,at_,st,seen,busy,⟨pc,pp,pv,pl⟩,⟨cw,crv,cph,cat,cwv,cps,crs⟩⟩):=by unfold jstep;simp [hq]
 obtain ⟨hw,rfl⟩:=hev
 have HZ : Hid (jstep m ((k : Int) + 1) j ⟨2,tr,rv,at_,st,seen,busy,⟨pc,pp,pv,pl⟩,⟨cw,crv,cph,cat,cwv,cps,crs⟩⟩ = (⟨zk,zx⟩,⟨2,tr,rv,at_,st,seen,busy,⟨pc,pp,pv,pl⟩,⟨cw,crv,4,za,zw,cps,crs⟩⟩)):=by
  show _ = _
  rw [HJ]
  unfold jcommit ccNew
  simp only [hq]
  simp
 clear HJ hq
 rcases hw with w2|w2
 ·have a2 : (cph == 2) = true:=by simp [w2]
  have HW2:=Lib.hid w2
  clear w2
  go_enter Tryz.func36,Tryz.ntmps36
  go_wp2_with (((with_reducible show wpList _ _ _ (⟨_,_,_,_,_,none⟩::_) _ _);first|(refine Mine.wp_box M.out rfl 72 _ rfl _ rfl ?_;intro gj w' M';(try simp only [zr_,zm_] at M');replace M:=Lib.hid M';clear M';(try simp only [zr_,zm_]))|((first|refine zG M.out 1 ?_|refine Mine.wp_getrs M.out rfl 68 _ rfl 2 _ rfl rfl (((.int .i64 2)::(.int .i64 tr)::(.int .i64 rv)::(.int .i64 at_)::(.int .i64 st)::(.slice As ns cs)::(.bool busy)::(.int .i64 pc)::(.int .i64 pp)::(.int .i64 pv)::(.int .i64 pl)::(.int .i64 cw)::(.int .i64 crv)::(.int .i64 cph)::(.int .i64 cat)::(.int .i64 cwv)::(.slice Ap np cp)::(.slice Ar nr cr)::[]) : List Value) HJC.out _ Tryz.underlying68 (by rfl) (by kernel_rfl) ?_|refine zG M.out 0 ?_);(try simp only [zr_,zm_]))|(refine Mine.wp_alloc M.out rfl 68 rfl (.agg (List.toArray ((.int .i64 0)::(.int .i64 0)::(.int .i64 0)::(.int .i64 0)::(.int .i64 0)::(.slice none 0 0)::(.bool false)::(.int .i64 0)::(.int .i64 0)::(.int .i64 0)::(.int .i64 0)::(.int .i64 0)::(.int .i64 0)::(.int .i64 0)::(.int .i64 0)::(.int .i64 0)::(.slice none 0 0)::(.slice none 0 0)::[]))) (by kernel_rfl) ?_;intro gx w' M';(try simp only [Value.cells,zr_,zm_] at M');replace M:=Lib.hid M';clear M';(try simp only [zr_,zm_]))|(refine zSs M.out 68 0 ?_;intro w' M';(try simp only [zr_,zm_] at M');replace M:=Lib.hid M';clear M')))
  have MT:=Lib.hid (M.out.sub (sd_ (sk_ (sd_ (sk_ (sk_ (sk_ (sk_ (sk_ (sk_ s1_))))))))))
  refine Mine.region_allS MT.out M.out 16 (by kernel_rfl) rfl ?_
  intro w' M'
  replace M:=Lib.hid M'
  clear M'
  clear MT
  refine zXA 0 ?_;(try simp only [zs_,zl_])
  refine zXA 1 ?_;(try simp only [zs_,zl_])
  refine zXA 2 ?_;(try simp only [zs_,zl_])
  refine zXA 3 ?_;(try simp only [zs_,zl_])
  refine zXA 5 ?_;(try simp only [zs_,zl_])
  refine HA.noisy (rs:=[4,6]) (by kernel_rfl) (by simp) (AllA.cons rfl (Nat.le_of_ble_eq_true rfl) (fun K hK => ?_) (AllA.cons rfl (Nat.le_of_ble_eq_true rfl) (fun K hK => ?_) AllA.nil))
  refine Mine.step_gets M.out (by rfl) 27 _ (by rfl) 2 _ 2 (by rfl) (by rfl) (Nat.le_of_ble_eq_true rfl) _ Tryz.underlying27 (by rfl) (by kernel_rfl) ?_
  (try simp only [zr_,zm_])
  refine hK.out _ _ (M.out.sub (sd_ (sk_ (sd_ (sk_ (sk_ (sk_ (sk_ (sk_ (sk_ s1_)))))))))) ?_
  clear hK K
  (try simp only [zs_,zl_])
  refine HA.noisy (rs:=[6]) (by kernel_rfl) (by simp) (AllA.cons rfl (Nat.le_of_ble_eq_true rfl) (fun K hK => ?_) AllA.nil)
  refine Mine.step_gets M.out (by rfl) 64 _ (by rfl) 0 _ 7 (by rfl) (by rfl) (Nat.le_of_ble_eq_true rfl) _ Tryz.underlying64 (by rfl) (by kernel_rfl) ?_
  (try simp only [zr_,zm_])
  refine hK.out _ _ (M.out.sub (sd_ (sk_ (sd_ (sk_ (sk_ (sk_ (sk_ (sk_ (sk_ s1_)))))))))) ?_
  clear hK K
  (try simp only [zs_,zl_])
  rotate_left
  refine Mine.step_gets M.out (by rfl) 64 _ (by rfl) 0 _ 7 (by rfl) (by rfl) (Nat.le_of_ble_eq_true rfl) _ Tryz.underlying64 (by rfl) (by kernel_rfl) ?_
  (try simp only [zr_,zm_])
  refine hK.out _ _ (M.out.sub (sd_ (sk_ (sd_ (sk_ (sk_ (sk_ (sk_ (sk_ (sk_ s1_)))))))))) ?_
  clear hK K
  (try simp only [zs_,zl_])
  refine HA.noisy (rs:=[4]) (by kernel_rfl) (by simp) (AllA.cons rfl (Nat.le_of_ble_eq_true rfl) (fun K hK => ?_) AllA.nil)
  refine Mine.step_gets M.out (by rfl) 27 _ (by rfl) 2 _ 2 (by rfl) (by rfl) (Nat.le_of_ble_eq_true rfl) _ Tryz.underlying27 (by rfl) (by kernel_rfl) ?_
  (try simp only [zr_,zm_])
  refine hK.out _ _ (M.out.sub (sd_ (sk_ (sd_ (sk_ (sk_ (sk_ (sk_ (sk_ (sk_ s1_)))))))))) ?_
  clear hK K
  (try simp only [zs_,zl_])
  rotate_left
  all_goals (
   refine HA.noisy (rs:=[7]) (by kernel_rfl) (by simp) (AllA.cons rfl (Nat.le_of_ble_eq_true rfl) (fun K hK => ?_) AllA.nil)
   go_simp
   go_at_call 89
   refine (impl_CommitStep_is m AM n cm cw crv cwv cph cat cps crs Ap np cp Ar nr cr _ _ (M.out.row_sl 5 rfl) hnM _ (M.out.row_sl 7 rfl) hnp _ (M.out.row_sl 8 rfl) hnr _ _ _ _ _ HQQ.out).mono ?_
   rintro e w5 ⟨Bm,dm,Bp,dp,Br,dr,rfl,M4⟩
   replace M:=Lib.hid (M.out.call M4)
   simp only [List.cons_append,List.nil_append] at M
   clear M4
   refine hK.out _ _ (M.out.sub (sd_ (sd_ (sd_ (sd_ (sk_ (sd_ (sk_ (sk_ (sk_ (sk_ (sk_ (sk_ s1_))))))))))))) ?_
   clear hK K
   (try simp only [zs_,zl_])
   refine zXA 8 ?_;(try simp only [zs_,zl_])
   refine zXA 9 ?_;(try simp only [zs_,zl_])
   refine zXA 10 ?_;(try simp only [zs_,zl_])
   refine zXA 11 ?_;(try simp only [zs_,zl_])
   refine zXA 12 ?_;(try simp only [zs_,zl_])
   refine HA.noisy (rs:=[13]) (by kernel_rfl) (by simp) (AllA.cons rfl (Nat.le_of_ble_eq_true rfl) (fun K hK => ?_) AllA.nil)
   refine Mine.step_sets M.out (by rfl) 27 _ _ (by rfl) (by rfl) 5 _ (by rfl) (by rfl) _ (by rfl) (Nat.le_of_ble_eq_true rfl) (by simp [Value.oneCell']) (by kernel_rfl) ?_
   intro w' M'
   simp only [zr_,zm_] at M'
   replace M:=Lib.hid M'
   clear M'
   refine hK.out _ _ (M.out.sub (sd_ (sd_ (sd_ (sd_ (sk_ (sd_ (sk_ (sk_ (sk_ (sk_ (sk_ (sk_ s1_))))))))))))) ?_
   clear hK K
   (try simp only [zs_,zl_])
   refine zXA 14 ?_;(try simp only [zs_,zl_])
   refine HA.noisy (rs:=[15]) (by kernel_rfl) (by simp) (AllA.cons rfl (Nat.le_of_ble_eq_true rfl) (fun K hK => ?_) AllA.nil)
   refine Mine.step_sets M.out (by rfl) 64 _ _ (by rfl) (by rfl) 3 _ (by rfl) (by rfl) _ (by rfl) (Nat.le_of_ble_eq_true rfl) (by simp [Value.oneCell']) (by kernel_rfl) ?_
   intro w' M'
   simp only [zr_,zm_] at M'
   replace M:=Lib.hid M'
   clear M'
   refine hK.out _ _ (M.out.sub (sd_ (sd_ (sd_ (sd_ (sk_ (sd_ (sk_ (sk_ (sk_ (sk_ (sk_ (sk_ s1_))))))))))))) ?_
   clear hK K
   (try simp only [zs_,zl_])
   refine HA.end_ (by kernel_rfl) ?_
   go_wp2_with (first|((with_reducible show wpList _ _ _ (⟨_,_,_,_,_,none⟩::_) _ _);first|(refine zGs M.out 64 3 7 ?_;(try simp only [zr_,zm_]))|(refine Mine.wp_alloc M.out rfl 64 rfl (.agg #[.int .i64 0,.int .i64 0,.int .i64 0,.int .i64 0,.int .i64 0,.slice none 0 0,.slice none 0 0]) (by kernel_rfl) ?_;intro gc w' M';(try simp only [Value.cells,zr_,zm_] at M');replace M:=Lib.hid M';clear M';(try simp only [zr_,zm_]))|(refine zSs M.out 64 0 ?_;intro w' M';(try simp only [zr_,zm_] at M');replace M:=Lib.hid M';clear M'))|((with_reducible show wpList _ _ _ (⟨_,.load _ _,_,_,_,some _⟩::_) _ _);first|(refine zGg M.out 0 ?_;(try simp only [zr_,zm_]))))
   have MT:=Lib.hid (M.out.sub (sk_ (sk_ (sk_ (sk_ (sk_ (sk_ (sk_ (sk_ (sd_ (sk_ (sk_ (sk_ (sk_ s1_))))))))))))))
   refine Mine.region_headS MT.out M.out 15 (by kernel_rfl) (by kernel_rfl) ?_
   intro w' M'
   replace M:=Lib.hid M'
   clear M'
   clear MT
   refine zXT 0 ?_;(try simp only [zs_,zl_])
   refine zXT 1 ?_;(try simp only [zs_,zl_])
   refine zXT 2 ?_;(try simp only [zs_,zl_])
   refine zXT 3 ?_;(try simp only [zs_,zl_])
   refine zT 4 ?_;intro K hK;((refine zD 6 ?_;(try simp only [zr_,zm_]);go_big_quiet_on))
   refine zXT 5 ?_;(try simp only [zs_,zl_])
   refine zT 6 ?_;intro K hK;((refine zD 0 ?_;(try simp only [zr_,zm_]);go_big_quiet_on))
   refine zXT 7 ?_;(try simp only [zs_,zl_])
   refine zT 8 ?_;intro K hK;((refine zD 0 ?_;(try simp only [zr_,zm_]);go_big_quiet_on))
   refine zXT 9 ?_;(try simp only [zs_,zl_])
   refine zT 10 ?_;intro K hK;((refine zD 0 ?_;(try simp only [zr_,zm_]);go_big_quiet_on))
   refine HQ.noisy (rs:=[11]) (by kernel_rfl) (by simp) (AllG.cons rfl (Nat.le_of_ble_eq_true rfl) (fun K hK => ?_) AllG.nil)
   go_simp
   go_at_call 90
   refine (copyRows_own _ np dp cps _ _ (M.out.row_sl 2 rfl) hnp).mono ?_
   rintro e w6 ⟨B6,e6,rfl,o6,x6⟩
   replace M:=Lib.hid (M.out.own o6 x6)
   clear o6 x6
   refine hK.out _ _ (M.out.sub (sd_ (sk_ (sk_ (sk_ (sk_ (sk_ (sk_ (sk_ (sk_ (sd_ (sk_ (sk_ (sk_ (sk_ s1_))))))))))))))) ?_
   clear hK K
   (try simp only [zs_,zl_])
   refine zXL 12 ?_;(try simp only [zs_,zl_])
   refine HQ.noisy (rs:=[13]) (by kernel_rfl) (by simp) (AllG.cons rfl (Nat.le_of_ble_eq_true rfl) (fun K hK => ?_) AllG.nil)
   go_simp
   refine hK.out _ _ ((M.out.sub (sd_ (sk_ (sk_ (sk_ (sk_ (sk_ (sk_ (sk_ (sk_ (sd_ (sk_ (sk_ (sk_ (sk_ s1_))))))))))))))).al _) ?_
   clear hK K
   (try simp only [zs_,zl_])
   refine HQ.noisy (rs:=[14]) (by kernel_rfl) (by simp) (AllG.cons rfl (Nat.le_of_ble_eq_true rfl) (fun K hK => ?_) AllG.nil)
   refine Mine.step_push M.out (by rfl) _ _ _ (by rfl) 53 _ _ _ Tryz.underlying29 Tryz.infoWrote rfl (by omega) 9 (by rfl) (by rfl) [.int .i64 zw,.int .i64 cw,.slice B6 np e6] _ (by rfl) (by rfl) (by rfl) (by simp [Value.oneCell']) (by omega) (by unfold maxLen;omega) ?_
   intro A2 c2 w' M'
   simp only [zr_,zm_] at M'
   replace M:=Lib.hid M'
   clear M'
   refine hK.out _ _ (M.out.sub (sd_ (sk_ (sk_ (sk_ (sk_ (sk_ (sk_ (sk_ (sk_ (sd_ (sk_ (sk_ (sk_ (sk_ s1_))))))))))))))) ?_
   clear hK K
   (try simp only [zs_,zl_])
   refine HQ.end_ (by kernel_rfl) ?_
   simp only [List.drop_succ_cons,List.drop_zero]
   go_wp2_with (((with_reducible show wpList _ _ _ (⟨_,_,_,_,_,none⟩::_) _ _);first|(refine zS M.out 7 ?_;intro w' M';(try simp only [zr_,zm_] at M');replace M:=Lib.hid M';clear M')|(refine zG M.out 1 ?_;(try simp only [zr_,zm_]))))
   refine Mine.region_head M.out 6 (by kernel_rfl) (by kernel_rfl) ?_
   intro w' M'
   replace M:=Lib.hid M'
   clear M'
   refine zXT 0 ?_;(try simp only [zs_,zl_])
   refine zXT 1 ?_;(try simp only [zs_,zl_])
   refine zXT 2 ?_;(try simp only [zs_,zl_])
   refine zT 3 ?_;intro K hK;((refine zD 7 ?_;(try simp only [zr_,zm_]);go_big_quiet_on))
   refine zXT 4 ?_;(try simp only [zs_,zl_])
   refine zT 5 ?_;intro K hK;((refine zDs 68 5 18 ?_;(try simp only [zr_,zm_]);go_big_quiet_on))
   refine HQ.end_ (by kernel_rfl) ?_
   simp only [List.drop_succ_cons,List.drop_zero]
   go_wp2_with (((with_reducible show wpList _ _ _ (⟨_,_,_,_,_,none⟩::_) _ _);first|(refine Mine.wp_puts M.out rfl 68 _ _ rfl rfl 8 _ rfl rfl _ rfl (by simp only [List.length_cons,List.length_nil];omega) (by simp [Value.oneCell']) (by kernel_rfl) ?_;intro w' M';replace M:=Lib.hid M';clear M')))
   first|refine bodyPost_ret (v:=.tuple #[]) (by simp [results,Tryz.results36,go_sem]) rfl ?_|refine bodyPost_end (v:=.tuple #[]) (by simp [results,Tryz.results36,go_sem]) rfl ?_
   rw [HZ.out]
   replace M:=Lib.hid (M.out.sub (sk_ (sd_ (sk_ (sk_ (sk_ (sd_ (sd_ (sk_ (sk_ (sk_ (sd_ (sk_ (sd_ (sd_ s1_)))))))))))))))
   replace M:=Lib.hid (M.out.perm (List.perm_middle (l₁:=[_,_,_])))
   simp only [List.cons_append,List.nil_append] at M
   replace M:=Lib.hid (M.out.perm (List.perm_middle (l₁:=[_,_,_])))
   simp only [List.cons_append,List.nil_append] at M
   replace M:=Lib.hid (M.out.perm (List.perm_middle (l₁:=[_,_,_,_,_,_,_])))
   simp only [List.cons_append,List.nil_append] at M
   replace M:=Lib.hid (M.out.perm (List.perm_middle (l₁:=[_,_,_,_])))
   simp only [List.cons_append,List.nil_append] at M
   replace M:=Lib.hid (M.out.perm (List.perm_middle (l₁:=[_,_,_,_,_,_,_])))
   simp only [List.cons_append,List.nil_append] at M
   replace M:=Lib.hid (M.out.perm (List.perm_middle (l₁:=[_,_,_,_,_,_,_])))
   simp only [List.cons_append,List.nil_append] at M
   replace M:=Lib.hid (M.out.perm (List.perm_middle (l₁:=[_,_,_,_,_,_,_])))
   simp only [List.cons_append,List.nil_append] at M
   replace M:=Lib.hid (M.out.perm (List.perm_middle (l₁:=[_,_,_,_,_,_,_])))
   simp only [List.cons_append,List.nil_append] at M
   exact ⟨_,_,_,_,_,_,_,_,_,_,_,_,_,_,_,_,_,_,rfl,M.out⟩
   )
 have a2 : (cph == 2) = false:=by simp [w2]
 have a3 : (cph == 3) = true:=by simp [w2]
 have HW2:=Lib.hid w2
 clear w2
 go_enter Tryz.func36,Tryz.ntmps36
 go_wp2_with (((with_reducible show wpList _ _ _ (⟨_,_,_,_,_,none⟩::_) _ _);first|(refine Mine.wp_box M.out rfl 72 _ rfl _ rfl ?_;intro gj w' M';(try simp only [zr_,zm_] at M');replace M:=Lib.hid M';clear M';(try simp only [zr_,zm_]))|((first|refine zG M.out 1 ?_|refine Mine.wp_getrs M.out rfl 68 _ rfl 2 _ rfl rfl (((.int .i64 2)::(.int .i64 tr)::(.int .i64 rv)::(.int .i64 at_)::(.int .i64 st)::(.slice As ns cs)::(.bool busy)::(.int .i64 pc)::(.int .i64 pp)::(.int .i64 pv)::(.int .i64 pl)::(.int .i64 cw)::(.int .i64 crv)::(.int .i64 cph)::(.int .i64 cat)::(.int .i64 cwv)::(.slice Ap np cp)::(.slice Ar nr cr)::[]) : List Value) HJC.out _ Tryz.underlying68 (by rfl) (by kernel_rfl) ?_|refine zG M.out 0 ?_);(try simp only [zr_,zm_]))|(refine Mine.wp_alloc M.out rfl 68 rfl (.agg (List.toArray ((.int .i64 0)::(.int .i64 0)::(.int .i64 0)::(.int .i64 0)::(.int .i64 0)::(.slice none 0 0)::(.bool false)::(.int .i64 0)::(.int .i64 0)::(.int .i64 0)::(.int .i64 0)::(.int .i64 0)::(.int .i64 0)::(.int .i64 0)::(.int .i64 0)::(.int .i64 0)::(.slice none 0 0)::(.slice none 0 0)::[]))) (by kernel_rfl) ?_;intro gx w' M';(try simp only [Value.cells,zr_,zm_] at M');replace M:=Lib.hid M';clear M';(try simp only [zr_,zm_]))|(refine zSs M.out 68 0 ?_;intro w' M';(try simp only [zr_,zm_] at M');replace M:=Lib.hid M';clear M')))
 have MT:=Lib.hid (M.out.sub (sd_ (sk_ (sd_ (sk_ (sk_ (sk_ (sk_ (sk_ (sk_ s1_))))))))))
 refine Mine.region_allS MT.out M.out 16 (by kernel_rfl) rfl ?_
 intro w' M'
 replace M:=Lib.hid M'
 clear M'
 clear MT
 refine zXA 0 ?_;(try simp only [zs_,zl_])
 refine zXA 1 ?_;(try simp only [zs_,zl_])
 refine zXA 2 ?_;(try simp only [zs_,zl_])
 refine zXA 3 ?_;(try simp only [zs_,zl_])
 refine zXA 5 ?_;(try simp only [zs_,zl_])
 refine HA.noisy (rs:=[4,6]) (by kernel_rfl) (by simp) (AllA.cons rfl (Nat.le_of_ble_eq_true rfl) (fun K hK => ?_) (AllA.cons rfl (Nat.le_of_ble_eq_true rfl) (fun K hK => ?_) AllA.nil))
 refine Mine.step_gets M.out (by rfl) 27 _ (by rfl) 2 _ 2 (by rfl) (by rfl) (Nat.le_of_ble_eq_true rfl) _ Tryz.underlying27 (by rfl) (by kernel_rfl) ?_
 (try simp only [zr_,zm_])
 refine hK.out _ _ (M.out.sub (sd_ (sk_ (sd_ (sk_ (sk_ (sk_ (sk_ (sk_ (sk_ s1_)))))))))) ?_
 clear hK K
 (try simp only [zs_,zl_])
 refine HA.noisy (rs:=[6]) (by kernel_rfl) (by simp) (AllA.cons rfl (Nat.le_of_ble_eq_true rfl) (fun K hK => ?_) AllA.nil)
 refine Mine.step_gets M.out (by rfl) 64 _ (by rfl) 0 _ 7 (by rfl) (by rfl) (Nat.le_of_ble_eq_true rfl) _ Tryz.underlying64 (by rfl) (by kernel_rfl) ?_
 (try simp only [zr_,zm_])
 refine hK.out _ _ (M.out.sub (sd_ (sk_ (sd_ (sk_ (sk_ (sk_ (sk_ (sk_ (sk_ s1_)))))))))) ?_
 clear hK K
 (try simp only [zs_,zl_])
 rotate_left
 refine Mine.step_gets M.out (by rfl) 64 _ (by rfl) 0 _ 7 (by rfl) (by rfl) (Nat.le_of_ble_eq_true rfl) _ Tryz.underlying64 (by rfl) (by kernel_rfl) ?_
 (try simp only [zr_,zm_])
 refine hK.out _ _ (M.out.sub (sd_ (sk_ (sd_ (sk_ (sk_ (sk_ (sk_ (sk_ (sk_ s1_)))))))))) ?_
 clear hK K
 (try simp only [zs_,zl_])
 refine HA.noisy (rs:=[4]) (by kernel_rfl) (by simp) (AllA.cons rfl (Nat.le_of_ble_eq_true rfl) (fun K hK => ?_) AllA.nil)
 refine Mine.step_gets M.out (by rfl) 27 _ (by rfl) 2 _ 2 (by rfl) (by rfl) (Nat.le_of_ble_eq_true rfl) _ Tryz.underlying27 (by rfl) (by kernel_rfl) ?_
 (try simp only [zr_,zm_])
 refine hK.out _ _ (M.out.sub (sd_ (sk_ (sd_ (sk_ (sk_ (sk_ (sk_ (sk_ (sk_ s1_)))))))))) ?_
 clear hK K
 (try simp only [zs_,zl_])
 rotate_left
 all_goals (
  refine HA.noisy (rs:=[7]) (by kernel_rfl) (by simp) (AllA.cons rfl (Nat.le_of_ble_eq_true rfl) (fun K hK => ?_) AllA.nil)
  go_simp
  go_at_call 89
  refine (impl_CommitStep_is m AM n cm cw crv cwv cph cat cps crs Ap np cp Ar nr cr _ _ (M.out.row_sl 5 rfl) hnM _ (M.out.row_sl 7 rfl) hnp _ (M.out.row_sl 8 rfl) hnr _ _ _ _ _ HQQ.out).mono ?_
  rintro e w5 ⟨Bm,dm,Bp,dp,Br,dr,rfl,M4⟩
  replace M:=Lib.hid (M.out.call M4)
  simp only [List.cons_append,List.nil_append] at M
  clear M4
  refine hK.out _ _ (M.out.sub (sd_ (sd_ (sd_ (sd_ (sk_ (sd_ (sk_ (sk_ (sk_ (sk_ (sk_ (sk_ s1_))))))))))))) ?_
  clear hK K
  (try simp only [zs_,zl_])
  refine zXA 8 ?_;(try simp only [zs_,zl_])
  refine zXA 9 ?_;(try simp only [zs_,zl_])
  refine zXA 10 ?_;(try simp only [zs_,zl_])
  refine zXA 11 ?_;(try simp only [zs_,zl_])
  refine zXA 12 ?_;(try simp only [zs_,zl_])
  refine HA.noisy (rs:=[13]) (by kernel_rfl) (by simp) (AllA.cons rfl (Nat.le_of_ble_eq_true rfl) (fun K hK => ?_) AllA.nil)
  refine Mine.step_sets M.out (by rfl) 27 _ _ (by rfl) (by rfl) 5 _ (by rfl) (by rfl) _ (by rfl) (Nat.le_of_ble_eq_true rfl) (by simp [Value.oneCell']) (by kernel_rfl) ?_
  intro w' M'
  simp only [zr_,zm_] at M'
  replace M:=Lib.hid M'
  clear M'
  refine hK.out _ _ (M.out.sub (sd_ (sd_ (sd_ (sd_ (sk_ (sd_ (sk_ (sk_ (sk_ (sk_ (sk_ (sk_ s1_))))))))))))) ?_
  clear hK K
  (try simp only [zs_,zl_])
  refine zXA 14 ?_;(try simp only [zs_,zl_])
  refine HA.noisy (rs:=[15]) (by kernel_rfl) (by simp) (AllA.cons rfl (Nat.le_of_ble_eq_true rfl) (fun K hK => ?_) AllA.nil)
  refine Mine.step_sets M.out (by rfl) 64 _ _ (by rfl) (by rfl) 3 _ (by rfl) (by rfl) _ (by rfl) (Nat.le_of_ble_eq_true rfl) (by simp [Value.oneCell']) (by kernel_rfl) ?_
  intro w' M'
  simp only [zr_,zm_] at M'
  replace M:=Lib.hid M'
  clear M'
  refine hK.out _ _ (M.out.sub (sd_ (sd_ (sd_ (sd_ (sk_ (sd_ (sk_ (sk_ (sk_ (sk_ (sk_ (sk_ s1_))))))))))))) ?_
  clear hK K
  (try simp only [zs_,zl_])
  refine HA.end_ (by kernel_rfl) ?_
  go_wp2_with (first|((with_reducible show wpList _ _ _ (⟨_,_,_,_,_,none⟩::_) _ _);first|(refine zGs M.out 64 3 7 ?_;(try simp only [zr_,zm_]))|(refine Mine.wp_alloc M.out rfl 64 rfl (.agg #[.int .i64 0,.int .i64 0,.int .i64 0,.int .i64 0,.int .i64 0,.slice none 0 0,.slice none 0 0]) (by kernel_rfl) ?_;intro gc w' M';(try simp only [Value.cells,zr_,zm_] at M');replace M:=Lib.hid M';clear M';(try simp only [zr_,zm_]))|(refine zSs M.out 64 0 ?_;intro w' M';(try simp only [zr_,zm_] at M');replace M:=Lib.hid M';clear M'))|((with_reducible show wpList _ _ _ (⟨_,.load _ _,_,_,_,some _⟩::_) _ _);first|(refine zGg M.out 0 ?_;(try simp only [zr_,zm_]))))
  have MT:=Lib.hid (M.out.sub (sk_ (sk_ (sk_ (sk_ (sk_ (sk_ (sk_ (sk_ (sd_ (sk_ (sk_ (sk_ (sk_ s1_))))))))))))))
  refine Mine.region_headS MT.out M.out 15 (by kernel_rfl) (by kernel_rfl) ?_
  intro w' M'
  replace M:=Lib.hid M'
  clear M'
  clear MT
  refine zXT 0 ?_;(try simp only [zs_,zl_])
  refine zXT 1 ?_;(try simp only [zs_,zl_])
  refine zXT 2 ?_;(try simp only [zs_,zl_])
  refine zXT 3 ?_;(try simp only [zs_,zl_])
  refine zT 4 ?_;intro K hK;((refine zD 6 ?_;(try simp only [zr_,zm_]);go_big_quiet_on))
  refine zXT 5 ?_;(try simp only [zs_,zl_])
  refine zT 6 ?_;intro K hK;((refine zD 0 ?_;(try simp only [zr_,zm_]);go_big_quiet_on))
  refine zXT 7 ?_;(try simp only [zs_,zl_])
  refine zT 8 ?_;intro K hK;((refine zD 0 ?_;(try simp only [zr_,zm_]);go_big_quiet_on))
  refine zXT 9 ?_;(try simp only [zs_,zl_])
  refine zT 10 ?_;intro K hK;((refine zD 0 ?_;(try simp only [zr_,zm_]);go_big_quiet_on))
  refine HQ.noisy (rs:=[11]) (by kernel_rfl) (by simp) (AllG.cons rfl (Nat.le_of_ble_eq_true rfl) (fun K hK => ?_) AllG.nil)
  go_simp
  go_at_call 90
  refine (copyRows_own _ np dp cps _ _ (M.out.row_sl 2 rfl) hnp).mono ?_
  rintro e w6 ⟨B6,e6,rfl,o6,x6⟩
  replace M:=Lib.hid (M.out.own o6 x6)
  clear o6 x6
  refine hK.out _ _ (M.out.sub (sd_ (sk_ (sk_ (sk_ (sk_ (sk_ (sk_ (sk_ (sk_ (sd_ (sk_ (sk_ (sk_ (sk_ s1_))))))))))))))) ?_
  clear hK K
  (try simp only [zs_,zl_])
  refine zXL 12 ?_;(try simp only [zs_,zl_])
  refine HQ.noisy (rs:=[13]) (by kernel_rfl) (by simp) (AllG.cons rfl (Nat.le_of_ble_eq_true rfl) (fun K hK => ?_) AllG.nil)
  go_simp
  refine hK.out _ _ ((M.out.sub (sd_ (sk_ (sk_ (sk_ (sk_ (sk_ (sk_ (sk_ (sk_ (sd_ (sk_ (sk_ (sk_ (sk_ s1_))))))))))))))).al _) ?_
  clear hK K
  (try simp only [zs_,zl_])
  refine HQ.noisy (rs:=[14]) (by kernel_rfl) (by simp) (AllG.cons rfl (Nat.le_of_ble_eq_true rfl) (fun K hK => ?_) AllG.nil)
  refine Mine.step_push M.out (by rfl) _ _ _ (by rfl) 53 _ _ _ Tryz.underlying29 Tryz.infoWrote rfl (by omega) 9 (by rfl) (by rfl) [.int .i64 zw,.int .i64 cw,.slice B6 np e6] _ (by rfl) (by rfl) (by rfl) (by simp [Value.oneCell']) (by omega) (by unfold maxLen;omega) ?_
  intro A2 c2 w' M'
  simp only [zr_,zm_] at M'
  replace M:=Lib.hid M'
  clear M'
  refine hK.out _ _ (M.out.sub (sd_ (sk_ (sk_ (sk_ (sk_ (sk_ (sk_ (sk_ (sk_ (sd_ (sk_ (sk_ (sk_ (sk_ s1_))))))))))))))) ?_
  clear hK K
  (try simp only [zs_,zl_])
  refine HQ.end_ (by kernel_rfl) ?_
  simp only [List.drop_succ_cons,List.drop_zero]
  go_wp2_with (((with_reducible show wpList _ _ _ (⟨_,_,_,_,_,none⟩::_) _ _);first|(refine zS M.out 7 ?_;intro w' M';(try simp only [zr_,zm_] at M');replace M:=Lib.hid M';clear M')|(refine zG M.out 1 ?_;(try simp only [zr_,zm_]))))
  refine Mine.region_head M.out 6 (by kernel_rfl) (by kernel_rfl) ?_
  intro w' M'
  replace M:=Lib.hid M'
  clear M'
  refine zXT 0 ?_;(try simp only [zs_,zl_])
  refine zXT 1 ?_;(try simp only [zs_,zl_])
  refine zXT 2 ?_;(try simp only [zs_,zl_])
  refine zT 3 ?_;intro K hK;((refine zD 7 ?_;(try simp only [zr_,zm_]);go_big_quiet_on))
  refine zXT 4 ?_;(try simp only [zs_,zl_])
  refine zT 5 ?_;intro K hK;((refine zDs 68 5 18 ?_;(try simp only [zr_,zm_]);go_big_quiet_on))
  refine HQ.end_ (by kernel_rfl) ?_
  simp only [List.drop_succ_cons,List.drop_zero]
  go_wp2_with (((with_reducible show wpList _ _ _ (⟨_,_,_,_,_,none⟩::_) _ _);first|(refine Mine.wp_puts M.out rfl 68 _ _ rfl rfl 8 _ rfl rfl _ rfl (by simp only [List.length_cons,List.length_nil];omega) (by simp [Value.oneCell']) (by kernel_rfl) ?_;intro w' M';replace M:=Lib.hid M';clear M')))
  first|refine bodyPost_ret (v:=.tuple #[]) (by simp [results,Tryz.results36,go_sem]) rfl ?_|refine bodyPost_end (v:=.tuple #[]) (by simp [results,Tryz.results36,go_sem]) rfl ?_
  rw [HZ.out]
  replace M:=Lib.hid (M.out.sub (sk_ (sd_ (sk_ (sk_ (sk_ (sd_ (sd_ (sk_ (sk_ (sk_ (sd_ (sk_ (sd_ (sd_ s1_)))))))))))))))
  replace M:=Lib.hid (M.out.perm (List.perm_middle (l₁:=[_,_,_])))
  simp only [List.cons_append,List.nil_append] at M
  replace M:=Lib.hid (M.out.perm (List.perm_middle (l₁:=[_,_,_])))
  simp only [List.cons_append,List.nil_append] at M
  replace M:=Lib.hid (M.out.perm (List.perm_middle (l₁:=[_,_,_,_,_,_,_])))
  simp only [List.cons_append,List.nil_append] at M
  replace M:=Lib.hid (M.out.perm (List.perm_middle (l₁:=[_,_,_,_])))
  simp only [List.cons_append,List.nil_append] at M
  replace M:=Lib.hid (M.out.perm (List.perm_middle (l₁:=[_,_,_,_,_,_,_])))
  simp only [List.cons_append,List.nil_append] at M
  replace M:=Lib.hid (M.out.perm (List.perm_middle (l₁:=[_,_,_,_,_,_,_])))
  simp only [List.cons_append,List.nil_append] at M
  replace M:=Lib.hid (M.out.perm (List.perm_middle (l₁:=[_,_,_,_,_,_,_])))
  simp only [List.cons_append,List.nil_append] at M
  replace M:=Lib.hid (M.out.perm (List.perm_middle (l₁:=[_,_,_,_,_,_,_])))
  simp only [List.cons_append,List.nil_append] at M
  exact ⟨_,_,_,_,_,_,_,_,_,_,_,_,_,_,_,_,_,_,rfl,M.out⟩
  )

end Go.Proofs.YtpmfhfpjiebcjaaGreat
