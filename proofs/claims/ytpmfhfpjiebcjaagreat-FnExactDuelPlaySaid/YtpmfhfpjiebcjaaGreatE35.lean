/- A step of a job in the reference: a read. No condition but lengths. -/
import Derived.Test.YtpmfhfpjiebcjaaGreatE00
import Derived.Test.YtpmfhfpjiebcjaaGreatE34
namespace Go.Proofs.YtpmfhfpjiebcjaaGreat
open Go.RowKit Go.Deep
set_option linter.unusedSimpArgs false
set_option linter.unusedVariables false
set_option maxRecDepth 8000 in
set_option maxHeartbeats 16000000 in
theorem spec_k1r (m : Mem) (AM : Option Addr) (n cm : Nat) (who : Int) (j : Job) (A0 : Option Addr) (n0 c0 : Nat) (A1 : Option Addr) (n1 c1 : Nat) (a : Nat) (tr rv st : Int) (seen : List Row) (busy : Bool) (pc pp pv pl cw crv cph cat cwv : Int) (cps : List Row) (crs : List Int) (As : Option Addr) (ns cs : Nat) (Ap : Option Addr) (np cp : Nat) (Ar : Option Addr) (nr cr : Nat) (b w : World) (fr : List Res) (S0 S1 : Nat → Prop) (h0 : Sl b S0 1 A0 n0 (ints j.reads_)) (hn0 : n0 ≤ 1048576) (h1 : Sl b S1 2 A1 n1 (j.puts_.flatMap Row.cells)) (hn1 : n1 ≤ 1048576) (hnM : n ≤ 1048576) (hns : ns ≤ 1000000) (hnp : np ≤ 1048576) (hnr : nr ≤ 1048576) (htr : 0 ≤ tr ∧ tr ≤ 1000000) (hat : 0 ≤ (a : Int) ∧ (a : Int) ≤ (n0 : Int)) (M1 : Mine b w (.row 102 3 AM n cm ((m.cells_).flatMap Word.cells)::.row 97 2 As ns cs ((seen).flatMap Row.cells)::.row 97 2 Ap np cp ((cps).flatMap Row.cells)::.row 3 1 Ar nr cr (ints (crs))::fr)) (ha : a < n0) :
  Calls Tryz.prog 31 #[.agg #[.int .i64 m.clock_,.slice AM n cm],.int .i64 who,.agg #[.slice A0 n0 c0,.slice A1 n1 c1],.agg (List.toArray ((.int .i64 1)::(.int .i64 tr)::(.int .i64 rv)::(.int .i64 (a : Int))::(.int .i64 st)::(.slice As ns cs)::(.bool busy)::(.int .i64 pc)::(.int .i64 pp)::(.int .i64 pv)::(.int .i64 pl)::(.int .i64 cw)::(.int .i64 crv)::(.int .i64 cph)::(.int .i64 cat)::(.int .i64 cwv)::(.slice Ap np cp)::(.slice Ar nr cr)::[]))] w fun e w' => ∃ B1 m1 e1 B2 m2 e2 B3 m3 e3 B4 m4 e4,e = .returned (.tuple #[.agg #[.int .i64 (jstep m who j ⟨1,tr,rv,(a : Int),st,seen,busy,⟨pc,pp,pv,pl⟩,⟨cw,crv,cph,cat,cwv,cps,crs⟩⟩).1.clock_,.slice B1 m1 e1],.agg (List.toArray ((.int .i64 ((jstep m who j ⟨1,tr,rv,(a : Int),st,seen,busy,⟨pc,pp,pv,pl⟩,⟨cw,crv,cph,cat,cwv,cps,crs⟩⟩).2).phase_)::(.int .i64 ((jstep m who j ⟨1,tr,rv,(a : Int),st,seen,busy,⟨pc,pp,pv,pl⟩,⟨cw,crv,cph,cat,cwv,cps,crs⟩⟩).2).tries_)::(.int .i64 ((jstep m who j ⟨1,tr,rv,(a : Int),st,seen,busy,⟨pc,pp,pv,pl⟩,⟨cw,crv,cph,cat,cwv,cps,crs⟩⟩).2).rv_)::(.int .i64 ((jstep m who j ⟨1,tr,rv,(a : Int),st,seen,busy,⟨pc,pp,pv,pl⟩,⟨cw,crv,cph,cat,cwv,cps,crs⟩⟩).2).at_)::(.int .i64 ((jstep m who j ⟨1,tr,rv,(a : Int),st,seen,busy,⟨pc,pp,pv,pl⟩,⟨cw,crv,cph,cat,cwv,cps,crs⟩⟩).2).stamp_)::(.slice B2 m2 e2)::(.bool ((jstep m who j ⟨1,tr,rv,(a : Int),st,seen,busy,⟨pc,pp,pv,pl⟩,⟨cw,crv,cph,cat,cwv,cps,crs⟩⟩).2).busy_)::(.int .i64 ((jstep m who j ⟨1,tr,rv,(a : Int),st,seen,busy,⟨pc,pp,pv,pl⟩,⟨cw,crv,cph,cat,cwv,cps,crs⟩⟩).2).probe_.cell_)::(.int .i64 ((jstep m who j ⟨1,tr,rv,(a : Int),st,seen,busy,⟨pc,pp,pv,pl⟩,⟨cw,crv,cph,cat,cwv,cps,crs⟩⟩).2).probe_.phase_)::(.int .i64 ((jstep m who j ⟨1,tr,rv,(a : Int),st,seen,busy,⟨pc,pp,pv,pl⟩,⟨cw,crv,cph,cat,cwv,cps,crs⟩⟩).2).probe_.ver_)::(.int .i64 ((jstep m who j ⟨1,tr,rv,(a : Int),st,seen,busy,⟨pc,pp,pv,pl⟩,⟨cw,crv,cph,cat,cwv,cps,crs⟩⟩).2).probe_.val_)::(.int .i64 ((jstep m who j ⟨1,tr,rv,(a : Int),st,seen,busy,⟨pc,pp,pv,pl⟩,⟨cw,crv,cph,cat,cwv,cps,crs⟩⟩).2).commit_.who_)::(.int .i64 ((jstep m who j ⟨1,tr,rv,(a : Int),st,seen,busy,⟨pc,pp,pv,pl⟩,⟨cw,crv,cph,cat,cwv,cps,crs⟩⟩).2).commit_.rv_)::(.int .i64 ((jstep m who j ⟨1,tr,rv,(a : Int),st,seen,busy,⟨pc,pp,pv,pl⟩,⟨cw,crv,cph,cat,cwv,cps,crs⟩⟩).2).commit_.phase_)::(.int .i64 ((jstep m who j ⟨1,tr,rv,(a : Int),st,seen,busy,⟨pc,pp,pv,pl⟩,⟨cw,crv,cph,cat,cwv,cps,crs⟩⟩).2).commit_.at_)::(.int .i64 ((jstep m who j ⟨1,tr,rv,(a : Int),st,seen,busy,⟨pc,pp,pv,pl⟩,⟨cw,crv,cph,cat,cwv,cps,crs⟩⟩).2).commit_.wv_)::(.slice B3 m3 e3)::(.slice B4 m4 e4)::[]))]) ∧ Mine b w' (.row 102 3 B1 m1 e1 (((jstep m who j ⟨1,tr,rv,(a : Int),st,seen,busy,⟨pc,pp,pv,pl⟩,⟨cw,crv,cph,cat,cwv,cps,crs⟩⟩).1.cells_).flatMap Word.cells)::.row 97 2 B2 m2 e2 (((jstep m who j ⟨1,tr,rv,(a : Int),st,seen,busy,⟨pc,pp,pv,pl⟩,⟨cw,crv,cph,cat,cwv,cps,crs⟩⟩).2.seen_).flatMap Row.cells)::.row 97 2 B3 m3 e3 (((jstep m who j ⟨1,tr,rv,(a : Int),st,seen,busy,⟨pc,pp,pv,pl⟩,⟨cw,crv,cph,cat,cwv,cps,crs⟩⟩).2.commit_.puts_).flatMap Row.cells)::.row 3 1 B4 m4 e4 (ints ((jstep m who j ⟨1,tr,rv,(a : Int),st,seen,busy,⟨pc,pp,pv,pl⟩,⟨cw,crv,cph,cat,cwv,cps,crs⟩⟩).2.commit_.reads_))::fr):=by
 have hl0 : j.reads_.length = n0:=h0.len
 have hl1 : j.puts_.length = n1:=h1.flen Row.cells_length (by omega)
 have H0:=Lib.hid h0
 have H1:=Lib.hid h1
 have M:=Lib.hid M1
 clear h0 h1 M1
 obtain ⟨v,hv⟩ : ∃ v,j.reads_[a]? = some v:=⟨_,List.getElem?_eq_getElem (by omega)⟩
 obtain ⟨bJ,oJ,rfl⟩:=H0.out.addr (by omega)
 have HC : Hid (b.cell? ⟨bJ,oJ + a,none⟩ = some (.int .i64 v) ∧ bJ < b.heap.size):=by
  obtain ⟨y,hy,hb,cy⟩:=H0.out.int_cell (k:=a) ha
  rw [hv] at hy
  injection hy with hy
  subst hy
  exact ⟨cy,hb⟩
 have ba : ((a : Int) == (n0 : Int)) = false:=by simp;omega
 have ha1 : (a : Int) < (n0 : Int):=by omega
 have HJ : jstep m who j ⟨1,tr,rv,(a : Int),st,seen,busy,⟨pc,pp,pv,pl⟩,⟨cw,crv,cph,cat,cwv,cps,crs⟩⟩ = (m,jread m j ⟨1,tr,rv,(a : Int),st,seen,busy,⟨pc,pp,pv,pl⟩,⟨cw,crv,cph,cat,cwv,cps,crs⟩⟩):=by
  have h : ¬ ((a : Int) = (j.reads_.length : Int)):=by omega
  unfold jstep;simp [h]
 have hgd : j.reads_.getD (a : Int).toNat default = v:=by rw [Int.toNat_natCast];exact getD_of hv
 cases busy
 rotate_left
 ·skip
  obtain ⟨zc,zp,zv,zl,hq⟩ : ∃ zc zp zv zl,pstep m rv ⟨pc,pp,pv,pl⟩ = ⟨zc,zp,zv,zl⟩:=⟨_,_,_,_,rfl⟩
  have hp0 : probe0 j ⟨1,tr,rv,(a : Int),st,seen,true,⟨pc,pp,pv,pl⟩,⟨cw,crv,cph,cat,cwv,cps,crs⟩⟩ = ⟨pc,pp,pv,pl⟩:=by unfold probe0;simp
  have HQQ:=Lib.hid hq
  by_cases z4 : zp = 4
  ·subst z4
   have HZ : Hid (jstep m who j ⟨1,tr,rv,(a : Int),st,seen,true,⟨pc,pp,pv,pl⟩,⟨cw,crv,cph,cat,cwv,cps,crs⟩⟩ = (m,again tr)):=by
    show _ = _
    rw [HJ]
    unfold jread
    simp only [hp0,hq]
    simp
   clear HJ hp0 hq hgd hv
   go_enter Tryz.func31,Tryz.ntmps31
   go_wp2_with (first|(go_at_call 79;(with_reducible refine (spec_ProbeStep_is HQQ.out (M.out.row_sl 5 rfl) hnM).mono ?_);rintro e w' ⟨rfl,x9⟩;replace M:=Lib.hid (M.out.on x9);clear x9)|((with_reducible show wpList _ _ _ (⟨_,_,_,_,_,none⟩::_) _ _);first|(refine Mine.wp_box M.out rfl 27 _ rfl _ rfl ?_;intro gm w' M';(try simp only [zr_,zm_] at M');replace M:=Lib.hid M';clear M';(try simp only [zr_,zm_]))|(refine Mine.wp_box M.out rfl 72 _ rfl _ rfl ?_;intro gj w' M';(try simp only [zr_,zm_] at M');replace M:=Lib.hid M';clear M';(try simp only [zr_,zm_]))|(refine Mine.wp_box M.out rfl 68 _ rfl _ rfl ?_;intro gx w' M';(try simp only [zr_,zm_] at M');replace M:=Lib.hid M';clear M';(try simp only [zr_,zm_]))|(refine Mine.wp_alloc M.out rfl 27 rfl (.agg #[.int .i64 0,.slice none 0 0]) (by kernel_rfl) ?_;intro g8 w' M';(try simp only [Value.cells,zr_,zm_] at M');replace M:=Lib.hid M';clear M';(try simp only [zr_,zm_]))|(refine Mine.wp_alloc M.out rfl 68 rfl (.agg (List.toArray ((.int .i64 0)::(.int .i64 0)::(.int .i64 0)::(.int .i64 0)::(.int .i64 0)::(.slice none 0 0)::(.bool false)::(.int .i64 0)::(.int .i64 0)::(.int .i64 0)::(.int .i64 0)::(.int .i64 0)::(.int .i64 0)::(.int .i64 0)::(.int .i64 0)::(.int .i64 0)::(.slice none 0 0)::(.slice none 0 0)::[]))) (by kernel_rfl) ?_;intro g9 w' M';(try simp only [Value.cells,zr_,zm_] at M');replace M:=Lib.hid M';clear M';(try simp only [zr_,zm_]))|((first|refine zG M.out 2 ?_|refine zG M.out 3 ?_|refine zGs M.out 27 4 2 ?_|refine zGs M.out 66 2 4 ?_);(try simp only [zr_,zm_]))|(refine zSs M.out 66 2 ?_;intro w' M';(try simp only [zr_,zm_] at M');replace M:=Lib.hid M';clear M')))
   have MT:=Lib.hid (M.out.sub (sk_ (sd_ (sk_ (sk_ (sk_ (sk_ (sk_ (sk_ (sk_ s1_))))))))))
   refine Mine.region_headS MT.out M.out 6 (by kernel_rfl) (by kernel_rfl) ?_
   intro w' M'
   replace M:=Lib.hid M'
   clear M'
   clear MT
   refine zTL 0 ?_;intro K hK;((refine zDs 27 3 2 ?_;(try simp only [zr_,zm_]);go_big_quiet_on))
   refine zXL 1 ?_;(try simp only [zs_,zl_])
   refine zTL 2 ?_;intro K hK;((refine zD 1 ?_;(try simp only [zr_,zm_]);go_big_quiet_on))
   refine zXL 3 ?_;(try simp only [zs_,zl_])
   refine zXL 4 ?_;(try simp only [zs_,zl_])
   refine HQ.noisy (rs:=[5]) (by kernel_rfl) (by simp) (AllG.cons rfl (Nat.le_of_ble_eq_true rfl) (fun K hK => ?_) AllG.nil)
   refine Mine.step_sets M.out (by rfl) 27 _ _ (by rfl) (by rfl) 1 _ (by rfl) (by rfl) _ (by rfl) (Nat.le_of_ble_eq_true rfl) (by simp [Value.oneCell']) (by kernel_rfl) ?_
   intro w' M'
   simp only [zr_,zm_] at M'
   replace M:=Lib.hid M'
   clear M'
   refine hK.out _ _ (M.out.sub (sk_ (sd_ (sk_ (sk_ (sk_ (sk_ (sk_ (sk_ (sk_ s1_)))))))))) ?_
   clear hK K
   (try simp only [zs_,zl_])
   refine HQ.end_ (by kernel_rfl) ?_
   simp only [List.drop_succ_cons,List.drop_zero]
   go_wp2_with (((with_reducible show wpList _ _ _ (⟨_,_,_,_,_,none⟩::_) _ _);first|(refine zSs M.out 68 0 ?_;intro w' M';(try simp only [zr_,zm_] at M');replace M:=Lib.hid M';clear M')))
   refine bodyPost_ret (M.out.results_cj Tryz.results31 _ 1 0 rfl rfl _ Tryz.underlying27 (by rfl) (by kernel_rfl) rfl rfl _ Tryz.underlying68 (by rfl) (by kernel_rfl)) rfl ?_
   rw [HZ.out]
   replace M:=Lib.hid (M.out.sub (sd_ (sd_ (sd_ (sd_ (sd_ (sk_ (sd_ (sd_ (sd_ s1_))))))))))
   have M9:=((M.out.nil 3 1).nil 97 2).nil 97 2
   have M8:=M9.perm (List.perm_middle (l₁:=[_,_,_]))
   rw [show IntKind.i64.wrap (tr + 1) = tr + 1 from Go.IntWalk.i64_in _ (by omega)]
   exact ⟨_,_,_,_,_,_,_,_,_,_,_,_,rfl,M8⟩
  have b4 : (zp == 4) = false:=by simpa using z4
  by_cases z3 : zp = 3
  ·subst z3
   have HZ : Hid (jstep m who j ⟨1,tr,rv,(a : Int),st,seen,true,⟨pc,pp,pv,pl⟩,⟨cw,crv,cph,cat,cwv,cps,crs⟩⟩ = (m,⟨1,tr,rv,(a : Int) + 1,st,seen ++ [⟨zc,zl⟩],false,⟨0,0,0,0⟩,⟨cw,crv,cph,cat,cwv,cps,crs⟩⟩)):=by
    show _ = _
    rw [HJ]
    unfold jread
    simp only [hp0,hq]
    simp
   clear HJ hp0 hq hgd hv z4 b4
   go_enter Tryz.func31,Tryz.ntmps31
   go_wp2_with (first|(go_at_call 79;(with_reducible refine (spec_ProbeStep_is HQQ.out (M.out.row_sl 5 rfl) hnM).mono ?_);rintro e w' ⟨rfl,x9⟩;replace M:=Lib.hid (M.out.on x9);clear x9)|(at_builtin;refine Mine.wp_push M.out rfl _ _ 51 rfl 97 _ _ _ Tryz.underlying51 Tryz.infoRow rfl (by omega) 6 rfl rfl _ _ rfl rfl rfl (by simp [Value.oneCell']) (by omega) (by unfold maxLen;omega) ?_;intro A2 c2 w' M';(try simp only [zr_,zm_] at M');replace M:=Lib.hid M';clear M')|((with_reducible show wpList _ _ _ (⟨_,_,_,_,_,none⟩::_) _ _);first|(refine Mine.wp_box M.out rfl 27 _ rfl _ rfl ?_;intro gm w' M';(try simp only [zr_,zm_] at M');replace M:=Lib.hid M';clear M';(try simp only [zr_,zm_]))|(refine Mine.wp_box M.out rfl 72 _ rfl _ rfl ?_;intro gj w' M';(try simp only [zr_,zm_] at M');replace M:=Lib.hid M';clear M';(try simp only [zr_,zm_]))|(refine Mine.wp_box M.out rfl 68 _ rfl _ rfl ?_;intro gx w' M';(try simp only [zr_,zm_] at M');replace M:=Lib.hid M';clear M';(try simp only [zr_,zm_]))|(refine Mine.wp_alloc M.out rfl 27 rfl (.agg #[.int .i64 0,.slice none 0 0]) (by kernel_rfl) ?_;intro g8 w' M';(try simp only [Value.cells,zr_,zm_] at M');replace M:=Lib.hid M';clear M';(try simp only [zr_,zm_]))|(refine Mine.wp_alloc M.out rfl 68 rfl (.agg (List.toArray ((.int .i64 0)::(.int .i64 0)::(.int .i64 0)::(.int .i64 0)::(.int .i64 0)::(.slice none 0 0)::(.bool false)::(.int .i64 0)::(.int .i64 0)::(.int .i64 0)::(.int .i64 0)::(.int .i64 0)::(.int .i64 0)::(.int .i64 0)::(.int .i64 0)::(.int .i64 0)::(.slice none 0 0)::(.slice none 0 0)::[]))) (by kernel_rfl) ?_;intro g9 w' M';(try simp only [Value.cells,zr_,zm_] at M');replace M:=Lib.hid M';clear M';(try simp only [zr_,zm_]))|((first|refine zG M.out 2 ?_|refine zG M.out 3 ?_|refine zGs M.out 27 4 2 ?_|refine zGs M.out 66 2 4 ?_);(try simp only [zr_,zm_]))|((first|refine zS M.out 2 ?_|refine zSs M.out 66 2 ?_);intro w' M';(try simp only [zr_,zm_] at M');replace M:=Lib.hid M';clear M')))
   rw [row_push] at M
   have MT:=Lib.hid (M.out.sub (sk_ (sd_ (sk_ (sk_ (sk_ (sk_ (sk_ (sk_ (sk_ s1_))))))))))
   refine Mine.region_headS MT.out M.out 3 (by kernel_rfl) (by kernel_rfl) ?_
   intro w' M'
   replace M:=Lib.hid M'
   clear M'
   clear MT
   refine zT 0 ?_;intro K hK;((refine zDs 27 3 2 ?_;(try simp only [zr_,zm_]);go_big_quiet_on))
   refine zT 1 ?_;intro K hK;((refine zDs 68 1 18 ?_;(try simp only [zr_,zm_]);go_big_quiet_on))
   refine HQ.noisy (rs:=[2]) (by kernel_rfl) (by simp) (AllG.cons rfl (Nat.le_of_ble_eq_true rfl) (fun K hK => ?_) AllG.nil)
   refine Mine.step_sets M.out (by rfl) 27 _ _ (by rfl) (by rfl) 1 _ (by rfl) (by rfl) _ (by rfl) (Nat.le_of_ble_eq_true rfl) (by simp [Value.oneCell']) (by kernel_rfl) ?_
   intro w' M'
   simp only [zr_,zm_] at M'
   replace M:=Lib.hid M'
   clear M'
   refine hK.out _ _ (M.out.sub (sk_ (sd_ (sk_ (sk_ (sk_ (sk_ (sk_ (sk_ (sk_ s1_)))))))))) ?_
   clear hK K
   (try simp only [zs_,zl_])
   refine HQ.end_ (by kernel_rfl) ?_
   simp only [List.drop_succ_cons,List.drop_zero]
   go_wp2_with (((with_reducible show wpList _ _ _ (⟨_,_,_,_,_,none⟩::_) _ _);first|(refine zSs M.out 68 0 ?_;intro w' M';(try simp only [zr_,zm_] at M');replace M:=Lib.hid M';clear M')))
   refine bodyPost_ret (M.out.results_cj Tryz.results31 _ 1 0 rfl rfl _ Tryz.underlying27 (by rfl) (by kernel_rfl) rfl rfl _ Tryz.underlying68 (by rfl) (by kernel_rfl)) rfl ?_
   rw [HZ.out]
   replace M:=Lib.hid (M.out.sub (sd_ (sd_ (sd_ (sd_ (sd_ (sk_ (sk_ (sk_ (sk_ s1_))))))))))
   replace M:=Lib.hid (M.out.perm (List.perm_middle (l₁:=[_,_,_])))
   simp only [List.cons_append,List.nil_append] at M
   replace M:=Lib.hid (M.out.perm (List.perm_middle (l₁:=[_,_,_])))
   simp only [List.cons_append,List.nil_append] at M
   replace M:=Lib.hid (M.out.perm (List.perm_middle (l₁:=[_,_,_])))
   simp only [List.cons_append,List.nil_append] at M
   replace M:=Lib.hid (M.out.perm (List.perm_middle (l₁:=[_,_,_])))
   simp only [List.cons_append,List.nil_append] at M
   exact ⟨_,_,_,_,_,_,_,_,_,_,_,_,rfl,M.out⟩
  have b3 : (zp == 3) = false:=by simpa using z3
  have HZ : Hid (jstep m who j ⟨1,tr,rv,(a : Int),st,seen,true,⟨pc,pp,pv,pl⟩,⟨cw,crv,cph,cat,cwv,cps,crs⟩⟩ = (m,⟨1,tr,rv,(a : Int),st,seen,true,⟨zc,zp,zv,zl⟩,⟨cw,crv,cph,cat,cwv,cps,crs⟩⟩)):=by
   show _ = _
   rw [HJ]
   unfold jread
   simp only [hp0,hq]
   simp [z4,z3]
  clear HJ hp0 hq hgd hv z4 z3
  go_enter Tryz.func31,Tryz.ntmps31
  go_wp2_with (first|(go_at_call 79;(with_reducible refine (spec_ProbeStep_is HQQ.out (M.out.row_sl 5 rfl) hnM).mono ?_);rintro e w' ⟨rfl,x9⟩;replace M:=Lib.hid (M.out.on x9);clear x9)|((with_reducible show wpList _ _ _ (⟨_,_,_,_,_,none⟩::_) _ _);first|(refine Mine.wp_box M.out rfl 27 _ rfl _ rfl ?_;intro gm w' M';(try simp only [zr_,zm_] at M');replace M:=Lib.hid M';clear M';(try simp only [zr_,zm_]))|(refine Mine.wp_box M.out rfl 72 _ rfl _ rfl ?_;intro gj w' M';(try simp only [zr_,zm_] at M');replace M:=Lib.hid M';clear M';(try simp only [zr_,zm_]))|(refine Mine.wp_box M.out rfl 68 _ rfl _ rfl ?_;intro gx w' M';(try simp only [zr_,zm_] at M');replace M:=Lib.hid M';clear M';(try simp only [zr_,zm_]))|(refine Mine.wp_alloc M.out rfl 27 rfl (.agg #[.int .i64 0,.slice none 0 0]) (by kernel_rfl) ?_;intro g8 w' M';(try simp only [Value.cells,zr_,zm_] at M');replace M:=Lib.hid M';clear M';(try simp only [zr_,zm_]))|(refine Mine.wp_alloc M.out rfl 68 rfl (.agg (List.toArray ((.int .i64 0)::(.int .i64 0)::(.int .i64 0)::(.int .i64 0)::(.int .i64 0)::(.slice none 0 0)::(.bool false)::(.int .i64 0)::(.int .i64 0)::(.int .i64 0)::(.int .i64 0)::(.int .i64 0)::(.int .i64 0)::(.int .i64 0)::(.int .i64 0)::(.int .i64 0)::(.slice none 0 0)::(.slice none 0 0)::[]))) (by kernel_rfl) ?_;intro g9 w' M';(try simp only [Value.cells,zr_,zm_] at M');replace M:=Lib.hid M';clear M';(try simp only [zr_,zm_]))|((first|refine zG M.out 2 ?_|refine zG M.out 3 ?_|refine zGs M.out 27 4 2 ?_|refine zGs M.out 66 2 4 ?_);(try simp only [zr_,zm_]))|(refine zSs M.out 66 2 ?_;intro w' M';(try simp only [zr_,zm_] at M');replace M:=Lib.hid M';clear M')))
  have MT:=Lib.hid (M.out.sub (sk_ (sd_ (sk_ (sk_ (sk_ (sk_ (sk_ (sk_ (sk_ s1_))))))))))
  refine Mine.region_headS MT.out M.out 3 (by kernel_rfl) (by kernel_rfl) ?_
  intro w' M'
  replace M:=Lib.hid M'
  clear M'
  clear MT
  refine zT 0 ?_;intro K hK;((refine zDs 27 3 2 ?_;(try simp only [zr_,zm_]);go_big_quiet_on))
  refine zT 1 ?_;intro K hK;((refine zDs 68 1 18 ?_;(try simp only [zr_,zm_]);go_big_quiet_on))
  refine HQ.noisy (rs:=[2]) (by kernel_rfl) (by simp) (AllG.cons rfl (Nat.le_of_ble_eq_true rfl) (fun K hK => ?_) AllG.nil)
  refine Mine.step_sets M.out (by rfl) 27 _ _ (by rfl) (by rfl) 1 _ (by rfl) (by rfl) _ (by rfl) (Nat.le_of_ble_eq_true rfl) (by simp [Value.oneCell']) (by kernel_rfl) ?_
  intro w' M'
  simp only [zr_,zm_] at M'
  replace M:=Lib.hid M'
  clear M'
  refine hK.out _ _ (M.out.sub (sk_ (sd_ (sk_ (sk_ (sk_ (sk_ (sk_ (sk_ (sk_ s1_)))))))))) ?_
  clear hK K
  (try simp only [zs_,zl_])
  refine HQ.end_ (by kernel_rfl) ?_
  simp only [List.drop_succ_cons,List.drop_zero]
  go_wp2_with (((with_reducible show wpList _ _ _ (⟨_,_,_,_,_,none⟩::_) _ _);first|(refine zSs M.out 68 0 ?_;intro w' M';(try simp only [zr_,zm_] at M');replace M:=Lib.hid M';clear M')))
  refine bodyPost_ret (M.out.results_cj Tryz.results31 _ 1 0 rfl rfl _ Tryz.underlying27 (by rfl) (by kernel_rfl) rfl rfl _ Tryz.underlying68 (by rfl) (by kernel_rfl)) rfl ?_
  rw [HZ.out]
  replace M:=Lib.hid (M.out.sub (sd_ (sd_ (sd_ (sd_ (sd_ (sk_ (sk_ (sk_ (sk_ s1_))))))))))
  replace M:=Lib.hid (M.out.perm (List.perm_middle (l₁:=[_,_,_])))
  simp only [List.cons_append,List.nil_append] at M
  replace M:=Lib.hid (M.out.perm (List.perm_middle (l₁:=[_,_,_])))
  simp only [List.cons_append,List.nil_append] at M
  replace M:=Lib.hid (M.out.perm (List.perm_middle (l₁:=[_,_,_])))
  simp only [List.cons_append,List.nil_append] at M
  replace M:=Lib.hid (M.out.perm (List.perm_middle (l₁:=[_,_,_])))
  simp only [List.cons_append,List.nil_append] at M
  exact ⟨_,_,_,_,_,_,_,_,_,_,_,_,rfl,M.out⟩
 ·skip
  obtain ⟨nc,np_,nv,nl,hn⟩ : ∃ nc np_ nv nl,pnew v = ⟨nc,np_,nv,nl⟩:=⟨_,_,_,_,rfl⟩
  obtain ⟨zc,zp,zv,zl,hq⟩ : ∃ zc zp zv zl,pstep m rv ⟨nc,np_,nv,nl⟩ = ⟨zc,zp,zv,zl⟩:=⟨_,_,_,_,rfl⟩
  have HN:=Lib.hid hn
  have hp0 : probe0 j ⟨1,tr,rv,(a : Int),st,seen,false,⟨pc,pp,pv,pl⟩,⟨cw,crv,cph,cat,cwv,cps,crs⟩⟩ = ⟨nc,np_,nv,nl⟩:=by unfold probe0;simp only;rw [if_neg (by simp),hgd,hn]
  have HQQ:=Lib.hid hq
  by_cases z4 : zp = 4
  ·subst z4
   have HZ : Hid (jstep m who j ⟨1,tr,rv,(a : Int),st,seen,false,⟨pc,pp,pv,pl⟩,⟨cw,crv,cph,cat,cwv,cps,crs⟩⟩ = (m,again tr)):=by
    show _ = _
    rw [HJ]
    unfold jread
    simp only [hp0,hq]
    simp
   clear HJ hp0 hq hgd hv hn
   go_enter Tryz.func31,Tryz.ntmps31
   go_wp2_with (first|(go_at_call 79;(with_reducible refine (spec_ProbeStep_is HQQ.out (M.out.row_sl 6 rfl) hnM).mono ?_);rintro e w' ⟨rfl,x9⟩;replace M:=Lib.hid (M.out.on x9);clear x9)|(go_at_call 78;(with_reducible refine (spec_ProbeNew_is HN.out _).mono ?_);rintro e w' ⟨bb,rfl,x9⟩;replace M:=Lib.hid (M.out.on x9);clear x9)|((with_reducible show wpList _ _ _ (⟨_,_,_,_,_,none⟩::_) _ _);first|(refine Mine.wp_box M.out rfl 27 _ rfl _ rfl ?_;intro gm w' M';(try simp only [zr_,zm_] at M');replace M:=Lib.hid M';clear M';(try simp only [zr_,zm_]))|(refine Mine.wp_box M.out rfl 72 _ rfl _ rfl ?_;intro gj w' M';(try simp only [zr_,zm_] at M');replace M:=Lib.hid M';clear M';(try simp only [zr_,zm_]))|(refine Mine.wp_box M.out rfl 68 _ rfl _ rfl ?_;intro gx w' M';(try simp only [zr_,zm_] at M');replace M:=Lib.hid M';clear M';(try simp only [zr_,zm_]))|(refine Mine.wp_alloc M.out rfl 27 rfl (.agg #[.int .i64 0,.slice none 0 0]) (by kernel_rfl) ?_;intro g8 w' M';(try simp only [Value.cells,zr_,zm_] at M');replace M:=Lib.hid M';clear M';(try simp only [zr_,zm_]))|(refine Mine.wp_alloc M.out rfl 68 rfl (.agg (List.toArray ((.int .i64 0)::(.int .i64 0)::(.int .i64 0)::(.int .i64 0)::(.int .i64 0)::(.slice none 0 0)::(.bool false)::(.int .i64 0)::(.int .i64 0)::(.int .i64 0)::(.int .i64 0)::(.int .i64 0)::(.int .i64 0)::(.int .i64 0)::(.int .i64 0)::(.int .i64 0)::(.slice none 0 0)::(.slice none 0 0)::[]))) (by kernel_rfl) ?_;intro g9 w' M';(try simp only [Value.cells,zr_,zm_] at M');replace M:=Lib.hid M';clear M';(try simp only [zr_,zm_]))|((first|refine zG M.out 2 ?_|refine zG M.out 3 ?_|refine zGs M.out 27 5 2 ?_|refine zGs M.out 66 3 4 ?_|refine zGs M.out 66 0 4 ?_|refine Mine.wp_argc M.out rfl 3 _ rfl _ _ HC.out rfl _ Tryz.underlying3 (by rfl) ?_);(try simp only [zr_,zm_]))|((first|refine zSs M.out 66 3 ?_|refine zS M.out 3 ?_|refine zSs M.out 66 0 ?_);intro w' M';(try simp only [zr_,zm_] at M');replace M:=Lib.hid M';clear M')|(refine Mine.wp_alloc M.out rfl 66 rfl (.agg #[.int .i64 0,.int .i64 0,.int .i64 0,.int .i64 0]) (by kernel_rfl) ?_;intro gp w' M';(try simp only [Value.cells,zr_,zm_] at M');replace M:=Lib.hid M';clear M';(try simp only [zr_,zm_]))))
   have MT:=Lib.hid (M.out.sub (sk_ (sk_ (sd_ (sk_ (sk_ (sk_ (sk_ (sk_ (sk_ (sk_ s1_)))))))))))
   refine Mine.region_headS MT.out M.out 6 (by kernel_rfl) (by kernel_rfl) ?_
   intro w' M'
   replace M:=Lib.hid M'
   clear M'
   clear MT
   refine zTL 0 ?_;intro K hK;((refine zDs 27 4 2 ?_;(try simp only [zr_,zm_]);go_big_quiet_on))
   refine zXL 1 ?_;(try simp only [zs_,zl_])
   refine zTL 2 ?_;intro K hK;((refine zD 2 ?_;(try simp only [zr_,zm_]);go_big_quiet_on))
   refine zXL 3 ?_;(try simp only [zs_,zl_])
   refine zXL 4 ?_;(try simp only [zs_,zl_])
   refine HQ.noisy (rs:=[5]) (by kernel_rfl) (by simp) (AllG.cons rfl (Nat.le_of_ble_eq_true rfl) (fun K hK => ?_) AllG.nil)
   refine Mine.step_sets M.out (by rfl) 27 _ _ (by rfl) (by rfl) 2 _ (by rfl) (by rfl) _ (by rfl) (Nat.le_of_ble_eq_true rfl) (by simp [Value.oneCell']) (by kernel_rfl) ?_
   intro w' M'
   simp only [zr_,zm_] at M'
   replace M:=Lib.hid M'
   clear M'
   refine hK.out _ _ (M.out.sub (sk_ (sk_ (sd_ (sk_ (sk_ (sk_ (sk_ (sk_ (sk_ (sk_ s1_))))))))))) ?_
   clear hK K
   (try simp only [zs_,zl_])
   refine HQ.end_ (by kernel_rfl) ?_
   simp only [List.drop_succ_cons,List.drop_zero]
   go_wp2_with (((with_reducible show wpList _ _ _ (⟨_,_,_,_,_,none⟩::_) _ _);first|(refine zSs M.out 68 1 ?_;intro w' M';(try simp only [zr_,zm_] at M');replace M:=Lib.hid M';clear M')))
   refine bodyPost_ret (M.out.results_cj Tryz.results31 _ 2 1 rfl rfl _ Tryz.underlying27 (by rfl) (by kernel_rfl) rfl rfl _ Tryz.underlying68 (by rfl) (by kernel_rfl)) rfl ?_
   rw [HZ.out]
   replace M:=Lib.hid (M.out.sub (sd_ (sd_ (sd_ (sd_ (sd_ (sd_ (sk_ (sd_ (sd_ (sd_ s1_)))))))))))
   have M9:=((M.out.nil 3 1).nil 97 2).nil 97 2
   have M8:=M9.perm (List.perm_middle (l₁:=[_,_,_]))
   rw [show IntKind.i64.wrap (tr + 1) = tr + 1 from Go.IntWalk.i64_in _ (by omega)]
   exact ⟨_,_,_,_,_,_,_,_,_,_,_,_,rfl,M8⟩
  have b4 : (zp == 4) = false:=by simpa using z4
  by_cases z3 : zp = 3
  ·subst z3
   have HZ : Hid (jstep m who j ⟨1,tr,rv,(a : Int),st,seen,false,⟨pc,pp,pv,pl⟩,⟨cw,crv,cph,cat,cwv,cps,crs⟩⟩ = (m,⟨1,tr,rv,(a : Int) + 1,st,seen ++ [⟨zc,zl⟩],false,⟨0,0,0,0⟩,⟨cw,crv,cph,cat,cwv,cps,crs⟩⟩)):=by
    show _ = _
    rw [HJ]
    unfold jread
    simp only [hp0,hq]
    simp
   clear HJ hp0 hq hgd hv hn z4 b4
   go_enter Tryz.func31,Tryz.ntmps31
   go_wp2_with (first|(go_at_call 79;(with_reducible refine (spec_ProbeStep_is HQQ.out (M.out.row_sl 6 rfl) hnM).mono ?_);rintro e w' ⟨rfl,x9⟩;replace M:=Lib.hid (M.out.on x9);clear x9)|(go_at_call 78;(with_reducible refine (spec_ProbeNew_is HN.out _).mono ?_);rintro e w' ⟨bb,rfl,x9⟩;replace M:=Lib.hid (M.out.on x9);clear x9)|(at_builtin;refine Mine.wp_push M.out rfl _ _ 51 rfl 97 _ _ _ Tryz.underlying51 Tryz.infoRow rfl (by omega) 7 rfl rfl _ _ rfl rfl rfl (by simp [Value.oneCell']) (by omega) (by unfold maxLen;omega) ?_;intro A2 c2 w' M';(try simp only [zr_,zm_] at M');replace M:=Lib.hid M';clear M')|((with_reducible show wpList _ _ _ (⟨_,_,_,_,_,none⟩::_) _ _);first|(refine Mine.wp_box M.out rfl 27 _ rfl _ rfl ?_;intro gm w' M';(try simp only [zr_,zm_] at M');replace M:=Lib.hid M';clear M';(try simp only [zr_,zm_]))|(refine Mine.wp_box M.out rfl 72 _ rfl _ rfl ?_;intro gj w' M';(try simp only [zr_,zm_] at M');replace M:=Lib.hid M';clear M';(try simp only [zr_,zm_]))|(refine Mine.wp_box M.out rfl 68 _ rfl _ rfl ?_;intro gx w' M';(try simp only [zr_,zm_] at M');replace M:=Lib.hid M';clear M';(try simp only [zr_,zm_]))|(refine Mine.wp_alloc M.out rfl 27 rfl (.agg #[.int .i64 0,.slice none 0 0]) (by kernel_rfl) ?_;intro g8 w' M';(try simp only [Value.cells,zr_,zm_] at M');replace M:=Lib.hid M';clear M';(try simp only [zr_,zm_]))|(refine Mine.wp_alloc M.out rfl 68 rfl (.agg (List.toArray ((.int .i64 0)::(.int .i64 0)::(.int .i64 0)::(.int .i64 0)::(.int .i64 0)::(.slice none 0 0)::(.bool false)::(.int .i64 0)::(.int .i64 0)::(.int .i64 0)::(.int .i64 0)::(.int .i64 0)::(.int .i64 0)::(.int .i64 0)::(.int .i64 0)::(.int .i64 0)::(.slice none 0 0)::(.slice none 0 0)::[]))) (by kernel_rfl) ?_;intro g9 w' M';(try simp only [Value.cells,zr_,zm_] at M');replace M:=Lib.hid M';clear M';(try simp only [zr_,zm_]))|((first|refine zG M.out 2 ?_|refine zG M.out 3 ?_|refine zGs M.out 27 5 2 ?_|refine zGs M.out 66 3 4 ?_|refine zGs M.out 66 0 4 ?_|refine Mine.wp_argc M.out rfl 3 _ rfl _ _ HC.out rfl _ Tryz.underlying3 (by rfl) ?_);(try simp only [zr_,zm_]))|((first|refine zSs M.out 66 3 ?_|refine zS M.out 3 ?_|refine zSs M.out 66 0 ?_);intro w' M';(try simp only [zr_,zm_] at M');replace M:=Lib.hid M';clear M')|(refine Mine.wp_alloc M.out rfl 66 rfl (.agg #[.int .i64 0,.int .i64 0,.int .i64 0,.int .i64 0]) (by kernel_rfl) ?_;intro gp w' M';(try simp only [Value.cells,zr_,zm_] at M');replace M:=Lib.hid M';clear M';(try simp only [zr_,zm_]))))
   rw [row_push] at M
   have MT:=Lib.hid (M.out.sub (sk_ (sk_ (sd_ (sk_ (sk_ (sk_ (sk_ (sk_ (sk_ (sk_ s1_)))))))))))
   refine Mine.region_headS MT.out M.out 3 (by kernel_rfl) (by kernel_rfl) ?_
   intro w' M'
   replace M:=Lib.hid M'
   clear M'
   clear MT
   refine zT 0 ?_;intro K hK;((refine zDs 27 4 2 ?_;(try simp only [zr_,zm_]);go_big_quiet_on))
   refine zT 1 ?_;intro K hK;((refine zDs 68 2 18 ?_;(try simp only [zr_,zm_]);go_big_quiet_on))
   refine HQ.noisy (rs:=[2]) (by kernel_rfl) (by simp) (AllG.cons rfl (Nat.le_of_ble_eq_true rfl) (fun K hK => ?_) AllG.nil)
   refine Mine.step_sets M.out (by rfl) 27 _ _ (by rfl) (by rfl) 2 _ (by rfl) (by rfl) _ (by rfl) (Nat.le_of_ble_eq_true rfl) (by simp [Value.oneCell']) (by kernel_rfl) ?_
   intro w' M'
   simp only [zr_,zm_] at M'
   replace M:=Lib.hid M'
   clear M'
   refine hK.out _ _ (M.out.sub (sk_ (sk_ (sd_ (sk_ (sk_ (sk_ (sk_ (sk_ (sk_ (sk_ s1_))))))))))) ?_
   clear hK K
   (try simp only [zs_,zl_])
   refine HQ.end_ (by kernel_rfl) ?_
   simp only [List.drop_succ_cons,List.drop_zero]
   go_wp2_with (((with_reducible show wpList _ _ _ (⟨_,_,_,_,_,none⟩::_) _ _);first|(refine zSs M.out 68 1 ?_;intro w' M';(try simp only [zr_,zm_] at M');replace M:=Lib.hid M';clear M')))
   refine bodyPost_ret (M.out.results_cj Tryz.results31 _ 2 1 rfl rfl _ Tryz.underlying27 (by rfl) (by kernel_rfl) rfl rfl _ Tryz.underlying68 (by rfl) (by kernel_rfl)) rfl ?_
   rw [HZ.out]
   replace M:=Lib.hid (M.out.sub (sd_ (sd_ (sd_ (sd_ (sd_ (sd_ (sk_ (sk_ (sk_ (sk_ s1_)))))))))))
   replace M:=Lib.hid (M.out.perm (List.perm_middle (l₁:=[_,_,_])))
   simp only [List.cons_append,List.nil_append] at M
   replace M:=Lib.hid (M.out.perm (List.perm_middle (l₁:=[_,_,_])))
   simp only [List.cons_append,List.nil_append] at M
   replace M:=Lib.hid (M.out.perm (List.perm_middle (l₁:=[_,_,_])))
   simp only [List.cons_append,List.nil_append] at M
   replace M:=Lib.hid (M.out.perm (List.perm_middle (l₁:=[_,_,_])))
   simp only [List.cons_append,List.nil_append] at M
   exact ⟨_,_,_,_,_,_,_,_,_,_,_,_,rfl,M.out⟩
  have b3 : (zp == 3) = false:=by simpa using z3
  have HZ : Hid (jstep m who j ⟨1,tr,rv,(a : Int),st,seen,false,⟨pc,pp,pv,pl⟩,⟨cw,crv,cph,cat,cwv,cps,crs⟩⟩ = (m,⟨1,tr,rv,(a : Int),st,seen,true,⟨zc,zp,zv,zl⟩,⟨cw,crv,cph,cat,cwv,cps,crs⟩⟩)):=by
   show _ = _
   rw [HJ]
   unfold jread
   simp only [hp0,hq]
   simp [z4,z3]
  clear HJ hp0 hq hgd hv hn z4 z3
  go_enter Tryz.func31,Tryz.ntmps31
  go_wp2_with (first|(go_at_call 79;(with_reducible refine (spec_ProbeStep_is HQQ.out (M.out.row_sl 6 rfl) hnM).mono ?_);rintro e w' ⟨rfl,x9⟩;replace M:=Lib.hid (M.out.on x9);clear x9)|(go_at_call 78;(with_reducible refine (spec_ProbeNew_is HN.out _).mono ?_);rintro e w' ⟨bb,rfl,x9⟩;replace M:=Lib.hid (M.out.on x9);clear x9)|((with_reducible show wpList _ _ _ (⟨_,_,_,_,_,none⟩::_) _ _);first|(refine Mine.wp_box M.out rfl 27 _ rfl _ rfl ?_;intro gm w' M';(try simp only [zr_,zm_] at M');replace M:=Lib.hid M';clear M';(try simp only [zr_,zm_]))|(refine Mine.wp_box M.out rfl 72 _ rfl _ rfl ?_;intro gj w' M';(try simp only [zr_,zm_] at M');replace M:=Lib.hid M';clear M';(try simp only [zr_,zm_]))|(refine Mine.wp_box M.out rfl 68 _ rfl _ rfl ?_;intro gx w' M';(try simp only [zr_,zm_] at M');replace M:=Lib.hid M';clear M';(try simp only [zr_,zm_]))|(refine Mine.wp_alloc M.out rfl 27 rfl (.agg #[.int .i64 0,.slice none 0 0]) (by kernel_rfl) ?_;intro g8 w' M';(try simp only [Value.cells,zr_,zm_] at M');replace M:=Lib.hid M';clear M';(try simp only [zr_,zm_]))|(refine Mine.wp_alloc M.out rfl 68 rfl (.agg (List.toArray ((.int .i64 0)::(.int .i64 0)::(.int .i64 0)::(.int .i64 0)::(.int .i64 0)::(.slice none 0 0)::(.bool false)::(.int .i64 0)::(.int .i64 0)::(.int .i64 0)::(.int .i64 0)::(.int .i64 0)::(.int .i64 0)::(.int .i64 0)::(.int .i64 0)::(.int .i64 0)::(.slice none 0 0)::(.slice none 0 0)::[]))) (by kernel_rfl) ?_;intro g9 w' M';(try simp only [Value.cells,zr_,zm_] at M');replace M:=Lib.hid M';clear M';(try simp only [zr_,zm_]))|((first|refine zG M.out 2 ?_|refine zG M.out 3 ?_|refine zGs M.out 27 5 2 ?_|refine zGs M.out 66 3 4 ?_|refine zGs M.out 66 0 4 ?_|refine Mine.wp_argc M.out rfl 3 _ rfl _ _ HC.out rfl _ Tryz.underlying3 (by rfl) ?_);(try simp only [zr_,zm_]))|((first|refine zSs M.out 66 3 ?_|refine zS M.out 3 ?_|refine zSs M.out 66 0 ?_);intro w' M';(try simp only [zr_,zm_] at M');replace M:=Lib.hid M';clear M')|(refine Mine.wp_alloc M.out rfl 66 rfl (.agg #[.int .i64 0,.int .i64 0,.int .i64 0,.int .i64 0]) (by kernel_rfl) ?_;intro gp w' M';(try simp only [Value.cells,zr_,zm_] at M');replace M:=Lib.hid M';clear M';(try simp only [zr_,zm_]))))
  have MT:=Lib.hid (M.out.sub (sk_ (sk_ (sd_ (sk_ (sk_ (sk_ (sk_ (sk_ (sk_ (sk_ s1_)))))))))))
  refine Mine.region_headS MT.out M.out 3 (by kernel_rfl) (by kernel_rfl) ?_
  intro w' M'
  replace M:=Lib.hid M'
  clear M'
  clear MT
  refine zT 0 ?_;intro K hK;((refine zDs 27 4 2 ?_;(try simp only [zr_,zm_]);go_big_quiet_on))
  refine zT 1 ?_;intro K hK;((refine zDs 68 2 18 ?_;(try simp only [zr_,zm_]);go_big_quiet_on))
  refine HQ.noisy (rs:=[2]) (by kernel_rfl) (by simp) (AllG.cons rfl (Nat.le_of_ble_eq_true rfl) (fun K hK => ?_) AllG.nil)
  refine Mine.step_sets M.out (by rfl) 27 _ _ (by rfl) (by rfl) 2 _ (by rfl) (by rfl) _ (by rfl) (Nat.le_of_ble_eq_true rfl) (by simp [Value.oneCell']) (by kernel_rfl) ?_
  intro w' M'
  simp only [zr_,zm_] at M'
  replace M:=Lib.hid M'
  clear M'
  refine hK.out _ _ (M.out.sub (sk_ (sk_ (sd_ (sk_ (sk_ (sk_ (sk_ (sk_ (sk_ (sk_ s1_))))))))))) ?_
  clear hK K
  (try simp only [zs_,zl_])
  refine HQ.end_ (by kernel_rfl) ?_
  simp only [List.drop_succ_cons,List.drop_zero]
  go_wp2_with (((with_reducible show wpList _ _ _ (⟨_,_,_,_,_,none⟩::_) _ _);first|(refine zSs M.out 68 1 ?_;intro w' M';(try simp only [zr_,zm_] at M');replace M:=Lib.hid M';clear M')))
  refine bodyPost_ret (M.out.results_cj Tryz.results31 _ 2 1 rfl rfl _ Tryz.underlying27 (by rfl) (by kernel_rfl) rfl rfl _ Tryz.underlying68 (by rfl) (by kernel_rfl)) rfl ?_
  rw [HZ.out]
  replace M:=Lib.hid (M.out.sub (sd_ (sd_ (sd_ (sd_ (sd_ (sd_ (sk_ (sk_ (sk_ (sk_ s1_)))))))))))
  replace M:=Lib.hid (M.out.perm (List.perm_middle (l₁:=[_,_,_])))
  simp only [List.cons_append,List.nil_append] at M
  replace M:=Lib.hid (M.out.perm (List.perm_middle (l₁:=[_,_,_])))
  simp only [List.cons_append,List.nil_append] at M
  replace M:=Lib.hid (M.out.perm (List.perm_middle (l₁:=[_,_,_])))
  simp only [List.cons_append,List.nil_append] at M
  replace M:=Lib.hid (M.out.perm (List.perm_middle (l₁:=[_,_,_])))
  simp only [List.cons_append,List.nil_append] at M
  exact ⟨_,_,_,_,_,_,_,_,_,_,_,_,rfl,M.out⟩

end Go.Proofs.YtpmfhfpjiebcjaaGreat
