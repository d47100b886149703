/- A step of a job in the program: a read. No condition but lengths. -/
import Derived.Test.YtpmfhfpjiebcjaaGreatD00
import Derived.Test.YtpmfhfpjiebcjaaGreatD31
namespace Go.Proofs.YtpmfhfpjiebcjaaGreat
open Go.RowKit Go.Deep
set_option linter.unnecessarySimpa false
set_option linter.unusedSimpArgs false
set_option linter.unusedVariables false
set_option maxRecDepth 8000 in
set_option maxHeartbeats 16000000 in
theorem impl_k1r (m : Mem) (AM : Option Addr) (n cm : Nat) (k : Nat) (j : Job) (A0 : Option Addr) (n0 c0 : Nat) (A1 : Option Addr) (n1 c1 : Nat) (a : Nat) (tr rv st : Int) (seen : List Row) (busy : Bool) (pc pp pv pl cw crv cph cat cwv : Int) (cps : List Row) (crs : List Int) (As : Option Addr) (ns cs : Nat) (Ap : Option Addr) (np cp : Nat) (Ar : Option Addr) (nr cr : Nat) (AJ : Option Addr) (nj cj : Nat) (AH : Option Addr) (nh ch : Nat) (gd : Nat) (XJ XH : List Value) (hk : k < nj) (hnj : nj ≤ 4) (hnh : nh ≤ 1000000) (hJC : ∀ q,q < (((.int .i64 1)::(.int .i64 tr)::(.int .i64 rv)::(.int .i64 (a : Int))::(.int .i64 st)::(.slice As ns cs)::(.bool busy)::(.int .i64 pc)::(.int .i64 pp)::(.int .i64 pv)::(.int .i64 pl)::(.int .i64 cw)::(.int .i64 crv)::(.int .i64 cph)::(.int .i64 cat)::(.int .i64 cwv)::(.slice Ap np cp)::(.slice Ar nr cr)::[]) : List Value).length → XJ[k * 18 + q]? = (((.int .i64 1)::(.int .i64 tr)::(.int .i64 rv)::(.int .i64 (a : Int))::(.int .i64 st)::(.slice As ns cs)::(.bool busy)::(.int .i64 pc)::(.int .i64 pp)::(.int .i64 pv)::(.int .i64 pl)::(.int .i64 cw)::(.int .i64 crv)::(.int .i64 cph)::(.int .i64 cat)::(.int .i64 cwv)::(.slice Ap np cp)::(.slice Ar nr cr)::[]) : List Value)[q]?) (b w : World) (fr : List Res) (S0 S1 : Nat → Prop) (h0 : Sl b S0 1 A0 n0 (ints j.reads_)) (hn0 : n0 ≤ 1048576) (h1 : Sl b S1 2 A1 n1 (j.puts_.flatMap Row.cells)) (hn1 : n1 ≤ 1048576) (hnM : n ≤ 1048576) (hns : ns ≤ 1000000) (hnp : np ≤ 1048576) (hnr : nr ≤ 1048576) (htr : 0 ≤ tr ∧ tr ≤ 1000000) (hat : 0 ≤ (a : Int) ∧ (a : Int) ≤ (n0 : Int)) (M1 : Mine b w (.box gd 31 #[.int .i64 m.clock_,.slice AM n cm,.slice AJ nj cj,.slice AH nh ch]::.row 68 18 AJ nj cj XJ::.row 53 3 AH nh ch XH::.row 102 3 AM n cm ((m.cells_).flatMap Word.cells)::.row 97 2 As ns cs ((seen).flatMap Row.cells)::.row 97 2 Ap np cp ((cps).flatMap Row.cells)::.row 3 1 Ar nr cr (ints (crs))::fr)) (ha : a < n0) :
  Calls Tryz.prog 36 #[.pointer (some ⟨gd,0,none⟩),.int .i64 (k : Int),.agg #[.slice A0 n0 c0,.slice A1 n1 c1]] w fun e w' => ∃ B1 m1 e1 B2 m2 e2 B3 m3 e3 B4 m4 e4,e = .returned (.tuple #[]) ∧ Mine b w' (.box gd 31 #[.int .i64 (jstep m ((k : Int) + 1) j ⟨1,tr,rv,(a : Int),st,seen,busy,⟨pc,pp,pv,pl⟩,⟨cw,crv,cph,cat,cwv,cps,crs⟩⟩).1.clock_,.slice B1 m1 e1,.slice AJ nj cj,.slice AH nh ch]::.row 68 18 AJ nj cj (putAt XJ (k * 18) ((.int .i64 ((jstep m ((k : Int) + 1) j ⟨1,tr,rv,(a : Int),st,seen,busy,⟨pc,pp,pv,pl⟩,⟨cw,crv,cph,cat,cwv,cps,crs⟩⟩).2).phase_)::(.int .i64 ((jstep m ((k : Int) + 1) j ⟨1,tr,rv,(a : Int),st,seen,busy,⟨pc,pp,pv,pl⟩,⟨cw,crv,cph,cat,cwv,cps,crs⟩⟩).2).tries_)::(.int .i64 ((jstep m ((k : Int) + 1) j ⟨1,tr,rv,(a : Int),st,seen,busy,⟨pc,pp,pv,pl⟩,⟨cw,crv,cph,cat,cwv,cps,crs⟩⟩).2).rv_)::(.int .i64 ((jstep m ((k : Int) + 1) j ⟨1,tr,rv,(a : Int),st,seen,busy,⟨pc,pp,pv,pl⟩,⟨cw,crv,cph,cat,cwv,cps,crs⟩⟩).2).at_)::(.int .i64 ((jstep m ((k : Int) + 1) j ⟨1,tr,rv,(a : Int),st,seen,busy,⟨pc,pp,pv,pl⟩,⟨cw,crv,cph,cat,cwv,cps,crs⟩⟩).2).stamp_)::(.slice B2 m2 e2)::(.bool ((jstep m ((k : Int) + 1) j ⟨1,tr,rv,(a : Int),st,seen,busy,⟨pc,pp,pv,pl⟩,⟨cw,crv,cph,cat,cwv,cps,crs⟩⟩).2).busy_)::(.int .i64 ((jstep m ((k : Int) + 1) j ⟨1,tr,rv,(a : Int),st,seen,busy,⟨pc,pp,pv,pl⟩,⟨cw,crv,cph,cat,cwv,cps,crs⟩⟩).2).probe_.cell_)::(.int .i64 ((jstep m ((k : Int) + 1) j ⟨1,tr,rv,(a : Int),st,seen,busy,⟨pc,pp,pv,pl⟩,⟨cw,crv,cph,cat,cwv,cps,crs⟩⟩).2).probe_.phase_)::(.int .i64 ((jstep m ((k : Int) + 1) j ⟨1,tr,rv,(a : Int),st,seen,busy,⟨pc,pp,pv,pl⟩,⟨cw,crv,cph,cat,cwv,cps,crs⟩⟩).2).probe_.ver_)::(.int .i64 ((jstep m ((k : Int) + 1) j ⟨1,tr,rv,(a : Int),st,seen,busy,⟨pc,pp,pv,pl⟩,⟨cw,crv,cph,cat,cwv,cps,crs⟩⟩).2).probe_.val_)::(.int .i64 ((jstep m ((k : Int) + 1) j ⟨1,tr,rv,(a : Int),st,seen,busy,⟨pc,pp,pv,pl⟩,⟨cw,crv,cph,cat,cwv,cps,crs⟩⟩).2).commit_.who_)::(.int .i64 ((jstep m ((k : Int) + 1) j ⟨1,tr,rv,(a : Int),st,seen,busy,⟨pc,pp,pv,pl⟩,⟨cw,crv,cph,cat,cwv,cps,crs⟩⟩).2).commit_.rv_)::(.int .i64 ((jstep m ((k : Int) + 1) j ⟨1,tr,rv,(a : Int),st,seen,busy,⟨pc,pp,pv,pl⟩,⟨cw,crv,cph,cat,cwv,cps,crs⟩⟩).2).commit_.phase_)::(.int .i64 ((jstep m ((k : Int) + 1) j ⟨1,tr,rv,(a : Int),st,seen,busy,⟨pc,pp,pv,pl⟩,⟨cw,crv,cph,cat,cwv,cps,crs⟩⟩).2).commit_.at_)::(.int .i64 ((jstep m ((k : Int) + 1) j ⟨1,tr,rv,(a : Int),st,seen,busy,⟨pc,pp,pv,pl⟩,⟨cw,crv,cph,cat,cwv,cps,crs⟩⟩).2).commit_.wv_)::(.slice B3 m3 e3)::(.slice B4 m4 e4)::[]))::.row 53 3 AH nh ch XH::.row 102 3 B1 m1 e1 (((jstep m ((k : Int) + 1) j ⟨1,tr,rv,(a : Int),st,seen,busy,⟨pc,pp,pv,pl⟩,⟨cw,crv,cph,cat,cwv,cps,crs⟩⟩).1.cells_).flatMap Word.cells)::.row 97 2 B2 m2 e2 (((jstep m ((k : Int) + 1) j ⟨1,tr,rv,(a : Int),st,seen,busy,⟨pc,pp,pv,pl⟩,⟨cw,crv,cph,cat,cwv,cps,crs⟩⟩).2.seen_).flatMap Row.cells)::.row 97 2 B3 m3 e3 (((jstep m ((k : Int) + 1) j ⟨1,tr,rv,(a : Int),st,seen,busy,⟨pc,pp,pv,pl⟩,⟨cw,crv,cph,cat,cwv,cps,crs⟩⟩).2.commit_.puts_).flatMap Row.cells)::.row 3 1 B4 m4 e4 (ints ((jstep m ((k : Int) + 1) j ⟨1,tr,rv,(a : Int),st,seen,busy,⟨pc,pp,pv,pl⟩,⟨cw,crv,cph,cat,cwv,cps,crs⟩⟩).2.commit_.reads_))::fr):=by
 have hl0 : j.reads_.length = n0:=h0.len
 have hl1 : j.puts_.length = n1:=h1.flen Row.cells_length (by omega)
 have H0:=Lib.hid h0
 have H1:=Lib.hid h1
 have M:=Lib.hid M1
 have HJC:=Lib.hid hJC
 have hk1 : (k : Int) < (nj : Int):=by omega
 obtain ⟨gJ,rfl⟩:=M1.addr 1 rfl (by omega)
 clear h0 h1 M1 hJC
 obtain ⟨v,hv⟩ : ∃ v,j.reads_[a]? = some v:=⟨_,List.getElem?_eq_getElem (by omega)⟩
 obtain ⟨bJ,oJ,rfl⟩:=H0.out.addr (by omega)
 have HC : Hid (b.cell? ⟨bJ,oJ + a,none⟩ = some (.int .i64 v) ∧ bJ < b.heap.size):=by
  obtain ⟨y,hy,hb,cy⟩:=H0.out.int_cell (k:=a) ha
  rw [hv] at hy
  injection hy with hy
  subst hy
  exact ⟨cy,hb⟩
 have ba : ((a : Int) == (n0 : Int)) = false:=by simp;omega
 have ha1 : (a : Int) < (n0 : Int):=by omega
 have HJ : jstep m ((k : Int) + 1) j ⟨1,tr,rv,(a : Int),st,seen,busy,⟨pc,pp,pv,pl⟩,⟨cw,crv,cph,cat,cwv,cps,crs⟩⟩ = (m,jread m j ⟨1,tr,rv,(a : Int),st,seen,busy,⟨pc,pp,pv,pl⟩,⟨cw,crv,cph,cat,cwv,cps,crs⟩⟩):=by
  have h : ¬ ((a : Int) = (j.reads_.length : Int)):=by omega
  unfold jstep;simp [h]
 have hgd : j.reads_.getD (a : Int).toNat default = v:=by rw [Int.toNat_natCast];exact getD_of hv
 cases busy
 rotate_left
 ·skip
  obtain ⟨zc,zp,zv,zl,hq⟩ : ∃ zc zp zv zl,pstep m rv ⟨pc,pp,pv,pl⟩ = ⟨zc,zp,zv,zl⟩:=⟨_,_,_,_,rfl⟩
  have hp0 : probe0 j ⟨1,tr,rv,(a : Int),st,seen,true,⟨pc,pp,pv,pl⟩,⟨cw,crv,cph,cat,cwv,cps,crs⟩⟩ = ⟨pc,pp,pv,pl⟩:=by unfold probe0;simp
  have HQQ:=Lib.hid hq
  by_cases z4 : zp = 4
  ·subst z4
   have HZ : Hid (jstep m ((k : Int) + 1) j ⟨1,tr,rv,(a : Int),st,seen,true,⟨pc,pp,pv,pl⟩,⟨cw,crv,cph,cat,cwv,cps,crs⟩⟩ = (m,again tr)):=by
    show _ = _
    rw [HJ]
    unfold jread
    simp only [hp0,hq]
    simp
   clear HJ hp0 hq hgd hv
   go_enter Tryz.func36,Tryz.ntmps36
   go_wp2_with (first|((with_reducible show wpList _ _ _ (⟨_,_,_,_,_,none⟩::_) _ _);first|(refine Mine.wp_box M.out rfl 72 _ rfl _ rfl ?_;intro gj w' M';(try simp only [zr_,zm_] at M');replace M:=Lib.hid M';clear M';(try simp only [zr_,zm_]))|((first|refine zG M.out 1 ?_|refine Mine.wp_getrs M.out rfl 68 _ rfl 2 _ rfl rfl (((.int .i64 1)::(.int .i64 tr)::(.int .i64 rv)::(.int .i64 (a : Int))::(.int .i64 st)::(.slice As ns cs)::(.bool true)::(.int .i64 pc)::(.int .i64 pp)::(.int .i64 pv)::(.int .i64 pl)::(.int .i64 cw)::(.int .i64 crv)::(.int .i64 cph)::(.int .i64 cat)::(.int .i64 cwv)::(.slice Ap np cp)::(.slice Ar nr cr)::[]) : List Value) HJC.out _ Tryz.underlying68 (by rfl) (by kernel_rfl) ?_|refine zG M.out 0 ?_);(try simp only [zr_,zm_]))|(refine Mine.wp_alloc M.out rfl 68 rfl (.agg (List.toArray ((.int .i64 0)::(.int .i64 0)::(.int .i64 0)::(.int .i64 0)::(.int .i64 0)::(.slice none 0 0)::(.bool false)::(.int .i64 0)::(.int .i64 0)::(.int .i64 0)::(.int .i64 0)::(.int .i64 0)::(.int .i64 0)::(.int .i64 0)::(.int .i64 0)::(.int .i64 0)::(.slice none 0 0)::(.slice none 0 0)::[]))) (by kernel_rfl) ?_;intro gx w' M';(try simp only [Value.cells,zr_,zm_] at M');replace M:=Lib.hid M';clear M';(try simp only [zr_,zm_]))|(refine zSs M.out 68 0 ?_;intro w' M';(try simp only [zr_,zm_] at M');replace M:=Lib.hid M';clear M'))|((with_reducible show wpList _ _ _ (⟨_,.load _ _,_,_,_,some _⟩::_) _ _);first|((first|refine zGg M.out 0 ?_|refine zGg M.out 1 ?_);(try simp only [zr_,zm_]))))
   refine Mine.region_head M.out 9 (by kernel_rfl) (by kernel_rfl) ?_
   intro w' M'
   replace M:=Lib.hid M'
   clear M'
   refine zXT 0 ?_;(try simp only [zs_,zl_])
   refine zXT 1 ?_;(try simp only [zs_,zl_])
   refine zXT 2 ?_;(try simp only [zs_,zl_])
   refine zT 3 ?_;intro K hK;((refine zDs 27 2 2 ?_;(try simp only [zr_,zm_]);go_big_quiet_on))
   refine zXT 4 ?_;(try simp only [zs_,zl_])
   refine zT 5 ?_;intro K hK;((refine zD 0 ?_;(try simp only [zr_,zm_]);go_big_quiet_on))
   refine zXT 6 ?_;(try simp only [zs_,zl_])
   refine zT 7 ?_;intro K hK;((refine zDs 66 0 4 ?_;(try simp only [zr_,zm_]);go_big_quiet_on))
   refine HQ.noisy (rs:=[8]) (by kernel_rfl) (by simp) (AllG.cons rfl (Nat.le_of_ble_eq_true rfl) (fun K hK => ?_) AllG.nil)
   go_simp
   go_at_call 87
   refine (impl_ProbeStep_is HQQ.out (M.out.row_sl 5 rfl) hnM).mono ?_
   rintro e w6 ⟨rfl,x6⟩
   replace M:=Lib.hid (M.out.on x6)
   clear x6
   refine hK.out _ _ (M.out) ?_
   clear hK K
   (try simp only [zs_,zl_])
   refine HQ.end_ (by kernel_rfl) ?_
   simp only [List.drop_succ_cons,List.drop_zero]
   go_wp2_with (first|(go_at_call 88;(with_reducible refine (impl_again 1 (a : Int) tr rv st seen true _ _ _ _ cw crv cph cat cwv cps crs As ns cs Ap np cp Ar nr cr _ htr).mono ?_);rintro e w' ⟨rfl,x9⟩;replace M:=Lib.hid (M.out.on x9);clear x9)|((with_reducible show wpList _ _ _ (⟨_,_,_,_,_,none⟩::_) _ _);first|((first|refine zSs M.out 66 0 ?_|refine zSs M.out 68 0 ?_);intro w' M';(try simp only [zr_,zm_] at M');replace M:=Lib.hid M';clear M')|((first|refine zG M.out 0 ?_|refine zGs M.out 68 0 18 ?_);(try simp only [zr_,zm_]))))
   replace M:=Lib.hid (M.out.sub (sk_ (sd_ (sk_ (sk_ (sk_ (sk_ (sd_ (sd_ (sd_ s1_))))))))))
   have M9:=((M.out.nil 3 1).nil 97 2).nil 97 2
   replace M:=Lib.hid M9
   clear M9
   refine Mine.region_head M.out 6 (by kernel_rfl) (by kernel_rfl) ?_
   intro w' M'
   replace M:=Lib.hid M'
   clear M'
   refine zXT 0 ?_;(try simp only [zs_,zl_])
   refine zXT 1 ?_;(try simp only [zs_,zl_])
   refine zXT 2 ?_;(try simp only [zs_,zl_])
   refine zT 3 ?_;intro K hK;((refine zD 4 ?_;(try simp only [zr_,zm_]);go_big_quiet_on))
   refine zXT 4 ?_;(try simp only [zs_,zl_])
   refine zT 5 ?_;intro K hK;((refine zDs 68 3 18 ?_;(try simp only [zr_,zm_]);go_big_quiet_on))
   refine HQ.end_ (by kernel_rfl) ?_
   simp only [List.drop_succ_cons,List.drop_zero]
   go_wp2_with (((with_reducible show wpList _ _ _ (⟨_,_,_,_,_,none⟩::_) _ _);first|(refine Mine.wp_puts M.out rfl 68 _ _ rfl rfl 5 _ rfl rfl _ rfl (by simp only [List.length_cons,List.length_nil];omega) (by simp [Value.oneCell']) (by kernel_rfl) ?_;intro w' M';replace M:=Lib.hid M';clear M')))
   first|refine bodyPost_ret (v:=.tuple #[]) (by simp [results,Tryz.results36,go_sem]) rfl ?_|refine bodyPost_end (v:=.tuple #[]) (by simp [results,Tryz.results36,go_sem]) rfl ?_
   rw [HZ.out]
   replace M:=Lib.hid (M.out.sub (sk_ (sk_ (sk_ (sd_ (sk_ (sk_ (sk_ (sk_ s1_)))))))))
   replace M:=Lib.hid (M.out.perm (List.perm_middle (l₁:=[_,_])))
   simp only [List.cons_append,List.nil_append] at M
   replace M:=Lib.hid (M.out.perm (List.perm_middle (l₁:=[_,_])))
   simp only [List.cons_append,List.nil_append] at M
   replace M:=Lib.hid (M.out.perm (List.perm_middle (l₁:=[_,_])))
   simp only [List.cons_append,List.nil_append] at M
   replace M:=Lib.hid (M.out.perm (List.perm_middle (l₁:=[_,_,_,_,_,_])))
   simp only [List.cons_append,List.nil_append] at M
   replace M:=Lib.hid (M.out.perm (List.perm_middle (l₁:=[_,_,_,_,_,_])))
   simp only [List.cons_append,List.nil_append] at M
   replace M:=Lib.hid (M.out.perm (List.perm_middle (l₁:=[_,_,_,_,_,_])))
   simp only [List.cons_append,List.nil_append] at M
   replace M:=Lib.hid (M.out.perm (List.perm_middle (l₁:=[_,_,_,_,_,_])))
   simp only [List.cons_append,List.nil_append] at M
   exact ⟨_,_,_,_,_,_,_,_,_,_,_,_,rfl,M.out⟩
  have b4 : (zp == 4) = false:=by simpa using z4
  by_cases z3 : zp = 3
  ·subst z3
   have HZ : Hid (jstep m ((k : Int) + 1) j ⟨1,tr,rv,(a : Int),st,seen,true,⟨pc,pp,pv,pl⟩,⟨cw,crv,cph,cat,cwv,cps,crs⟩⟩ = (m,⟨1,tr,rv,(a : Int) + 1,st,seen ++ [⟨zc,zl⟩],false,⟨0,0,0,0⟩,⟨cw,crv,cph,cat,cwv,cps,crs⟩⟩)):=by
    show _ = _
    rw [HJ]
    unfold jread
    simp only [hp0,hq]
    simp
   clear HJ hp0 hq hgd hv z4 b4
   go_enter Tryz.func36,Tryz.ntmps36
   go_wp2_with (first|((with_reducible show wpList _ _ _ (⟨_,_,_,_,_,none⟩::_) _ _);first|(refine Mine.wp_box M.out rfl 72 _ rfl _ rfl ?_;intro gj w' M';(try simp only [zr_,zm_] at M');replace M:=Lib.hid M';clear M';(try simp only [zr_,zm_]))|((first|refine zG M.out 1 ?_|refine Mine.wp_getrs M.out rfl 68 _ rfl 2 _ rfl rfl (((.int .i64 1)::(.int .i64 tr)::(.int .i64 rv)::(.int .i64 (a : Int))::(.int .i64 st)::(.slice As ns cs)::(.bool true)::(.int .i64 pc)::(.int .i64 pp)::(.int .i64 pv)::(.int .i64 pl)::(.int .i64 cw)::(.int .i64 crv)::(.int .i64 cph)::(.int .i64 cat)::(.int .i64 cwv)::(.slice Ap np cp)::(.slice Ar nr cr)::[]) : List Value) HJC.out _ Tryz.underlying68 (by rfl) (by kernel_rfl) ?_|refine zG M.out 0 ?_);(try simp only [zr_,zm_]))|(refine Mine.wp_alloc M.out rfl 68 rfl (.agg (List.toArray ((.int .i64 0)::(.int .i64 0)::(.int .i64 0)::(.int .i64 0)::(.int .i64 0)::(.slice none 0 0)::(.bool false)::(.int .i64 0)::(.int .i64 0)::(.int .i64 0)::(.int .i64 0)::(.int .i64 0)::(.int .i64 0)::(.int .i64 0)::(.int .i64 0)::(.int .i64 0)::(.slice none 0 0)::(.slice none 0 0)::[]))) (by kernel_rfl) ?_;intro gx w' M';(try simp only [Value.cells,zr_,zm_] at M');replace M:=Lib.hid M';clear M';(try simp only [zr_,zm_]))|(refine zSs M.out 68 0 ?_;intro w' M';(try simp only [zr_,zm_] at M');replace M:=Lib.hid M';clear M'))|((with_reducible show wpList _ _ _ (⟨_,.load _ _,_,_,_,some _⟩::_) _ _);first|((first|refine zGg M.out 0 ?_|refine zGg M.out 1 ?_);(try simp only [zr_,zm_]))))
   refine Mine.region_head M.out 9 (by kernel_rfl) (by kernel_rfl) ?_
   intro w' M'
   replace M:=Lib.hid M'
   clear M'
   refine zXT 0 ?_;(try simp only [zs_,zl_])
   refine zXT 1 ?_;(try simp only [zs_,zl_])
   refine zXT 2 ?_;(try simp only [zs_,zl_])
   refine zT 3 ?_;intro K hK;((refine zDs 27 2 2 ?_;(try simp only [zr_,zm_]);go_big_quiet_on))
   refine zXT 4 ?_;(try simp only [zs_,zl_])
   refine zT 5 ?_;intro K hK;((refine zD 0 ?_;(try simp only [zr_,zm_]);go_big_quiet_on))
   refine zXT 6 ?_;(try simp only [zs_,zl_])
   refine zT 7 ?_;intro K hK;((refine zDs 66 0 4 ?_;(try simp only [zr_,zm_]);go_big_quiet_on))
   refine HQ.noisy (rs:=[8]) (by kernel_rfl) (by simp) (AllG.cons rfl (Nat.le_of_ble_eq_true rfl) (fun K hK => ?_) AllG.nil)
   go_simp
   go_at_call 87
   refine (impl_ProbeStep_is HQQ.out (M.out.row_sl 5 rfl) hnM).mono ?_
   rintro e w6 ⟨rfl,x6⟩
   replace M:=Lib.hid (M.out.on x6)
   clear x6
   refine hK.out _ _ (M.out) ?_
   clear hK K
   (try simp only [zs_,zl_])
   refine HQ.end_ (by kernel_rfl) ?_
   simp only [List.drop_succ_cons,List.drop_zero]
   go_wp2_with (first|(at_builtin;refine Mine.wp_push M.out rfl _ _ 51 rfl 97 _ _ _ Tryz.underlying51 Tryz.infoRow rfl (by omega) 6 rfl rfl _ _ rfl rfl rfl (by simp [Value.oneCell']) (by omega) (by unfold maxLen;omega) ?_;intro A2 c2 w' M';(try simp only [zr_,zm_] at M');replace M:=Lib.hid M';clear M')|((with_reducible show wpList _ _ _ (⟨_,_,_,_,_,none⟩::_) _ _);first|((first|refine zSs M.out 66 0 ?_|refine zS M.out 0 ?_);intro w' M';(try simp only [zr_,zm_] at M');replace M:=Lib.hid M';clear M')|(refine zG M.out 0 ?_;(try simp only [zr_,zm_]))))
   rw [row_push] at M
   refine Mine.region_head M.out 6 (by kernel_rfl) (by kernel_rfl) ?_
   intro w' M'
   replace M:=Lib.hid M'
   clear M'
   refine zXT 0 ?_;(try simp only [zs_,zl_])
   refine zXT 1 ?_;(try simp only [zs_,zl_])
   refine zXT 2 ?_;(try simp only [zs_,zl_])
   refine zT 3 ?_;intro K hK;((refine zD 2 ?_;(try simp only [zr_,zm_]);go_big_quiet_on))
   refine zXT 4 ?_;(try simp only [zs_,zl_])
   refine zT 5 ?_;intro K hK;((refine zDs 68 0 18 ?_;(try simp only [zr_,zm_]);go_big_quiet_on))
   refine HQ.end_ (by kernel_rfl) ?_
   simp only [List.drop_succ_cons,List.drop_zero]
   go_wp2_with (((with_reducible show wpList _ _ _ (⟨_,_,_,_,_,none⟩::_) _ _);first|(refine Mine.wp_puts M.out rfl 68 _ _ rfl rfl 3 _ rfl rfl _ rfl (by simp only [List.length_cons,List.length_nil];omega) (by simp [Value.oneCell']) (by kernel_rfl) ?_;intro w' M';replace M:=Lib.hid M';clear M')))
   first|refine bodyPost_ret (v:=.tuple #[]) (by simp [results,Tryz.results36,go_sem]) rfl ?_|refine bodyPost_end (v:=.tuple #[]) (by simp [results,Tryz.results36,go_sem]) rfl ?_
   rw [HZ.out]
   replace M:=Lib.hid (M.out.sub (sd_ (sd_ (sk_ (sk_ (sk_ (sk_ (sk_ (sk_ (sk_ s1_))))))))))
   replace M:=Lib.hid (M.out.perm (List.perm_middle (l₁:=[_,_,_,_,_,_])))
   simp only [List.cons_append,List.nil_append] at M
   replace M:=Lib.hid (M.out.perm (List.perm_middle (l₁:=[_,_,_,_,_,_])))
   simp only [List.cons_append,List.nil_append] at M
   replace M:=Lib.hid (M.out.perm (List.perm_middle (l₁:=[_,_,_,_,_,_])))
   simp only [List.cons_append,List.nil_append] at M
   replace M:=Lib.hid (M.out.perm (List.perm_middle (l₁:=[_,_,_,_,_,_])))
   simp only [List.cons_append,List.nil_append] at M
   replace M:=Lib.hid (M.out.perm (List.perm_middle (l₁:=[_,_,_,_,_,_])))
   simp only [List.cons_append,List.nil_append] at M
   replace M:=Lib.hid (M.out.perm (List.perm_middle (l₁:=[_,_,_,_,_,_])))
   simp only [List.cons_append,List.nil_append] at M
   replace M:=Lib.hid (M.out.perm (List.perm_middle (l₁:=[_,_,_,_,_,_])))
   simp only [List.cons_append,List.nil_append] at M
   exact ⟨_,_,_,_,_,_,_,_,_,_,_,_,rfl,M.out⟩
  have b3 : (zp == 3) = false:=by simpa using z3
  have HZ : Hid (jstep m ((k : Int) + 1) j ⟨1,tr,rv,(a : Int),st,seen,true,⟨pc,pp,pv,pl⟩,⟨cw,crv,cph,cat,cwv,cps,crs⟩⟩ = (m,⟨1,tr,rv,(a : Int),st,seen,true,⟨zc,zp,zv,zl⟩,⟨cw,crv,cph,cat,cwv,cps,crs⟩⟩)):=by
   show _ = _
   rw [HJ]
   unfold jread
   simp only [hp0,hq]
   simp [z4,z3]
  clear HJ hp0 hq hgd hv z4 z3
  go_enter Tryz.func36,Tryz.ntmps36
  go_wp2_with (first|((with_reducible show wpList _ _ _ (⟨_,_,_,_,_,none⟩::_) _ _);first|(refine Mine.wp_box M.out rfl 72 _ rfl _ rfl ?_;intro gj w' M';(try simp only [zr_,zm_] at M');replace M:=Lib.hid M';clear M';(try simp only [zr_,zm_]))|((first|refine zG M.out 1 ?_|refine Mine.wp_getrs M.out rfl 68 _ rfl 2 _ rfl rfl (((.int .i64 1)::(.int .i64 tr)::(.int .i64 rv)::(.int .i64 (a : Int))::(.int .i64 st)::(.slice As ns cs)::(.bool true)::(.int .i64 pc)::(.int .i64 pp)::(.int .i64 pv)::(.int .i64 pl)::(.int .i64 cw)::(.int .i64 crv)::(.int .i64 cph)::(.int .i64 cat)::(.int .i64 cwv)::(.slice Ap np cp)::(.slice Ar nr cr)::[]) : List Value) HJC.out _ Tryz.underlying68 (by rfl) (by kernel_rfl) ?_|refine zG M.out 0 ?_);(try simp only [zr_,zm_]))|(refine Mine.wp_alloc M.out rfl 68 rfl (.agg (List.toArray ((.int .i64 0)::(.int .i64 0)::(.int .i64 0)::(.int .i64 0)::(.int .i64 0)::(.slice none 0 0)::(.bool false)::(.int .i64 0)::(.int .i64 0)::(.int .i64 0)::(.int .i64 0)::(.int .i64 0)::(.int .i64 0)::(.int .i64 0)::(.int .i64 0)::(.int .i64 0)::(.slice none 0 0)::(.slice none 0 0)::[]))) (by kernel_rfl) ?_;intro gx w' M';(try simp only [Value.cells,zr_,zm_] at M');replace M:=Lib.hid M';clear M';(try simp only [zr_,zm_]))|(refine zSs M.out 68 0 ?_;intro w' M';(try simp only [zr_,zm_] at M');replace M:=Lib.hid M';clear M'))|((with_reducible show wpList _ _ _ (⟨_,.load _ _,_,_,_,some _⟩::_) _ _);first|((first|refine zGg M.out 0 ?_|refine zGg M.out 1 ?_);(try simp only [zr_,zm_]))))
  refine Mine.region_head M.out 9 (by kernel_rfl) (by kernel_rfl) ?_
  intro w' M'
  replace M:=Lib.hid M'
  clear M'
  refine zXT 0 ?_;(try simp only [zs_,zl_])
  refine zXT 1 ?_;(try simp only [zs_,zl_])
  refine zXT 2 ?_;(try simp only [zs_,zl_])
  refine zT 3 ?_;intro K hK;((refine zDs 27 2 2 ?_;(try simp only [zr_,zm_]);go_big_quiet_on))
  refine zXT 4 ?_;(try simp only [zs_,zl_])
  refine zT 5 ?_;intro K hK;((refine zD 0 ?_;(try simp only [zr_,zm_]);go_big_quiet_on))
  refine zXT 6 ?_;(try simp only [zs_,zl_])
  refine zT 7 ?_;intro K hK;((refine zDs 66 0 4 ?_;(try simp only [zr_,zm_]);go_big_quiet_on))
  refine HQ.noisy (rs:=[8]) (by kernel_rfl) (by simp) (AllG.cons rfl (Nat.le_of_ble_eq_true rfl) (fun K hK => ?_) AllG.nil)
  go_simp
  go_at_call 87
  refine (impl_ProbeStep_is HQQ.out (M.out.row_sl 5 rfl) hnM).mono ?_
  rintro e w6 ⟨rfl,x6⟩
  replace M:=Lib.hid (M.out.on x6)
  clear x6
  refine hK.out _ _ (M.out) ?_
  clear hK K
  (try simp only [zs_,zl_])
  refine HQ.end_ (by kernel_rfl) ?_
  simp only [List.drop_succ_cons,List.drop_zero]
  go_wp2_with (((with_reducible show wpList _ _ _ (⟨_,_,_,_,_,none⟩::_) _ _);first|(refine zSs M.out 66 0 ?_;intro w' M';(try simp only [zr_,zm_] at M');replace M:=Lib.hid M';clear M')|(refine zG M.out 0 ?_;(try simp only [zr_,zm_]))))
  refine Mine.region_head M.out 6 (by kernel_rfl) (by kernel_rfl) ?_
  intro w' M'
  replace M:=Lib.hid M'
  clear M'
  refine zXT 0 ?_;(try simp only [zs_,zl_])
  refine zXT 1 ?_;(try simp only [zs_,zl_])
  refine zXT 2 ?_;(try simp only [zs_,zl_])
  refine zT 3 ?_;intro K hK;((refine zD 2 ?_;(try simp only [zr_,zm_]);go_big_quiet_on))
  refine zXT 4 ?_;(try simp only [zs_,zl_])
  refine zT 5 ?_;intro K hK;((refine zDs 68 0 18 ?_;(try simp only [zr_,zm_]);go_big_quiet_on))
  refine HQ.end_ (by kernel_rfl) ?_
  simp only [List.drop_succ_cons,List.drop_zero]
  go_wp2_with (((with_reducible show wpList _ _ _ (⟨_,_,_,_,_,none⟩::_) _ _);first|(refine Mine.wp_puts M.out rfl 68 _ _ rfl rfl 3 _ rfl rfl _ rfl (by simp only [List.length_cons,List.length_nil];omega) (by simp [Value.oneCell']) (by kernel_rfl) ?_;intro w' M';replace M:=Lib.hid M';clear M')))
  first|refine bodyPost_ret (v:=.tuple #[]) (by simp [results,Tryz.results36,go_sem]) rfl ?_|refine bodyPost_end (v:=.tuple #[]) (by simp [results,Tryz.results36,go_sem]) rfl ?_
  rw [HZ.out]
  replace M:=Lib.hid (M.out.sub (sd_ (sd_ (sk_ (sk_ (sk_ (sk_ (sk_ (sk_ (sk_ s1_))))))))))
  replace M:=Lib.hid (M.out.perm (List.perm_middle (l₁:=[_,_,_,_,_,_])))
  simp only [List.cons_append,List.nil_append] at M
  replace M:=Lib.hid (M.out.perm (List.perm_middle (l₁:=[_,_,_,_,_,_])))
  simp only [List.cons_append,List.nil_append] at M
  replace M:=Lib.hid (M.out.perm (List.perm_middle (l₁:=[_,_,_,_,_,_])))
  simp only [List.cons_append,List.nil_append] at M
  replace M:=Lib.hid (M.out.perm (List.perm_middle (l₁:=[_,_,_,_,_,_])))
  simp only [List.cons_append,List.nil_append] at M
  replace M:=Lib.hid (M.out.perm (List.perm_middle (l₁:=[_,_,_,_,_,_])))
  simp only [List.cons_append,List.nil_append] at M
  replace M:=Lib.hid (M.out.perm (List.perm_middle (l₁:=[_,_,_,_,_,_])))
  simp only [List.cons_append,List.nil_append] at M
  replace M:=Lib.hid (M.out.perm (List.perm_middle (l₁:=[_,_,_,_,_,_])))
  simp only [List.cons_append,List.nil_append] at M
  exact ⟨_,_,_,_,_,_,_,_,_,_,_,_,rfl,M.out⟩
 ·skip
  obtain ⟨nc,np_,nv,nl,hn⟩ : ∃ nc np_ nv nl,pnew v = ⟨nc,np_,nv,nl⟩:=⟨_,_,_,_,rfl⟩
  obtain ⟨zc,zp,zv,zl,hq⟩ : ∃ zc zp zv zl,pstep m rv ⟨nc,np_,nv,nl⟩ = ⟨zc,zp,zv,zl⟩:=⟨_,_,_,_,rfl⟩
  have HN:=Lib.hid hn
  have hp0 : probe0 j ⟨1,tr,rv,(a : Int),st,seen,false,⟨pc,pp,pv,pl⟩,⟨cw,crv,cph,cat,cwv,cps,crs⟩⟩ = ⟨nc,np_,nv,nl⟩:=by unfold probe0;simp only;rw [if_neg (by simp),hgd,hn]
  have HQQ:=Lib.hid hq
  by_cases z4 : zp = 4
  ·subst z4
   have HZ : Hid (jstep m ((k : Int) + 1) j ⟨1,tr,rv,(a : Int),st,seen,false,⟨pc,pp,pv,pl⟩,⟨cw,crv,cph,cat,cwv,cps,crs⟩⟩ = (m,again tr)):=by
    show _ = _
    rw [HJ]
    unfold jread
    simp only [hp0,hq]
    simp
   clear HJ hp0 hq hgd hv hn
   go_enter Tryz.func36,Tryz.ntmps36
   go_wp2_with (first|(go_at_call 86;(with_reducible refine (impl_ProbeNew_is HN.out _).mono ?_);rintro e w' ⟨bb,rfl,x9⟩;replace M:=Lib.hid (M.out.on x9);clear x9)|((with_reducible show wpList _ _ _ (⟨_,_,_,_,_,none⟩::_) _ _);first|(refine Mine.wp_box M.out rfl 72 _ rfl _ rfl ?_;intro gj w' M';(try simp only [zr_,zm_] at M');replace M:=Lib.hid M';clear M';(try simp only [zr_,zm_]))|((first|refine zG M.out 1 ?_|refine Mine.wp_getrs M.out rfl 68 _ rfl 2 _ rfl rfl (((.int .i64 1)::(.int .i64 tr)::(.int .i64 rv)::(.int .i64 (a : Int))::(.int .i64 st)::(.slice As ns cs)::(.bool false)::(.int .i64 pc)::(.int .i64 pp)::(.int .i64 pv)::(.int .i64 pl)::(.int .i64 cw)::(.int .i64 crv)::(.int .i64 cph)::(.int .i64 cat)::(.int .i64 cwv)::(.slice Ap np cp)::(.slice Ar nr cr)::[]) : List Value) HJC.out _ Tryz.underlying68 (by rfl) (by kernel_rfl) ?_|refine zG M.out 0 ?_|refine Mine.wp_argc M.out rfl 3 _ rfl _ _ HC.out rfl _ Tryz.underlying3 (by rfl) ?_);(try simp only [zr_,zm_]))|(refine Mine.wp_alloc M.out rfl 68 rfl (.agg (List.toArray ((.int .i64 0)::(.int .i64 0)::(.int .i64 0)::(.int .i64 0)::(.int .i64 0)::(.slice none 0 0)::(.bool false)::(.int .i64 0)::(.int .i64 0)::(.int .i64 0)::(.int .i64 0)::(.int .i64 0)::(.int .i64 0)::(.int .i64 0)::(.int .i64 0)::(.int .i64 0)::(.slice none 0 0)::(.slice none 0 0)::[]))) (by kernel_rfl) ?_;intro gx w' M';(try simp only [Value.cells,zr_,zm_] at M');replace M:=Lib.hid M';clear M';(try simp only [zr_,zm_]))|((first|refine zSs M.out 68 0 ?_|refine zS M.out 0 ?_|refine zSs M.out 66 0 ?_);intro w' M';(try simp only [zr_,zm_] at M');replace M:=Lib.hid M';clear M'))|((with_reducible show wpList _ _ _ (⟨_,.load _ _,_,_,_,some _⟩::_) _ _);first|((first|refine zGg M.out 0 ?_|refine zGg M.out 1 ?_);(try simp only [zr_,zm_]))))
   refine Mine.region_head M.out 9 (by kernel_rfl) (by kernel_rfl) ?_
   intro w' M'
   replace M:=Lib.hid M'
   clear M'
   refine zXT 0 ?_;(try simp only [zs_,zl_])
   refine zXT 1 ?_;(try simp only [zs_,zl_])
   refine zXT 2 ?_;(try simp only [zs_,zl_])
   refine zT 3 ?_;intro K hK;((refine zDs 27 2 2 ?_;(try simp only [zr_,zm_]);go_big_quiet_on))
   refine zXT 4 ?_;(try simp only [zs_,zl_])
   refine zT 5 ?_;intro K hK;((refine zD 0 ?_;(try simp only [zr_,zm_]);go_big_quiet_on))
   refine zXT 6 ?_;(try simp only [zs_,zl_])
   refine zT 7 ?_;intro K hK;((refine zDs 66 0 4 ?_;(try simp only [zr_,zm_]);go_big_quiet_on))
   refine HQ.noisy (rs:=[8]) (by kernel_rfl) (by simp) (AllG.cons rfl (Nat.le_of_ble_eq_true rfl) (fun K hK => ?_) AllG.nil)
   go_simp
   go_at_call 87
   refine (impl_ProbeStep_is HQQ.out (M.out.row_sl 5 rfl) hnM).mono ?_
   rintro e w6 ⟨rfl,x6⟩
   replace M:=Lib.hid (M.out.on x6)
   clear x6
   refine hK.out _ _ (M.out) ?_
   clear hK K
   (try simp only [zs_,zl_])
   refine HQ.end_ (by kernel_rfl) ?_
   simp only [List.drop_succ_cons,List.drop_zero]
   go_wp2_with (first|(go_at_call 88;(with_reducible refine (impl_again 1 (a : Int) tr rv st seen true _ _ _ _ cw crv cph cat cwv cps crs As ns cs Ap np cp Ar nr cr _ htr).mono ?_);rintro e w' ⟨rfl,x9⟩;replace M:=Lib.hid (M.out.on x9);clear x9)|((with_reducible show wpList _ _ _ (⟨_,_,_,_,_,none⟩::_) _ _);first|((first|refine zSs M.out 66 0 ?_|refine zSs M.out 68 0 ?_);intro w' M';(try simp only [zr_,zm_] at M');replace M:=Lib.hid M';clear M')|((first|refine zG M.out 0 ?_|refine zGs M.out 68 0 18 ?_);(try simp only [zr_,zm_]))))
   replace M:=Lib.hid (M.out.sub (sk_ (sd_ (sk_ (sk_ (sk_ (sk_ (sd_ (sd_ (sd_ s1_))))))))))
   have M9:=((M.out.nil 3 1).nil 97 2).nil 97 2
   replace M:=Lib.hid M9
   clear M9
   refine Mine.region_head M.out 6 (by kernel_rfl) (by kernel_rfl) ?_
   intro w' M'
   replace M:=Lib.hid M'
   clear M'
   refine zXT 0 ?_;(try simp only [zs_,zl_])
   refine zXT 1 ?_;(try simp only [zs_,zl_])
   refine zXT 2 ?_;(try simp only [zs_,zl_])
   refine zT 3 ?_;intro K hK;((refine zD 4 ?_;(try simp only [zr_,zm_]);go_big_quiet_on))
   refine zXT 4 ?_;(try simp only [zs_,zl_])
   refine zT 5 ?_;intro K hK;((refine zDs 68 3 18 ?_;(try simp only [zr_,zm_]);go_big_quiet_on))
   refine HQ.end_ (by kernel_rfl) ?_
   simp only [List.drop_succ_cons,List.drop_zero]
   go_wp2_with (((with_reducible show wpList _ _ _ (⟨_,_,_,_,_,none⟩::_) _ _);first|(refine Mine.wp_puts M.out rfl 68 _ _ rfl rfl 5 _ rfl rfl _ rfl (by simp only [List.length_cons,List.length_nil];omega) (by simp [Value.oneCell']) (by kernel_rfl) ?_;intro w' M';replace M:=Lib.hid M';clear M')))
   first|refine bodyPost_ret (v:=.tuple #[]) (by simp [results,Tryz.results36,go_sem]) rfl ?_|refine bodyPost_end (v:=.tuple #[]) (by simp [results,Tryz.results36,go_sem]) rfl ?_
   rw [HZ.out]
   replace M:=Lib.hid (M.out.sub (sk_ (sk_ (sk_ (sd_ (sk_ (sk_ (sk_ (sk_ s1_)))))))))
   replace M:=Lib.hid (M.out.perm (List.perm_middle (l₁:=[_,_])))
   simp only [List.cons_append,List.nil_append] at M
   replace M:=Lib.hid (M.out.perm (List.perm_middle (l₁:=[_,_])))
   simp only [List.cons_append,List.nil_append] at M
   replace M:=Lib.hid (M.out.perm (List.perm_middle (l₁:=[_,_])))
   simp only [List.cons_append,List.nil_append] at M
   replace M:=Lib.hid (M.out.perm (List.perm_middle (l₁:=[_,_,_,_,_,_])))
   simp only [List.cons_append,List.nil_append] at M
   replace M:=Lib.hid (M.out.perm (List.perm_middle (l₁:=[_,_,_,_,_,_])))
   simp only [List.cons_append,List.nil_append] at M
   replace M:=Lib.hid (M.out.perm (List.perm_middle (l₁:=[_,_,_,_,_,_])))
   simp only [List.cons_append,List.nil_append] at M
   replace M:=Lib.hid (M.out.perm (List.perm_middle (l₁:=[_,_,_,_,_,_])))
   simp only [List.cons_append,List.nil_append] at M
   exact ⟨_,_,_,_,_,_,_,_,_,_,_,_,rfl,M.out⟩
  have b4 : (zp == 4) = false:=by simpa using z4
  by_cases z3 : zp = 3
  ·subst z3
   have HZ : Hid (jstep m ((k : Int) + 1) j ⟨1,tr,rv,(a : Int),st,seen,false,⟨pc,pp,pv,pl⟩,⟨cw,crv,cph,cat,cwv,cps,crs⟩⟩ = (m,⟨1,tr,rv,(a : Int) + 1,st,seen ++ [⟨zc,zl⟩],false,⟨0,0,0,0⟩,⟨cw,crv,cph,cat,cwv,cps,crs⟩⟩)):=by
    show _ = _
    rw [HJ]
    unfold jread
    simp only [hp0,hq]
    simp
   clear HJ hp0 hq hgd hv hn z4 b4
   go_enter Tryz.func36,Tryz.ntmps36
   go_wp2_with (first|(go_at_call 86;(with_reducible refine (impl_ProbeNew_is HN.out _).mono ?_);rintro e w' ⟨bb,rfl,x9⟩;replace M:=Lib.hid (M.out.on x9);clear x9)|((with_reducible show wpList _ _ _ (⟨_,_,_,_,_,none⟩::_) _ _);first|(refine Mine.wp_box M.out rfl 72 _ rfl _ rfl ?_;intro gj w' M';(try simp only [zr_,zm_] at M');replace M:=Lib.hid M';clear M';(try simp only [zr_,zm_]))|((first|refine zG M.out 1 ?_|refine Mine.wp_getrs M.out rfl 68 _ rfl 2 _ rfl rfl (((.int .i64 1)::(.int .i64 tr)::(.int .i64 rv)::(.int .i64 (a : Int))::(.int .i64 st)::(.slice As ns cs)::(.bool false)::(.int .i64 pc)::(.int .i64 pp)::(.int .i64 pv)::(.int .i64 pl)::(.int .i64 cw)::(.int .i64 crv)::(.int .i64 cph)::(.int .i64 cat)::(.int .i64 cwv)::(.slice Ap np cp)::(.slice Ar nr cr)::[]) : List Value) HJC.out _ Tryz.underlying68 (by rfl) (by kernel_rfl) ?_|refine zG M.out 0 ?_|refine Mine.wp_argc M.out rfl 3 _ rfl _ _ HC.out rfl _ Tryz.underlying3 (by rfl) ?_);(try simp only [zr_,zm_]))|(refine Mine.wp_alloc M.out rfl 68 rfl (.agg (List.toArray ((.int .i64 0)::(.int .i64 0)::(.int .i64 0)::(.int .i64 0)::(.int .i64 0)::(.slice none 0 0)::(.bool false)::(.int .i64 0)::(.int .i64 0)::(.int .i64 0)::(.int .i64 0)::(.int .i64 0)::(.int .i64 0)::(.int .i64 0)::(.int .i64 0)::(.int .i64 0)::(.slice none 0 0)::(.slice none 0 0)::[]))) (by kernel_rfl) ?_;intro gx w' M';(try simp only [Value.cells,zr_,zm_] at M');replace M:=Lib.hid M';clear M';(try simp only [zr_,zm_]))|((first|refine zSs M.out 68 0 ?_|refine zS M.out 0 ?_|refine zSs M.out 66 0 ?_);intro w' M';(try simp only [zr_,zm_] at M');replace M:=Lib.hid M';clear M'))|((with_reducible show wpList _ _ _ (⟨_,.load _ _,_,_,_,some _⟩::_) _ _);first|((first|refine zGg M.out 0 ?_|refine zGg M.out 1 ?_);(try simp only [zr_,zm_]))))
   refine Mine.region_head M.out 9 (by kernel_rfl) (by kernel_rfl) ?_
   intro w' M'
   replace M:=Lib.hid M'
   clear M'
   refine zXT 0 ?_;(try simp only [zs_,zl_])
   refine zXT 1 ?_;(try simp only [zs_,zl_])
   refine zXT 2 ?_;(try simp only [zs_,zl_])
   refine zT 3 ?_;intro K hK;((refine zDs 27 2 2 ?_;(try simp only [zr_,zm_]);go_big_quiet_on))
   refine zXT 4 ?_;(try simp only [zs_,zl_])
   refine zT 5 ?_;intro K hK;((refine zD 0 ?_;(try simp only [zr_,zm_]);go_big_quiet_on))
   refine zXT 6 ?_;(try simp only [zs_,zl_])
   refine zT 7 ?_;intro K hK;((refine zDs 66 0 4 ?_;(try simp only [zr_,zm_]);go_big_quiet_on))
   refine HQ.noisy (rs:=[8]) (by kernel_rfl) (by simp) (AllG.cons rfl (Nat.le_of_ble_eq_true rfl) (fun K hK => ?_) AllG.nil)
   go_simp
   go_at_call 87
   refine (impl_ProbeStep_is HQQ.out (M.out.row_sl 5 rfl) hnM).mono ?_
   rintro e w6 ⟨rfl,x6⟩
   replace M:=Lib.hid (M.out.on x6)
   clear x6
   refine hK.out _ _ (M.out) ?_
   clear hK K
   (try simp only [zs_,zl_])
   refine HQ.end_ (by kernel_rfl) ?_
   simp only [List.drop_succ_cons,List.drop_zero]
   go_wp2_with (first|(at_builtin;refine Mine.wp_push M.out rfl _ _ 51 rfl 97 _ _ _ Tryz.underlying51 Tryz.infoRow rfl (by omega) 6 rfl rfl _ _ rfl rfl rfl (by simp [Value.oneCell']) (by omega) (by unfold maxLen;omega) ?_;intro A2 c2 w' M';(try simp only [zr_,zm_] at M');replace M:=Lib.hid M';clear M')|((with_reducible show wpList _ _ _ (⟨_,_,_,_,_,none⟩::_) _ _);first|((first|refine zSs M.out 66 0 ?_|refine zS M.out 0 ?_);intro w' M';(try simp only [zr_,zm_] at M');replace M:=Lib.hid M';clear M')|(refine zG M.out 0 ?_;(try simp only [zr_,zm_]))))
   rw [row_push] at M
   refine Mine.region_head M.out 6 (by kernel_rfl) (by kernel_rfl) ?_
   intro w' M'
   replace M:=Lib.hid M'
   clear M'
   refine zXT 0 ?_;(try simp only [zs_,zl_])
   refine zXT 1 ?_;(try simp only [zs_,zl_])
   refine zXT 2 ?_;(try simp only [zs_,zl_])
   refine zT 3 ?_;intro K hK;((refine zD 2 ?_;(try simp only [zr_,zm_]);go_big_quiet_on))
   refine zXT 4 ?_;(try simp only [zs_,zl_])
   refine zT 5 ?_;intro K hK;((refine zDs 68 0 18 ?_;(try simp only [zr_,zm_]);go_big_quiet_on))
   refine HQ.end_ (by kernel_rfl) ?_
   simp only [List.drop_succ_cons,List.drop_zero]
   go_wp2_with (((with_reducible show wpList _ _ _ (⟨_,_,_,_,_,none⟩::_) _ _);first|(refine Mine.wp_puts M.out rfl 68 _ _ rfl rfl 3 _ rfl rfl _ rfl (by simp only [List.length_cons,List.length_nil];omega) (by simp [Value.oneCell']) (by kernel_rfl) ?_;intro w' M';replace M:=Lib.hid M';clear M')))
   first|refine bodyPost_ret (v:=.tuple #[]) (by simp [results,Tryz.results36,go_sem]) rfl ?_|refine bodyPost_end (v:=.tuple #[]) (by simp [results,Tryz.results36,go_sem]) rfl ?_
   rw [HZ.out]
   replace M:=Lib.hid (M.out.sub (sd_ (sd_ (sk_ (sk_ (sk_ (sk_ (sk_ (sk_ (sk_ s1_))))))))))
   replace M:=Lib.hid (M.out.perm (List.perm_middle (l₁:=[_,_,_,_,_,_])))
   simp only [List.cons_append,List.nil_append] at M
   replace M:=Lib.hid (M.out.perm (List.perm_middle (l₁:=[_,_,_,_,_,_])))
   simp only [List.cons_append,List.nil_append] at M
   replace M:=Lib.hid (M.out.perm (List.perm_middle (l₁:=[_,_,_,_,_,_])))
   simp only [List.cons_append,List.nil_append] at M
   replace M:=Lib.hid (M.out.perm (List.perm_middle (l₁:=[_,_,_,_,_,_])))
   simp only [List.cons_append,List.nil_append] at M
   replace M:=Lib.hid (M.out.perm (List.perm_middle (l₁:=[_,_,_,_,_,_])))
   simp only [List.cons_append,List.nil_append] at M
   replace M:=Lib.hid (M.out.perm (List.perm_middle (l₁:=[_,_,_,_,_,_])))
   simp only [List.cons_append,List.nil_append] at M
   replace M:=Lib.hid (M.out.perm (List.perm_middle (l₁:=[_,_,_,_,_,_])))
   simp only [List.cons_append,List.nil_append] at M
   exact ⟨_,_,_,_,_,_,_,_,_,_,_,_,rfl,M.out⟩
  have b3 : (zp == 3) = false:=by simpa using z3
  have HZ : Hid (jstep m ((k : Int) + 1) j ⟨1,tr,rv,(a : Int),st,seen,false,⟨pc,pp,pv,pl⟩,⟨cw,crv,cph,cat,cwv,cps,crs⟩⟩ = (m,⟨1,tr,rv,(a : Int),st,seen,true,⟨zc,zp,zv,zl⟩,⟨cw,crv,cph,cat,cwv,cps,crs⟩⟩)):=by
   show _ = _
   rw [HJ]
   unfold jread
   simp only [hp0,hq]
   simp [z4,z3]
  clear HJ hp0 hq hgd hv hn z4 z3
  go_enter Tryz.func36,Tryz.ntmps36
  go_wp2_with (first|(go_at_call 86;(with_reducible refine (impl_ProbeNew_is HN.out _).mono ?_);rintro e w' ⟨bb,rfl,x9⟩;replace M:=Lib.hid (M.out.on x9);clear x9)|((with_reducible show wpList _ _ _ (⟨_,_,_,_,_,none⟩::_) _ _);first|(refine Mine.wp_box M.out rfl 72 _ rfl _ rfl ?_;intro gj w' M';(try simp only [zr_,zm_] at M');replace M:=Lib.hid M';clear M';(try simp only [zr_,zm_]))|((first|refine zG M.out 1 ?_|refine Mine.wp_getrs M.out rfl 68 _ rfl 2 _ rfl rfl (((.int .i64 1)::(.int .i64 tr)::(.int .i64 rv)::(.int .i64 (a : Int))::(.int .i64 st)::(.slice As ns cs)::(.bool false)::(.int .i64 pc)::(.int .i64 pp)::(.int .i64 pv)::(.int .i64 pl)::(.int .i64 cw)::(.int .i64 crv)::(.int .i64 cph)::(.int .i64 cat)::(.int .i64 cwv)::(.slice Ap np cp)::(.slice Ar nr cr)::[]) : List Value) HJC.out _ Tryz.underlying68 (by rfl) (by kernel_rfl) ?_|refine zG M.out 0 ?_|refine Mine.wp_argc M.out rfl 3 _ rfl _ _ HC.out rfl _ Tryz.underlying3 (by rfl) ?_);(try simp only [zr_,zm_]))|(refine Mine.wp_alloc M.out rfl 68 rfl (.agg (List.toArray ((.int .i64 0)::(.int .i64 0)::(.int .i64 0)::(.int .i64 0)::(.int .i64 0)::(.slice none 0 0)::(.bool false)::(.int .i64 0)::(.int .i64 0)::(.int .i64 0)::(.int .i64 0)::(.int .i64 0)::(.int .i64 0)::(.int .i64 0)::(.int .i64 0)::(.int .i64 0)::(.slice none 0 0)::(.slice none 0 0)::[]))) (by kernel_rfl) ?_;intro gx w' M';(try simp only [Value.cells,zr_,zm_] at M');replace M:=Lib.hid M';clear M';(try simp only [zr_,zm_]))|((first|refine zSs M.out 68 0 ?_|refine zS M.out 0 ?_|refine zSs M.out 66 0 ?_);intro w' M';(try simp only [zr_,zm_] at M');replace M:=Lib.hid M';clear M'))|((with_reducible show wpList _ _ _ (⟨_,.load _ _,_,_,_,some _⟩::_) _ _);first|((first|refine zGg M.out 0 ?_|refine zGg M.out 1 ?_);(try simp only [zr_,zm_]))))
  refine Mine.region_head M.out 9 (by kernel_rfl) (by kernel_rfl) ?_
  intro w' M'
  replace M:=Lib.hid M'
  clear M'
  refine zXT 0 ?_;(try simp only [zs_,zl_])
  refine zXT 1 ?_;(try simp only [zs_,zl_])
  refine zXT 2 ?_;(try simp only [zs_,zl_])
  refine zT 3 ?_;intro K hK;((refine zDs 27 2 2 ?_;(try simp only [zr_,zm_]);go_big_quiet_on))
  refine zXT 4 ?_;(try simp only [zs_,zl_])
  refine zT 5 ?_;intro K hK;((refine zD 0 ?_;(try simp only [zr_,zm_]);go_big_quiet_on))
  refine zXT 6 ?_;(try simp only [zs_,zl_])
  refine zT 7 ?_;intro K hK;((refine zDs 66 0 4 ?_;(try simp only [zr_,zm_]);go_big_quiet_on))
  refine HQ.noisy (rs:=[8]) (by kernel_rfl) (by simp) (AllG.cons rfl (Nat.le_of_ble_eq_true rfl) (fun K hK => ?_) AllG.nil)
  go_simp
  go_at_call 87
  refine (impl_ProbeStep_is HQQ.out (M.out.row_sl 5 rfl) hnM).mono ?_
  rintro e w6 ⟨rfl,x6⟩
  replace M:=Lib.hid (M.out.on x6)
  clear x6
  refine hK.out _ _ (M.out) ?_
  clear hK K
  (try simp only [zs_,zl_])
  refine HQ.end_ (by kernel_rfl) ?_
  simp only [List.drop_succ_cons,List.drop_zero]
  go_wp2_with (((with_reducible show wpList _ _ _ (⟨_,_,_,_,_,none⟩::_) _ _);first|(refine zSs M.out 66 0 ?_;intro w' M';(try simp only [zr_,zm_] at M');replace M:=Lib.hid M';clear M')|(refine zG M.out 0 ?_;(try simp only [zr_,zm_]))))
  refine Mine.region_head M.out 6 (by kernel_rfl) (by kernel_rfl) ?_
  intro w' M'
  replace M:=Lib.hid M'
  clear M'
  refine zXT 0 ?_;(try simp only [zs_,zl_])
  refine zXT 1 ?_;(try simp only [zs_,zl_])
  refine zXT 2 ?_;(try simp only [zs_,zl_])
  refine zT 3 ?_;intro K hK;((refine zD 2 ?_;(try simp only [zr_,zm_]);go_big_quiet_on))
  refine zXT 4 ?_;(try simp only [zs_,zl_])
  refine zT 5 ?_;intro K hK;((refine zDs 68 0 18 ?_;(try simp only [zr_,zm_]);go_big_quiet_on))
  refine HQ.end_ (by kernel_rfl) ?_
  simp only [List.drop_succ_cons,List.drop_zero]
  go_wp2_with (((with_reducible show wpList _ _ _ (⟨_,_,_,_,_,none⟩::_) _ _);first|(refine Mine.wp_puts M.out rfl 68 _ _ rfl rfl 3 _ rfl rfl _ rfl (by simp only [List.length_cons,List.length_nil];omega) (by simp [Value.oneCell']) (by kernel_rfl) ?_;intro w' M';replace M:=Lib.hid M';clear M')))
  first|refine bodyPost_ret (v:=.tuple #[]) (by simp [results,Tryz.results36,go_sem]) rfl ?_|refine bodyPost_end (v:=.tuple #[]) (by simp [results,Tryz.results36,go_sem]) rfl ?_
  rw [HZ.out]
  replace M:=Lib.hid (M.out.sub (sd_ (sd_ (sk_ (sk_ (sk_ (sk_ (sk_ (sk_ (sk_ s1_))))))))))
  replace M:=Lib.hid (M.out.perm (List.perm_middle (l₁:=[_,_,_,_,_,_])))
  simp only [List.cons_append,List.nil_append] at M
  replace M:=Lib.hid (M.out.perm (List.perm_middle (l₁:=[_,_,_,_,_,_])))
  simp only [List.cons_append,List.nil_append] at M
  replace M:=Lib.hid (M.out.perm (List.perm_middle (l₁:=[_,_,_,_,_,_])))
  simp only [List.cons_append,List.nil_append] at M
  replace M:=Lib.hid (M.out.perm (List.perm_middle (l₁:=[_,_,_,_,_,_])))
  simp only [List.cons_append,List.nil_append] at M
  replace M:=Lib.hid (M.out.perm (List.perm_middle (l₁:=[_,_,_,_,_,_])))
  simp only [List.cons_append,List.nil_append] at M
  replace M:=Lib.hid (M.out.perm (List.perm_middle (l₁:=[_,_,_,_,_,_])))
  simp only [List.cons_append,List.nil_append] at M
  replace M:=Lib.hid (M.out.perm (List.perm_middle (l₁:=[_,_,_,_,_,_])))
  simp only [List.cons_append,List.nil_append] at M
  exact ⟨_,_,_,_,_,_,_,_,_,_,_,_,rfl,M.out⟩

end Go.Proofs.YtpmfhfpjiebcjaaGreat
