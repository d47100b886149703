/- CommitStep of the program: a check. No condition but lengths. -/
import Derived.Test.YtpmfhfpjiebcjaaGreatD00
import Derived.Test.YtpmfhfpjiebcjaaGreatD11
namespace Go.Proofs.YtpmfhfpjiebcjaaGreat
open Go.RowKit Go.Deep
set_option linter.unnecessarySimpa false
set_option linter.unusedSimpArgs false
set_option linter.unusedVariables false
set_option maxRecDepth 8000 in
set_option maxHeartbeats 16000000 in
theorem impl_cs3 (m : Mem) (A : Option Addr) (n cm : Nat) (who rv wv : Int) (a : Nat) (ps : List Row) (rs : List Int) (Ap : Option Addr) (np cp : Nat) (Ar : Option Addr) (nr cr : Nat) (w : World) (SM : Nat → Prop) (hsM : Sl w SM 3 A n (m.cells_.flatMap Word.cells)) (hnM : n ≤ 1048576) (S1 : Nat → Prop) (h1 : Sl w S1 2 Ap np (ps.flatMap Row.cells)) (hm1 : np ≤ 1048576) (S2 : Nat → Prop) (h2 : Sl w S2 1 Ar nr (ints rs)) (hm2 : nr ≤ 1048576) (hM : memOk m = true) (hC : commitOk ⟨who,rv,3,(a : Int),wv,ps,rs⟩ = true) :
  Calls Tryz.prog 89 #[.agg #[.int .i64 m.clock_,.slice A n cm],.agg #[.int .i64 who,.int .i64 rv,.int .i64 3,.int .i64 (a : Int),.int .i64 wv,.slice Ap np cp,.slice Ar nr cr]] w fun e w' => ∃ B d Bp dp Br dr,e = .returned (.tuple #[.agg #[.int .i64 (cstepS m ⟨who,rv,3,(a : Int),wv,ps,rs⟩).k,.slice B n d],.agg #[.int .i64 who,.int .i64 rv,.int .i64 (cstepS m ⟨who,rv,3,(a : Int),wv,ps,rs⟩).ph,.int .i64 (cstepS m ⟨who,rv,3,(a : Int),wv,ps,rs⟩).at_,.int .i64 (cstepS m ⟨who,rv,3,(a : Int),wv,ps,rs⟩).wv,.slice Bp np dp,.slice Br nr dr]]) ∧ Mine w w' [.row 102 3 B n d ((cstepS m ⟨who,rv,3,(a : Int),wv,ps,rs⟩).xs.flatMap Word.cells),.row 97 2 Bp np dp (ps.flatMap Row.cells),.row 3 1 Br nr dr (ints rs)]:=by
 have hl0 : m.cells_.length = n:=hsM.flen Word.cells_length (by omega)
 have hl1 : ps.length = np:=h1.flen Row.cells_length (by omega)
 have hl2 : rs.length = nr:=h2.len
 have HSM:=Lib.hid hsM
 have H1:=Lib.hid h1
 have H2:=Lib.hid h2
 clear hsM h1 h2
 have M:=Lib.hid (Mine.refl w)
 have HM:=Lib.hid hM
 have HC:=Lib.hid hC
 obtain ⟨q1,q2,q3,-,q5,-,q7,q8⟩:=dec_true hC
 have hn8 : n = 8:=by have:=memOk_len hM;omega
 have HN8:=Lib.hid hn8
 have hn0 : 0 < n:=by omega
 have HQ1:=Lib.hid q1
 have ha : a < nr:=by have h:=q8.2;simp only [stepsN] at h;simp at h;omega
 obtain ⟨v,hr⟩ : ∃ v,rs[a]? = some v:=⟨_,List.getElem?_eq_getElem (by omega)⟩
 have hok:=q7.1 v (List.mem_of_getElem? hr)
 obtain ⟨j,rfl⟩ : ∃ j : Nat,v = (j : Int):=⟨v.toNat,by omega⟩
 obtain ⟨x,hx⟩ : ∃ x,m.cells_[j]? = some x:=⟨_,List.getElem?_eq_getElem (by omega)⟩
 have HR:=Lib.hid hr
 have HX:=Lib.hid hx
 have HGR : Hid ((ints rs)[a]? = some (.int .i64 (j : Int))):=ints_at hr
 have HWD : Hid (∀ k,k < [Value.int .i64 x.val_,.int .i64 x.ver_,.int .i64 x.owner_].length → (m.cells_.flatMap Word.cells)[j * 3 + k]? = [Value.int .i64 x.val_,.int .i64 x.ver_,.int .i64 x.owner_][k]?):=fun k hk => flat_get Word.cells_length m.cells_ j k x hx hk
 have ha1 : (a : Int) < (nr : Int):=by omega
 have haB : 0 ≤ (a : Int) ∧ (a : Int) ≤ 1048576:=by omega
 have hj1 : (j : Int) < (n : Int):=by omega
 have hnp : 0 ≤ (np : Int) ∧ (np : Int) ≤ 1048576:=by omega
 have har : 0 < nr:=by omega
 clear q1 q2 q3 q5 q7 q8 hok hr hx hn8
 by_cases c1 : x.owner_ = 0
 ·have b1 : (x.owner_ != 0) = false:=by simp [c1]
  have HC1:=Lib.hid c1
  clear c1
  by_cases c3 : rv < x.ver_
  ·have b3 : decide (rv < x.ver_) = true:=decide_eq_true c3
   have HC3:=Lib.hid c3
   clear c3
   have HZ:=Lib.hid (cs3_yes HM.out HC.out HR.out HX.out (.inr HC3.out))
   (try rw [hl1] at HZ);(try rw [hl2] at HZ)
   go_enter Tryz.func89,Tryz.ntmps89
   go_wp2_with (first|(go_at_call 129;(with_reducible refine (impl_copyMem_m m.clock_ A n cm m.cells_ _ SM (HSM.out.ext M.out.ext) hnM).mono ?_);rintro e w' ⟨B,d,rfl,M9⟩;have M8:=M.out.call M9;replace M:=Lib.hid M8;clear M8 M9)|(go_at_call 130;(with_reducible refine (impl_copyCommit_m who rv 3 (a : Int) wv Ap np cp Ar nr cr ps rs _ S1 (H1.out.ext M.out.ext) hm1 S2 (H2.out.ext M.out.ext) hm2).mono ?_);rintro e w' ⟨Bp,dp,Br,dr,rfl,M9⟩;have M8:=M.out.call M9;replace M:=Lib.hid M8;clear M8 M9)|(go_at_call 65;(with_reducible refine (impl_MemOk m B n d _ _ (by omega) (M.out.row_sl 2 rfl)).mono ?_);rintro e w' ⟨rfl,x9⟩;replace M:=Lib.hid (M.out.on x9);clear x9;rw [HM.out])|(go_at_call 131;(with_reducible refine (impl_CommitOk ⟨who,rv,3,(a : Int),wv,ps,rs⟩ _ np dp Br nr dr _ _ (M.out.row_sl 0 rfl) hm1 _ (M.out.row_sl 1 rfl) hm2).mono ?_);rintro e w' ⟨rfl,x9⟩;replace M:=Lib.hid (M.out.on x9);clear x9;rw [HC.out])|((with_reducible show wpList _ _ _ (⟨_,_,_,_,_,none⟩::_) _ _);first|(refine Mine.wp_box M.out rfl 27 _ rfl _ rfl ?_;intro ga w' M';(try simp only [zr_,zm_] at M');replace M:=Lib.hid M';clear M';(try simp only [zr_,zm_]))|(refine Mine.wp_box M.out rfl 64 _ rfl _ rfl ?_;intro gc w' M';(try simp only [zr_,zm_] at M');replace M:=Lib.hid M';clear M';(try simp only [zr_,zm_]))|(refine Mine.wp_alloc M.out rfl 27 rfl (.agg #[.int .i64 0,.slice none 0 0]) (by kernel_rfl) ?_;intro gr w' M';(try simp only [Value.cells,zr_,zm_] at M');replace M:=Lib.hid M';clear M';(try simp only [zr_,zm_]))|(refine Mine.wp_alloc M.out rfl 64 rfl (.agg #[.int .i64 0,.int .i64 0,.int .i64 0,.int .i64 0,.int .i64 0,.slice none 0 0,.slice none 0 0]) (by kernel_rfl) ?_;intro gs w' M';(try simp only [Value.cells,zr_,zm_] at M');replace M:=Lib.hid M';clear M';(try simp only [zr_,zm_]))|((first|refine zGs M.out 27 3 2 ?_|refine zGs M.out 64 3 7 ?_|refine zGs M.out 27 6 2 ?_|refine zG M.out 5 ?_);(try simp only [zr_,zm_]))|((first|refine zSs M.out 27 4 ?_|refine zSs M.out 64 5 ?_);intro w' M';(try simp only [zr_,zm_] at M');replace M:=Lib.hid M';clear M'))|((with_reducible show wpList _ _ _ (⟨_,.load _ _,_,_,_,some _⟩::_) _ _);first|(refine Mine.wp_getsg M.out (by rfl) 64 _ rfl 5 _ 7 rfl rfl (Nat.le_of_ble_eq_true rfl) _ Tryz.underlying64 (by rfl) (by kernel_rfl) ?_;(try simp only [zr_,zm_]))))
   obtain ⟨gW,rfl⟩:=M.out.addr 2 rfl (by omega)
   obtain ⟨gR,rfl⟩:=M.out.addr 1 rfl har
   refine Mine.region_head M.out 11 (by kernel_rfl) (by kernel_rfl) ?_
   intro w' M'
   replace M:=Lib.hid M'
   clear M'
   refine zXT 0 ?_;(try simp only [zs_,zl_])
   refine zT 1 ?_;intro K hK;((refine zD 6 ?_;(try simp only [zr_,zm_]);go_big_quiet_on))
   refine zXT 2 ?_;(try simp only [zs_,zl_])
   refine zT 3 ?_;intro K hK;((refine zD 5 ?_;(try simp only [zr_,zm_]);go_big_quiet_on))
   refine zXT 4 ?_;(try simp only [zs_,zl_])
   refine zT 5 ?_;intro K hK;((refine zD 5 ?_;(try simp only [zr_,zm_]);go_big_quiet_on))
   refine zXT 6 ?_;(try simp only [zs_,zl_])
   refine zT 7 ?_;intro K hK;((refine Mine.rd_getr _ _ rfl 1 _ rfl rfl _ (by exact HGR.out) _ (by first|exact Tryz.underlying3) (by rfl) ?_;(try simp only [zr_,zm_]);go_big_quiet_on))
   refine zXT 8 ?_;(try simp only [zs_,zl_])
   refine zT 9 ?_;intro K hK;((refine Mine.rd_getrs 102 _ rfl 2 _ rfl rfl [.int .i64 x.val_,.int .i64 x.ver_,.int .i64 x.owner_] HWD.out _ Tryz.underlying102 (by rfl) (by kernel_rfl) ?_;(try simp only [zr_,zm_]);go_big_quiet_on))
   refine HQ.noisy (rs:=[10]) (by kernel_rfl) (by simp) (AllG.cons rfl (Nat.le_of_ble_eq_true rfl) (fun K hK => ?_) AllG.nil)
   go_simp
   replace M:=Lib.hid (M.out.box 102 #[.int .i64 0,.int .i64 0,.int .i64 0])
   refine hK.out _ _ (M.out.tail) ?_
   clear hK K
   (try simp only [zs_,zl_])
   refine HQ.end_ (by kernel_rfl) ?_
   simp only [List.drop_succ_cons,List.drop_zero]
   generalize w'.heap.size = gN at M ⊢
   go_wp2_with (first|((with_reducible show wpList _ _ _ (⟨_,_,_,_,_,none⟩::_) _ _);first|(refine zSs M.out 102 0 ?_;intro w' M';(try simp only [zr_,zm_] at M');replace M:=Lib.hid M';clear M')|((first|refine zG M.out 0 ?_|refine zG M.out 6 ?_);(try simp only [zr_,zm_])))|((with_reducible show wpList _ _ _ (⟨_,.load _ _,_,_,_,some _⟩::_) _ _);first|((first|refine zGg M.out 0 ?_|refine zGg M.out 6 ?_);(try simp only [zr_,zm_]))))
   replace M:=Lib.hid (M.out.perm (List.perm_middle (l₁:=[_,_,_,_,_,_])))
   simp only [List.cons_append,List.nil_append] at M
   refine (impl_back_m who rv 3 (a : Int) wv _ np dp _ nr dr (np : Int) hnp w _ gc _ M.out).mono ?_
   rintro e w6 ⟨rfl,M9⟩
   replace M:=Lib.hid M9
   clear M9
   go_wp2
   have MT:=Lib.hid (M.out.sub (sk_ (sk_ (sk_ (sk_ (sk_ (sk_ (sd_ (sk_ s0_)))))))))
   refine Mine.region_headS MT.out M.out 3 (by kernel_rfl) (by kernel_rfl) ?_
   intro w' M'
   replace M:=Lib.hid M'
   clear M'
   clear MT
   refine zT 0 ?_;intro K hK;((refine zDs 27 6 2 ?_;(try simp only [zr_,zm_]);go_big_quiet_on))
   refine zT 1 ?_;intro K hK;((refine zDs 64 0 7 ?_;(try simp only [zr_,zm_]);go_big_quiet_on))
   refine HQ.noisy (rs:=[2]) (by kernel_rfl) (by simp) (AllG.cons rfl (Nat.le_of_ble_eq_true rfl) (fun K hK => ?_) AllG.nil)
   refine Mine.step_sets M.out (by rfl) 27 _ _ (by rfl) (by rfl) 6 _ (by rfl) (by rfl) _ (by rfl) (Nat.le_of_ble_eq_true rfl) (by simp [Value.oneCell']) (by kernel_rfl) ?_
   intro w' M'
   simp only [zr_,zm_] at M'
   replace M:=Lib.hid M'
   clear M'
   refine hK.out _ _ (M.out.sub (sk_ (sk_ (sk_ (sk_ (sk_ (sk_ (sd_ (sk_ s0_))))))))) ?_
   clear hK K
   (try simp only [zs_,zl_])
   refine HQ.end_ (by kernel_rfl) ?_
   simp only [List.drop_succ_cons,List.drop_zero]
   go_wp2_with (((with_reducible show wpList _ _ _ (⟨_,_,_,_,_,none⟩::_) _ _);first|(refine zSs M.out 64 5 ?_;intro w' M';(try simp only [zr_,zm_] at M');replace M:=Lib.hid M';clear M')))
   refine bodyPost_ret (M.out.results_cc Tryz.results89 _ 6 rfl rfl _ Tryz.underlying27 (by rfl) (by kernel_rfl) 5 rfl rfl _ Tryz.underlying64 (by rfl) (by kernel_rfl)) rfl ?_
   rw [HZ.out]
   replace M:=Lib.hid (M.out.sub (sd_ (sd_ (sk_ (sk_ (sk_ (sd_ (sd_ (sd_ s0_)))))))))
   replace M:=Lib.hid (M.out.perm (List.perm_middle (l₁:=[_,_])))
   simp only [List.cons_append,List.nil_append] at M
   exact ⟨_,_,_,_,_,_,rfl,M.out⟩
  ·have b3 : decide (rv < x.ver_) = false:=decide_eq_false c3
   have HC3:=Lib.hid c3
   clear c3
   have HZ:=Lib.hid (cs3_no HM.out HC.out HR.out HX.out (fun q => by have h1:=HC1.out;have h3:=HC3.out;rcases q with q|q;exact q.1 h1;exact h3 q))
   (try rw [hl1] at HZ);(try rw [hl2] at HZ)
   go_enter Tryz.func89,Tryz.ntmps89
   go_wp2_with (first|(go_at_call 129;(with_reducible refine (impl_copyMem_m m.clock_ A n cm m.cells_ _ SM (HSM.out.ext M.out.ext) hnM).mono ?_);rintro e w' ⟨B,d,rfl,M9⟩;have M8:=M.out.call M9;replace M:=Lib.hid M8;clear M8 M9)|(go_at_call 130;(with_reducible refine (impl_copyCommit_m who rv 3 (a : Int) wv Ap np cp Ar nr cr ps rs _ S1 (H1.out.ext M.out.ext) hm1 S2 (H2.out.ext M.out.ext) hm2).mono ?_);rintro e w' ⟨Bp,dp,Br,dr,rfl,M9⟩;have M8:=M.out.call M9;replace M:=Lib.hid M8;clear M8 M9)|(go_at_call 65;(with_reducible refine (impl_MemOk m B n d _ _ (by omega) (M.out.row_sl 2 rfl)).mono ?_);rintro e w' ⟨rfl,x9⟩;replace M:=Lib.hid (M.out.on x9);clear x9;rw [HM.out])|(go_at_call 131;(with_reducible refine (impl_CommitOk ⟨who,rv,3,(a : Int),wv,ps,rs⟩ _ np dp Br nr dr _ _ (M.out.row_sl 0 rfl) hm1 _ (M.out.row_sl 1 rfl) hm2).mono ?_);rintro e w' ⟨rfl,x9⟩;replace M:=Lib.hid (M.out.on x9);clear x9;rw [HC.out])|((with_reducible show wpList _ _ _ (⟨_,_,_,_,_,none⟩::_) _ _);first|(refine Mine.wp_box M.out rfl 27 _ rfl _ rfl ?_;intro ga w' M';(try simp only [zr_,zm_] at M');replace M:=Lib.hid M';clear M';(try simp only [zr_,zm_]))|(refine Mine.wp_box M.out rfl 64 _ rfl _ rfl ?_;intro gc w' M';(try simp only [zr_,zm_] at M');replace M:=Lib.hid M';clear M';(try simp only [zr_,zm_]))|(refine Mine.wp_alloc M.out rfl 27 rfl (.agg #[.int .i64 0,.slice none 0 0]) (by kernel_rfl) ?_;intro gr w' M';(try simp only [Value.cells,zr_,zm_] at M');replace M:=Lib.hid M';clear M';(try simp only [zr_,zm_]))|(refine Mine.wp_alloc M.out rfl 64 rfl (.agg #[.int .i64 0,.int .i64 0,.int .i64 0,.int .i64 0,.int .i64 0,.slice none 0 0,.slice none 0 0]) (by kernel_rfl) ?_;intro gs w' M';(try simp only [Value.cells,zr_,zm_] at M');replace M:=Lib.hid M';clear M';(try simp only [zr_,zm_]))|((first|refine zGs M.out 27 3 2 ?_|refine zGs M.out 64 3 7 ?_|refine zGs M.out 27 6 2 ?_|refine zG M.out 5 ?_);(try simp only [zr_,zm_]))|((first|refine zSs M.out 27 4 ?_|refine zSs M.out 64 5 ?_);intro w' M';(try simp only [zr_,zm_] at M');replace M:=Lib.hid M';clear M'))|((with_reducible show wpList _ _ _ (⟨_,.load _ _,_,_,_,some _⟩::_) _ _);first|(refine Mine.wp_getsg M.out (by rfl) 64 _ rfl 5 _ 7 rfl rfl (Nat.le_of_ble_eq_true rfl) _ Tryz.underlying64 (by rfl) (by kernel_rfl) ?_;(try simp only [zr_,zm_]))))
   obtain ⟨gW,rfl⟩:=M.out.addr 2 rfl (by omega)
   obtain ⟨gR,rfl⟩:=M.out.addr 1 rfl har
   refine Mine.region_head M.out 11 (by kernel_rfl) (by kernel_rfl) ?_
   intro w' M'
   replace M:=Lib.hid M'
   clear M'
   refine zXT 0 ?_;(try simp only [zs_,zl_])
   refine zT 1 ?_;intro K hK;((refine zD 6 ?_;(try simp only [zr_,zm_]);go_big_quiet_on))
   refine zXT 2 ?_;(try simp only [zs_,zl_])
   refine zT 3 ?_;intro K hK;((refine zD 5 ?_;(try simp only [zr_,zm_]);go_big_quiet_on))
   refine zXT 4 ?_;(try simp only [zs_,zl_])
   refine zT 5 ?_;intro K hK;((refine zD 5 ?_;(try simp only [zr_,zm_]);go_big_quiet_on))
   refine zXT 6 ?_;(try simp only [zs_,zl_])
   refine zT 7 ?_;intro K hK;((refine Mine.rd_getr _ _ rfl 1 _ rfl rfl _ (by exact HGR.out) _ (by first|exact Tryz.underlying3) (by rfl) ?_;(try simp only [zr_,zm_]);go_big_quiet_on))
   refine zXT 8 ?_;(try simp only [zs_,zl_])
   refine zT 9 ?_;intro K hK;((refine Mine.rd_getrs 102 _ rfl 2 _ rfl rfl [.int .i64 x.val_,.int .i64 x.ver_,.int .i64 x.owner_] HWD.out _ Tryz.underlying102 (by rfl) (by kernel_rfl) ?_;(try simp only [zr_,zm_]);go_big_quiet_on))
   refine HQ.noisy (rs:=[10]) (by kernel_rfl) (by simp) (AllG.cons rfl (Nat.le_of_ble_eq_true rfl) (fun K hK => ?_) AllG.nil)
   go_simp
   replace M:=Lib.hid (M.out.box 102 #[.int .i64 0,.int .i64 0,.int .i64 0])
   refine hK.out _ _ (M.out.tail) ?_
   clear hK K
   (try simp only [zs_,zl_])
   refine HQ.end_ (by kernel_rfl) ?_
   simp only [List.drop_succ_cons,List.drop_zero]
   generalize w'.heap.size = gN at M ⊢
   go_wp2_with (first|((with_reducible show wpList _ _ _ (⟨_,_,_,_,_,none⟩::_) _ _);first|(refine zSs M.out 102 0 ?_;intro w' M';(try simp only [zr_,zm_] at M');replace M:=Lib.hid M';clear M')|(refine zG M.out 0 ?_;(try simp only [zr_,zm_])))|((with_reducible show wpList _ _ _ (⟨_,.load _ _,_,_,_,some _⟩::_) _ _);first|((first|refine zGg M.out 0 ?_|refine zGg M.out 6 ?_);(try simp only [zr_,zm_]))))
   replace M:=Lib.hid (M.out.perm (List.perm_middle (l₁:=[_,_,_,_,_,_])))
   simp only [List.cons_append,List.nil_append] at M
   refine (impl_next_m who rv 3 (a : Int) wv _ np dp _ nr dr 4 haB w _ gc _ M.out).mono ?_
   rintro e w6 ⟨rfl,M9⟩
   replace M:=Lib.hid M9
   clear M9
   go_wp2
   have MT:=Lib.hid (M.out.sub (sk_ (sk_ (sk_ (sk_ (sk_ (sk_ (sd_ (sk_ s0_)))))))))
   refine Mine.region_headS MT.out M.out 3 (by kernel_rfl) (by kernel_rfl) ?_
   intro w' M'
   replace M:=Lib.hid M'
   clear M'
   clear MT
   refine zT 0 ?_;intro K hK;((refine zDs 27 6 2 ?_;(try simp only [zr_,zm_]);go_big_quiet_on))
   refine zT 1 ?_;intro K hK;((refine zDs 64 0 7 ?_;(try simp only [zr_,zm_]);go_big_quiet_on))
   refine HQ.noisy (rs:=[2]) (by kernel_rfl) (by simp) (AllG.cons rfl (Nat.le_of_ble_eq_true rfl) (fun K hK => ?_) AllG.nil)
   refine Mine.step_sets M.out (by rfl) 27 _ _ (by rfl) (by rfl) 6 _ (by rfl) (by rfl) _ (by rfl) (Nat.le_of_ble_eq_true rfl) (by simp [Value.oneCell']) (by kernel_rfl) ?_
   intro w' M'
   simp only [zr_,zm_] at M'
   replace M:=Lib.hid M'
   clear M'
   refine hK.out _ _ (M.out.sub (sk_ (sk_ (sk_ (sk_ (sk_ (sk_ (sd_ (sk_ s0_))))))))) ?_
   clear hK K
   (try simp only [zs_,zl_])
   refine HQ.end_ (by kernel_rfl) ?_
   simp only [List.drop_succ_cons,List.drop_zero]
   go_wp2_with (((with_reducible show wpList _ _ _ (⟨_,_,_,_,_,none⟩::_) _ _);first|(refine zSs M.out 64 5 ?_;intro w' M';(try simp only [zr_,zm_] at M');replace M:=Lib.hid M';clear M')))
   refine bodyPost_ret (M.out.results_cc Tryz.results89 _ 6 rfl rfl _ Tryz.underlying27 (by rfl) (by kernel_rfl) 5 rfl rfl _ Tryz.underlying64 (by rfl) (by kernel_rfl)) rfl ?_
   rw [HZ.out]
   replace M:=Lib.hid (M.out.sub (sd_ (sd_ (sk_ (sk_ (sk_ (sd_ (sd_ (sd_ s0_)))))))))
   replace M:=Lib.hid (M.out.perm (List.perm_middle (l₁:=[_,_])))
   simp only [List.cons_append,List.nil_append] at M
   exact ⟨_,_,_,_,_,_,rfl,M.out⟩
 have b1 : (x.owner_ != 0) = true:=by simpa using c1
 have HC1:=Lib.hid c1
 clear c1
 by_cases c2 : x.owner_ = who
 ·have b2 : (x.owner_ != who) = false:=by simp [c2]
  have HC2:=Lib.hid c2
  clear c2
  by_cases c3 : rv < x.ver_
  ·have b3 : decide (rv < x.ver_) = true:=decide_eq_true c3
   have HC3:=Lib.hid c3
   clear c3
   have HZ:=Lib.hid (cs3_yes HM.out HC.out HR.out HX.out (.inr HC3.out))
   (try rw [hl1] at HZ);(try rw [hl2] at HZ)
   go_enter Tryz.func89,Tryz.ntmps89
   go_wp2_with (first|(go_at_call 129;(with_reducible refine (impl_copyMem_m m.clock_ A n cm m.cells_ _ SM (HSM.out.ext M.out.ext) hnM).mono ?_);rintro e w' ⟨B,d,rfl,M9⟩;have M8:=M.out.call M9;replace M:=Lib.hid M8;clear M8 M9)|(go_at_call 130;(with_reducible refine (impl_copyCommit_m who rv 3 (a : Int) wv Ap np cp Ar nr cr ps rs _ S1 (H1.out.ext M.out.ext) hm1 S2 (H2.out.ext M.out.ext) hm2).mono ?_);rintro e w' ⟨Bp,dp,Br,dr,rfl,M9⟩;have M8:=M.out.call M9;replace M:=Lib.hid M8;clear M8 M9)|(go_at_call 65;(with_reducible refine (impl_MemOk m B n d _ _ (by omega) (M.out.row_sl 2 rfl)).mono ?_);rintro e w' ⟨rfl,x9⟩;replace M:=Lib.hid (M.out.on x9);clear x9;rw [HM.out])|(go_at_call 131;(with_reducible refine (impl_CommitOk ⟨who,rv,3,(a : Int),wv,ps,rs⟩ _ np dp Br nr dr _ _ (M.out.row_sl 0 rfl) hm1 _ (M.out.row_sl 1 rfl) hm2).mono ?_);rintro e w' ⟨rfl,x9⟩;replace M:=Lib.hid (M.out.on x9);clear x9;rw [HC.out])|((with_reducible show wpList _ _ _ (⟨_,_,_,_,_,none⟩::_) _ _);first|(refine Mine.wp_box M.out rfl 27 _ rfl _ rfl ?_;intro ga w' M';(try simp only [zr_,zm_] at M');replace M:=Lib.hid M';clear M';(try simp only [zr_,zm_]))|(refine Mine.wp_box M.out rfl 64 _ rfl _ rfl ?_;intro gc w' M';(try simp only [zr_,zm_] at M');replace M:=Lib.hid M';clear M';(try simp only [zr_,zm_]))|(refine Mine.wp_alloc M.out rfl 27 rfl (.agg #[.int .i64 0,.slice none 0 0]) (by kernel_rfl) ?_;intro gr w' M';(try simp only [Value.cells,zr_,zm_] at M');replace M:=Lib.hid M';clear M';(try simp only [zr_,zm_]))|(refine Mine.wp_alloc M.out rfl 64 rfl (.agg #[.int .i64 0,.int .i64 0,.int .i64 0,.int .i64 0,.int .i64 0,.slice none 0 0,.slice none 0 0]) (by kernel_rfl) ?_;intro gs w' M';(try simp only [Value.cells,zr_,zm_] at M');replace M:=Lib.hid M';clear M';(try simp only [zr_,zm_]))|((first|refine zGs M.out 27 3 2 ?_|refine zGs M.out 64 3 7 ?_|refine zGs M.out 27 6 2 ?_|refine zG M.out 5 ?_);(try simp only [zr_,zm_]))|((first|refine zSs M.out 27 4 ?_|refine zSs M.out 64 5 ?_);intro w' M';(try simp only [zr_,zm_] at M');replace M:=Lib.hid M';clear M'))|((with_reducible show wpList _ _ _ (⟨_,.load _ _,_,_,_,some _⟩::_) _ _);first|(refine Mine.wp_getsg M.out (by rfl) 64 _ rfl 5 _ 7 rfl rfl (Nat.le_of_ble_eq_true rfl) _ Tryz.underlying64 (by rfl) (by kernel_rfl) ?_;(try simp only [zr_,zm_]))))
   obtain ⟨gW,rfl⟩:=M.out.addr 2 rfl (by omega)
   obtain ⟨gR,rfl⟩:=M.out.addr 1 rfl har
   refine Mine.region_head M.out 11 (by kernel_rfl) (by kernel_rfl) ?_
   intro w' M'
   replace M:=Lib.hid M'
   clear M'
   refine zXT 0 ?_;(try simp only [zs_,zl_])
   refine zT 1 ?_;intro K hK;((refine zD 6 ?_;(try simp only [zr_,zm_]);go_big_quiet_on))
   refine zXT 2 ?_;(try simp only [zs_,zl_])
   refine zT 3 ?_;intro K hK;((refine zD 5 ?_;(try simp only [zr_,zm_]);go_big_quiet_on))
   refine zXT 4 ?_;(try simp only [zs_,zl_])
   refine zT 5 ?_;intro K hK;((refine zD 5 ?_;(try simp only [zr_,zm_]);go_big_quiet_on))
   refine zXT 6 ?_;(try simp only [zs_,zl_])
   refine zT 7 ?_;intro K hK;((refine Mine.rd_getr _ _ rfl 1 _ rfl rfl _ (by exact HGR.out) _ (by first|exact Tryz.underlying3) (by rfl) ?_;(try simp only [zr_,zm_]);go_big_quiet_on))
   refine zXT 8 ?_;(try simp only [zs_,zl_])
   refine zT 9 ?_;intro K hK;((refine Mine.rd_getrs 102 _ rfl 2 _ rfl rfl [.int .i64 x.val_,.int .i64 x.ver_,.int .i64 x.owner_] HWD.out _ Tryz.underlying102 (by rfl) (by kernel_rfl) ?_;(try simp only [zr_,zm_]);go_big_quiet_on))
   refine HQ.noisy (rs:=[10]) (by kernel_rfl) (by simp) (AllG.cons rfl (Nat.le_of_ble_eq_true rfl) (fun K hK => ?_) AllG.nil)
   go_simp
   replace M:=Lib.hid (M.out.box 102 #[.int .i64 0,.int .i64 0,.int .i64 0])
   refine hK.out _ _ (M.out.tail) ?_
   clear hK K
   (try simp only [zs_,zl_])
   refine HQ.end_ (by kernel_rfl) ?_
   simp only [List.drop_succ_cons,List.drop_zero]
   generalize w'.heap.size = gN at M ⊢
   go_wp2_with (first|((with_reducible show wpList _ _ _ (⟨_,_,_,_,_,none⟩::_) _ _);first|(refine zSs M.out 102 0 ?_;intro w' M';(try simp only [zr_,zm_] at M');replace M:=Lib.hid M';clear M')|((first|refine zG M.out 0 ?_|refine zG M.out 6 ?_);(try simp only [zr_,zm_])))|((with_reducible show wpList _ _ _ (⟨_,.load _ _,_,_,_,some _⟩::_) _ _);first|((first|refine zGg M.out 0 ?_|refine zGg M.out 6 ?_);(try simp only [zr_,zm_]))))
   replace M:=Lib.hid (M.out.perm (List.perm_middle (l₁:=[_,_,_,_,_,_])))
   simp only [List.cons_append,List.nil_append] at M
   refine (impl_back_m who rv 3 (a : Int) wv _ np dp _ nr dr (np : Int) hnp w _ gc _ M.out).mono ?_
   rintro e w6 ⟨rfl,M9⟩
   replace M:=Lib.hid M9
   clear M9
   go_wp2
   have MT:=Lib.hid (M.out.sub (sk_ (sk_ (sk_ (sk_ (sk_ (sk_ (sd_ (sk_ s0_)))))))))
   refine Mine.region_headS MT.out M.out 3 (by kernel_rfl) (by kernel_rfl) ?_
   intro w' M'
   replace M:=Lib.hid M'
   clear M'
   clear MT
   refine zT 0 ?_;intro K hK;((refine zDs 27 6 2 ?_;(try simp only [zr_,zm_]);go_big_quiet_on))
   refine zT 1 ?_;intro K hK;((refine zDs 64 0 7 ?_;(try simp only [zr_,zm_]);go_big_quiet_on))
   refine HQ.noisy (rs:=[2]) (by kernel_rfl) (by simp) (AllG.cons rfl (Nat.le_of_ble_eq_true rfl) (fun K hK => ?_) AllG.nil)
   refine Mine.step_sets M.out (by rfl) 27 _ _ (by rfl) (by rfl) 6 _ (by rfl) (by rfl) _ (by rfl) (Nat.le_of_ble_eq_true rfl) (by simp [Value.oneCell']) (by kernel_rfl) ?_
   intro w' M'
   simp only [zr_,zm_] at M'
   replace M:=Lib.hid M'
   clear M'
   refine hK.out _ _ (M.out.sub (sk_ (sk_ (sk_ (sk_ (sk_ (sk_ (sd_ (sk_ s0_))))))))) ?_
   clear hK K
   (try simp only [zs_,zl_])
   refine HQ.end_ (by kernel_rfl) ?_
   simp only [List.drop_succ_cons,List.drop_zero]
   go_wp2_with (((with_reducible show wpList _ _ _ (⟨_,_,_,_,_,none⟩::_) _ _);first|(refine zSs M.out 64 5 ?_;intro w' M';(try simp only [zr_,zm_] at M');replace M:=Lib.hid M';clear M')))
   refine bodyPost_ret (M.out.results_cc Tryz.results89 _ 6 rfl rfl _ Tryz.underlying27 (by rfl) (by kernel_rfl) 5 rfl rfl _ Tryz.underlying64 (by rfl) (by kernel_rfl)) rfl ?_
   rw [HZ.out]
   replace M:=Lib.hid (M.out.sub (sd_ (sd_ (sk_ (sk_ (sk_ (sd_ (sd_ (sd_ s0_)))))))))
   replace M:=Lib.hid (M.out.perm (List.perm_middle (l₁:=[_,_])))
   simp only [List.cons_append,List.nil_append] at M
   exact ⟨_,_,_,_,_,_,rfl,M.out⟩
  ·have b3 : decide (rv < x.ver_) = false:=decide_eq_false c3
   have HC3:=Lib.hid c3
   clear c3
   have HZ:=Lib.hid (cs3_no HM.out HC.out HR.out HX.out (fun q => by have h2:=HC2.out;have h3:=HC3.out;rcases q with q|q;exact q.2 h2;exact h3 q))
   (try rw [hl1] at HZ);(try rw [hl2] at HZ)
   go_enter Tryz.func89,Tryz.ntmps89
   go_wp2_with (first|(go_at_call 129;(with_reducible refine (impl_copyMem_m m.clock_ A n cm m.cells_ _ SM (HSM.out.ext M.out.ext) hnM).mono ?_);rintro e w' ⟨B,d,rfl,M9⟩;have M8:=M.out.call M9;replace M:=Lib.hid M8;clear M8 M9)|(go_at_call 130;(with_reducible refine (impl_copyCommit_m who rv 3 (a : Int) wv Ap np cp Ar nr cr ps rs _ S1 (H1.out.ext M.out.ext) hm1 S2 (H2.out.ext M.out.ext) hm2).mono ?_);rintro e w' ⟨Bp,dp,Br,dr,rfl,M9⟩;have M8:=M.out.call M9;replace M:=Lib.hid M8;clear M8 M9)|(go_at_call 65;(with_reducible refine (impl_MemOk m B n d _ _ (by omega) (M.out.row_sl 2 rfl)).mono ?_);rintro e w' ⟨rfl,x9⟩;replace M:=Lib.hid (M.out.on x9);clear x9;rw [HM.out])|(go_at_call 131;(with_reducible refine (impl_CommitOk ⟨who,rv,3,(a : Int),wv,ps,rs⟩ _ np dp Br nr dr _ _ (M.out.row_sl 0 rfl) hm1 _ (M.out.row_sl 1 rfl) hm2).mono ?_);rintro e w' ⟨rfl,x9⟩;replace M:=Lib.hid (M.out.on x9);clear x9;rw [HC.out])|((with_reducible show wpList _ _ _ (⟨_,_,_,_,_,none⟩::_) _ _);first|(refine Mine.wp_box M.out rfl 27 _ rfl _ rfl ?_;intro ga w' M';(try simp only [zr_,zm_] at M');replace M:=Lib.hid M';clear M';(try simp only [zr_,zm_]))|(refine Mine.wp_box M.out rfl 64 _ rfl _ rfl ?_;intro gc w' M';(try simp only [zr_,zm_] at M');replace M:=Lib.hid M';clear M';(try simp only [zr_,zm_]))|(refine Mine.wp_alloc M.out rfl 27 rfl (.agg #[.int .i64 0,.slice none 0 0]) (by kernel_rfl) ?_;intro gr w' M';(try simp only [Value.cells,zr_,zm_] at M');replace M:=Lib.hid M';clear M';(try simp only [zr_,zm_]))|(refine Mine.wp_alloc M.out rfl 64 rfl (.agg #[.int .i64 0,.int .i64 0,.int .i64 0,.int .i64 0,.int .i64 0,.slice none 0 0,.slice none 0 0]) (by kernel_rfl) ?_;intro gs w' M';(try simp only [Value.cells,zr_,zm_] at M');replace M:=Lib.hid M';clear M';(try simp only [zr_,zm_]))|((first|refine zGs M.out 27 3 2 ?_|refine zGs M.out 64 3 7 ?_|refine zGs M.out 27 6 2 ?_|refine zG M.out 5 ?_);(try simp only [zr_,zm_]))|((first|refine zSs M.out 27 4 ?_|refine zSs M.out 64 5 ?_);intro w' M';(try simp only [zr_,zm_] at M');replace M:=Lib.hid M';clear M'))|((with_reducible show wpList _ _ _ (⟨_,.load _ _,_,_,_,some _⟩::_) _ _);first|(refine Mine.wp_getsg M.out (by rfl) 64 _ rfl 5 _ 7 rfl rfl (Nat.le_of_ble_eq_true rfl) _ Tryz.underlying64 (by rfl) (by kernel_rfl) ?_;(try simp only [zr_,zm_]))))
   obtain ⟨gW,rfl⟩:=M.out.addr 2 rfl (by omega)
   obtain ⟨gR,rfl⟩:=M.out.addr 1 rfl har
   refine Mine.region_head M.out 11 (by kernel_rfl) (by kernel_rfl) ?_
   intro w' M'
   replace M:=Lib.hid M'
   clear M'
   refine zXT 0 ?_;(try simp only [zs_,zl_])
   refine zT 1 ?_;intro K hK;((refine zD 6 ?_;(try simp only [zr_,zm_]);go_big_quiet_on))
   refine zXT 2 ?_;(try simp only [zs_,zl_])
   refine zT 3 ?_;intro K hK;((refine zD 5 ?_;(try simp only [zr_,zm_]);go_big_quiet_on))
   refine zXT 4 ?_;(try simp only [zs_,zl_])
   refine zT 5 ?_;intro K hK;((refine zD 5 ?_;(try simp only [zr_,zm_]);go_big_quiet_on))
   refine zXT 6 ?_;(try simp only [zs_,zl_])
   refine zT 7 ?_;intro K hK;((refine Mine.rd_getr _ _ rfl 1 _ rfl rfl _ (by exact HGR.out) _ (by first|exact Tryz.underlying3) (by rfl) ?_;(try simp only [zr_,zm_]);go_big_quiet_on))
   refine zXT 8 ?_;(try simp only [zs_,zl_])
   refine zT 9 ?_;intro K hK;((refine Mine.rd_getrs 102 _ rfl 2 _ rfl rfl [.int .i64 x.val_,.int .i64 x.ver_,.int .i64 x.owner_] HWD.out _ Tryz.underlying102 (by rfl) (by kernel_rfl) ?_;(try simp only [zr_,zm_]);go_big_quiet_on))
   refine HQ.noisy (rs:=[10]) (by kernel_rfl) (by simp) (AllG.cons rfl (Nat.le_of_ble_eq_true rfl) (fun K hK => ?_) AllG.nil)
   go_simp
   replace M:=Lib.hid (M.out.box 102 #[.int .i64 0,.int .i64 0,.int .i64 0])
   refine hK.out _ _ (M.out.tail) ?_
   clear hK K
   (try simp only [zs_,zl_])
   refine HQ.end_ (by kernel_rfl) ?_
   simp only [List.drop_succ_cons,List.drop_zero]
   generalize w'.heap.size = gN at M ⊢
   go_wp2_with (first|((with_reducible show wpList _ _ _ (⟨_,_,_,_,_,none⟩::_) _ _);first|(refine zSs M.out 102 0 ?_;intro w' M';(try simp only [zr_,zm_] at M');replace M:=Lib.hid M';clear M')|(refine zG M.out 0 ?_;(try simp only [zr_,zm_])))|((with_reducible show wpList _ _ _ (⟨_,.load _ _,_,_,_,some _⟩::_) _ _);first|((first|refine zGg M.out 0 ?_|refine zGg M.out 6 ?_);(try simp only [zr_,zm_]))))
   replace M:=Lib.hid (M.out.perm (List.perm_middle (l₁:=[_,_,_,_,_,_])))
   simp only [List.cons_append,List.nil_append] at M
   refine (impl_next_m who rv 3 (a : Int) wv _ np dp _ nr dr 4 haB w _ gc _ M.out).mono ?_
   rintro e w6 ⟨rfl,M9⟩
   replace M:=Lib.hid M9
   clear M9
   go_wp2
   have MT:=Lib.hid (M.out.sub (sk_ (sk_ (sk_ (sk_ (sk_ (sk_ (sd_ (sk_ s0_)))))))))
   refine Mine.region_headS MT.out M.out 3 (by kernel_rfl) (by kernel_rfl) ?_
   intro w' M'
   replace M:=Lib.hid M'
   clear M'
   clear MT
   refine zT 0 ?_;intro K hK;((refine zDs 27 6 2 ?_;(try simp only [zr_,zm_]);go_big_quiet_on))
   refine zT 1 ?_;intro K hK;((refine zDs 64 0 7 ?_;(try simp only [zr_,zm_]);go_big_quiet_on))
   refine HQ.noisy (rs:=[2]) (by kernel_rfl) (by simp) (AllG.cons rfl (Nat.le_of_ble_eq_true rfl) (fun K hK => ?_) AllG.nil)
   refine Mine.step_sets M.out (by rfl) 27 _ _ (by rfl) (by rfl) 6 _ (by rfl) (by rfl) _ (by rfl) (Nat.le_of_ble_eq_true rfl) (by simp [Value.oneCell']) (by kernel_rfl) ?_
   intro w' M'
   simp only [zr_,zm_] at M'
   replace M:=Lib.hid M'
   clear M'
   refine hK.out _ _ (M.out.sub (sk_ (sk_ (sk_ (sk_ (sk_ (sk_ (sd_ (sk_ s0_))))))))) ?_
   clear hK K
   (try simp only [zs_,zl_])
   refine HQ.end_ (by kernel_rfl) ?_
   simp only [List.drop_succ_cons,List.drop_zero]
   go_wp2_with (((with_reducible show wpList _ _ _ (⟨_,_,_,_,_,none⟩::_) _ _);first|(refine zSs M.out 64 5 ?_;intro w' M';(try simp only [zr_,zm_] at M');replace M:=Lib.hid M';clear M')))
   refine bodyPost_ret (M.out.results_cc Tryz.results89 _ 6 rfl rfl _ Tryz.underlying27 (by rfl) (by kernel_rfl) 5 rfl rfl _ Tryz.underlying64 (by rfl) (by kernel_rfl)) rfl ?_
   rw [HZ.out]
   replace M:=Lib.hid (M.out.sub (sd_ (sd_ (sk_ (sk_ (sk_ (sd_ (sd_ (sd_ s0_)))))))))
   replace M:=Lib.hid (M.out.perm (List.perm_middle (l₁:=[_,_])))
   simp only [List.cons_append,List.nil_append] at M
   exact ⟨_,_,_,_,_,_,rfl,M.out⟩
 have b2 : (x.owner_ != who) = true:=by simpa using c2
 have HC2:=Lib.hid c2
 clear c2
 have HZ:=Lib.hid (cs3_yes HM.out HC.out HR.out HX.out (.inl ⟨HC1.out,HC2.out⟩))
 (try rw [hl1] at HZ);(try rw [hl2] at HZ)
 go_enter Tryz.func89,Tryz.ntmps89
 go_wp2_with (first|(go_at_call 129;(with_reducible refine (impl_copyMem_m m.clock_ A n cm m.cells_ _ SM (HSM.out.ext M.out.ext) hnM).mono ?_);rintro e w' ⟨B,d,rfl,M9⟩;have M8:=M.out.call M9;replace M:=Lib.hid M8;clear M8 M9)|(go_at_call 130;(with_reducible refine (impl_copyCommit_m who rv 3 (a : Int) wv Ap np cp Ar nr cr ps rs _ S1 (H1.out.ext M.out.ext) hm1 S2 (H2.out.ext M.out.ext) hm2).mono ?_);rintro e w' ⟨Bp,dp,Br,dr,rfl,M9⟩;have M8:=M.out.call M9;replace M:=Lib.hid M8;clear M8 M9)|(go_at_call 65;(with_reducible refine (impl_MemOk m B n d _ _ (by omega) (M.out.row_sl 2 rfl)).mono ?_);rintro e w' ⟨rfl,x9⟩;replace M:=Lib.hid (M.out.on x9);clear x9;rw [HM.out])|(go_at_call 131;(with_reducible refine (impl_CommitOk ⟨who,rv,3,(a : Int),wv,ps,rs⟩ _ np dp Br nr dr _ _ (M.out.row_sl 0 rfl) hm1 _ (M.out.row_sl 1 rfl) hm2).mono ?_);rintro e w' ⟨rfl,x9⟩;replace M:=Lib.hid (M.out.on x9);clear x9;rw [HC.out])|((with_reducible show wpList _ _ _ (⟨_,_,_,_,_,none⟩::_) _ _);first|(refine Mine.wp_box M.out rfl 27 _ rfl _ rfl ?_;intro ga w' M';(try simp only [zr_,zm_] at M');replace M:=Lib.hid M';clear M';(try simp only [zr_,zm_]))|(refine Mine.wp_box M.out rfl 64 _ rfl _ rfl ?_;intro gc w' M';(try simp only [zr_,zm_] at M');replace M:=Lib.hid M';clear M';(try simp only [zr_,zm_]))|(refine Mine.wp_alloc M.out rfl 27 rfl (.agg #[.int .i64 0,.slice none 0 0]) (by kernel_rfl) ?_;intro gr w' M';(try simp only [Value.cells,zr_,zm_] at M');replace M:=Lib.hid M';clear M';(try simp only [zr_,zm_]))|(refine Mine.wp_alloc M.out rfl 64 rfl (.agg #[.int .i64 0,.int .i64 0,.int .i64 0,.int .i64 0,.int .i64 0,.slice none 0 0,.slice none 0 0]) (by kernel_rfl) ?_;intro gs w' M';(try simp only [Value.cells,zr_,zm_] at M');replace M:=Lib.hid M';clear M';(try simp only [zr_,zm_]))|((first|refine zGs M.out 27 3 2 ?_|refine zGs M.out 64 3 7 ?_|refine zGs M.out 27 6 2 ?_|refine zG M.out 5 ?_);(try simp only [zr_,zm_]))|((first|refine zSs M.out 27 4 ?_|refine zSs M.out 64 5 ?_);intro w' M';(try simp only [zr_,zm_] at M');replace M:=Lib.hid M';clear M'))|((with_reducible show wpList _ _ _ (⟨_,.load _ _,_,_,_,some _⟩::_) _ _);first|(refine Mine.wp_getsg M.out (by rfl) 64 _ rfl 5 _ 7 rfl rfl (Nat.le_of_ble_eq_true rfl) _ Tryz.underlying64 (by rfl) (by kernel_rfl) ?_;(try simp only [zr_,zm_]))))
 obtain ⟨gW,rfl⟩:=M.out.addr 2 rfl (by omega)
 obtain ⟨gR,rfl⟩:=M.out.addr 1 rfl har
 refine Mine.region_head M.out 11 (by kernel_rfl) (by kernel_rfl) ?_
 intro w' M'
 replace M:=Lib.hid M'
 clear M'
 refine zXT 0 ?_;(try simp only [zs_,zl_])
 refine zT 1 ?_;intro K hK;((refine zD 6 ?_;(try simp only [zr_,zm_]);go_big_quiet_on))
 refine zXT 2 ?_;(try simp only [zs_,zl_])
 refine zT 3 ?_;intro K hK;((refine zD 5 ?_;(try simp only [zr_,zm_]);go_big_quiet_on))
 refine zXT 4 ?_;(try simp only [zs_,zl_])
 refine zT 5 ?_;intro K hK;((refine zD 5 ?_;(try simp only [zr_,zm_]);go_big_quiet_on))
 refine zXT 6 ?_;(try simp only [zs_,zl_])
 refine zT 7 ?_;intro K hK;((refine Mine.rd_getr _ _ rfl 1 _ rfl rfl _ (by exact HGR.out) _ (by first|exact Tryz.underlying3) (by rfl) ?_;(try simp only [zr_,zm_]);go_big_quiet_on))
 refine zXT 8 ?_;(try simp only [zs_,zl_])
 refine zT 9 ?_;intro K hK;((refine Mine.rd_getrs 102 _ rfl 2 _ rfl rfl [.int .i64 x.val_,.int .i64 x.ver_,.int .i64 x.owner_] HWD.out _ Tryz.underlying102 (by rfl) (by kernel_rfl) ?_;(try simp only [zr_,zm_]);go_big_quiet_on))
 refine HQ.noisy (rs:=[10]) (by kernel_rfl) (by simp) (AllG.cons rfl (Nat.le_of_ble_eq_true rfl) (fun K hK => ?_) AllG.nil)
 go_simp
 replace M:=Lib.hid (M.out.box 102 #[.int .i64 0,.int .i64 0,.int .i64 0])
 refine hK.out _ _ (M.out.tail) ?_
 clear hK K
 (try simp only [zs_,zl_])
 refine HQ.end_ (by kernel_rfl) ?_
 simp only [List.drop_succ_cons,List.drop_zero]
 generalize w'.heap.size = gN at M ⊢
 go_wp2_with (first|((with_reducible show wpList _ _ _ (⟨_,_,_,_,_,none⟩::_) _ _);first|(refine zSs M.out 102 0 ?_;intro w' M';(try simp only [zr_,zm_] at M');replace M:=Lib.hid M';clear M')|((first|refine zG M.out 0 ?_|refine zG M.out 6 ?_);(try simp only [zr_,zm_])))|((with_reducible show wpList _ _ _ (⟨_,.load _ _,_,_,_,some _⟩::_) _ _);first|((first|refine zGg M.out 0 ?_|refine zGg M.out 6 ?_);(try simp only [zr_,zm_]))))
 replace M:=Lib.hid (M.out.perm (List.perm_middle (l₁:=[_,_,_,_,_,_])))
 simp only [List.cons_append,List.nil_append] at M
 refine (impl_back_m who rv 3 (a : Int) wv _ np dp _ nr dr (np : Int) hnp w _ gc _ M.out).mono ?_
 rintro e w6 ⟨rfl,M9⟩
 replace M:=Lib.hid M9
 clear M9
 go_wp2
 have MT:=Lib.hid (M.out.sub (sk_ (sk_ (sk_ (sk_ (sk_ (sk_ (sd_ (sk_ s0_)))))))))
 refine Mine.region_headS MT.out M.out 3 (by kernel_rfl) (by kernel_rfl) ?_
 intro w' M'
 replace M:=Lib.hid M'
 clear M'
 clear MT
 refine zT 0 ?_;intro K hK;((refine zDs 27 6 2 ?_;(try simp only [zr_,zm_]);go_big_quiet_on))
 refine zT 1 ?_;intro K hK;((refine zDs 64 0 7 ?_;(try simp only [zr_,zm_]);go_big_quiet_on))
 refine HQ.noisy (rs:=[2]) (by kernel_rfl) (by simp) (AllG.cons rfl (Nat.le_of_ble_eq_true rfl) (fun K hK => ?_) AllG.nil)
 refine Mine.step_sets M.out (by rfl) 27 _ _ (by rfl) (by rfl) 6 _ (by rfl) (by rfl) _ (by rfl) (Nat.le_of_ble_eq_true rfl) (by simp [Value.oneCell']) (by kernel_rfl) ?_
 intro w' M'
 simp only [zr_,zm_] at M'
 replace M:=Lib.hid M'
 clear M'
 refine hK.out _ _ (M.out.sub (sk_ (sk_ (sk_ (sk_ (sk_ (sk_ (sd_ (sk_ s0_))))))))) ?_
 clear hK K
 (try simp only [zs_,zl_])
 refine HQ.end_ (by kernel_rfl) ?_
 simp only [List.drop_succ_cons,List.drop_zero]
 go_wp2_with (((with_reducible show wpList _ _ _ (⟨_,_,_,_,_,none⟩::_) _ _);first|(refine zSs M.out 64 5 ?_;intro w' M';(try simp only [zr_,zm_] at M');replace M:=Lib.hid M';clear M')))
 refine bodyPost_ret (M.out.results_cc Tryz.results89 _ 6 rfl rfl _ Tryz.underlying27 (by rfl) (by kernel_rfl) 5 rfl rfl _ Tryz.underlying64 (by rfl) (by kernel_rfl)) rfl ?_
 rw [HZ.out]
 replace M:=Lib.hid (M.out.sub (sd_ (sd_ (sk_ (sk_ (sk_ (sd_ (sd_ (sd_ s0_)))))))))
 replace M:=Lib.hid (M.out.perm (List.perm_middle (l₁:=[_,_])))
 simp only [List.cons_append,List.nil_append] at M
 exact ⟨_,_,_,_,_,_,rfl,M.out⟩

end Go.Proofs.YtpmfhfpjiebcjaaGreat
