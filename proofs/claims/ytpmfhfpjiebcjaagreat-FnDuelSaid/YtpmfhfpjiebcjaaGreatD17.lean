/- CommitStep of the program: phase 7. No condition but lengths. CommitStep of the program. No condition but lengths. -/
import Derived.Test.YtpmfhfpjiebcjaaGreatD00
import Derived.Test.YtpmfhfpjiebcjaaGreatD11
import Derived.Test.YtpmfhfpjiebcjaaGreatD12
import Derived.Test.YtpmfhfpjiebcjaaGreatD13
import Derived.Test.YtpmfhfpjiebcjaaGreatD14
import Derived.Test.YtpmfhfpjiebcjaaGreatD15
import Derived.Test.YtpmfhfpjiebcjaaGreatD16
namespace Go.Proofs.YtpmfhfpjiebcjaaGreat
open Go.RowKit Go.Deep
set_option linter.unnecessarySimpa false
set_option linter.unusedSimpArgs false
set_option linter.unusedVariables false
set_option maxRecDepth 8000 in
set_option maxHeartbeats 16000000 in
theorem impl_cs7 (m : Mem) (A : Option Addr) (n cm : Nat) (who rv wv : Int) (a : Nat) (ps : List Row) (rs : List Int) (Ap : Option Addr) (np cp : Nat) (Ar : Option Addr) (nr cr : Nat) (w : World) (SM : Nat → Prop) (hsM : Sl w SM 3 A n (m.cells_.flatMap Word.cells)) (hnM : n ≤ 1048576) (S1 : Nat → Prop) (h1 : Sl w S1 2 Ap np (ps.flatMap Row.cells)) (hm1 : np ≤ 1048576) (S2 : Nat → Prop) (h2 : Sl w S2 1 Ar nr (ints rs)) (hm2 : nr ≤ 1048576) (hM : memOk m = true) (hC : commitOk ⟨who,rv,7,(a : Int),wv,ps,rs⟩ = true) :
  Calls Tryz.prog 89 #[.agg #[.int .i64 m.clock_,.slice A n cm],.agg #[.int .i64 who,.int .i64 rv,.int .i64 7,.int .i64 (a : Int),.int .i64 wv,.slice Ap np cp,.slice Ar nr cr]] w fun e w' => ∃ B d Bp dp Br dr,e = .returned (.tuple #[.agg #[.int .i64 (cstepS m ⟨who,rv,7,(a : Int),wv,ps,rs⟩).k,.slice B n d],.agg #[.int .i64 who,.int .i64 rv,.int .i64 (cstepS m ⟨who,rv,7,(a : Int),wv,ps,rs⟩).ph,.int .i64 (cstepS m ⟨who,rv,7,(a : Int),wv,ps,rs⟩).at_,.int .i64 (cstepS m ⟨who,rv,7,(a : Int),wv,ps,rs⟩).wv,.slice Bp np dp,.slice Br nr dr]]) ∧ Mine w w' [.row 102 3 B n d ((cstepS m ⟨who,rv,7,(a : Int),wv,ps,rs⟩).xs.flatMap Word.cells),.row 97 2 Bp np dp (ps.flatMap Row.cells),.row 3 1 Br nr dr (ints rs)]:=by
 have hl0 : m.cells_.length = n:=hsM.flen Word.cells_length (by omega)
 have hl1 : ps.length = np:=h1.flen Row.cells_length (by omega)
 have hl2 : rs.length = nr:=h2.len
 have HSM:=Lib.hid hsM
 have H1:=Lib.hid h1
 have H2:=Lib.hid h2
 clear hsM h1 h2
 have M:=Lib.hid (Mine.refl w)
 have HM:=Lib.hid hM
 have HC:=Lib.hid hC
 obtain ⟨q1,q2,q3,-,q5,-,q7,q8⟩:=dec_true hC
 have hn8 : n = 8:=by have:=memOk_len hM;omega
 have HN8:=Lib.hid hn8
 have hn0 : 0 < n:=by omega
 have HQ1:=Lib.hid q1
 have HQ3:=Lib.hid q3
 have ha : a < np:=by have h:=q8.2;simp only [stepsN] at h;simp at h;omega
 obtain ⟨r,hr⟩ : ∃ r,ps[a]? = some r:=⟨_,List.getElem?_eq_getElem (by omega)⟩
 have hok:=(dec_true q5).2 a (by simp only;omega) r hr
 obtain ⟨r0,r1⟩:=r
 obtain ⟨i,rfl⟩ : ∃ i : Nat,r0 = (i : Int):=⟨r0.toNat,by have:=hok.1.1;simp only at this;omega⟩
 have hi : i < 8:=by have:=hok.1.2;simp only at this;omega
 obtain ⟨x,hx⟩ : ∃ x,m.cells_[i]? = some x:=⟨_,List.getElem?_eq_getElem (by omega)⟩
 have HR:=Lib.hid hr
 have HX:=Lib.hid hx
 have HRV : Hid (0 ≤ r1 ∧ r1 ≤ 65535):=hok.2
 have HGC : Hid ((ps.flatMap Row.cells)[a * 2]? = some (.int .i64 (i : Int))):=by have h:=flat_get Row.cells_length ps a 0 _ hr (by omega);rw [Nat.add_zero] at h;exact h
 have HGV : Hid ((ps.flatMap Row.cells)[a * 2 + 1]? = some (.int .i64 r1)):=flat_get Row.cells_length ps a 1 _ hr (by omega)
 have ha1 : (a : Int) < (np : Int):=by omega
 have haB : 0 ≤ (a : Int) ∧ (a : Int) ≤ 1048576:=by omega
 have hi1 : (i : Int) < (n : Int):=by omega
 clear q1 q2 q3 q5 q7 q8 hok hr hx hn8
 have HZ:=Lib.hid (cs7 HM.out HC.out HR.out rfl HX.out)
 (try rw [hl1] at HZ);(try rw [hl2] at HZ)
 have HGE : Hid ((m.cells_.flatMap Word.cells)[i * 3 + 1]? = some (.int .i64 x.ver_)):=flat_get Word.cells_length m.cells_ i 1 x HX.out (by omega)
 have hnp0 : 0 < np:=by omega
 go_enter Tryz.func89,Tryz.ntmps89
 go_wp2_with (first|(go_at_call 129;(with_reducible refine (impl_copyMem_m m.clock_ A n cm m.cells_ _ SM (HSM.out.ext M.out.ext) hnM).mono ?_);rintro e w' ⟨B,d,rfl,M9⟩;have M8:=M.out.call M9;replace M:=Lib.hid M8;clear M8 M9)|(go_at_call 130;(with_reducible refine (impl_copyCommit_m who rv 7 (a : Int) wv Ap np cp Ar nr cr ps rs _ S1 (H1.out.ext M.out.ext) hm1 S2 (H2.out.ext M.out.ext) hm2).mono ?_);rintro e w' ⟨Bp,dp,Br,dr,rfl,M9⟩;have M8:=M.out.call M9;replace M:=Lib.hid M8;clear M8 M9;simp only [List.cons_append,List.nil_append] at M;obtain ⟨gP,rfl⟩:=M.out.addr 0 rfl hnp0)|(go_at_call 65;(with_reducible refine (impl_MemOk m B n d _ _ (by omega) (M.out.row_sl 2 rfl)).mono ?_);rintro e w' ⟨rfl,x9⟩;replace M:=Lib.hid (M.out.on x9);clear x9;rw [HM.out])|(go_at_call 131;(with_reducible refine (impl_CommitOk ⟨who,rv,7,(a : Int),wv,ps,rs⟩ _ np dp Br nr dr _ _ (M.out.row_sl 0 rfl) hm1 _ (M.out.row_sl 1 rfl) hm2).mono ?_);rintro e w' ⟨rfl,x9⟩;replace M:=Lib.hid (M.out.on x9);clear x9;rw [HC.out])|((with_reducible show wpList _ _ _ (⟨_,_,_,_,_,none⟩::_) _ _);first|(refine Mine.wp_box M.out rfl 27 _ rfl _ rfl ?_;intro ga w' M';(try simp only [zr_,zm_] at M');replace M:=Lib.hid M';clear M';(try simp only [zr_,zm_]))|(refine Mine.wp_box M.out rfl 64 _ rfl _ rfl ?_;intro gc w' M';(try simp only [zr_,zm_] at M');replace M:=Lib.hid M';clear M';(try simp only [zr_,zm_]))|(refine Mine.wp_alloc M.out rfl 27 rfl (.agg #[.int .i64 0,.slice none 0 0]) (by kernel_rfl) ?_;intro gr w' M';(try simp only [Value.cells,zr_,zm_] at M');replace M:=Lib.hid M';clear M';(try simp only [zr_,zm_]))|(refine Mine.wp_alloc M.out rfl 64 rfl (.agg #[.int .i64 0,.int .i64 0,.int .i64 0,.int .i64 0,.int .i64 0,.slice none 0 0,.slice none 0 0]) (by kernel_rfl) ?_;intro gs w' M';(try simp only [Value.cells,zr_,zm_] at M');replace M:=Lib.hid M';clear M';(try simp only [zr_,zm_]))|((first|refine zGs M.out 27 3 2 ?_|refine zGs M.out 64 3 7 ?_|refine zGs M.out 27 6 2 ?_|refine zG M.out 5 ?_|refine Mine.wp_getr M.out rfl _ _ rfl 0 _ rfl rfl _ (by exact HGC.out) _ (by first|exact Tryz.underlying3) (by rfl) ?_);(try simp only [zr_,zm_]))|((first|refine zSs M.out 27 4 ?_|refine zSs M.out 64 5 ?_);intro w' M';(try simp only [zr_,zm_] at M');replace M:=Lib.hid M';clear M'))|((with_reducible show wpList _ _ _ (⟨_,.load _ _,_,_,_,some _⟩::_) _ _);first|(refine Mine.wp_getsg M.out (by rfl) 64 _ rfl 5 _ 7 rfl rfl (Nat.le_of_ble_eq_true rfl) _ Tryz.underlying64 (by rfl) (by kernel_rfl) ?_;(try simp only [zr_,zm_]))))
 obtain ⟨gW,rfl⟩:=M.out.addr 2 rfl (by omega)
 have MT:=Lib.hid (M.out.sub (sk_ (sk_ (sk_ (sk_ (sk_ (sk_ (sd_ s0_))))))))
 refine Mine.region_allS MT.out M.out 15 (by kernel_rfl) rfl ?_
 intro w' M'
 replace M:=Lib.hid M'
 clear M'
 clear MT
 refine zXA 1 ?_;(try simp only [zs_,zl_])
 refine zXA 2 ?_;(try simp only [zs_,zl_])
 refine zTA 3 ?_;intro K hK;((refine zD 5 ?_;(try simp only [zr_,zm_]);go_big_quiet_on))
 refine zXA 4 ?_;(try simp only [zs_,zl_])
 refine zXA 6 ?_;(try simp only [zs_,zl_])
 refine HA.noisy (rs:=[0,5]) (by kernel_rfl) (by simp) (AllA.cons rfl (Nat.le_of_ble_eq_true rfl) (fun K hK => ?_) (AllA.cons rfl (Nat.le_of_ble_eq_true rfl) (fun K hK => ?_) AllA.nil))
 refine Mine.step_gets M.out (by rfl) 27 _ (by rfl) 6 _ 2 (by rfl) (by rfl) (Nat.le_of_ble_eq_true rfl) _ Tryz.underlying27 (by rfl) (by kernel_rfl) ?_
 (try simp only [zr_,zm_])
 refine hK.out _ _ (M.out.sub (sk_ (sk_ (sk_ (sk_ (sk_ (sk_ (sd_ s0_)))))))) ?_
 clear hK K
 (try simp only [zs_,zl_])
 refine HA.noisy (rs:=[5]) (by kernel_rfl) (by simp) (AllA.cons rfl (Nat.le_of_ble_eq_true rfl) (fun K hK => ?_) AllA.nil)
 refine Mine.step_get M.out (by rfl) 25 _ (by rfl) 6 _ (by rfl) (by rfl) _ (by rfl) _ Tryz.underlying25 (by rfl) ?_
 (try simp only [zr_,zm_])
 refine hK.out _ _ (M.out.sub (sk_ (sk_ (sk_ (sk_ (sk_ (sk_ (sd_ s0_)))))))) ?_
 clear hK K
 (try simp only [zs_,zl_])
 refine zXA 7 ?_;(try simp only [zs_,zl_])
 refine zXA 8 ?_;(try simp only [zs_,zl_])
 refine zTA 9 ?_;intro K hK;((refine Mine.rd_getr _ _ rfl 2 _ rfl rfl _ (by exact HGE.out) _ (by first|exact Tryz.underlying3) (by rfl) ?_;(try simp only [zr_,zm_]);go_big_quiet_on))
 rotate_left
 refine Mine.step_get M.out (by rfl) 25 _ (by rfl) 6 _ (by rfl) (by rfl) _ (by rfl) _ Tryz.underlying25 (by rfl) ?_
 (try simp only [zr_,zm_])
 refine hK.out _ _ (M.out.sub (sk_ (sk_ (sk_ (sk_ (sk_ (sk_ (sd_ s0_)))))))) ?_
 clear hK K
 (try simp only [zs_,zl_])
 refine zXA 7 ?_;(try simp only [zs_,zl_])
 refine zXA 8 ?_;(try simp only [zs_,zl_])
 refine zTA 9 ?_;intro K hK;((refine Mine.rd_getr _ _ rfl 2 _ rfl rfl _ (by exact HGE.out) _ (by first|exact Tryz.underlying3) (by rfl) ?_;(try simp only [zr_,zm_]);go_big_quiet_on))
 refine HA.noisy (rs:=[0]) (by kernel_rfl) (by simp) (AllA.cons rfl (Nat.le_of_ble_eq_true rfl) (fun K hK => ?_) AllA.nil)
 refine Mine.step_gets M.out (by rfl) 27 _ (by rfl) 6 _ 2 (by rfl) (by rfl) (Nat.le_of_ble_eq_true rfl) _ Tryz.underlying27 (by rfl) (by kernel_rfl) ?_
 (try simp only [zr_,zm_])
 refine hK.out _ _ (M.out.sub (sk_ (sk_ (sk_ (sk_ (sk_ (sk_ (sd_ s0_)))))))) ?_
 clear hK K
 (try simp only [zs_,zl_])
 rotate_left
 all_goals (
  refine HA.noisy (rs:=[10]) (by kernel_rfl) (by simp) (AllA.cons rfl (Nat.le_of_ble_eq_true rfl) (fun K hK => ?_) AllA.nil)
  go_simp
  go_at_call 138
  refine (impl_Unlock_m m gW 0 n d i x who _ _ (M.out.row_sl 2 rfl) HM.out HX.out hi HQ1.out x.ver_).mono ?_
  rintro e w5 ⟨Bn,dn,rfl,M4⟩
  replace M:=Lib.hid (M.out.call M4)
  simp only [List.cons_append,List.nil_append] at M
  clear M4
  refine hK.out _ _ (M.out.sub (sd_ (sk_ (sk_ (sk_ (sk_ (sk_ (sk_ (sd_ s0_))))))))) ?_
  clear hK K
  (try simp only [zs_,zl_])
  refine zXA 11 ?_;(try simp only [zs_,zl_])
  refine zXA 12 ?_;(try simp only [zs_,zl_])
  refine zXA 13 ?_;(try simp only [zs_,zl_])
  refine HA.noisy (rs:=[14]) (by kernel_rfl) (by simp) (AllA.cons rfl (Nat.le_of_ble_eq_true rfl) (fun K hK => ?_) AllA.nil)
  refine Mine.step_sets M.out (by rfl) 27 _ _ (by rfl) (by rfl) 7 _ (by rfl) (by rfl) _ (by rfl) (Nat.le_of_ble_eq_true rfl) (by simp [Value.oneCell']) (by kernel_rfl) ?_
  intro w' M'
  simp only [zr_,zm_] at M'
  replace M:=Lib.hid M'
  clear M'
  refine hK.out _ _ (M.out.sub (sd_ (sk_ (sk_ (sk_ (sk_ (sk_ (sk_ (sd_ s0_))))))))) ?_
  clear hK K
  (try simp only [zs_,zl_])
  refine HA.end_ (by kernel_rfl) ?_
  go_wp2_with (((with_reducible show wpList _ _ _ (⟨_,_,_,_,_,none⟩::_) _ _);first|(refine zG M.out 6 ?_;(try simp only [zr_,zm_]))))
  replace M:=Lib.hid (M.out.perm (List.perm_middle (l₁:=[_,_,_,_,_,_])))
  simp only [List.cons_append,List.nil_append] at M
  refine (impl_back_m who rv 7 (a : Int) wv _ np dp _ nr dr (a : Int) haB w _ gc _ M.out).mono ?_
  rintro e w6 ⟨rfl,M9⟩
  replace M:=Lib.hid M9
  clear M9
  go_wp2
  have MT:=Lib.hid (M.out.sub (sk_ (sk_ (sk_ (sk_ (sk_ (sk_ (sd_ (sk_ s0_)))))))))
  refine Mine.region_headS MT.out M.out 3 (by kernel_rfl) (by kernel_rfl) ?_
  intro w' M'
  replace M:=Lib.hid M'
  clear M'
  clear MT
  refine zT 0 ?_;intro K hK;((refine zDs 27 6 2 ?_;(try simp only [zr_,zm_]);go_big_quiet_on))
  refine zT 1 ?_;intro K hK;((refine zDs 64 0 7 ?_;(try simp only [zr_,zm_]);go_big_quiet_on))
  refine HQ.noisy (rs:=[2]) (by kernel_rfl) (by simp) (AllG.cons rfl (Nat.le_of_ble_eq_true rfl) (fun K hK => ?_) AllG.nil)
  refine Mine.step_sets M.out (by rfl) 27 _ _ (by rfl) (by rfl) 6 _ (by rfl) (by rfl) _ (by rfl) (Nat.le_of_ble_eq_true rfl) (by simp [Value.oneCell']) (by kernel_rfl) ?_
  intro w' M'
  simp only [zr_,zm_] at M'
  replace M:=Lib.hid M'
  clear M'
  refine hK.out _ _ (M.out.sub (sk_ (sk_ (sk_ (sk_ (sk_ (sk_ (sd_ (sk_ s0_))))))))) ?_
  clear hK K
  (try simp only [zs_,zl_])
  refine HQ.end_ (by kernel_rfl) ?_
  simp only [List.drop_succ_cons,List.drop_zero]
  go_wp2_with (((with_reducible show wpList _ _ _ (⟨_,_,_,_,_,none⟩::_) _ _);first|(refine zSs M.out 64 5 ?_;intro w' M';(try simp only [zr_,zm_] at M');replace M:=Lib.hid M';clear M')))
  refine bodyPost_ret (M.out.results_cc Tryz.results89 _ 6 rfl rfl _ Tryz.underlying27 (by rfl) (by kernel_rfl) 5 rfl rfl _ Tryz.underlying64 (by rfl) (by kernel_rfl)) rfl ?_
  rw [HZ.out]
  replace M:=Lib.hid (M.out.sub (sd_ (sk_ (sk_ (sk_ (sd_ (sd_ (sd_ (sd_ s0_)))))))))
  exact ⟨_,_,_,_,_,_,rfl,M.out⟩
  )

end Go.Proofs.YtpmfhfpjiebcjaaGreat
namespace Go.Proofs.YtpmfhfpjiebcjaaGreat
open Go.RowKit Go.Deep
set_option linter.unnecessarySimpa false
set_option linter.unusedSimpArgs false
set_option linter.unusedVariables false
theorem impl_CommitStep (m : Mem) (A : Option Addr) (n cm : Nat) (who rv wv : Int) (ph at_ : Int) (ps : List Row) (rs : List Int) (Ap : Option Addr) (np cp : Nat) (Ar : Option Addr) (nr cr : Nat) (w : World) (SM : Nat → Prop) (hsM : Sl w SM 3 A n (m.cells_.flatMap Word.cells)) (hnM : n ≤ 1048576) (S1 : Nat → Prop) (h1 : Sl w S1 2 Ap np (ps.flatMap Row.cells)) (hm1 : np ≤ 1048576) (S2 : Nat → Prop) (h2 : Sl w S2 1 Ar nr (ints rs)) (hm2 : nr ≤ 1048576) : Calls Tryz.prog 89 #[.agg #[.int .i64 m.clock_,.slice A n cm],.agg #[.int .i64 who,.int .i64 rv,.int .i64 ph,.int .i64 at_,.int .i64 wv,.slice Ap np cp,.slice Ar nr cr]] w fun e w' => ∃ B d Bp dp Br dr,e = .returned (.tuple #[.agg #[.int .i64 (cstepS m ⟨who,rv,ph,at_,wv,ps,rs⟩).k,.slice B n d],.agg #[.int .i64 who,.int .i64 rv,.int .i64 (cstepS m ⟨who,rv,ph,at_,wv,ps,rs⟩).ph,.int .i64 (cstepS m ⟨who,rv,ph,at_,wv,ps,rs⟩).at_,.int .i64 (cstepS m ⟨who,rv,ph,at_,wv,ps,rs⟩).wv,.slice Bp np dp,.slice Br nr dr]]) ∧ Mine w w' [.row 102 3 B n d ((cstepS m ⟨who,rv,ph,at_,wv,ps,rs⟩).xs.flatMap Word.cells),.row 97 2 Bp np dp (ps.flatMap Row.cells),.row 3 1 Br nr dr (ints rs)]:=by
 by_cases h : memOk m = true ∧ commitOk ⟨who,rv,ph,at_,wv,ps,rs⟩ = true
 rotate_left
 ·exact impl_csbad m A n cm who rv wv ph at_ ps rs Ap np cp Ar nr cr w SM hsM hnM S1 h1 hm1 S2 h2 hm2 h
 obtain ⟨hM,hC⟩:=h
 by_cases p1 : ph = 1 ∨ ph = 2 ∨ ph = 3 ∨ ph = 4 ∨ ph = 5 ∨ ph = 7
 rotate_left
 ·exact impl_csrest m A n cm who rv wv ph at_ ps rs Ap np cp Ar nr cr w SM hsM hnM S1 h1 hm1 S2 h2 hm2 hM hC (by omega) (by omega) (by omega) (by omega) (by omega) (by omega)
 obtain ⟨a,rfl⟩ : ∃ a : Nat,at_ = (a : Int):=⟨at_.toNat,by have:=(dec_true hC).2.2.2.2.2.2.2.1;simp only at this;omega⟩
 rcases p1 with rfl|rfl|rfl|rfl|rfl|rfl
 ·exact impl_cs1 m A n cm who rv wv a ps rs Ap np cp Ar nr cr w SM hsM hnM S1 h1 hm1 S2 h2 hm2 hM hC
 ·exact impl_cs2 m A n cm who rv wv a ps rs Ap np cp Ar nr cr w SM hsM hnM S1 h1 hm1 S2 h2 hm2 hM hC
 ·exact impl_cs3 m A n cm who rv wv a ps rs Ap np cp Ar nr cr w SM hsM hnM S1 h1 hm1 S2 h2 hm2 hM hC
 ·exact impl_cs4 m A n cm who rv wv a ps rs Ap np cp Ar nr cr w SM hsM hnM S1 h1 hm1 S2 h2 hm2 hM hC
 ·exact impl_cs5 m A n cm who rv wv a ps rs Ap np cp Ar nr cr w SM hsM hnM S1 h1 hm1 S2 h2 hm2 hM hC
 ·exact impl_cs7 m A n cm who rv wv a ps rs Ap np cp Ar nr cr w SM hsM hnM S1 h1 hm1 S2 h2 hm2 hM hC

end Go.Proofs.YtpmfhfpjiebcjaaGreat
