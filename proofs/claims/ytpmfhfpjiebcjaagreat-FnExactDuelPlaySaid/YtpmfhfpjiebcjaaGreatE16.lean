/- CommitStep of the reference: the tick. No condition but lengths. -/
import Derived.Test.YtpmfhfpjiebcjaaGreatE00
import Derived.Test.YtpmfhfpjiebcjaaGreatE14
namespace Go.Proofs.YtpmfhfpjiebcjaaGreat
open Go.RowKit Go.Deep
set_option linter.unusedSimpArgs false
set_option linter.unusedVariables false
set_option maxRecDepth 8000 in
set_option maxHeartbeats 16000000 in
theorem spec_cs2 (m : Mem) (A : Option Addr) (n cm : Nat) (who rv wv : Int) (a : Nat) (ps : List Row) (rs : List Int) (Ap : Option Addr) (np cp : Nat) (Ar : Option Addr) (nr cr : Nat) (w : World) (SM : Nat → Prop) (hsM : Sl w SM 3 A n (m.cells_.flatMap Word.cells)) (hnM : n ≤ 1048576) (S1 : Nat → Prop) (h1 : Sl w S1 2 Ap np (ps.flatMap Row.cells)) (hm1 : np ≤ 1048576) (S2 : Nat → Prop) (h2 : Sl w S2 1 Ar nr (ints rs)) (hm2 : nr ≤ 1048576) (hM : memOk m = true) (hC : commitOk ⟨who,rv,2,(a : Int),wv,ps,rs⟩ = true) :
  Calls Tryz.prog 80 #[.agg #[.int .i64 m.clock_,.slice A n cm],.agg #[.int .i64 who,.int .i64 rv,.int .i64 2,.int .i64 (a : Int),.int .i64 wv,.slice Ap np cp,.slice Ar nr cr]] w fun e w' => ∃ B d Bp dp Br dr,e = .returned (.tuple #[.agg #[.int .i64 (cstepS m ⟨who,rv,2,(a : Int),wv,ps,rs⟩).k,.slice B n d],.agg #[.int .i64 who,.int .i64 rv,.int .i64 (cstepS m ⟨who,rv,2,(a : Int),wv,ps,rs⟩).ph,.int .i64 (cstepS m ⟨who,rv,2,(a : Int),wv,ps,rs⟩).at_,.int .i64 (cstepS m ⟨who,rv,2,(a : Int),wv,ps,rs⟩).wv,.slice Bp np dp,.slice Br nr dr]]) ∧ Mine w w' [.row 102 3 B n d ((cstepS m ⟨who,rv,2,(a : Int),wv,ps,rs⟩).xs.flatMap Word.cells),.row 97 2 Bp np dp (ps.flatMap Row.cells),.row 3 1 Br nr dr (ints rs)]:=by
 have hl0 : m.cells_.length = n:=hsM.flen Word.cells_length (by omega)
 have hl1 : ps.length = np:=h1.flen Row.cells_length (by omega)
 have hl2 : rs.length = nr:=h2.len
 have HSM:=Lib.hid hsM
 have H1:=Lib.hid h1
 have H2:=Lib.hid h2
 clear hsM h1 h2
 have M:=Lib.hid (Mine.refl w)
 have HM:=Lib.hid hM
 have HC:=Lib.hid hC
 obtain ⟨q1,q2,q3,-,q5,-,q7,q8⟩:=dec_true hC
 have hn8 : n = 8:=by have:=memOk_len hM;omega
 have HN8:=Lib.hid hn8
 have hn0 : 0 < n:=by omega
 have HQ1:=Lib.hid q1
 clear q1 q2 q3 q5 q7 q8 hn8
 have HCK : Hid (0 ≤ m.clock_ ∧ m.clock_ ≤ 1000000):=(dec_true hM).2.2
 have hk0 : 0 ≤ m.clock_ ∧ m.clock_ ≤ 1000000:=HCK.out
 have hnp : 0 ≤ (np : Int) ∧ (np : Int) ≤ 1048576:=by omega
 by_cases ho : m.clock_ = 1000000
 ·have HZ:=Lib.hid (cs2_yes HM.out HC.out ho)
  (try rw [hl1] at HZ);(try rw [hl2] at HZ)
  have HTK : Hid (tickK m.clock_ = m.clock_):=by show _ = _;unfold tickK;rw [dec_yes ho];rfl
  have HTV : Hid (tickV m.clock_ = 0):=by show _ = _;unfold tickV;rw [dec_yes ho];rfl
  clear ho
  go_enter Tryz.func80,Tryz.ntmps80
  go_wp2_with (first|(go_at_call 115;(with_reducible refine (spec_l3Copy_m m.clock_ _ n cm m.cells_ _ SM (HSM.out.ext M.out.ext) hnM).mono ?_);rintro e w' ⟨B,d,rfl,M9⟩;have M8:=M.out.call M9;replace M:=Lib.hid M8;clear M8 M9)|(go_at_call 116;(with_reducible refine (spec_l10Copy_m who rv 2 (a : Int) wv _ np cp _ nr cr ps rs _ S1 (H1.out.ext M.out.ext) hm1 S2 (H2.out.ext M.out.ext) hm2).mono ?_);rintro e w' ⟨Bp,dp,Br,dr,rfl,M9⟩;have M8:=M.out.call M9;replace M:=Lib.hid M8;clear M8 M9)|(go_at_call 58;(with_reducible refine (spec_MemOk m _ n cm _ SM (by omega) (HSM.out.ext M.out.ext)).mono ?_);rintro e w' ⟨rfl,x9⟩;replace M:=Lib.hid (M.out.on x9);clear x9;rw [HM.out])|(go_at_call 117;(with_reducible refine (spec_CommitOk ⟨who,rv,2,(a : Int),wv,ps,rs⟩ _ np cp _ nr cr _ S1 (H1.out.ext M.out.ext) hm1 S2 (H2.out.ext M.out.ext) hm2).mono ?_);rintro e w' ⟨rfl,x9⟩;replace M:=Lib.hid (M.out.on x9);clear x9;rw [HC.out])|((with_reducible show wpList _ _ _ (⟨_,_,_,_,_,none⟩::_) _ _);first|(refine Mine.wp_box M.out rfl 27 _ rfl _ rfl ?_;intro ga w' M';(try simp only [zr_,zm_] at M');replace M:=Lib.hid M';clear M';(try simp only [zr_,zm_]))|(refine Mine.wp_box M.out rfl 64 _ rfl _ rfl ?_;intro gc w' M';(try simp only [zr_,zm_] at M');replace M:=Lib.hid M';clear M';(try simp only [zr_,zm_]))|(refine Mine.wp_alloc M.out rfl 27 rfl (.agg #[.int .i64 0,.slice none 0 0]) (by kernel_rfl) ?_;intro gx w' M';(try simp only [Value.cells,zr_,zm_] at M');replace M:=Lib.hid M';clear M';(try simp only [zr_,zm_]))|(refine Mine.wp_alloc M.out rfl 64 rfl (.agg #[.int .i64 0,.int .i64 0,.int .i64 0,.int .i64 0,.int .i64 0,.slice none 0 0,.slice none 0 0]) (by kernel_rfl) ?_;intro gd w' M';(try simp only [Value.cells,zr_,zm_] at M');replace M:=Lib.hid M';clear M';(try simp only [zr_,zm_]))|((first|refine zGs M.out 27 3 2 ?_|refine zGs M.out 64 4 7 ?_|refine zGs M.out 27 8 2 ?_|refine zG M.out 7 ?_);(try simp only [zr_,zm_]))|((first|refine zSs M.out 27 0 ?_|refine zSs M.out 64 0 ?_);intro w' M';(try simp only [zr_,zm_] at M');replace M:=Lib.hid M';clear M'))|((with_reducible show wpList _ _ _ (⟨_,.load _ _,_,_,_,some _⟩::_) _ _);first|(refine Mine.wp_getsg M.out (by rfl) 64 _ rfl 7 _ 7 rfl rfl (Nat.le_of_ble_eq_true rfl) _ Tryz.underlying64 (by rfl) (by kernel_rfl) ?_;(try simp only [zr_,zm_]))))
  simp only [List.cons_append,List.nil_append] at M
  go_wp2_with (first|(go_at_call 121;(with_reducible refine (spec_Tick_m m _ n cm _ SM (HSM.out.ext M.out.ext) HM.out).mono ?_);rintro e w' ⟨Bn,dn,rfl,M9⟩;rw [HTK.out,HTV.out];have M8:=M.out.call M9;replace M:=Lib.hid M8;clear M8 M9)|((with_reducible show wpList _ _ _ (⟨_,_,_,_,_,none⟩::_) _ _);first|(refine Mine.wp_alloc M.out rfl 27 rfl (.agg #[.int .i64 0,.slice none 0 0]) (by kernel_rfl) ?_;intro gN w' M';(try simp only [Value.cells,zr_,zm_] at M');replace M:=Lib.hid M';clear M';(try simp only [zr_,zm_]))|(refine zSs M.out 27 0 ?_;intro w' M';(try simp only [zr_,zm_] at M');replace M:=Lib.hid M';clear M')))
  simp only [List.cons_append,List.nil_append] at M
  refine Mine.region_head M.out 6 (by kernel_rfl) (by kernel_rfl) ?_
  intro w' M'
  replace M:=Lib.hid M'
  clear M'
  refine zT 0 ?_;intro K hK;((refine zDs 27 5 2 ?_;(try simp only [zr_,zm_]);go_big_quiet_on))
  refine zT 1 ?_;intro K hK;((refine zDs 64 2 7 ?_;(try simp only [zr_,zm_]);go_big_quiet_on))
  refine zXT 2 ?_;(try simp only [zs_,zl_])
  refine zT 3 ?_;intro K hK;((refine zD 9 ?_;(try simp only [zr_,zm_]);go_big_quiet_on))
  refine zXT 4 ?_;(try simp only [zs_,zl_])
  refine HQ.noisy (rs:=[5]) (by kernel_rfl) (by simp) (AllG.cons rfl (Nat.le_of_ble_eq_true rfl) (fun K hK => ?_) AllG.nil)
  go_simp
  go_at_call 119
  refine (spec_back_m who rv 2 (a : Int) wv _ np dp _ nr dr (np : Int) hnp _).mono ?_
  rintro e w6 ⟨rfl,x6⟩
  replace M:=Lib.hid (M.out.on x6)
  clear x6
  refine hK.out _ _ (M.out) ?_
  clear hK K
  (try simp only [zs_,zl_])
  refine HQ.end_ (by kernel_rfl) ?_
  simp only [List.drop_succ_cons,List.drop_zero]
  go_wp2_with (((with_reducible show wpList _ _ _ (⟨_,_,_,_,_,none⟩::_) _ _);first|((first|refine zSs M.out 27 8 ?_|refine zSs M.out 64 7 ?_);intro w' M';(try simp only [zr_,zm_] at M');replace M:=Lib.hid M';clear M')))
  refine bodyPost_ret (M.out.results_cc Tryz.results80 _ 8 rfl rfl _ Tryz.underlying27 (by rfl) (by kernel_rfl) 7 rfl rfl _ Tryz.underlying64 (by rfl) (by kernel_rfl)) rfl ?_
  rw [HZ.out]
  replace M:=Lib.hid (M.out.sub (sd_ (sd_ (sd_ (sk_ (sk_ (sd_ (sk_ (sd_ (sd_ (sd_ (sd_ s0_))))))))))))
  replace M:=Lib.hid (M.out.perm (List.perm_middle (l₁:=[_,_])))
  simp only [List.cons_append,List.nil_append] at M
  exact ⟨_,_,_,_,_,_,rfl,M.out⟩
 skip
 ·have HZ:=Lib.hid (cs2_no HM.out HC.out ho)
  (try rw [hl1] at HZ);(try rw [hl2] at HZ)
  have HTK : Hid (tickK m.clock_ = m.clock_ + 1):=by show _ = _;unfold tickK;rw [dec_no ho];rfl
  have HTV : Hid (tickV m.clock_ = m.clock_ + 1):=by show _ = _;unfold tickV;rw [dec_no ho];rfl
  have bz : (m.clock_ + 1 == 0) = false:=by simp;omega
  have hk1 : m.clock_ + 1 ≤ 1000000:=by omega
  clear ho
  go_enter Tryz.func80,Tryz.ntmps80
  go_wp2_with (first|(go_at_call 115;(with_reducible refine (spec_l3Copy_m m.clock_ _ n cm m.cells_ _ SM (HSM.out.ext M.out.ext) hnM).mono ?_);rintro e w' ⟨B,d,rfl,M9⟩;have M8:=M.out.call M9;replace M:=Lib.hid M8;clear M8 M9)|(go_at_call 116;(with_reducible refine (spec_l10Copy_m who rv 2 (a : Int) wv _ np cp _ nr cr ps rs _ S1 (H1.out.ext M.out.ext) hm1 S2 (H2.out.ext M.out.ext) hm2).mono ?_);rintro e w' ⟨Bp,dp,Br,dr,rfl,M9⟩;have M8:=M.out.call M9;replace M:=Lib.hid M8;clear M8 M9)|(go_at_call 58;(with_reducible refine (spec_MemOk m _ n cm _ SM (by omega) (HSM.out.ext M.out.ext)).mono ?_);rintro e w' ⟨rfl,x9⟩;replace M:=Lib.hid (M.out.on x9);clear x9;rw [HM.out])|(go_at_call 117;(with_reducible refine (spec_CommitOk ⟨who,rv,2,(a : Int),wv,ps,rs⟩ _ np cp _ nr cr _ S1 (H1.out.ext M.out.ext) hm1 S2 (H2.out.ext M.out.ext) hm2).mono ?_);rintro e w' ⟨rfl,x9⟩;replace M:=Lib.hid (M.out.on x9);clear x9;rw [HC.out])|((with_reducible show wpList _ _ _ (⟨_,_,_,_,_,none⟩::_) _ _);first|(refine Mine.wp_box M.out rfl 27 _ rfl _ rfl ?_;intro ga w' M';(try simp only [zr_,zm_] at M');replace M:=Lib.hid M';clear M';(try simp only [zr_,zm_]))|(refine Mine.wp_box M.out rfl 64 _ rfl _ rfl ?_;intro gc w' M';(try simp only [zr_,zm_] at M');replace M:=Lib.hid M';clear M';(try simp only [zr_,zm_]))|(refine Mine.wp_alloc M.out rfl 27 rfl (.agg #[.int .i64 0,.slice none 0 0]) (by kernel_rfl) ?_;intro gx w' M';(try simp only [Value.cells,zr_,zm_] at M');replace M:=Lib.hid M';clear M';(try simp only [zr_,zm_]))|(refine Mine.wp_alloc M.out rfl 64 rfl (.agg #[.int .i64 0,.int .i64 0,.int .i64 0,.int .i64 0,.int .i64 0,.slice none 0 0,.slice none 0 0]) (by kernel_rfl) ?_;intro gd w' M';(try simp only [Value.cells,zr_,zm_] at M');replace M:=Lib.hid M';clear M';(try simp only [zr_,zm_]))|((first|refine zGs M.out 27 3 2 ?_|refine zGs M.out 64 4 7 ?_|refine zGs M.out 27 8 2 ?_|refine zG M.out 7 ?_);(try simp only [zr_,zm_]))|((first|refine zSs M.out 27 0 ?_|refine zSs M.out 64 0 ?_);intro w' M';(try simp only [zr_,zm_] at M');replace M:=Lib.hid M';clear M'))|((with_reducible show wpList _ _ _ (⟨_,.load _ _,_,_,_,some _⟩::_) _ _);first|(refine Mine.wp_getsg M.out (by rfl) 64 _ rfl 7 _ 7 rfl rfl (Nat.le_of_ble_eq_true rfl) _ Tryz.underlying64 (by rfl) (by kernel_rfl) ?_;(try simp only [zr_,zm_]))))
  simp only [List.cons_append,List.nil_append] at M
  go_wp2_with (first|(go_at_call 121;(with_reducible refine (spec_Tick_m m _ n cm _ SM (HSM.out.ext M.out.ext) HM.out).mono ?_);rintro e w' ⟨Bn,dn,rfl,M9⟩;rw [HTK.out,HTV.out];have M8:=M.out.call M9;replace M:=Lib.hid M8;clear M8 M9)|(go_at_call 120;(with_reducible refine (spec_on_m who rv 2 (a : Int) (m.clock_ + 1) _ np dp _ nr dr 3 _).mono ?_);rintro e w6 ⟨rfl,x6⟩;replace M:=Lib.hid (M.out.on x6);clear x6)|((with_reducible show wpList _ _ _ (⟨_,_,_,_,_,none⟩::_) _ _);first|((first|refine zGs M.out 27 0 2 ?_|refine zGs M.out 64 2 7 ?_);(try simp only [zr_,zm_]))|(refine Mine.wp_alloc M.out rfl 27 rfl (.agg #[.int .i64 0,.slice none 0 0]) (by kernel_rfl) ?_;intro gN w' M';(try simp only [Value.cells,zr_,zm_] at M');replace M:=Lib.hid M';clear M';(try simp only [zr_,zm_]))|((first|refine zSs M.out 27 0 ?_|refine zSs M.out 27 5 ?_|refine zS M.out 2 ?_|refine zSs M.out 64 2 ?_);intro w' M';(try simp only [zr_,zm_] at M');replace M:=Lib.hid M';clear M')))
  simp only [List.cons_append,List.nil_append] at M
  have MT:=Lib.hid (M.out.sub (sk_ (sk_ (sk_ (sk_ (sk_ (sk_ (sk_ (sk_ (sd_ (sk_ (sk_ s0_))))))))))))
  refine Mine.region_headS MT.out M.out 3 (by kernel_rfl) (by kernel_rfl) ?_
  intro w' M'
  replace M:=Lib.hid M'
  clear M'
  clear MT
  refine zT 0 ?_;intro K hK;((refine zDs 27 5 2 ?_;(try simp only [zr_,zm_]);go_big_quiet_on))
  refine zT 1 ?_;intro K hK;((refine zDs 64 2 7 ?_;(try simp only [zr_,zm_]);go_big_quiet_on))
  refine HQ.noisy (rs:=[2]) (by kernel_rfl) (by simp) (AllG.cons rfl (Nat.le_of_ble_eq_true rfl) (fun K hK => ?_) AllG.nil)
  refine Mine.step_sets M.out (by rfl) 27 _ _ (by rfl) (by rfl) 8 _ (by rfl) (by rfl) _ (by rfl) (Nat.le_of_ble_eq_true rfl) (by simp [Value.oneCell']) (by kernel_rfl) ?_
  intro w' M'
  simp only [zr_,zm_] at M'
  replace M:=Lib.hid M'
  clear M'
  refine hK.out _ _ (M.out.sub (sk_ (sk_ (sk_ (sk_ (sk_ (sk_ (sk_ (sk_ (sd_ (sk_ (sk_ s0_)))))))))))) ?_
  clear hK K
  (try simp only [zs_,zl_])
  refine HQ.end_ (by kernel_rfl) ?_
  simp only [List.drop_succ_cons,List.drop_zero]
  go_wp2_with (((with_reducible show wpList _ _ _ (⟨_,_,_,_,_,none⟩::_) _ _);first|(refine zSs M.out 64 7 ?_;intro w' M';(try simp only [zr_,zm_] at M');replace M:=Lib.hid M';clear M')))
  refine bodyPost_ret (M.out.results_cc Tryz.results80 _ 8 rfl rfl _ Tryz.underlying27 (by rfl) (by kernel_rfl) 7 rfl rfl _ Tryz.underlying64 (by rfl) (by kernel_rfl)) rfl ?_
  rw [HZ.out]
  replace M:=Lib.hid (M.out.sub (sd_ (sk_ (sd_ (sk_ (sk_ (sd_ (sd_ (sd_ (sd_ (sd_ (sd_ s0_))))))))))))
  exact ⟨_,_,_,_,_,_,rfl,M.out⟩

end Go.Proofs.YtpmfhfpjiebcjaaGreat
