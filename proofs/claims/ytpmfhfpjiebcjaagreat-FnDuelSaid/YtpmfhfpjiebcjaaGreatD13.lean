/- CommitStep of the program: a lock. No condition but lengths. -/
import Derived.Test.YtpmfhfpjiebcjaaGreatD00
import Derived.Test.YtpmfhfpjiebcjaaGreatD11
namespace Go.Proofs.YtpmfhfpjiebcjaaGreat
open Go.RowKit Go.Deep
set_option linter.unnecessarySimpa false
set_option linter.unusedSimpArgs false
set_option linter.unusedVariables false
set_option maxRecDepth 8000 in
set_option maxHeartbeats 16000000 in
theorem impl_cs1 (m : Mem) (A : Option Addr) (n cm : Nat) (who rv wv : Int) (a : Nat) (ps : List Row) (rs : List Int) (Ap : Option Addr) (np cp : Nat) (Ar : Option Addr) (nr cr : Nat) (w : World) (SM : Nat → Prop) (hsM : Sl w SM 3 A n (m.cells_.flatMap Word.cells)) (hnM : n ≤ 1048576) (S1 : Nat → Prop) (h1 : Sl w S1 2 Ap np (ps.flatMap Row.cells)) (hm1 : np ≤ 1048576) (S2 : Nat → Prop) (h2 : Sl w S2 1 Ar nr (ints rs)) (hm2 : nr ≤ 1048576) (hM : memOk m = true) (hC : commitOk ⟨who,rv,1,(a : Int),wv,ps,rs⟩ = true) :
  Calls Tryz.prog 89 #[.agg #[.int .i64 m.clock_,.slice A n cm],.agg #[.int .i64 who,.int .i64 rv,.int .i64 1,.int .i64 (a : Int),.int .i64 wv,.slice Ap np cp,.slice Ar nr cr]] w fun e w' => ∃ B d Bp dp Br dr,e = .returned (.tuple #[.agg #[.int .i64 (cstepS m ⟨who,rv,1,(a : Int),wv,ps,rs⟩).k,.slice B n d],.agg #[.int .i64 who,.int .i64 rv,.int .i64 (cstepS m ⟨who,rv,1,(a : Int),wv,ps,rs⟩).ph,.int .i64 (cstepS m ⟨who,rv,1,(a : Int),wv,ps,rs⟩).at_,.int .i64 (cstepS m ⟨who,rv,1,(a : Int),wv,ps,rs⟩).wv,.slice Bp np dp,.slice Br nr dr]]) ∧ Mine w w' [.row 102 3 B n d ((cstepS m ⟨who,rv,1,(a : Int),wv,ps,rs⟩).xs.flatMap Word.cells),.row 97 2 Bp np dp (ps.flatMap Row.cells),.row 3 1 Br nr dr (ints rs)]:=by
 have hl0 : m.cells_.length = n:=hsM.flen Word.cells_length (by omega)
 have hl1 : ps.length = np:=h1.flen Row.cells_length (by omega)
 have hl2 : rs.length = nr:=h2.len
 have HSM:=Lib.hid hsM
 have H1:=Lib.hid h1
 have H2:=Lib.hid h2
 clear hsM h1 h2
 have M:=Lib.hid (Mine.refl w)
 have HM:=Lib.hid hM
 have HC:=Lib.hid hC
 obtain ⟨q1,q2,q3,-,q5,-,q7,q8⟩:=dec_true hC
 have hn8 : n = 8:=by have:=memOk_len hM;omega
 have HN8:=Lib.hid hn8
 have hn0 : 0 < n:=by omega
 have HQ1:=Lib.hid q1
 have ha : a < np:=by have h:=q8.2;simp only [stepsN] at h;simp at h;omega
 obtain ⟨r,hr⟩ : ∃ r,ps[a]? = some r:=⟨_,List.getElem?_eq_getElem (by omega)⟩
 have hok:=(dec_true q5).2 a (by simp only;omega) r hr
 obtain ⟨r0,r1⟩:=r
 obtain ⟨i,rfl⟩ : ∃ i : Nat,r0 = (i : Int):=⟨r0.toNat,by have:=hok.1.1;simp only at this;omega⟩
 have hi : i < 8:=by have:=hok.1.2;simp only at this;omega
 obtain ⟨x,hx⟩ : ∃ x,m.cells_[i]? = some x:=⟨_,List.getElem?_eq_getElem (by omega)⟩
 have HR:=Lib.hid hr
 have HX:=Lib.hid hx
 have HRV : Hid (0 ≤ r1 ∧ r1 ≤ 65535):=hok.2
 have HGC : Hid ((ps.flatMap Row.cells)[a * 2]? = some (.int .i64 (i : Int))):=by have h:=flat_get Row.cells_length ps a 0 _ hr (by omega);rw [Nat.add_zero] at h;exact h
 have HGV : Hid ((ps.flatMap Row.cells)[a * 2 + 1]? = some (.int .i64 r1)):=flat_get Row.cells_length ps a 1 _ hr (by omega)
 have ha1 : (a : Int) < (np : Int):=by omega
 have haB : 0 ≤ (a : Int) ∧ (a : Int) ≤ 1048576:=by omega
 have hi1 : (i : Int) < (n : Int):=by omega
 clear q1 q2 q3 q5 q7 q8 hok hr hx hn8
 by_cases ho : x.owner_ = 0
 ·have HZ:=Lib.hid (cs1_yes HM.out HC.out HR.out rfl HX.out ho)
  (try rw [hl1] at HZ);(try rw [hl2] at HZ)
  have HD : Hid (dec (x.owner_ = 0) = true):=dec_yes ho
  clear ho
  go_enter Tryz.func89,Tryz.ntmps89
  go_wp2_with (first|(go_at_call 129;(with_reducible refine (impl_copyMem_m m.clock_ A n cm m.cells_ _ SM (HSM.out.ext M.out.ext) hnM).mono ?_);rintro e w' ⟨B,d,rfl,M9⟩;have M8:=M.out.call M9;replace M:=Lib.hid M8;clear M8 M9)|(go_at_call 130;(with_reducible refine (impl_copyCommit_m who rv 1 (a : Int) wv Ap np cp Ar nr cr ps rs _ S1 (H1.out.ext M.out.ext) hm1 S2 (H2.out.ext M.out.ext) hm2).mono ?_);rintro e w' ⟨Bp,dp,Br,dr,rfl,M9⟩;have M8:=M.out.call M9;replace M:=Lib.hid M8;clear M8 M9)|(go_at_call 65;(with_reducible refine (impl_MemOk m B n d _ _ (by omega) (M.out.row_sl 2 rfl)).mono ?_);rintro e w' ⟨rfl,x9⟩;replace M:=Lib.hid (M.out.on x9);clear x9;rw [HM.out])|(go_at_call 131;(with_reducible refine (impl_CommitOk ⟨who,rv,1,(a : Int),wv,ps,rs⟩ _ np dp Br nr dr _ _ (M.out.row_sl 0 rfl) hm1 _ (M.out.row_sl 1 rfl) hm2).mono ?_);rintro e w' ⟨rfl,x9⟩;replace M:=Lib.hid (M.out.on x9);clear x9;rw [HC.out])|((with_reducible show wpList _ _ _ (⟨_,_,_,_,_,none⟩::_) _ _);first|(refine Mine.wp_box M.out rfl 27 _ rfl _ rfl ?_;intro ga w' M';(try simp only [zr_,zm_] at M');replace M:=Lib.hid M';clear M';(try simp only [zr_,zm_]))|(refine Mine.wp_box M.out rfl 64 _ rfl _ rfl ?_;intro gc w' M';(try simp only [zr_,zm_] at M');replace M:=Lib.hid M';clear M';(try simp only [zr_,zm_]))|(refine Mine.wp_alloc M.out rfl 27 rfl (.agg #[.int .i64 0,.slice none 0 0]) (by kernel_rfl) ?_;intro gr w' M';(try simp only [Value.cells,zr_,zm_] at M');replace M:=Lib.hid M';clear M';(try simp only [zr_,zm_]))|(refine Mine.wp_alloc M.out rfl 64 rfl (.agg #[.int .i64 0,.int .i64 0,.int .i64 0,.int .i64 0,.int .i64 0,.slice none 0 0,.slice none 0 0]) (by kernel_rfl) ?_;intro gs w' M';(try simp only [Value.cells,zr_,zm_] at M');replace M:=Lib.hid M';clear M';(try simp only [zr_,zm_]))|((first|refine zGs M.out 27 3 2 ?_|refine zGs M.out 64 3 7 ?_|refine zGs M.out 27 6 2 ?_|refine zG M.out 5 ?_);(try simp only [zr_,zm_]))|((first|refine zSs M.out 27 4 ?_|refine zSs M.out 64 5 ?_);intro w' M';(try simp only [zr_,zm_] at M');replace M:=Lib.hid M';clear M'))|((with_reducible show wpList _ _ _ (⟨_,.load _ _,_,_,_,some _⟩::_) _ _);first|(refine Mine.wp_getsg M.out (by rfl) 64 _ rfl 5 _ 7 rfl rfl (Nat.le_of_ble_eq_true rfl) _ Tryz.underlying64 (by rfl) (by kernel_rfl) ?_;(try simp only [zr_,zm_]))))
  obtain ⟨gW,rfl⟩:=M.out.addr 2 rfl (by omega)
  obtain ⟨gP,rfl⟩:=M.out.addr 0 rfl (by omega)
  refine Mine.region_head M.out 16 (by kernel_rfl) (by kernel_rfl) ?_
  intro w' M'
  replace M:=Lib.hid M'
  clear M'
  refine zT 0 ?_;intro K hK;((refine zDs 27 6 2 ?_;(try simp only [zr_,zm_]);go_big_quiet_on))
  refine zXT 1 ?_;(try simp only [zs_,zl_])
  refine zT 2 ?_;intro K hK;((refine zD 5 ?_;(try simp only [zr_,zm_]);go_big_quiet_on))
  refine zXT 3 ?_;(try simp only [zs_,zl_])
  refine zT 4 ?_;intro K hK;((refine zD 5 ?_;(try simp only [zr_,zm_]);go_big_quiet_on))
  refine zXT 5 ?_;(try simp only [zs_,zl_])
  refine zXT 6 ?_;(try simp only [zs_,zl_])
  refine zT 7 ?_;intro K hK;((refine Mine.rd_getr _ _ rfl 0 _ rfl rfl _ (by exact HGC.out) _ (by first|exact Tryz.underlying3) (by rfl) ?_;(try simp only [zr_,zm_]);go_big_quiet_on))
  refine zXT 8 ?_;(try simp only [zs_,zl_])
  refine zT 9 ?_;intro K hK;((refine zD 5 ?_;(try simp only [zr_,zm_]);go_big_quiet_on))
  refine HQ.noisy (rs:=[10,14]) (by kernel_rfl) (by simp) (AllG.cons rfl (Nat.le_of_ble_eq_true rfl) (fun K hK => ?_) (AllG.cons rfl (Nat.le_of_ble_eq_true rfl) (fun K hK => ?_) AllG.nil))
  go_simp
  go_at_call 132
  refine (impl_Lock_m m gW 0 n d i x who _ _ (M.out.row_sl 2 rfl) HM.out HX.out hi HQ1.out).mono ?_
  rintro e w5 ⟨Bn,dn,rfl,M4⟩
  rw [HD.out]
  replace M:=Lib.hid (M.out.call M4)
  simp only [List.cons_append,List.nil_append] at M
  clear M4
  refine hK.out _ _ (M.out.tail) ?_
  clear hK K
  (try simp only [zs_,zl_])
  refine zXL 11 ?_;(try simp only [zs_,zl_])
  refine zXL 12 ?_;(try simp only [zs_,zl_])
  refine zXL 13 ?_;(try simp only [zs_,zl_])
  refine HQ.noisy (rs:=[14]) (by kernel_rfl) (by simp) (AllG.cons rfl (Nat.le_of_ble_eq_true rfl) (fun K hK => ?_) AllG.nil)
  go_simp
  replace M:=Lib.hid (M.out.box 27 #[.int .i64 0,.slice none 0 0])
  refine hK.out _ _ (M.out.tail.tail) ?_
  clear hK K
  (try simp only [zs_,zl_])
  generalize w5.heap.size = gN at M ⊢
  rotate_left
  go_simp
  replace M:=Lib.hid (M.out.box 27 #[.int .i64 0,.slice none 0 0])
  refine hK.out _ _ (M.out.tail) ?_
  clear hK K
  (try simp only [zs_,zl_])
  generalize w'.heap.size = gN at M ⊢
  refine HQ.noisy (rs:=[10]) (by kernel_rfl) (by simp) (AllG.cons rfl (Nat.le_of_ble_eq_true rfl) (fun K hK => ?_) AllG.nil)
  go_simp
  go_at_call 132
  refine (impl_Lock_m m gW 0 n d i x who _ _ (M.out.row_sl 3 rfl) HM.out HX.out hi HQ1.out).mono ?_
  rintro e w5 ⟨Bn,dn,rfl,M4⟩
  rw [HD.out]
  replace M:=Lib.hid (M.out.call M4)
  simp only [List.cons_append,List.nil_append] at M
  clear M4
  replace M:=Lib.hid (M.out.perm (List.Perm.swap _ _ _))
  refine hK.out _ _ (M.out.tail.tail) ?_
  clear hK K
  (try simp only [zs_,zl_])
  refine zXL 11 ?_;(try simp only [zs_,zl_])
  refine zXL 12 ?_;(try simp only [zs_,zl_])
  refine zXL 13 ?_;(try simp only [zs_,zl_])
  rotate_left
  all_goals (
   refine HQ.noisy (rs:=[15]) (by kernel_rfl) (by simp) (AllG.cons rfl (Nat.le_of_ble_eq_true rfl) (fun K hK => ?_) AllG.nil)
   refine Mine.step_sets M.out (by rfl) 27 _ _ (by rfl) (by rfl) 0 _ (by rfl) (by rfl) _ (by rfl) (Nat.le_of_ble_eq_true rfl) (by simp [Value.oneCell']) (by kernel_rfl) ?_
   intro w' M'
   simp only [zr_,zm_] at M'
   replace M:=Lib.hid M'
   clear M'
   refine hK.out _ _ (M.out.tail.tail) ?_
   clear hK K
   (try simp only [zs_,zl_])
   refine HQ.end_ (by kernel_rfl) ?_
   simp only [List.drop_succ_cons,List.drop_zero]
   go_wp2_with (((with_reducible show wpList _ _ _ (⟨_,_,_,_,_,none⟩::_) _ _);first|(refine zGs M.out 27 0 2 ?_;(try simp only [zr_,zm_]))|(refine zSs M.out 27 8 ?_;intro w' M';(try simp only [zr_,zm_] at M');replace M:=Lib.hid M';clear M')))
   replace M:=Lib.hid (M.out.perm (List.perm_middle (l₁:=[_,_,_,_,_,_,_])))
   simp only [List.cons_append,List.nil_append] at M
   refine (impl_next_m who rv 1 (a : Int) wv _ np dp _ nr dr 2 haB w _ gc _ M.out).mono ?_
   rintro e w6 ⟨rfl,M9⟩
   replace M:=Lib.hid M9
   clear M9
   go_wp2
   have MT:=Lib.hid (M.out.sub (sk_ (sk_ (sk_ (sk_ (sk_ (sk_ (sk_ (sd_ (sk_ s0_))))))))))
   refine Mine.region_headS MT.out M.out 3 (by kernel_rfl) (by kernel_rfl) ?_
   intro w' M'
   replace M:=Lib.hid M'
   clear M'
   clear MT
   refine zT 0 ?_;intro K hK;((refine zDs 27 7 2 ?_;(try simp only [zr_,zm_]);go_big_quiet_on))
   refine zT 1 ?_;intro K hK;((refine zDs 64 0 7 ?_;(try simp only [zr_,zm_]);go_big_quiet_on))
   refine HQ.noisy (rs:=[2]) (by kernel_rfl) (by simp) (AllG.cons rfl (Nat.le_of_ble_eq_true rfl) (fun K hK => ?_) AllG.nil)
   refine Mine.step_sets M.out (by rfl) 27 _ _ (by rfl) (by rfl) 7 _ (by rfl) (by rfl) _ (by rfl) (Nat.le_of_ble_eq_true rfl) (by simp [Value.oneCell']) (by kernel_rfl) ?_
   intro w' M'
   simp only [zr_,zm_] at M'
   replace M:=Lib.hid M'
   clear M'
   refine hK.out _ _ (M.out.sub (sk_ (sk_ (sk_ (sk_ (sk_ (sk_ (sk_ (sd_ (sk_ s0_)))))))))) ?_
   clear hK K
   (try simp only [zs_,zl_])
   refine HQ.end_ (by kernel_rfl) ?_
   simp only [List.drop_succ_cons,List.drop_zero]
   go_wp2_with (((with_reducible show wpList _ _ _ (⟨_,_,_,_,_,none⟩::_) _ _);first|(refine zSs M.out 64 6 ?_;intro w' M';(try simp only [zr_,zm_] at M');replace M:=Lib.hid M';clear M')))
   refine bodyPost_ret (M.out.results_cc Tryz.results89 _ 7 rfl rfl _ Tryz.underlying27 (by rfl) (by kernel_rfl) 6 rfl rfl _ Tryz.underlying64 (by rfl) (by kernel_rfl)) rfl ?_
   rw [HZ.out]
   replace M:=Lib.hid (M.out.sub (sd_ (sd_ (sk_ (sk_ (sk_ (sd_ (sd_ (sd_ (sd_ s0_))))))))))
   exact ⟨_,_,_,_,_,_,rfl,M.out⟩
   )
 skip
 ·have HZ:=Lib.hid (cs1_no HM.out HC.out HR.out rfl HX.out ho)
  (try rw [hl1] at HZ);(try rw [hl2] at HZ)
  have HD : Hid (dec (x.owner_ = 0) = false):=dec_no ho
  clear ho
  go_enter Tryz.func89,Tryz.ntmps89
  go_wp2_with (first|(go_at_call 129;(with_reducible refine (impl_copyMem_m m.clock_ A n cm m.cells_ _ SM (HSM.out.ext M.out.ext) hnM).mono ?_);rintro e w' ⟨B,d,rfl,M9⟩;have M8:=M.out.call M9;replace M:=Lib.hid M8;clear M8 M9)|(go_at_call 130;(with_reducible refine (impl_copyCommit_m who rv 1 (a : Int) wv Ap np cp Ar nr cr ps rs _ S1 (H1.out.ext M.out.ext) hm1 S2 (H2.out.ext M.out.ext) hm2).mono ?_);rintro e w' ⟨Bp,dp,Br,dr,rfl,M9⟩;have M8:=M.out.call M9;replace M:=Lib.hid M8;clear M8 M9)|(go_at_call 65;(with_reducible refine (impl_MemOk m B n d _ _ (by omega) (M.out.row_sl 2 rfl)).mono ?_);rintro e w' ⟨rfl,x9⟩;replace M:=Lib.hid (M.out.on x9);clear x9;rw [HM.out])|(go_at_call 131;(with_reducible refine (impl_CommitOk ⟨who,rv,1,(a : Int),wv,ps,rs⟩ _ np dp Br nr dr _ _ (M.out.row_sl 0 rfl) hm1 _ (M.out.row_sl 1 rfl) hm2).mono ?_);rintro e w' ⟨rfl,x9⟩;replace M:=Lib.hid (M.out.on x9);clear x9;rw [HC.out])|((with_reducible show wpList _ _ _ (⟨_,_,_,_,_,none⟩::_) _ _);first|(refine Mine.wp_box M.out rfl 27 _ rfl _ rfl ?_;intro ga w' M';(try simp only [zr_,zm_] at M');replace M:=Lib.hid M';clear M';(try simp only [zr_,zm_]))|(refine Mine.wp_box M.out rfl 64 _ rfl _ rfl ?_;intro gc w' M';(try simp only [zr_,zm_] at M');replace M:=Lib.hid M';clear M';(try simp only [zr_,zm_]))|(refine Mine.wp_alloc M.out rfl 27 rfl (.agg #[.int .i64 0,.slice none 0 0]) (by kernel_rfl) ?_;intro gr w' M';(try simp only [Value.cells,zr_,zm_] at M');replace M:=Lib.hid M';clear M';(try simp only [zr_,zm_]))|(refine Mine.wp_alloc M.out rfl 64 rfl (.agg #[.int .i64 0,.int .i64 0,.int .i64 0,.int .i64 0,.int .i64 0,.slice none 0 0,.slice none 0 0]) (by kernel_rfl) ?_;intro gs w' M';(try simp only [Value.cells,zr_,zm_] at M');replace M:=Lib.hid M';clear M';(try simp only [zr_,zm_]))|((first|refine zGs M.out 27 3 2 ?_|refine zGs M.out 64 3 7 ?_|refine zGs M.out 27 6 2 ?_|refine zG M.out 5 ?_);(try simp only [zr_,zm_]))|((first|refine zSs M.out 27 4 ?_|refine zSs M.out 64 5 ?_);intro w' M';(try simp only [zr_,zm_] at M');replace M:=Lib.hid M';clear M'))|((with_reducible show wpList _ _ _ (⟨_,.load _ _,_,_,_,some _⟩::_) _ _);first|(refine Mine.wp_getsg M.out (by rfl) 64 _ rfl 5 _ 7 rfl rfl (Nat.le_of_ble_eq_true rfl) _ Tryz.underlying64 (by rfl) (by kernel_rfl) ?_;(try simp only [zr_,zm_]))))
  obtain ⟨gW,rfl⟩:=M.out.addr 2 rfl (by omega)
  obtain ⟨gP,rfl⟩:=M.out.addr 0 rfl (by omega)
  refine Mine.region_head M.out 16 (by kernel_rfl) (by kernel_rfl) ?_
  intro w' M'
  replace M:=Lib.hid M'
  clear M'
  refine zT 0 ?_;intro K hK;((refine zDs 27 6 2 ?_;(try simp only [zr_,zm_]);go_big_quiet_on))
  refine zXT 1 ?_;(try simp only [zs_,zl_])
  refine zT 2 ?_;intro K hK;((refine zD 5 ?_;(try simp only [zr_,zm_]);go_big_quiet_on))
  refine zXT 3 ?_;(try simp only [zs_,zl_])
  refine zT 4 ?_;intro K hK;((refine zD 5 ?_;(try simp only [zr_,zm_]);go_big_quiet_on))
  refine zXT 5 ?_;(try simp only [zs_,zl_])
  refine zXT 6 ?_;(try simp only [zs_,zl_])
  refine zT 7 ?_;intro K hK;((refine Mine.rd_getr _ _ rfl 0 _ rfl rfl _ (by exact HGC.out) _ (by first|exact Tryz.underlying3) (by rfl) ?_;(try simp only [zr_,zm_]);go_big_quiet_on))
  refine zXT 8 ?_;(try simp only [zs_,zl_])
  refine zT 9 ?_;intro K hK;((refine zD 5 ?_;(try simp only [zr_,zm_]);go_big_quiet_on))
  refine HQ.noisy (rs:=[10,14]) (by kernel_rfl) (by simp) (AllG.cons rfl (Nat.le_of_ble_eq_true rfl) (fun K hK => ?_) (AllG.cons rfl (Nat.le_of_ble_eq_true rfl) (fun K hK => ?_) AllG.nil))
  go_simp
  go_at_call 132
  refine (impl_Lock_m m gW 0 n d i x who _ _ (M.out.row_sl 2 rfl) HM.out HX.out hi HQ1.out).mono ?_
  rintro e w5 ⟨Bn,dn,rfl,M4⟩
  rw [HD.out]
  replace M:=Lib.hid (M.out.call M4)
  simp only [List.cons_append,List.nil_append] at M
  clear M4
  refine hK.out _ _ (M.out.tail) ?_
  clear hK K
  (try simp only [zs_,zl_])
  refine zXL 11 ?_;(try simp only [zs_,zl_])
  refine zXL 12 ?_;(try simp only [zs_,zl_])
  refine zXL 13 ?_;(try simp only [zs_,zl_])
  refine HQ.noisy (rs:=[14]) (by kernel_rfl) (by simp) (AllG.cons rfl (Nat.le_of_ble_eq_true rfl) (fun K hK => ?_) AllG.nil)
  go_simp
  replace M:=Lib.hid (M.out.box 27 #[.int .i64 0,.slice none 0 0])
  refine hK.out _ _ (M.out.tail.tail) ?_
  clear hK K
  (try simp only [zs_,zl_])
  generalize w5.heap.size = gN at M ⊢
  rotate_left
  go_simp
  replace M:=Lib.hid (M.out.box 27 #[.int .i64 0,.slice none 0 0])
  refine hK.out _ _ (M.out.tail) ?_
  clear hK K
  (try simp only [zs_,zl_])
  generalize w'.heap.size = gN at M ⊢
  refine HQ.noisy (rs:=[10]) (by kernel_rfl) (by simp) (AllG.cons rfl (Nat.le_of_ble_eq_true rfl) (fun K hK => ?_) AllG.nil)
  go_simp
  go_at_call 132
  refine (impl_Lock_m m gW 0 n d i x who _ _ (M.out.row_sl 3 rfl) HM.out HX.out hi HQ1.out).mono ?_
  rintro e w5 ⟨Bn,dn,rfl,M4⟩
  rw [HD.out]
  replace M:=Lib.hid (M.out.call M4)
  simp only [List.cons_append,List.nil_append] at M
  clear M4
  replace M:=Lib.hid (M.out.perm (List.Perm.swap _ _ _))
  refine hK.out _ _ (M.out.tail.tail) ?_
  clear hK K
  (try simp only [zs_,zl_])
  refine zXL 11 ?_;(try simp only [zs_,zl_])
  refine zXL 12 ?_;(try simp only [zs_,zl_])
  refine zXL 13 ?_;(try simp only [zs_,zl_])
  rotate_left
  all_goals (
   refine HQ.noisy (rs:=[15]) (by kernel_rfl) (by simp) (AllG.cons rfl (Nat.le_of_ble_eq_true rfl) (fun K hK => ?_) AllG.nil)
   refine Mine.step_sets M.out (by rfl) 27 _ _ (by rfl) (by rfl) 0 _ (by rfl) (by rfl) _ (by rfl) (Nat.le_of_ble_eq_true rfl) (by simp [Value.oneCell']) (by kernel_rfl) ?_
   intro w' M'
   simp only [zr_,zm_] at M'
   replace M:=Lib.hid M'
   clear M'
   refine hK.out _ _ (M.out.tail.tail) ?_
   clear hK K
   (try simp only [zs_,zl_])
   refine HQ.end_ (by kernel_rfl) ?_
   simp only [List.drop_succ_cons,List.drop_zero]
   go_wp2_with (((with_reducible show wpList _ _ _ (⟨_,_,_,_,_,none⟩::_) _ _);first|((first|refine zGs M.out 27 0 2 ?_|refine zG M.out 7 ?_);(try simp only [zr_,zm_]))|(refine zSs M.out 27 8 ?_;intro w' M';(try simp only [zr_,zm_] at M');replace M:=Lib.hid M';clear M')))
   replace M:=Lib.hid (M.out.perm (List.perm_middle (l₁:=[_,_,_,_,_,_,_])))
   simp only [List.cons_append,List.nil_append] at M
   refine (impl_back_m who rv 1 (a : Int) wv _ np dp _ nr dr (a : Int) haB w _ gc _ M.out).mono ?_
   rintro e w6 ⟨rfl,M9⟩
   replace M:=Lib.hid M9
   clear M9
   go_wp2
   have MT:=Lib.hid (M.out.sub (sk_ (sk_ (sk_ (sk_ (sk_ (sk_ (sk_ (sd_ (sk_ s0_))))))))))
   refine Mine.region_headS MT.out M.out 3 (by kernel_rfl) (by kernel_rfl) ?_
   intro w' M'
   replace M:=Lib.hid M'
   clear M'
   clear MT
   refine zT 0 ?_;intro K hK;((refine zDs 27 7 2 ?_;(try simp only [zr_,zm_]);go_big_quiet_on))
   refine zT 1 ?_;intro K hK;((refine zDs 64 0 7 ?_;(try simp only [zr_,zm_]);go_big_quiet_on))
   refine HQ.noisy (rs:=[2]) (by kernel_rfl) (by simp) (AllG.cons rfl (Nat.le_of_ble_eq_true rfl) (fun K hK => ?_) AllG.nil)
   refine Mine.step_sets M.out (by rfl) 27 _ _ (by rfl) (by rfl) 7 _ (by rfl) (by rfl) _ (by rfl) (Nat.le_of_ble_eq_true rfl) (by simp [Value.oneCell']) (by kernel_rfl) ?_
   intro w' M'
   simp only [zr_,zm_] at M'
   replace M:=Lib.hid M'
   clear M'
   refine hK.out _ _ (M.out.sub (sk_ (sk_ (sk_ (sk_ (sk_ (sk_ (sk_ (sd_ (sk_ s0_)))))))))) ?_
   clear hK K
   (try simp only [zs_,zl_])
   refine HQ.end_ (by kernel_rfl) ?_
   simp only [List.drop_succ_cons,List.drop_zero]
   go_wp2_with (((with_reducible show wpList _ _ _ (⟨_,_,_,_,_,none⟩::_) _ _);first|(refine zSs M.out 64 6 ?_;intro w' M';(try simp only [zr_,zm_] at M');replace M:=Lib.hid M';clear M')))
   refine bodyPost_ret (M.out.results_cc Tryz.results89 _ 7 rfl rfl _ Tryz.underlying27 (by rfl) (by kernel_rfl) 6 rfl rfl _ Tryz.underlying64 (by rfl) (by kernel_rfl)) rfl ?_
   rw [HZ.out]
   replace M:=Lib.hid (M.out.sub (sd_ (sd_ (sk_ (sk_ (sk_ (sd_ (sd_ (sd_ (sd_ s0_))))))))))
   exact ⟨_,_,_,_,_,_,rfl,M.out⟩
   )

end Go.Proofs.YtpmfhfpjiebcjaaGreat
