/- Steps of the reference by kind. No condition but right code. A step of the reference. No condition but right code. A serial walk of the reference. No condition but lengths. touch. No condition but right operands. CodeOk of the program. No condition but the length. KidOk, ProgOk, ScriptOk of the program. No condition but sizes. -/
import Derived.Test.YtoegjiigaoanbaaGreatS00
import Derived.Test.YtoegjiigaoanbaaGreatS07
import Derived.Test.YtoegjiigaoanbaaGreatS06
namespace Go.Proofs.YtoegjiigaoanbaaGreat
open Go.RowKit Go.Deep
set_option linter.unnecessarySimpa false
set_option maxHeartbeats 400000000
open Go.Lib (hid)
set_option linter.unusedSimpArgs false
set_option linter.unusedVariables false
set_option maxRecDepth 16000 in
theorem spec_k15 : StepOk 15:=by
 intro n c l K kn kc kids O on oc lo regs t0 F w gs gr g0 SC se SM sf s rd cd pd MA mc es gR gC gP b oo go w1 u J9 KK9 Q9 a b2 c2 HCO HRO HTH HL HF HFK HI HES HLT HS HB HREG HTHS HRG HO HOP hn24 hml hpl hpc M0 hJ9 hM9 hR9 hP9
 have M:=hid M0.out
 simp only [SRows,List.cons_append,List.nil_append] at M
 clear M0
 conv =>
  arg 2
  whnf
 obtain ⟨⟨ha0,ha1⟩,hb0,hc0⟩:=ok15 HOP.out rfl
 simp only at ha0 ha1 hb0 hc0
 obtain ⟨ka,rfl⟩ : ∃ u : Nat,a = (u : Int):=⟨a.toNat,by omega⟩
 have hka : ka < 4:=by omega
 have hka1 : (ka : Int) < 4:=by omega
 have hbx:=regs_gi HREG.out (x:=(ka : Int)) ⟨by omega,by omega⟩
 have hcx:=ints_gi (l:=s.regs) (k:=ka) (by rw [regsOk_len HREG.out];exact hka)
 obtain ⟨x,hex⟩ : ∃ x,gi s.regs (ka : Int) = x:=⟨_,rfl⟩
 rw [hex] at hbx hcx
 obtain ⟨hbx0,hbx1⟩:=hbx
 have HX:=hid hcx
 have Ex:=hid hex
 clear hcx hex
 have hst : stp l F ⟨15,(ka : Int),b2,c2⟩ s = some ⟨s.pc + 1,s.regs,⟨s.th.cells_,s.th.map_,(s.th.count_ + x) % 65536⟩,s.ms⟩:=by
  rw [stp15 (by first|rfl|(simp only;omega))]
  simp only [Int.toNat_natCast,Ex.out]
 have HST:=hid hst
 clear hst
 clear ha0 ha1 hb0 hc0
 have hcn:=HTHS.out.2.2
 have HV2 : Hid ((IntKind.i64.wrap (s.th.count_ + x)).tmod 65536 = (s.th.count_ + x) % 65536):=by show _ = _;rw [Go.IntWalk.i64_in _ (by omega),Int.tmod_eq_emod_of_nonneg (by omega)]
 clear hcn
 go_wp2_with (first|((with_reducible refine zN ?_);first|(refine zG M.out 0 ?_;(try simp only [zr_,zm_]))))
 refine Mine.region_tail M.out 10 (by kernel_rfl) (by kernel_rfl) ?_
 simp only [List.take_succ_cons,List.take_zero,List.drop_succ_cons,List.drop_zero]
 repeat (first|go_big_quiet_skip|(go_big_quiet_want;first|((first|refine zQ 0 ?_|refine zQ 5 ?_|refine Mine.oq_getr _ _ rfl 1 _ rfl rfl _ (by exact HX.out) _ (by first|exact Tryz.underlying3) (by rfl) ?_);(try simp only [zr_,zm_]);go_big_quiet_on)|(unfold Oper.quiet;apply Exists.intro;refine ⟨fun wq hq => ?_,?_⟩;(clear hq;go_simp;first|done|rfl|exact ⟨rfl,rfl⟩);(try simp only [zs_,zl_]);go_big_quiet_on)))
 refine wpQuiet_nil ?_
 intro w' M'
 replace M:=hid M'
 clear M'
 go_wp2_with (first|((with_reducible refine zN ?_);first|(refine zS M.out 5 ?_;intro w' M';(try simp only [zr_,zm_] at M');replace M:=hid M';clear M')))
 (refine Met.intro ?_;refine hJ9 _ ?rel)
 case rel => exact ⟨⟨s.pc + 1,s.regs,⟨s.th.cells_,s.th.map_,(s.th.count_ + x) % 65536⟩,s.ms⟩,(some ⟨gR,0,none⟩,rd),(some ⟨gC,0,none⟩,cd),(some ⟨gP,0,none⟩,pd),MA,mc,es,rfl,rfl,by go_num,HES.out,HI.out.plain HCO.out HF.out HO.out HST.out (by simp) (by simp) rfl rfl,(by first|exact Nat.lt_succ_self _|(simp only;omega)),(by have M9:=M.out.tail;rw [HV2.out] at M9;exact M9)⟩
set_option maxRecDepth 16000 in
theorem spec_k16 : StepOk 16:=by
 intro n c l K kn kc kids O on oc lo regs t0 F w gs gr g0 SC se SM sf s rd cd pd MA mc es gR gC gP b oo go w1 u J9 KK9 Q9 a b2 c2 HCO HRO HTH HL HF HFK HI HES HLT HS HB HREG HTHS HRG HO HOP hn24 hml hpl hpc M0 hJ9 hM9 hR9 hP9
 have M:=hid M0.out
 simp only [SRows,List.cons_append,List.nil_append] at M
 clear M0
 conv =>
  arg 2
  whnf
 obtain ⟨⟨ha0,ha1⟩,hb0,hc0⟩:=ok16 HOP.out rfl
 simp only at ha0 ha1 hb0 hc0
 obtain ⟨ka,rfl⟩ : ∃ u : Nat,a = (u : Int):=⟨a.toNat,by omega⟩
 have hka : ka < 4:=by omega
 have hka1 : (ka : Int) < 4:=by omega
 have hst : stp l F ⟨16,(ka : Int),b2,c2⟩ s = some ⟨s.pc + 1,s.regs.set ka s.th.count_,s.th,s.ms⟩:=by
  rw [stp16 (by first|rfl|(simp only;omega))]
  simp only [Int.toNat_natCast]
 have HST:=hid hst
 clear hst
 clear ha0 ha1 hb0 hc0
 go_wp2_with (first|((with_reducible refine zN ?_);first|((first|refine zG M.out 0 ?_|refine zG M.out 5 ?_);(try simp only [zr_,zm_]))|(refine Mine.wp_put M.out rfl _ _ _ rfl rfl 1 _ rfl rfl _ (by (conv => lhs;whnf) <;> rfl) (by omega) (by rfl) (by kernel_rfl) ?_;intro w' M';(try simp only [zr_,zm_] at M');replace M:=hid M';clear M')))
 (refine Met.intro ?_;refine hJ9 _ ?rel)
 case rel => exact ⟨⟨s.pc + 1,s.regs.set ka s.th.count_,s.th,s.ms⟩,(some ⟨gR,0,none⟩,rd),(some ⟨gC,0,none⟩,cd),(some ⟨gP,0,none⟩,pd),MA,mc,es,rfl,rfl,by go_num,HES.out,HI.out.plain HCO.out HF.out HO.out HST.out (by simp) (by simp) rfl rfl,(by first|exact Nat.lt_succ_self _|(simp only;omega)),M.out.tail⟩
set_option maxRecDepth 16000 in
theorem spec_k1 (kd : Int) (hk : kd ≤ 4) : StepOk kd:=by
 intro n c l K kn kc kids O on oc lo regs t0 F w gs gr g0 SC se SM sf s rd cd pd MA mc es gR gC gP b oo go w1 u J9 KK9 Q9 a b2 c2 HCO HRO HTH HL HF HFK HI HES HLT HS HB HREG HTHS HRG HO HOP hn24 hml hpl hpc M0 hJ9 hM9 hR9 hP9
 have M:=hid M0.out
 simp only [SRows,List.cons_append,List.nil_append] at M
 clear M0
 conv =>
  arg 2
  whnf
 have hk4:=hk
 have hq5 : (kd == 5) = false:=beq_eq_false_iff_ne.2 (by omega)
 have hq6 : (kd == 6) = false:=beq_eq_false_iff_ne.2 (by omega)
 have hq7 : (kd == 7) = false:=beq_eq_false_iff_ne.2 (by omega)
 have hq8 : (kd == 8) = false:=beq_eq_false_iff_ne.2 (by omega)
 have hq9 : (kd == 9) = false:=beq_eq_false_iff_ne.2 (by omega)
 have hq10 : (kd == 10) = false:=beq_eq_false_iff_ne.2 (by omega)
 have hq11 : (kd == 11) = false:=beq_eq_false_iff_ne.2 (by omega)
 have hq12 : (kd == 12) = false:=beq_eq_false_iff_ne.2 (by omega)
 have hq13 : (kd == 13) = false:=beq_eq_false_iff_ne.2 (by omega)
 have hq14 : (kd == 14) = false:=beq_eq_false_iff_ne.2 (by omega)
 have hq15 : (kd == 15) = false:=beq_eq_false_iff_ne.2 (by omega)
 have hq16 : (kd == 16) = false:=beq_eq_false_iff_ne.2 (by omega)
 have HK5 : Hid (kd ≠ 8 ∧ kd ≠ 9):=⟨by omega,by omega⟩
 have HK4 : Hid (kd ≤ 4):=hk4
 clear hk4 hk
 have hst : stp l F ⟨kd,a,b2,c2⟩ s = some ⟨s.pc + 1,calcF ⟨kd,a,b2,c2⟩ s.regs,s.th,s.ms⟩:=stp1 HK4.out
 have HST:=hid hst
 clear hst
 go_wp2_with (first|(go_at_call 189;(with_reducible refine (spec_Calc kd a b2 c2 _ 4 rd s.regs _ _ (M.out.row_sl 1 rfl) HOP.out HK4.out HREG.out).mono ?_);rintro e w' ⟨R9,rd9,rfl,o9,x9⟩;replace M:=hid (M.out.own o9 x9);clear o9 x9)|((with_reducible refine zN ?_);first|((first|refine zG M.out 0 ?_|refine zGs M.out 237 0 4 ?_);(try simp only [zr_,zm_]))))
 obtain ⟨gR9,rfl⟩:=M.out.addr 0 rfl (by omega)
 (refine Met.intro ?_;refine hJ9 _ ?rel)
 case rel => exact ⟨⟨s.pc + 1,calcF ⟨kd,a,b2,c2⟩ s.regs,s.th,s.ms⟩,(some ⟨gR9,0,none⟩,rd9),(some ⟨gC,0,none⟩,cd),(some ⟨gP,0,none⟩,pd),MA,mc,es,rfl,rfl,by go_num,HES.out,HI.out.plain HCO.out HF.out HO.out HST.out HK5.out.1 HK5.out.2 rfl rfl,(by first|exact Nat.lt_succ_self _|(simp only;omega)),M.out.sub (sk_ (sd_ (sd_ (sk_ s1_))))⟩

end Go.Proofs.YtoegjiigaoanbaaGreat
namespace Go.Proofs.YtoegjiigaoanbaaGreat
open Go.RowKit Go.Deep
set_option linter.unnecessarySimpa false
set_option maxHeartbeats 400000000
open Go.Lib (hid)
set_option linter.unusedSimpArgs false
set_option linter.unusedVariables false
theorem spec_sw (kd : Int) (h : kd ≤ 16) : StepOk kd:=by
 by_cases e5 : kd = 5
 ·subst e5;exact spec_k5
 by_cases e6 : kd = 6
 ·subst e6;exact spec_k6
 by_cases e7 : kd = 7
 ·subst e7;exact spec_k7
 by_cases e8 : kd = 8
 ·subst e8;exact spec_k8
 by_cases e9 : kd = 9
 ·subst e9;exact spec_k9
 by_cases e10 : kd = 10
 ·subst e10;exact spec_k10
 by_cases e11 : kd = 11
 ·subst e11;exact spec_k11
 by_cases e12 : kd = 12
 ·subst e12;exact spec_k12
 by_cases e13 : kd = 13
 ·subst e13;exact spec_k13
 by_cases e14 : kd = 14
 ·subst e14;exact spec_k14
 by_cases e15 : kd = 15
 ·subst e15;exact spec_k15
 by_cases e16 : kd = 16
 ·subst e16;exact spec_k16
 exact spec_k1 kd (by omega)

end Go.Proofs.YtoegjiigaoanbaaGreat
namespace Go.Proofs.YtoegjiigaoanbaaGreat
open Go.RowKit Go.Deep
set_option linter.unnecessarySimpa false
set_option maxHeartbeats 400000000
open Go.Lib (hid)
set_option linter.unusedSimpArgs false
set_option linter.unusedVariables false
set_option maxRecDepth 16000 in
theorem spec_walk (A : Option Addr) (n c : Nat) (l : List GOp) (K : Option Addr) (kn kc : Nat) (kids : List Kid) (O : Option Addr) (on oc : Nat) (lo : List Int) (R : Option Addr) (rc : Nat) (regs : List Int) (C : Option Addr) (cc : Nat) (P : Option Addr) (pc : Nat) (t0 : Things) (F : FF) (w : World) (hs : Sl w (fun _ => True) 4 A n (l.flatMap GOp.cells)) (hc : codeOk l = true) (hr : Sl w (fun _ => True) 1 R 4 (ints regs)) (hro : regsOk regs = true) (h0 : Sl w (fun _ => True) 1 C 8 (ints t0.cells_)) (h1 : Sl w (fun _ => True) 1 P 8 (ints t0.map_)) (hth : thingsOk t0 = true) (hF : FOk F)
  (hfk : AllTo noFk l l.length ∨ (Walk0S ∧ F = forkF kids lo ∧ SlR Kid.R 1 w (fun _ => True) K kn kids ∧ KidsOk kids ∧ kn ≤ 3 ∧ Sl w (fun _ => True) 1 O on (ints lo) ∧ on ≤ 3 ∧ lo.Nodup ∧ (∀ x ∈ lo,0 ≤ x ∧ x < kids.length) ∧ (∀ j : Nat,j < kids.length → (j : Int) ∈ lo))) :
  Calls Tryz.prog 138 #[.slice A n c,.slice K kn kc,.slice O on oc,.slice R 4 rc,.agg #[.slice C 8 cc,.slice P 8 pc,.int .i64 t0.count_]] w fun e w' => WPost l F regs t0 w e w':=by
 have hl : l.length = n:=hs.flen GOp.cells_length (by omega)
 have hn24 : n ≤ 24:=by have:=codeOk_len hc;omega
 have HS:=hid hs
 have HCO:=hid hc
 have HR:=hid hr
 have HRO:=hid hro
 have H0:=hid h0
 have H1:=hid h1
 have HTH:=hid hth
 have HL:=hid hl
 have HF:=hid hF
 have HFK:=hid hfk
 have M:=hid (Mine.refl w)
 clear hs hc hr hro h0 h1 hth hl hF hfk
 go_enter Tryz.func138,Tryz.ntmps138
 go_wp2_with (first|(go_at_call 82;(with_reducible refine (l7Copy_m C 8 _ P 8 _ t0 _ _ _ (H0.out.ext M.out.ext) (by omega) (H1.out.ext M.out.ext) (by omega)).mono ?_);rintro e w' ⟨B0,d0,B1,d1,rfl,M9⟩;have M8:=M.out.call M9;replace M:=hid M8;clear M8 M9;simp only [List.cons_append,List.nil_append] at M)|(at_builtin;refine Mine.wp_pour (M.out.own (own_lit0 _ _ _) ((Ext.refl' _).al _)) rfl _ _ 22 rfl 3 _ _ _ Tryz.underlying22 Tryz.infoInt rfl (by omega) 0 rfl rfl _ R 4 rc (ints regs) rfl (HR.out.ext (M.out.ext.tr ((Ext.refl' _).al _))) (ints_one _) (by omega) (by unfold maxLen;omega) ?_;intro A2 c2 w' M';(try simp only [zr_,zm_,List.nil_append,Nat.zero_add,List.set_cons_zero] at M');replace M:=hid M';clear M';(try simp only [Nat.zero_add]))|((with_reducible refine zN ?_);first|(refine Mine.wp_box M.out rfl 42 _ rfl _ rfl ?_;intro gs w' M';(try simp only [zr_,zm_] at M');replace M:=hid M';clear M';(try simp only [zr_,zm_]))|(refine Mine.wp_alloc M.out rfl 111 rfl (.agg #[.int .i64 0,.slice none 0 0,.slice none 0 0,.slice none 0 0,.int .i64 0]) (by kernel_rfl) ?_;intro gr w' M';(try simp only [Value.cells,zr_,zm_] at M');replace M:=hid M';clear M';(try simp only [zr_,zm_]))|(refine Mine.wp_alloc M.out rfl 42 rfl (.agg #[.slice none 0 0,.slice none 0 0,.int .i64 0]) (by kernel_rfl) ?_;intro g0 w' M';(try simp only [Value.cells,zr_,zm_] at M');replace M:=hid M';clear M';(try simp only [zr_,zm_]))|((first|refine zGs M.out 42 1 3 ?_|refine zGs M.out 42 5 3 ?_);(try simp only [zr_,zm_]))|((first|refine zSs M.out 42 0 ?_|refine zSs M.out 42 7 ?_);intro w' M';(try simp only [zr_,zm_] at M');replace M:=hid M';clear M')))
 obtain ⟨SC,se,SM,sf,M0⟩ : ∃ SC se SM sf,Mine w w' [.row 3 1 B0 8 d0 (ints t0.cells_),.row 3 1 B1 8 d1 (ints t0.map_),.row 3 1 A2 4 c2 (ints regs),.box g0 42 #[.slice SC 8 se,.slice SM 8 sf,.int .i64 t0.count_],.row 3 1 SC 8 se (ints t0.cells_),.row 3 1 SM 8 sf (ints t0.map_),.box gr 111 #[.int .i64 0,.slice none 0 0,.slice none 0 0,.slice none 0 0,.int .i64 0],.box gs 42 #[.slice B0 8 d0,.slice B1 8 d1,.int .i64 t0.count_]]:=⟨_,_,_,_,M.out⟩
 have M9:=M0.own (own_lit0 _ 268 5) ((Ext.refl' _).al _)
 have M7:=M9.perm (List.Perm.trans (List.Perm.trans (List.Perm.trans (List.Perm.trans (List.Perm.trans (List.Perm.trans (List.Perm.trans (List.Perm.trans (List.Perm.cons _ (List.Perm.cons _ (List.Perm.swap _ _ _))) (List.Perm.cons _ (List.Perm.swap _ _ _))) (List.Perm.swap _ _ _)) (List.Perm.cons _ (List.Perm.swap _ _ _))) (List.Perm.cons _ (List.Perm.cons _ (List.Perm.swap _ _ _)))) (List.Perm.cons _ (List.Perm.cons _ (List.Perm.cons _ (List.Perm.cons _ (List.Perm.cons _ (List.Perm.cons _ (List.Perm.cons _ (List.Perm.swap _ _ _))))))))) (List.Perm.cons _ (List.Perm.cons _ (List.Perm.cons _ (List.Perm.cons _ (List.Perm.cons _ (List.Perm.cons _ (List.Perm.swap _ _ _)))))))) (List.Perm.cons _ (List.Perm.cons _ (List.Perm.cons _ (List.Perm.cons _ (List.Perm.cons _ (List.Perm.swap _ _ _))))))) (List.Perm.cons _ (List.Perm.cons _ (List.Perm.cons _ (List.Perm.cons _ (List.Perm.swap _ _ _))))))
 clear M M0 M9
 go_loopw [3,12,13] (fun rv mv iv wr => WRel l F t0 ⟨0,regs,t0,[]⟩ 268 gs [.box g0 42 #[.slice SC 8 se,.slice SM 8 sf,.int .i64 t0.count_],.row 3 1 SC 8 se (ints t0.cells_),.row 3 1 SM 8 sf (ints t0.map_),.box gr 111 #[.int .i64 0,.slice none 0 0,.slice none 0 0,.slice none 0 0,.int .i64 0]] w wr rv mv iv) (fun _ _ iv _ => n - (intOf iv).toNat)
 case atStart => exact ⟨⟨0,regs,t0,[]⟩,(_,_),(_,_),(_,_),_,_,[],rfl,rfl,rfl,rfl,WInv.zero HRO.out HTH.out,M7⟩
 case round =>
  clear M7
  obtain ⟨s,⟨RA,rd⟩,⟨CA,cd⟩,⟨PA,pd⟩,MA,mc,es,rfl,rfl,rfl,hes,hI,M1⟩:=hrel
  simp only [SRows,List.cons_append,List.nil_append] at M1
  obtain ⟨gR,rfl⟩:=M1.addr 0 rfl (by omega)
  obtain ⟨gC,rfl⟩:=M1.addr 1 rfl (by omega)
  obtain ⟨gP,rfl⟩:=M1.addr 2 rfl (by omega)
  have M:=hid M1
  have HI:=hid hI
  have HES:=hid hes
  have hml:=es_len hes hI.inv (by rw [HL.out];exact hn24)
  have hpl:=hI.inv.le
  rw [HL.out] at hpl
  clear M1 hI hes
  by_cases hlt : s.pc < n
  rotate_left
  ·as_aux_lemma =>
    obtain ⟨hru,hok⟩:=HI.out.done HCO.out HF.out HTH.out ⟨HRO.out,HTH.out,fun m hm => by cases hm⟩ (by rw [HL.out];omega)
    have HRU:=hid hru
    have HOK:=hid hok
    clear hru hok
    go_wp2_with (first|((with_reducible refine zN ?_);first|(refine zGs M.out 42 4 3 ?_;(try simp only [zr_,zm_]))|(refine zSs M.out 111 8 ?_;intro w' M';(try simp only [zr_,zm_] at M');replace M:=hid M';clear M')))
    refine bodyPost_ret (M.out.results_cell Tryz.results138 _ 8 rfl rfl _ Tryz.underlying111 (by rfl) (by kernel_rfl)) rfl ?_
    exact ⟨⟨1,s.regs,s.th⟩,(_,_),(_,_),(_,_),rfl,HRU.out,HOK.out,M.out.sub (sk_ (sk_ (sk_ s0_)))⟩
  have HLT : Hid (s.pc < n):=hlt
  have hpc : s.pc < 24:=by omega
  obtain ⟨b,oo,rfl⟩:=HS.out.addr (by omega)
  obtain ⟨o,ho,hrg,hb,-,-⟩:=code_at HS.out hlt
  have HRG:=hid hrg
  have HB:=hid hb
  have HO:=hid ho
  have HOP:=hid (codeOk_at HCO.out ho).1
  have HREG:=hid HI.out.ok.regs
  have HTHS:=hid (th_parts HI.out.ok.th)
  clear hrg hb ho
  obtain ⟨kd,a,b2,c2⟩:=o
  simp only [GOp.cells] at HRG
  go_upto_region 9 with (first|((with_reducible refine zN ?_);first|(refine Mine.wp_arg M.out rfl 237 _ rfl _ _ rfl _ HRG.out HB.out _ Tryz.underlying237 (by rfl) (by kernel_rfl) ?_;(try simp only [zr_,zm_]))|(refine Mine.wp_alloc M.out rfl 237 rfl (.agg #[.int .i64 0,.int .i64 0,.int .i64 0,.int .i64 0]) (by kernel_rfl) ?_;intro go w' M';(try simp only [Value.cells,zr_,zm_] at M');replace M:=hid M';clear M';(try simp only [zr_,zm_]))|(refine zSs M.out 237 0 ?_;intro w' M';(try simp only [zr_,zm_] at M');replace M:=hid M';clear M')))
  rename_i K9 h9
  have H9:=hid h9
  clear h9
  go_wp2_with (first|((with_reducible refine zN ?_);first|(refine zG M.out 0 ?_;(try simp only [zr_,zm_]))))
  refine H9.out _ _ ?_
  clear H9
  go_cut [3,12,15] from 34 to 288 (fun rv mv iv wx => WNext l F t0 ⟨0,regs,t0,[]⟩ s.pc 268 gs [.box g0 42 #[.slice SC 8 se,.slice SM 8 sf,.int .i64 t0.count_],.row 3 1 SC 8 se (ints t0.cells_),.row 3 1 SM 8 sf (ints t0.map_),.box gr 111 #[.int .i64 0,.slice none 0 0,.slice none 0 0,.slice none 0 0,.int .i64 0]] w wx rv mv iv)
  case rest =>
   clear M
   obtain ⟨s2,⟨RA,rd2⟩,C2,P2,MA2,mc2,es2,rfl,rfl,rfl,hes2,hI2,hgt,M2⟩:=hcut
   have hle:=hI2.inv.le
   rw [HL.out] at hle
   have HES2:=hid hes2
   have HI2:=hid hI2
   have HM2:=hid M2
   clear hes2 hI2 M2
   go_wp2
   go_roundw
   case rel => exact ⟨s2,(RA,rd2),C2,P2,MA2,mc2,es2,rfl,rfl,rfl,HES2.out,HI2.out,HM2.out⟩
   case measure => simp [intOf];omega
  case first =>
   rename_i J9 KK9 hJ9 hM9
   have hkd:=opOk_kind HOP.out
   simp only at hkd
   exact spec_sw kd (by omega) n c l K kn kc kids O on oc lo regs t0 F w gs gr g0 SC se SM sf s rd cd pd MA mc es gR gC gP b oo go _ (fru (undef::undef::undef::undef::_::_::_::_::_::undef::undef::undef::undef::undef::undef::undef::_::_::_::_::_::_::_::_::_::_::_::_::_::_::_::_::_::_::_::_::_::_::_::_::_::_::_::_::_::undef::_::_::_::_::_::_::_::_::_::_::_::_::_::_::_::_::_::_::_::_::_::_::_::_::_::_::_::_::_::_::_::_::_::_::_::_::_::_::_::_::_::_::_::_::_::_::_::_::_::_::_::_::_::_::_::_::_::_::_::_::_::_::_::_::_::_::_::_::_::_::_::_::_::_::_::_::_::_::_::_::_::_::_::_::_::_::_::_::_::_::_::_::_::_::_::_::_::_::_::_::_::_::_::_::_::_::_::_::_::_::_::_::_::_::_::_::_::_::_::_::_::_::_::_::_::_::_::_::_::_::_::_::_::_::_::_::_::_::_::_::_::_::_::_::_::_::_::_::_::_::_::_::_::_::_::_::_::_::_::_::_::_::_::_::_::_::_::_::_::_::_::_::_::_::_::_::_::_::_::_::_::_::_::_::_::_::_::_::_::_::_::_::_::_::_::_::_::_::_::_::_::_::_::_::_::_::_::_::_::_::_::_::_::_::_::_::_::_::_::_::_::_::_::_::_::_::_::_::_::_::_::_::_::_::_::_::_::_::_::_::_::_::_::_::_::_::[])) J9 KK9 _ a b2 c2 HCO HRO HTH HL HF HFK HI HES HLT HS HB HREG HTHS HRG HO HOP hn24 hml hpl hpc (by simp only [SRows,List.cons_append,List.nil_append];exact M) (@fun x3 x12 x15 x16 x17 x18 x19 x20 x21 x22 x23 x24 x25 x34 x35 x36 x37 x38 x39 x40 x41 x42 x43 x44 x45 x46 x47 x48 x49 x50 x51 x52 x53 x54 x55 x56 x57 x58 x59 x60 x61 x62 x63 x64 x65 x66 x67 x68 x69 x70 x71 x72 x73 x74 x75 x76 x77 x78 x79 x80 x81 x82 x83 x84 x85 x86 x87 x88 x89 x90 x91 x92 x93 x94 x95 x96 x97 x98 x99 x100 x101 x102 x103 x104 x105 x106 x107 x108 x109 x110 x111 x112 x113 x114 x115 x116 x117 x118 x119 x120 x121 x122 x123 x124 x125 x126 x127 x128 x129 x130 x131 x132 x133 x134 x135 x136 x137 x138 x139 x140 x141 x142 x143 x144 x145 x146 x147 x148 x149 x150 x151 x152 x153 x154 x155 x156 x157 x158 x159 x160 x161 x162 x163 x164 x165 x166 x167 x168 x169 x170 x171 x172 x173 x174 x175 x176 x177 x178 x179 x180 x181 x182 x183 x184 x185 x186 x187 x188 x189 x190 x191 x192 x193 x194 x195 x196 x197 x198 x199 x200 x201 x202 x203 x204 x205 x206 x207 x208 x209 x210 x211 x212 x213 x214 x215 x216 x217 x218 x219 x220 x221 x222 x223 x224 x225 x226 x227 x228 x229 x230 x231 x232 x233 x234 x235 x236 x237 x238 x239 x240 x241 x242 x243 x244 x245 x246 x247 x248 x249 x250 x251 x252 x253 x254 x255 x256 x257 x258 x259 x260 x261 x262 x263 x264 x265 x266 x267 x268 x269 x270 x271 x272 x273 x274 x275 x276 x277 x278 x279 x280 x281 x282 x283 x284 x285 x286 x287 x288 wx hx => hJ9 _ _ ⟨x3,x12,x15,x16,x17,x18,x19,x20,x21,x22,x23,x24,x25,x34,x35,x36,x37,x38,x39,x40,x41,x42,x43,x44,x45,x46,x47,x48,x49,x50,x51,x52,x53,x54,x55,x56,x57,x58,x59,x60,x61,x62,x63,x64,x65,x66,x67,x68,x69,x70,x71,x72,x73,x74,x75,x76,x77,x78,x79,x80,x81,x82,x83,x84,x85,x86,x87,x88,x89,x90,x91,x92,x93,x94,x95,x96,x97,x98,x99,x100,x101,x102,x103,x104,x105,x106,x107,x108,x109,x110,x111,x112,x113,x114,x115,x116,x117,x118,x119,x120,x121,x122,x123,x124,x125,x126,x127,x128,x129,x130,x131,x132,x133,x134,x135,x136,x137,x138,x139,x140,x141,x142,x143,x144,x145,x146,x147,x148,x149,x150,x151,x152,x153,x154,x155,x156,x157,x158,x159,x160,x161,x162,x163,x164,x165,x166,x167,x168,x169,x170,x171,x172,x173,x174,x175,x176,x177,x178,x179,x180,x181,x182,x183,x184,x185,x186,x187,x188,x189,x190,x191,x192,x193,x194,x195,x196,x197,x198,x199,x200,x201,x202,x203,x204,x205,x206,x207,x208,x209,x210,x211,x212,x213,x214,x215,x216,x217,x218,x219,x220,x221,x222,x223,x224,x225,x226,x227,x228,x229,x230,x231,x232,x233,x234,x235,x236,x237,x238,x239,x240,x241,x242,x243,x244,x245,x246,x247,x248,x249,x250,x251,x252,x253,x254,x255,x256,x257,x258,x259,x260,x261,x262,x263,x264,x265,x266,x267,x268,x269,x270,x271,x272,x273,x274,x275,x276,x277,x278,x279,x280,x281,x282,x283,x284,x285,x286,x287,x288,hx,rfl⟩) hM9 (fun _ _ h => h) (fun _ _ dd _ _ h => by cases dd <;> exact h)

end Go.Proofs.YtoegjiigaoanbaaGreat
namespace Go.Proofs.YtoegjiigaoanbaaGreat
open Go.RowKit Go.Deep
set_option linter.unnecessarySimpa false
set_option maxHeartbeats 400000000
open Go.Lib (hid)
set_option linter.unusedSimpArgs false
set_option linter.unusedVariables false
set_option maxRecDepth 8000 in
theorem touch_m (kd a b2 c2 : Int) (gR rd : Nat) (regs : List Int) (gC cd gP pd : Nat) (th : Things) (b w : World) (gs : Nat) (X : Res) (fr : List Res) (hk : kd = 5 ∨ kd = 6 ∨ (12 ≤ kd ∧ kd ≤ 16)) (hop : opOk ⟨kd,a,b2,c2⟩) (hrg : regsOk regs = true) (hth : valsOk th.cells_ = true ∧ mapOk th.map_ = true ∧ (0 ≤ th.count_ ∧ th.count_ ≤ 65535))
  (M1 : Mine b w (.row 3 1 (some ⟨gR,0,none⟩) 4 rd (ints regs)::.row 3 1 (some ⟨gC,0,none⟩) 8 cd (ints th.cells_)::.row 3 1 (some ⟨gP,0,none⟩) 8 pd (ints th.map_)::X::.box gs 42 #[.slice (some ⟨gC,0,none⟩) 8 cd,.slice (some ⟨gP,0,none⟩) 8 pd,.int .i64 th.count_]::fr)) :
  Calls Tryz.prog 209 #[.agg #[.int .i64 kd,.int .i64 a,.int .i64 b2,.int .i64 c2],.slice (some ⟨gR,0,none⟩) 4 rd,.pointer (some ⟨gs,0,none⟩)] w fun e w' => e = .returned (.tuple #[]) ∧ ∃ (rg : List Int) (t2 : Things),(∀ (l : List GOp) (F : FF) (pc : Nat) (ms : List WM),stp l F ⟨kd,a,b2,c2⟩ ⟨pc,regs,th,ms⟩ = some ⟨pc + 1,rg,t2,ms⟩) ∧
   Mine b w' (.row 3 1 (some ⟨gR,0,none⟩) 4 rd (ints rg)::.row 3 1 (some ⟨gC,0,none⟩) 8 cd (ints t2.cells_)::.row 3 1 (some ⟨gP,0,none⟩) 8 pd (ints t2.map_)::X::.box gs 42 #[.slice (some ⟨gC,0,none⟩) 8 cd,.slice (some ⟨gP,0,none⟩) 8 pd,.int .i64 t2.count_]::fr):=by
 have M:=hid M1
 have HOP:=hid hop
 have HREG:=hid hrg
 have HTHS:=hid hth
 clear M1 hop hrg hth
 by_cases e5 : kd = 5
 ·subst e5
  clear hk
  obtain ⟨⟨ha0,ha1⟩,⟨hb0,hb1⟩,hc0⟩:=ok5 HOP.out rfl
  simp only at ha0 ha1 hb0 hb1 hc0
  obtain ⟨ka,rfl⟩ : ∃ u : Nat,a = (u : Int):=⟨a.toNat,by omega⟩
  have hka : ka < 4:=by omega
  have hka1 : (ka : Int) < 4:=by omega
  obtain ⟨kb,rfl⟩ : ∃ u : Nat,b2 = (u : Int):=⟨b2.toNat,by omega⟩
  have hkb : kb < 8:=by omega
  have hkb1 : (kb : Int) < 8:=by omega
  have hbx:=vals_gi HTHS.out.1 (x:=(kb : Int)) ⟨by omega,by omega⟩
  have hcx:=ints_gi (l:=th.cells_) (k:=kb) (by rw [valsOk_len HTHS.out.1];exact hkb)
  obtain ⟨x,hex⟩ : ∃ x,gi th.cells_ (kb : Int) = x:=⟨_,rfl⟩
  rw [hex] at hbx hcx
  obtain ⟨hbx0,hbx1⟩:=hbx
  have HX:=hid hcx
  have Ex:=hid hex
  clear hcx hex
  clear ha0 ha1 hb0 hb1 hc0
  have HST : Hid (∀ (l : List GOp) (F : FF) (pc : Nat) (ms : List WM),stp l F ⟨5,(ka : Int),(kb : Int),c2⟩ ⟨pc,regs,th,ms⟩ = some ⟨pc + 1,(regs.set ka x),th,ms⟩):=by
   intro l F pc ms
   rw [stp5 (by first|rfl|(simp only;omega))]
   simp only [Int.toNat_natCast,Ex.out]
  go_enter Tryz.func209,Tryz.ntmps209
  go_wp2_with (((with_reducible refine zN ?_);first|(refine Mine.wp_box M.out rfl 237 _ rfl _ rfl ?_;intro ga w' M';(try simp only [zr_,zm_] at M');replace M:=hid M';clear M';(try simp only [zr_,zm_]))|(refine zG M.out 0 ?_;(try simp only [zr_,zm_]))))
  refine Mine.region_tail M.out 12 (by kernel_rfl) (by kernel_rfl) ?_
  simp only [List.take_succ_cons,List.take_zero,List.drop_succ_cons,List.drop_zero]
  repeat (first|go_big_quiet_skip|(go_big_quiet_want;first|((first|refine zQ 0 ?_|refine zQ 5 ?_|refine Mine.oq_getr _ _ rfl 2 _ rfl rfl _ (by exact HX.out) _ (by first|exact Tryz.underlying3) (by rfl) ?_);(try simp only [zr_,zm_]);go_big_quiet_on)|(unfold Oper.quiet;apply Exists.intro;refine ⟨fun wq hq => ?_,?_⟩;(clear hq;go_simp;first|done|rfl|exact ⟨rfl,rfl⟩);(try simp only [zs_,zl_]);go_big_quiet_on)))
  refine wpQuiet_nil ?_
  intro w' M'
  replace M:=hid M'
  clear M'
  go_wp2_with (((with_reducible refine zN ?_);first|(refine Mine.wp_put M.out rfl _ _ _ rfl rfl 1 _ rfl rfl _ (by (conv => lhs;whnf) <;> rfl) (by omega) (by rfl) (by kernel_rfl) ?_;intro w' M';(try simp only [zr_,zm_] at M');replace M:=hid M';clear M')))
  first|refine bodyPost_ret (v:=.tuple #[]) (by simp [results,Tryz.results209,go_sem]) rfl ?_|refine bodyPost_end (v:=.tuple #[]) (by simp [results,Tryz.results209,go_sem]) rfl ?_
  exact ⟨rfl,(regs.set ka x),th,HST.out,by have M9:=M.out.tail;exact M9⟩
 by_cases e6 : kd = 6
 ·subst e6
  clear hk
  obtain ⟨⟨ha0,ha1⟩,⟨hb0,hb1⟩,hc0⟩:=ok6 HOP.out rfl
  simp only at ha0 ha1 hb0 hb1 hc0
  obtain ⟨ka,rfl⟩ : ∃ u : Nat,a = (u : Int):=⟨a.toNat,by omega⟩
  have hka : ka < 8:=by omega
  have hka1 : (ka : Int) < 8:=by omega
  obtain ⟨kb,rfl⟩ : ∃ u : Nat,b2 = (u : Int):=⟨b2.toNat,by omega⟩
  have hkb : kb < 4:=by omega
  have hkb1 : (kb : Int) < 4:=by omega
  have hbx:=regs_gi HREG.out (x:=(kb : Int)) ⟨by omega,by omega⟩
  have hcx:=ints_gi (l:=regs) (k:=kb) (by rw [regsOk_len HREG.out];exact hkb)
  obtain ⟨x,hex⟩ : ∃ x,gi regs (kb : Int) = x:=⟨_,rfl⟩
  rw [hex] at hbx hcx
  obtain ⟨hbx0,hbx1⟩:=hbx
  have HX:=hid hcx
  have Ex:=hid hex
  clear hcx hex
  clear ha0 ha1 hb0 hb1 hc0
  have HST : Hid (∀ (l : List GOp) (F : FF) (pc : Nat) (ms : List WM),stp l F ⟨6,(ka : Int),(kb : Int),c2⟩ ⟨pc,regs,th,ms⟩ = some ⟨pc + 1,regs,⟨th.cells_.set ka x,th.map_,th.count_⟩,ms⟩):=by
   intro l F pc ms
   rw [stp6 (by first|rfl|(simp only;omega))]
   simp only [Int.toNat_natCast,Ex.out]
  go_enter Tryz.func209,Tryz.ntmps209
  go_wp2_with (((with_reducible refine zN ?_);first|(refine Mine.wp_box M.out rfl 237 _ rfl _ rfl ?_;intro ga w' M';(try simp only [zr_,zm_] at M');replace M:=hid M';clear M';(try simp only [zr_,zm_]))|(refine zG M.out 0 ?_;(try simp only [zr_,zm_]))))
  refine Mine.region_tail M.out 12 (by kernel_rfl) (by kernel_rfl) ?_
  simp only [List.take_succ_cons,List.take_zero,List.drop_succ_cons,List.drop_zero]
  repeat (first|go_big_quiet_skip|(go_big_quiet_want;first|((first|refine zQ 0 ?_|refine zQ 5 ?_|refine Mine.oq_getr _ _ rfl 1 _ rfl rfl _ (by exact HX.out) _ (by first|exact Tryz.underlying3) (by rfl) ?_);(try simp only [zr_,zm_]);go_big_quiet_on)|(unfold Oper.quiet;apply Exists.intro;refine ⟨fun wq hq => ?_,?_⟩;(clear hq;go_simp;first|done|rfl|exact ⟨rfl,rfl⟩);(try simp only [zs_,zl_]);go_big_quiet_on)))
  refine wpQuiet_nil ?_
  intro w' M'
  replace M:=hid M'
  clear M'
  go_wp2_with (((with_reducible refine zN ?_);first|(refine Mine.wp_put M.out rfl _ _ _ rfl rfl 2 _ rfl rfl _ (by (conv => lhs;whnf) <;> rfl) (by omega) (by rfl) (by kernel_rfl) ?_;intro w' M';(try simp only [zr_,zm_] at M');replace M:=hid M';clear M')))
  first|refine bodyPost_ret (v:=.tuple #[]) (by simp [results,Tryz.results209,go_sem]) rfl ?_|refine bodyPost_end (v:=.tuple #[]) (by simp [results,Tryz.results209,go_sem]) rfl ?_
  exact ⟨rfl,regs,⟨th.cells_.set ka x,th.map_,th.count_⟩,HST.out,by have M9:=M.out.tail;exact M9⟩
 by_cases e12 : kd = 12
 ·subst e12
  clear hk
  obtain ⟨⟨ha0,ha1⟩,⟨hb0,hb1⟩,⟨hc0,hc1⟩⟩:=ok12 HOP.out rfl
  simp only at ha0 ha1 hb0 hb1 hc0 hc1
  obtain ⟨ka,rfl⟩ : ∃ u : Nat,a = (u : Int):=⟨a.toNat,by omega⟩
  have hka : ka < 8:=by omega
  have hka1 : (ka : Int) < 8:=by omega
  obtain ⟨kb,rfl⟩ : ∃ u : Nat,b2 = (u : Int):=⟨b2.toNat,by omega⟩
  have hkb : kb < 4:=by omega
  have hkb1 : (kb : Int) < 4:=by omega
  obtain ⟨kc,rfl⟩ : ∃ u : Nat,c2 = (u : Int):=⟨c2.toNat,by omega⟩
  have hkc : kc < 4:=by omega
  have hkc1 : (kc : Int) < 4:=by omega
  have hby:=map_gi HTHS.out.2.1 (x:=(ka : Int)) ⟨by omega,by omega⟩
  have hcy:=ints_gi (l:=th.map_) (k:=ka) (by rw [(dec_true HTHS.out.2.1).1];exact hka)
  obtain ⟨y,hey⟩ : ∃ x,gi th.map_ (ka : Int) = x:=⟨_,rfl⟩
  rw [hey] at hby hcy
  obtain ⟨hby0,hby1⟩:=hby
  have HY:=hid hcy
  have Ey:=hid hey
  clear hcy hey
  have hbx:=regs_gi HREG.out (x:=(kb : Int)) ⟨by omega,by omega⟩
  have hcx:=ints_gi (l:=regs) (k:=kb) (by rw [regsOk_len HREG.out];exact hkb)
  obtain ⟨x,hex⟩ : ∃ x,gi regs (kb : Int) = x:=⟨_,rfl⟩
  rw [hex] at hbx hcx
  obtain ⟨hbx0,hbx1⟩:=hbx
  have HX:=hid hcx
  have Ex:=hid hex
  clear hcx hex
  clear ha0 ha1 hb0 hb1 hc0 hc1
  have HST : Hid (∀ (l : List GOp) (F : FF) (pc : Nat) (ms : List WM),stp l F ⟨12,(ka : Int),(kb : Int),(kc : Int)⟩ ⟨pc,regs,th,ms⟩ = some ⟨pc + 1,(regs.set kc (y % 65536)),⟨th.cells_,th.map_.set ka (x + 1),th.count_⟩,ms⟩):=by
   intro l F pc ms
   rw [stp12 (by first|rfl|(simp only;omega))]
   simp only [Int.toNat_natCast,Ex.out,Ey.out]
  have HV1 : Hid (IntKind.i64.wrap (x + 1) = x + 1):=Go.IntWalk.i64_in _ (by omega)
  go_enter Tryz.func209,Tryz.ntmps209
  go_wp2_with (((with_reducible refine zN ?_);first|(refine Mine.wp_box M.out rfl 237 _ rfl _ rfl ?_;intro ga w' M';(try simp only [zr_,zm_] at M');replace M:=hid M';clear M';(try simp only [zr_,zm_]))|(refine zG M.out 0 ?_;(try simp only [zr_,zm_]))))
  refine zRQ M.out ?_
  repeat (first|go_big_quiet_skip|(go_big_quiet_want;first|((first|refine zQ 0 ?_|refine zQ 5 ?_|refine Mine.oq_getr _ _ rfl 3 _ rfl rfl _ (by exact HY.out) _ (by first|exact Tryz.underlying3) (by rfl) ?_);(try simp only [zr_,zm_]);go_big_quiet_on)|(unfold Oper.quiet;apply Exists.intro;refine ⟨fun wq hq => ?_,?_⟩;(clear hq;go_simp;first|done|rfl|exact ⟨rfl,rfl⟩);(try simp only [zs_,zl_]);go_big_quiet_on)))
  refine wpQuiet_nil ?_
  intro w' M'
  replace M:=hid M'
  clear M'
  go_wp2_with fail
  refine Mine.region_tail M.out 13 (by kernel_rfl) (by kernel_rfl) ?_
  simp only [List.take_succ_cons,List.take_zero,List.drop_succ_cons,List.drop_zero]
  repeat (first|go_big_quiet_skip|(go_big_quiet_want;first|((first|refine zQ 0 ?_|refine zQ 5 ?_|refine Mine.oq_getr _ _ rfl 1 _ rfl rfl _ (by exact HX.out) _ (by first|exact Tryz.underlying3) (by rfl) ?_);(try simp only [zr_,zm_]);go_big_quiet_on)|(unfold Oper.quiet;apply Exists.intro;refine ⟨fun wq hq => ?_,?_⟩;(clear hq;go_simp;first|done|rfl|exact ⟨rfl,rfl⟩);(try simp only [zs_,zl_]);go_big_quiet_on)))
  refine wpQuiet_nil ?_
  intro w' M'
  replace M:=hid M'
  clear M'
  go_wp2_with (((with_reducible refine zN ?_);first|((first|refine Mine.wp_put M.out rfl _ _ _ rfl rfl 3 _ rfl rfl _ (by (conv => lhs;whnf) <;> rfl) (by omega) (by rfl) (by kernel_rfl) ?_|refine Mine.wp_put M.out rfl _ _ _ rfl rfl 1 _ rfl rfl _ (by (conv => lhs;whnf) <;> rfl) (by omega) (by rfl) (by kernel_rfl) ?_);intro w' M';(try simp only [zr_,zm_] at M');replace M:=hid M';clear M')|(refine zG M.out 0 ?_;(try simp only [zr_,zm_]))))
  first|refine bodyPost_ret (v:=.tuple #[]) (by simp [results,Tryz.results209,go_sem]) rfl ?_|refine bodyPost_end (v:=.tuple #[]) (by simp [results,Tryz.results209,go_sem]) rfl ?_
  exact ⟨rfl,(regs.set kc (y % 65536)),⟨th.cells_,th.map_.set ka (x + 1),th.count_⟩,HST.out,by have M9:=M.out.tail;rw [HV1.out] at M9;exact M9⟩
 by_cases e13 : kd = 13
 ·subst e13
  clear hk
  obtain ⟨⟨ha0,ha1⟩,⟨hb0,hb1⟩,hc0⟩:=ok13 HOP.out rfl
  simp only at ha0 ha1 hb0 hb1 hc0
  obtain ⟨ka,rfl⟩ : ∃ u : Nat,a = (u : Int):=⟨a.toNat,by omega⟩
  have hka : ka < 4:=by omega
  have hka1 : (ka : Int) < 4:=by omega
  obtain ⟨kb,rfl⟩ : ∃ u : Nat,b2 = (u : Int):=⟨b2.toNat,by omega⟩
  have hkb : kb < 8:=by omega
  have hkb1 : (kb : Int) < 8:=by omega
  have hby:=map_gi HTHS.out.2.1 (x:=(kb : Int)) ⟨by omega,by omega⟩
  have hcy:=ints_gi (l:=th.map_) (k:=kb) (by rw [(dec_true HTHS.out.2.1).1];exact hkb)
  obtain ⟨y,hey⟩ : ∃ x,gi th.map_ (kb : Int) = x:=⟨_,rfl⟩
  rw [hey] at hby hcy
  obtain ⟨hby0,hby1⟩:=hby
  have HY:=hid hcy
  have Ey:=hid hey
  clear hcy hey
  clear ha0 ha1 hb0 hb1 hc0
  have HST : Hid (∀ (l : List GOp) (F : FF) (pc : Nat) (ms : List WM),stp l F ⟨13,(ka : Int),(kb : Int),c2⟩ ⟨pc,regs,th,ms⟩ = some ⟨pc + 1,(regs.set ka (y % 65536)),th,ms⟩):=by
   intro l F pc ms
   rw [stp13 (by first|rfl|(simp only;omega))]
   simp only [Int.toNat_natCast,Ey.out]
  have HV2 : Hid (y.tmod 65536 = y % 65536):=Int.tmod_eq_emod_of_nonneg (by omega)
  go_enter Tryz.func209,Tryz.ntmps209
  go_wp2_with (((with_reducible refine zN ?_);first|(refine Mine.wp_box M.out rfl 237 _ rfl _ rfl ?_;intro ga w' M';(try simp only [zr_,zm_] at M');replace M:=hid M';clear M';(try simp only [zr_,zm_]))|(refine zG M.out 0 ?_;(try simp only [zr_,zm_]))))
  refine Mine.region_tail M.out 13 (by kernel_rfl) (by kernel_rfl) ?_
  simp only [List.take_succ_cons,List.take_zero,List.drop_succ_cons,List.drop_zero]
  repeat (first|go_big_quiet_skip|(go_big_quiet_want;first|((first|refine zQ 0 ?_|refine zQ 5 ?_|refine Mine.oq_getr _ _ rfl 3 _ rfl rfl _ (by exact HY.out) _ (by first|exact Tryz.underlying3) (by rfl) ?_);(try simp only [zr_,zm_]);go_big_quiet_on)|(unfold Oper.quiet;apply Exists.intro;refine ⟨fun wq hq => ?_,?_⟩;(clear hq;go_simp;first|done|rfl|exact ⟨rfl,rfl⟩);(try simp only [zs_,zl_]);go_big_quiet_on)))
  refine wpQuiet_nil ?_
  intro w' M'
  replace M:=hid M'
  clear M'
  go_wp2_with (((with_reducible refine zN ?_);first|(refine Mine.wp_put M.out rfl _ _ _ rfl rfl 1 _ rfl rfl _ (by (conv => lhs;whnf) <;> rfl) (by omega) (by rfl) (by kernel_rfl) ?_;intro w' M';(try simp only [zr_,zm_] at M');replace M:=hid M';clear M')))
  first|refine bodyPost_ret (v:=.tuple #[]) (by simp [results,Tryz.results209,go_sem]) rfl ?_|refine bodyPost_end (v:=.tuple #[]) (by simp [results,Tryz.results209,go_sem]) rfl ?_
  exact ⟨rfl,(regs.set ka (y % 65536)),th,HST.out,by have M9:=M.out.tail;rw [HV2.out] at M9;exact M9⟩
 by_cases e14 : kd = 14
 ·subst e14
  clear hk
  obtain ⟨⟨ha0,ha1⟩,⟨hb0,hb1⟩,hc0⟩:=ok14 HOP.out rfl
  simp only at ha0 ha1 hb0 hb1 hc0
  obtain ⟨ka,rfl⟩ : ∃ u : Nat,a = (u : Int):=⟨a.toNat,by omega⟩
  have hka : ka < 8:=by omega
  have hka1 : (ka : Int) < 8:=by omega
  obtain ⟨kb,rfl⟩ : ∃ u : Nat,b2 = (u : Int):=⟨b2.toNat,by omega⟩
  have hkb : kb < 4:=by omega
  have hkb1 : (kb : Int) < 4:=by omega
  have hby:=map_gi HTHS.out.2.1 (x:=(ka : Int)) ⟨by omega,by omega⟩
  have hcy:=ints_gi (l:=th.map_) (k:=ka) (by rw [(dec_true HTHS.out.2.1).1];exact hka)
  obtain ⟨y,hey⟩ : ∃ x,gi th.map_ (ka : Int) = x:=⟨_,rfl⟩
  rw [hey] at hby hcy
  obtain ⟨hby0,hby1⟩:=hby
  have HY:=hid hcy
  have Ey:=hid hey
  clear hcy hey
  clear ha0 ha1 hb0 hb1 hc0
  have HST : Hid (∀ (l : List GOp) (F : FF) (pc : Nat) (ms : List WM),stp l F ⟨14,(ka : Int),(kb : Int),c2⟩ ⟨pc,regs,th,ms⟩ = some ⟨pc + 1,(regs.set kb (y % 65536)),⟨th.cells_,th.map_.set ka 0,th.count_⟩,ms⟩):=by
   intro l F pc ms
   rw [stp14 (by first|rfl|(simp only;omega))]
   simp only [Int.toNat_natCast,Ey.out]
  have HV2 : Hid (y.tmod 65536 = y % 65536):=Int.tmod_eq_emod_of_nonneg (by omega)
  go_enter Tryz.func209,Tryz.ntmps209
  go_wp2_with (((with_reducible refine zN ?_);first|(refine Mine.wp_box M.out rfl 237 _ rfl _ rfl ?_;intro ga w' M';(try simp only [zr_,zm_] at M');replace M:=hid M';clear M';(try simp only [zr_,zm_]))|(refine zG M.out 0 ?_;(try simp only [zr_,zm_]))))
  refine Mine.region_tail M.out 13 (by kernel_rfl) (by kernel_rfl) ?_
  simp only [List.take_succ_cons,List.take_zero,List.drop_succ_cons,List.drop_zero]
  repeat (first|go_big_quiet_skip|(go_big_quiet_want;first|((first|refine zQ 0 ?_|refine zQ 5 ?_|refine Mine.oq_getr _ _ rfl 3 _ rfl rfl _ (by exact HY.out) _ (by first|exact Tryz.underlying3) (by rfl) ?_);(try simp only [zr_,zm_]);go_big_quiet_on)|(unfold Oper.quiet;apply Exists.intro;refine ⟨fun wq hq => ?_,?_⟩;(clear hq;go_simp;first|done|rfl|exact ⟨rfl,rfl⟩);(try simp only [zs_,zl_]);go_big_quiet_on)))
  refine wpQuiet_nil ?_
  intro w' M'
  replace M:=hid M'
  clear M'
  go_wp2_with (((with_reducible refine zN ?_);first|(refine Mine.wp_put M.out rfl _ _ _ rfl rfl 1 _ rfl rfl _ (by (conv => lhs;whnf) <;> rfl) (by omega) (by rfl) (by kernel_rfl) ?_;intro w' M';(try simp only [zr_,zm_] at M');replace M:=hid M';clear M')))
  refine Mine.region_tail M.out 7 (by kernel_rfl) (by kernel_rfl) ?_
  simp only [List.take_succ_cons,List.take_zero,List.drop_succ_cons,List.drop_zero]
  repeat (first|go_big_quiet_skip|(go_big_quiet_want;first|((first|refine zQ 0 ?_|refine zQ 5 ?_);(try simp only [zr_,zm_]);go_big_quiet_on)|(unfold Oper.quiet;apply Exists.intro;refine ⟨fun wq hq => ?_,?_⟩;(clear hq;go_simp;first|done|rfl|exact ⟨rfl,rfl⟩);(try simp only [zs_,zl_]);go_big_quiet_on)))
  refine wpQuiet_nil ?_
  intro w' M'
  replace M:=hid M'
  clear M'
  go_wp2_with (((with_reducible refine zN ?_);first|(refine Mine.wp_put M.out rfl _ _ _ rfl rfl 3 _ rfl rfl _ (by (conv => lhs;whnf) <;> rfl) (by omega) (by rfl) (by kernel_rfl) ?_;intro w' M';(try simp only [zr_,zm_] at M');replace M:=hid M';clear M')))
  first|refine bodyPost_ret (v:=.tuple #[]) (by simp [results,Tryz.results209,go_sem]) rfl ?_|refine bodyPost_end (v:=.tuple #[]) (by simp [results,Tryz.results209,go_sem]) rfl ?_
  exact ⟨rfl,(regs.set kb (y % 65536)),⟨th.cells_,th.map_.set ka 0,th.count_⟩,HST.out,by have M9:=M.out.tail;rw [HV2.out] at M9;exact M9⟩
 by_cases e15 : kd = 15
 ·subst e15
  clear hk
  obtain ⟨⟨ha0,ha1⟩,hb0,hc0⟩:=ok15 HOP.out rfl
  simp only at ha0 ha1 hb0 hc0
  obtain ⟨ka,rfl⟩ : ∃ u : Nat,a = (u : Int):=⟨a.toNat,by omega⟩
  have hka : ka < 4:=by omega
  have hka1 : (ka : Int) < 4:=by omega
  have hbx:=regs_gi HREG.out (x:=(ka : Int)) ⟨by omega,by omega⟩
  have hcx:=ints_gi (l:=regs) (k:=ka) (by rw [regsOk_len HREG.out];exact hka)
  obtain ⟨x,hex⟩ : ∃ x,gi regs (ka : Int) = x:=⟨_,rfl⟩
  rw [hex] at hbx hcx
  obtain ⟨hbx0,hbx1⟩:=hbx
  have HX:=hid hcx
  have Ex:=hid hex
  clear hcx hex
  clear ha0 ha1 hb0 hc0
  have HST : Hid (∀ (l : List GOp) (F : FF) (pc : Nat) (ms : List WM),stp l F ⟨15,(ka : Int),b2,c2⟩ ⟨pc,regs,th,ms⟩ = some ⟨pc + 1,regs,⟨th.cells_,th.map_,(th.count_ + x) % 65536⟩,ms⟩):=by
   intro l F pc ms
   rw [stp15 (by first|rfl|(simp only;omega))]
   simp only [Int.toNat_natCast,Ex.out]
  have hcn:=HTHS.out.2.2
  have HV2 : Hid ((IntKind.i64.wrap (th.count_ + x)).tmod 65536 = (th.count_ + x) % 65536):=by show _ = _;rw [Go.IntWalk.i64_in _ (by omega),Int.tmod_eq_emod_of_nonneg (by omega)]
  clear hcn
  go_enter Tryz.func209,Tryz.ntmps209
  go_wp2_with (((with_reducible refine zN ?_);first|(refine Mine.wp_box M.out rfl 237 _ rfl _ rfl ?_;intro ga w' M';(try simp only [zr_,zm_] at M');replace M:=hid M';clear M';(try simp only [zr_,zm_]))|(refine zG M.out 0 ?_;(try simp only [zr_,zm_]))))
  refine Mine.region_tail M.out 14 (by kernel_rfl) (by kernel_rfl) ?_
  simp only [List.take_succ_cons,List.take_zero,List.drop_succ_cons,List.drop_zero]
  repeat (first|go_big_quiet_skip|(go_big_quiet_want;first|((first|refine zQ 0 ?_|refine zQ 5 ?_|refine Mine.oq_getr _ _ rfl 1 _ rfl rfl _ (by exact HX.out) _ (by first|exact Tryz.underlying3) (by rfl) ?_);(try simp only [zr_,zm_]);go_big_quiet_on)|(unfold Oper.quiet;apply Exists.intro;refine ⟨fun wq hq => ?_,?_⟩;(clear hq;go_simp;first|done|rfl|exact ⟨rfl,rfl⟩);(try simp only [zs_,zl_]);go_big_quiet_on)))
  refine wpQuiet_nil ?_
  intro w' M'
  replace M:=hid M'
  clear M'
  go_wp2_with (((with_reducible refine zN ?_);first|(refine zS M.out 5 ?_;intro w' M';(try simp only [zr_,zm_] at M');replace M:=hid M';clear M')))
  first|refine bodyPost_ret (v:=.tuple #[]) (by simp [results,Tryz.results209,go_sem]) rfl ?_|refine bodyPost_end (v:=.tuple #[]) (by simp [results,Tryz.results209,go_sem]) rfl ?_
  exact ⟨rfl,regs,⟨th.cells_,th.map_,(th.count_ + x) % 65536⟩,HST.out,by have M9:=M.out.tail;rw [HV2.out] at M9;exact M9⟩
 obtain rfl : kd = 16:=by omega
 clear hk
 obtain ⟨⟨ha0,ha1⟩,hb0,hc0⟩:=ok16 HOP.out rfl
 simp only at ha0 ha1 hb0 hc0
 obtain ⟨ka,rfl⟩ : ∃ u : Nat,a = (u : Int):=⟨a.toNat,by omega⟩
 have hka : ka < 4:=by omega
 have hka1 : (ka : Int) < 4:=by omega
 clear ha0 ha1 hb0 hc0
 have HST : Hid (∀ (l : List GOp) (F : FF) (pc : Nat) (ms : List WM),stp l F ⟨16,(ka : Int),b2,c2⟩ ⟨pc,regs,th,ms⟩ = some ⟨pc + 1,(regs.set ka th.count_),th,ms⟩):=by
  intro l F pc ms
  rw [stp16 (by first|rfl|(simp only;omega))]
  simp only [Int.toNat_natCast]
 go_enter Tryz.func209,Tryz.ntmps209
 go_wp2_with (((with_reducible refine zN ?_);first|(refine Mine.wp_box M.out rfl 237 _ rfl _ rfl ?_;intro ga w' M';(try simp only [zr_,zm_] at M');replace M:=hid M';clear M';(try simp only [zr_,zm_]))|(refine zG M.out 0 ?_;(try simp only [zr_,zm_]))))
 refine Mine.region_tail M.out 8 (by kernel_rfl) (by kernel_rfl) ?_
 simp only [List.take_succ_cons,List.take_zero,List.drop_succ_cons,List.drop_zero]
 repeat (first|go_big_quiet_skip|(go_big_quiet_want;first|((first|refine zQ 0 ?_|refine zQ 5 ?_);(try simp only [zr_,zm_]);go_big_quiet_on)|(unfold Oper.quiet;apply Exists.intro;refine ⟨fun wq hq => ?_,?_⟩;(clear hq;go_simp;first|done|rfl|exact ⟨rfl,rfl⟩);(try simp only [zs_,zl_]);go_big_quiet_on)))
 refine wpQuiet_nil ?_
 intro w' M'
 replace M:=hid M'
 clear M'
 go_wp2_with (((with_reducible refine zN ?_);first|(refine Mine.wp_put M.out rfl _ _ _ rfl rfl 1 _ rfl rfl _ (by (conv => lhs;whnf) <;> rfl) (by omega) (by rfl) (by kernel_rfl) ?_;intro w' M';(try simp only [zr_,zm_] at M');replace M:=hid M';clear M')))
 first|refine bodyPost_ret (v:=.tuple #[]) (by simp [results,Tryz.results209,go_sem]) rfl ?_|refine bodyPost_end (v:=.tuple #[]) (by simp [results,Tryz.results209,go_sem]) rfl ?_
 exact ⟨rfl,(regs.set ka th.count_),th,HST.out,by have M9:=M.out.tail;exact M9⟩

end Go.Proofs.YtoegjiigaoanbaaGreat
namespace Go.Proofs.YtoegjiigaoanbaaGreat
open Go.RowKit Go.Deep
set_option linter.unnecessarySimpa false
set_option maxHeartbeats 400000000
open Go.Lib (hid)
set_option linter.unusedSimpArgs false
set_option linter.unusedVariables false

theorem Sl.mid {w : World} {S : Nat → Prop} {b o n : Nat} {l : List GOp} (h : Sl w S 4 (some ⟨b,o,none⟩) n (l.flatMap GOp.cells)) {a m : Nat} (ham : a + m ≤ n) : Sl w S 4 (some ⟨b,o + a * 4,none⟩) m (((l.drop a).take m).flatMap GOp.cells):=by
 have hl : l.length = n:=h.flen GOp.cells_length (by omega)
 refine ⟨by rw [flat_length GOp.cells_length];simp;omega,fun hm => ?_⟩
 obtain ⟨b',o',e,hS,hb,hc⟩:=h.2 (by omega)
 injection e with e
 injection e with e1 e2
 subst e1 e2
 refine ⟨b,o + a * 4,rfl,hS,hb,fun j hj => ?_⟩
 have h1:=hc (a * 4 + j) (by omega)
 rw [show o + (a * 4 + j) = o + a * 4 + j by omega] at h1
 rw [h1]
 obtain ⟨x,hx⟩ : ∃ x,l[a + j / 4]? = some x:=⟨_,List.getElem?_eq_getElem (by omega)⟩
 have h2:=flat_get GOp.cells_length l (a + j / 4) (j % 4) x hx (by omega)
 have h3:=flat_get GOp.cells_length ((l.drop a).take m) (j / 4) (j % 4) x (by rw [List.getElem?_take,if_pos (by omega),List.getElem?_drop];exact hx) (by omega)
 rw [show (a + j / 4) * 4 + j % 4 = a * 4 + j by omega] at h2
 rw [show j / 4 * 4 + j % 4 = j by omega] at h3
 rw [h2,h3]
def bal (l : List GOp) : Prop:=(∀ k,k ≤ l.length → 0 ≤ dep l k) ∧ dep l l.length = 0
theorem dep_mid {l : List GOp} {a m : Nat} (h : a + m ≤ l.length) : ∀ k,k ≤ m → dep ((l.drop a).take m) k = dep l (a + k) - dep l a
 | 0,_ => by simp [dep]
 | k + 1,hk => by
  have e : opnAt ((l.drop a).take m) k = opnAt l (a + k):=by
   unfold opnAt
   rw [List.getElem?_take,if_pos (by omega),List.getElem?_drop]
  rw [dep,dep_mid h k (by omega),e,show a + (k + 1) = a + k + 1 by omega,dep]
  omega
theorem skip_bal {l : List GOp} {i B : Nat} {o : GOp} (hB : o.b_ = (B : Int)) : skipOk l i o ↔ (i + 1 + B ≤ l.length ∧ bal ((l.drop (i + 1)).take B)):=by
 unfold skipOk bal
 rw [hB,Int.toNat_natCast]
 constructor
 ·rintro ⟨a,b,c⟩
  have hlen : ((l.drop (i + 1)).take B).length = B:=by simp;omega
  refine ⟨by omega,fun k hk => ?_,?_⟩
  ·rw [dep_mid (by omega) k (by omega)];have:=b (i + 1 + k) (by omega) (by omega);omega
  ·rw [hlen,dep_mid (by omega) B (Nat.le_refl _),c];omega
 ·rintro ⟨a,b,c⟩
  have hlen : ((l.drop (i + 1)).take B).length = B:=by simp;omega
  refine ⟨by omega,fun k h1 h2 => ?_,?_⟩
  ·have:=b (k - (i + 1)) (by omega);rw [dep_mid (by omega) _ (by omega),show i + 1 + (k - (i + 1)) = k by omega] at this;omega
  ·rw [hlen,dep_mid (by omega) B (Nat.le_refl _)] at c;omega
def cTwo (l : List GOp) (i : Nat) (o : GOp) : Prop:=opOk o ∧ (o.kind_ = 7 → skipOk l i o) ∧ (o.kind_ = 11 → dep l i = 0 ∧ forkFree l i)
theorem code_two {l : List GOp} : (l.length ≤ 24 ∧ bal l ∧ AllTo (cTwo l) l l.length) ↔ (l.length ≤ 24 ∧ AllTo (cOne l) l l.length ∧ dep l l.length = 0):=by
 constructor
 ·rintro ⟨a,b,c⟩;exact ⟨a,fun i hi o ho => ⟨(c i hi o ho).1,(c i hi o ho).2.1,(c i hi o ho).2.2,b.1 (i + 1) hi⟩,b.2⟩
 ·rintro ⟨a,b,c⟩;exact ⟨a,⟨fun k hk => dep_nn (fun i hi o ho => b i (by omega) o ho) hk,c⟩,fun i hi o ho => ⟨(b i hi o ho).1,(b i hi o ho).2.1,(b i hi o ho).2.2.1⟩⟩
theorem codeOk_two {l : List GOp} : codeOk l = dec (l.length ≤ 24 ∧ bal l ∧ AllTo (cTwo l) l l.length):=by
 cases h : dec (l.length ≤ 24 ∧ bal l ∧ AllTo (cTwo l) l l.length)
 ·exact dec_no fun z => dec_false h (code_two.2 z)
 ·exact dec_yes (code_two.1 (dec_true h))
def BalTo (l : List GOp) (q : Nat) : Prop:=∀ k,k ≤ q → 0 ≤ dep l k
theorem BalTo.zero (l : List GOp) : BalTo l 0:=fun k hk => by rw [show k = 0 by omega];simp [dep]
theorem BalTo.next {l : List GOp} {q : Nat} (h : BalTo l q) (h2 : 0 ≤ dep l (q + 1)) : BalTo l (q + 1):=fun k hk => by
 by_cases e : k = q + 1
 ·subst e;exact h2
 ·exact h k (by omega)

theorem impl_isBalanced (A : Option Addr) (n c : Nat) (l : List GOp) (w : World) (S : Nat → Prop) (hs : Sl w S 4 A n (l.flatMap GOp.cells)) (hm : n ≤ 1000) :
  Calls Tryz.prog 198 #[.slice A n c] w fun e w' => e = .returned (.bool (dec (bal l))) ∧ Ext w w':=by
 have hl : l.length = n:=hs.flen GOp.cells_length (by omega)
 have HS:=hid hs
 have HL:=hid hl
 have M : Hid (Mine w w []):=Mine.refl w
 clear hs hl
 go_enter Tryz.func198,Tryz.ntmps198
 go_wp2
 go_loopw [3,8] (fun d i wr => ∃ q : Nat,q ≤ n ∧ i = .int .i64 (q : Int) ∧ d = .int .i64 (dep l q) ∧ Hid (BalTo l q) ∧ Hid (Mine w wr [])) (fun _ i _ => n - (intOf i).toNat)
 case atStart => exact ⟨0,Nat.zero_le _,rfl,rfl,BalTo.zero l,M⟩
 case round =>
  clear M
  obtain ⟨q,hq,rfl,rfl,HU,M⟩:=hrel
  by_cases hlt : q < n
  rotate_left
  ·have e : q = l.length:=by have:=HL.out;omega
   have HZ : Hid (dec (bal l) = (dep l q == 0)):=dec_eqv (by rw [beq_iff_eq];exact ⟨fun z => by rw [e];exact z.2,fun z => ⟨fun j hj => HU.out j (by rw [e];exact hj),by rw [← e];exact z⟩⟩)
   have hdl:=dep_le l q
   clear e
   generalize dep l q = d at hdl HZ ⊢
   go_wp2
   go_ret
   exact ⟨by rw [HZ.out];first|done|rfl,M.out.ext⟩
  have HLT : Hid (q < n):=hlt
  obtain ⟨b,oo,rfl⟩:=HS.out.addr (by omega)
  obtain ⟨o,ho,hr,hb,-,-⟩:=code_at HS.out hlt
  have HR:=hid hr
  have HB:=hid hb
  have HO:=hid ho
  have HDS:=hid (dep_succ ho)
  have hou:=opn_le o
  clear ho hr hb
  obtain ⟨k,a,b2,c2⟩:=o
  simp only [GOp.cells] at HR
  obtain ⟨u,hu⟩ : ∃ u,opn ⟨k,a,b2,c2⟩ = u:=⟨_,rfl⟩
  rw [hu] at HDS hou
  have HP:=hid hu
  clear hu
  have hdl:=dep_le l q
  generalize hd : dep l q = d at hdl HDS ⊢
  have HD:=hid hd
  clear hd
  by_cases hz : d + u < 0
  ·have HZ : Hid (dec (bal l) = false):=dec_no fun z => by have h1:=z.1 (q + 1) (by rw [HL.out];exact HLT.out);rw [HDS.out] at h1;omega
   go_wp2_with (first|(go_at_call 223;refine zC M (opens_any _ _ _ _ _) ?_;clear M;intro w' M;rw [HP.out])|((with_reducible refine zN ?_);first|((first|refine Mine.wp_arg M.out rfl 237 _ rfl _ _ rfl _ HR.out HB.out _ Tryz.underlying237 (by rfl) (by kernel_rfl) ?_|refine zGs M.out 237 0 4 ?_);(try simp only [zr_,zm_]))|(refine Mine.wp_alloc M.out rfl 237 rfl (.agg #[.int .i64 0,.int .i64 0,.int .i64 0,.int .i64 0]) (by kernel_rfl) ?_;intro go w' M';(try simp only [Value.cells,zr_,zm_] at M');replace M:=hid M';clear M';(try simp only [zr_,zm_]))|(refine zSs M.out 237 0 ?_;intro w' M';(try simp only [zr_,zm_] at M');replace M:=hid M';clear M')))
   go_ret
   exact ⟨by rw [HZ.out];first|done|rfl,M.out.ext⟩
  have hz2 : 0 ≤ d + u:=by omega
  clear hz
  have HN : Hid (BalTo l (q + 1)):=HU.out.next (by rw [HDS.out];exact hz2)
  go_wp2_with (first|(go_at_call 223;refine zC M (opens_any _ _ _ _ _) ?_;clear M;intro w' M;rw [HP.out])|((with_reducible refine zN ?_);first|((first|refine Mine.wp_arg M.out rfl 237 _ rfl _ _ rfl _ HR.out HB.out _ Tryz.underlying237 (by rfl) (by kernel_rfl) ?_|refine zGs M.out 237 0 4 ?_);(try simp only [zr_,zm_]))|(refine Mine.wp_alloc M.out rfl 237 rfl (.agg #[.int .i64 0,.int .i64 0,.int .i64 0,.int .i64 0]) (by kernel_rfl) ?_;intro go w' M';(try simp only [Value.cells,zr_,zm_] at M');replace M:=hid M';clear M';(try simp only [zr_,zm_]))|(refine zSs M.out 237 0 ?_;intro w' M';(try simp only [zr_,zm_] at M');replace M:=hid M';clear M')))
  go_roundw
  case rel => exact ⟨q + 1,HLT.out,by go_num,by rw [HDS.out],HN,hid M.out.tail⟩
  case measure => have:=HLT.out;simp [intOf];omega
theorem impl_DepthAt (A : Option Addr) (n c : Nat) (l : List GOp) (w : World) (S : Nat → Prop) (hs : Sl w S 4 A n (l.flatMap GOp.cells)) (hm : n ≤ 1000) (m : Nat) (hmn : m ≤ n) :
  Calls Tryz.prog 200 #[.slice A n c,.int .i64 (m : Int)] w fun e w' => e = .returned (.int .i64 (dep l m)) ∧ Ext w w':=by
 have hl : l.length = n:=hs.flen GOp.cells_length (by omega)
 have HS:=hid hs
 have HL:=hid hl
 have M : Hid (Mine w w []):=Mine.refl w
 clear hs hl
 go_enter Tryz.func200,Tryz.ntmps200
 go_wp2
 go_loopw [5,10] (fun d i wr => ∃ q : Nat,q ≤ n ∧ i = .int .i64 (q : Int) ∧ d = .int .i64 (dep l (min q m)) ∧ Hid (Mine w wr [])) (fun _ i _ => n - (intOf i).toNat)
 case atStart => exact ⟨0,Nat.zero_le _,rfl,by simp [dep],M⟩
 case round =>
  clear M
  obtain ⟨q,hq,rfl,rfl,M⟩:=hrel
  by_cases hlt : q < n
  rotate_left
  ·have HZ : Hid (dep l (min q m) = dep l m):=by show _ = _;rw [Nat.min_eq_right (by omega)]
   go_wp2
   go_ret
   exact ⟨by rw [HZ.out];first|done|rfl,M.out.ext⟩
  by_cases hqm : q < m
  rotate_left
  ·skip
   have HZ : Hid (dep l (min (q + 1) m) = dep l (min q m)):=by show _ = _;rw [Nat.min_eq_right (by omega),Nat.min_eq_right (by omega)]
   generalize dep l (min q m) = d at HZ ⊢
   have HLT : Hid (q < n):=hlt
   obtain ⟨b,oo,rfl⟩:=HS.out.addr (by omega)
   obtain ⟨o,ho,hr,hb,-,-⟩:=code_at HS.out hlt
   have HR:=hid hr
   have HB:=hid hb
   clear ho hr hb
   obtain ⟨k,a,b2,c2⟩:=o
   simp only [GOp.cells] at HR
   go_wp2_with (((with_reducible refine zN ?_);first|(refine Mine.wp_arg M.out rfl 237 _ rfl _ _ rfl _ HR.out HB.out _ Tryz.underlying237 (by rfl) (by kernel_rfl) ?_;(try simp only [zr_,zm_]))|(refine Mine.wp_alloc M.out rfl 237 rfl (.agg #[.int .i64 0,.int .i64 0,.int .i64 0,.int .i64 0]) (by kernel_rfl) ?_;intro go w' M';(try simp only [Value.cells,zr_,zm_] at M');replace M:=hid M';clear M';(try simp only [zr_,zm_]))|(refine zSs M.out 237 0 ?_;intro w' M';(try simp only [zr_,zm_] at M');replace M:=hid M';clear M')))
   go_roundw
   case rel => exact ⟨q + 1,HLT.out,by go_num,by rw [HZ.out],hid M.out.tail⟩
   case measure => have:=HLT.out;simp [intOf];omega
  rw [Nat.min_eq_left (by omega)]
  have HQM : Hid (q < m):=hqm
  have HLT : Hid (q < n):=hlt
  obtain ⟨b,oo,rfl⟩:=HS.out.addr (by omega)
  obtain ⟨o,ho,hr,hb,-,-⟩:=code_at HS.out hlt
  have HR:=hid hr
  have HB:=hid hb
  have HO:=hid ho
  have HDS:=hid (dep_succ ho)
  have hou:=opn_le o
  clear ho hr hb
  obtain ⟨k,a,b2,c2⟩:=o
  simp only [GOp.cells] at HR
  obtain ⟨u,hu⟩ : ∃ u,opn ⟨k,a,b2,c2⟩ = u:=⟨_,rfl⟩
  rw [hu] at HDS hou
  have HP:=hid hu
  clear hu
  have hdl:=dep_le l q
  generalize hd : dep l q = d at hdl HDS ⊢
  have HD:=hid hd
  clear hd
  go_wp2_with (first|(go_at_call 223;refine zC M (opens_any _ _ _ _ _) ?_;clear M;intro w' M;rw [HP.out])|((with_reducible refine zN ?_);first|((first|refine Mine.wp_arg M.out rfl 237 _ rfl _ _ rfl _ HR.out HB.out _ Tryz.underlying237 (by rfl) (by kernel_rfl) ?_|refine zGs M.out 237 0 4 ?_);(try simp only [zr_,zm_]))|(refine Mine.wp_alloc M.out rfl 237 rfl (.agg #[.int .i64 0,.int .i64 0,.int .i64 0,.int .i64 0]) (by kernel_rfl) ?_;intro go w' M';(try simp only [Value.cells,zr_,zm_] at M');replace M:=hid M';clear M';(try simp only [zr_,zm_]))|(refine zSs M.out 237 0 ?_;intro w' M';(try simp only [zr_,zm_] at M');replace M:=hid M';clear M')))
  go_roundw
  case rel => exact ⟨q + 1,HLT.out,by go_num,by rw [Nat.min_eq_left (show q + 1 ≤ m from HQM.out),HDS.out],hid M.out.tail⟩
  case measure => have:=HLT.out;simp [intOf];omega
theorem impl_CodeOk (A : Option Addr) (n c : Nat) (l : List GOp) (w : World) (S : Nat → Prop) (hs : Sl w S 4 A n (l.flatMap GOp.cells)) (hm : n ≤ 1048576) (hcn : n ≤ c) :
  Calls Tryz.prog 153 #[.slice A n c] w fun e w' => e = .returned (.bool (codeOk l)) ∧ Ext w w':=by
 have hl : l.length = n:=hs.flen GOp.cells_length (by omega)
 have HS:=hid hs
 have HL:=hid hl
 have M : Hid (Mine w w []):=Mine.refl w
 clear hs hl
 by_cases hn : n ≤ 24
 rotate_left
 ·have HZ : Hid (codeOk l = false):=by show _ = _;rw [codeOk_two];exact dec_no fun z => hn (by rw [← HL.out];exact z.1)
  have d24 : decide ((24 : Int) < (n : Int)) = true:=decide_eq_true (by omega)
  go_enter Tryz.func153,Tryz.ntmps153
  go_wp2
  go_ret
  exact ⟨by rw [HZ.out];first|done|rfl,M.out.ext⟩
 have d24 : decide ((24 : Int) < (n : Int)) = false:=decide_eq_false (by omega)
 cases hba : dec (bal l)
 ·have HZ : Hid (codeOk l = false):=by show _ = _;rw [codeOk_two];exact dec_no fun z => dec_false hba z.2.1
  go_enter Tryz.func153,Tryz.ntmps153
  go_wp2_with ((go_at_call 198;refine zC M (impl_isBalanced A n c l _ S (HS.out.ext M.out.ext) (by omega)) ?_;clear M;intro w' M;rw [hba]))
  go_ret
  exact ⟨by rw [HZ.out];first|done|rfl,M.out.ext⟩
 have HBA:=hid (dec_true hba)
 go_enter Tryz.func153,Tryz.ntmps153
 go_wp2_with ((go_at_call 198;refine zC M (impl_isBalanced A n c l _ S (HS.out.ext M.out.ext) (by omega)) ?_;clear M;intro w' M;rw [hba]))
 clear d24 hba
 go_loopw [3,16] (fun f i wr => ∃ (q : Nat) (fk : Int),q ≤ n ∧ i = .int .i64 (q : Int) ∧ f = .int .i64 fk ∧ Hid (AllTo (cTwo l) l q) ∧ Hid (FkN l q fk) ∧ Hid (Mine w wr [])) (fun _ i _ => n - (intOf i).toNat)
 case atStart => exact ⟨0,0,Nat.zero_le _,rfl,rfl,AllTo.zero _ _,.inl ⟨rfl,ff_zero l⟩,M⟩
 case round =>
  clear M
  obtain ⟨q,fk,hq,rfl,rfl,HU,HF,M⟩:=hrel
  by_cases hlt : q < n
  rotate_left
  ·have HZ : Hid (codeOk l = true):=by show _ = _;rw [codeOk_two];exact dec_yes ⟨by rw [HL.out];exact hn,HBA.out,by rw [HL.out,← (show q = n by omega)];exact HU.out⟩
   go_wp2
   go_ret
   exact ⟨by rw [HZ.out];first|done|rfl,M.out.ext⟩
  have HLT : Hid (q < n):=hlt
  obtain ⟨b,oo,rfl⟩:=HS.out.addr (by omega)
  obtain ⟨o,ho,hr,hb,-,-⟩:=code_at HS.out hlt
  have HR:=hid hr
  have HB:=hid hb
  have HO:=hid ho
  have HNO:=hid (fun (h : ¬ cTwo l q o) => (show codeOk l = false by rw [codeOk_two];exact dec_no fun z => h (z.2.2 q (by rw [HL.out];exact hlt) o ho)))
  clear hr hb ho
  obtain ⟨k,a,b2,c2⟩:=o
  simp only [GOp.cells] at HR
  cases hop : dec (opOk ⟨k,a,b2,c2⟩)
  ·skip
   have HZ:=hid (HNO.out (fun z => dec_false hop z.1))
   go_wp2_with (first|(go_at_call 199;refine zC M (impl_OpOk _ _ _ _ _) ?_;clear M;intro w' M;rw [hop])|((with_reducible refine zN ?_);first|((first|refine Mine.wp_arg M.out rfl 237 _ rfl _ _ rfl _ HR.out HB.out _ Tryz.underlying237 (by rfl) (by kernel_rfl) ?_|refine zGs M.out 237 0 4 ?_);(try simp only [zr_,zm_]))|(refine Mine.wp_alloc M.out rfl 237 rfl (.agg #[.int .i64 0,.int .i64 0,.int .i64 0,.int .i64 0]) (by kernel_rfl) ?_;intro go w' M';(try simp only [Value.cells,zr_,zm_] at M');replace M:=hid M';clear M';(try simp only [zr_,zm_]))|(refine zSs M.out 237 0 ?_;intro w' M';(try simp only [zr_,zm_] at M');replace M:=hid M';clear M')))
   go_ret
   exact ⟨by rw [HZ.out];first|done|rfl,M.out.ext⟩
  have HOK:=hid (dec_true hop)
  by_cases k7 : k = 7
  ·subst k7
   have hbb:=(ok7 HOK.out rfl).2.1
   simp only at hbb
   obtain ⟨B,rfl⟩ : ∃ B : Nat,b2 = (B : Int):=⟨b2.toNat,by omega⟩
   have hB1 : 1 ≤ B:=by omega
   have hB2 : B ≤ 20:=by omega
   have HSB:=hid (skip_bal (l:=l) (i:=q) (B:=B) (o:=⟨7,a,(B : Int),c2⟩) rfl)
   clear hbb
   by_cases ht : q + 1 + B ≤ n
   rotate_left
   ·have d1 : decide ((n : Int) < (q : Int) + 1 + (B : Int)) = true:=decide_eq_true (by omega)
    have HZ:=hid (HNO.out (fun z => ht (by have h1:=(HSB.out.1 (z.2.1 rfl)).1;rw [HL.out] at h1;exact h1)))
    go_wp2_with (first|(go_at_call 199;refine zC M (impl_OpOk _ _ _ _ _) ?_;clear M;intro w' M;rw [hop])|((with_reducible refine zN ?_);first|((first|refine Mine.wp_arg M.out rfl 237 _ rfl _ _ rfl _ HR.out HB.out _ Tryz.underlying237 (by rfl) (by kernel_rfl) ?_|refine zGs M.out 237 0 4 ?_|refine zG M.out 0 ?_);(try simp only [zr_,zm_]))|(refine Mine.wp_alloc M.out rfl 237 rfl (.agg #[.int .i64 0,.int .i64 0,.int .i64 0,.int .i64 0]) (by kernel_rfl) ?_;intro go w' M';(try simp only [Value.cells,zr_,zm_] at M');replace M:=hid M';clear M';(try simp only [zr_,zm_]))|(refine zSs M.out 237 0 ?_;intro w' M';(try simp only [zr_,zm_] at M');replace M:=hid M';clear M')))
    go_ret
    exact ⟨by rw [HZ.out];first|done|rfl,M.out.ext⟩
   have d1 : decide ((n : Int) < (q : Int) + 1 + (B : Int)) = false:=decide_eq_false (by omega)
   have HT:=hid ht
   have hqc : ¬ c = q + 1:=by omega
   have HSUB : Hid (Sl w S 4 (some ⟨b,oo + (q + 1) * 4,none⟩) B (((l.drop (q + 1)).take B).flatMap GOp.cells)):=HS.out.mid (by omega)
   cases hsk : dec (bal ((l.drop (q + 1)).take B))
   ·skip
    have HZ:=hid (HNO.out (fun z => dec_false hsk (HSB.out.1 (z.2.1 rfl)).2))
    go_wp2_with (first|(go_at_call 199;refine zC M (impl_OpOk _ _ _ _ _) ?_;clear M;intro w' M;rw [hop])|(go_at_call 198;refine zC M (impl_isBalanced _ B _ ((l.drop (q + 1)).take B) _ S (HSUB.out.ext M.out.ext) (by omega)) ?_;clear M;intro w' M;rw [hsk])|((with_reducible refine zN ?_);first|((first|refine Mine.wp_arg M.out rfl 237 _ rfl _ _ rfl _ HR.out HB.out _ Tryz.underlying237 (by rfl) (by kernel_rfl) ?_|refine zGs M.out 237 0 4 ?_|refine zG M.out 0 ?_);(try simp only [zr_,zm_]))|(refine Mine.wp_alloc M.out rfl 237 rfl (.agg #[.int .i64 0,.int .i64 0,.int .i64 0,.int .i64 0]) (by kernel_rfl) ?_;intro go w' M';(try simp only [Value.cells,zr_,zm_] at M');replace M:=hid M';clear M';(try simp only [zr_,zm_]))|(refine zSs M.out 237 0 ?_;intro w' M';(try simp only [zr_,zm_] at M');replace M:=hid M';clear M'))|((with_reducible show wpList _ _ _ (⟨_,.load _ _,_,_,_,some _⟩::_) _ _);first|(refine zGg M.out 0 ?_;(try simp only [zr_,zm_]))))
    go_ret
    exact ⟨by rw [HZ.out];first|done|rfl,M.out.ext⟩
   have HSK:=hid (dec_true hsk)
   have HC : Hid (cTwo l q _):=⟨HOK.out,fun _ => HSB.out.2 ⟨by rw [HL.out];exact HT.out,HSK.out⟩,fun z => (by simp at z)⟩
   go_wp2_with (first|(go_at_call 199;refine zC M (impl_OpOk _ _ _ _ _) ?_;clear M;intro w' M;rw [hop])|(go_at_call 198;refine zC M (impl_isBalanced _ B _ ((l.drop (q + 1)).take B) _ S (HSUB.out.ext M.out.ext) (by omega)) ?_;clear M;intro w' M;rw [hsk])|((with_reducible refine zN ?_);first|((first|refine Mine.wp_arg M.out rfl 237 _ rfl _ _ rfl _ HR.out HB.out _ Tryz.underlying237 (by rfl) (by kernel_rfl) ?_|refine zGs M.out 237 0 4 ?_|refine zG M.out 0 ?_);(try simp only [zr_,zm_]))|(refine Mine.wp_alloc M.out rfl 237 rfl (.agg #[.int .i64 0,.int .i64 0,.int .i64 0,.int .i64 0]) (by kernel_rfl) ?_;intro go w' M';(try simp only [Value.cells,zr_,zm_] at M');replace M:=hid M';clear M';(try simp only [zr_,zm_]))|(refine zSs M.out 237 0 ?_;intro w' M';(try simp only [zr_,zm_] at M');replace M:=hid M';clear M'))|((with_reducible show wpList _ _ _ (⟨_,.load _ _,_,_,_,some _⟩::_) _ _);first|(refine zGg M.out 0 ?_;(try simp only [zr_,zm_]))))
   go_roundw
   case rel => exact ⟨q + 1,_,HLT.out,by go_num,rfl,hid (HU.out.succ HO.out HC.out),hid (HF.out.next HO.out (by first|decide|(simp only;omega))),hid M.out.tail⟩
   case measure => have:=HLT.out;simp [intOf];omega
  by_cases k11 : k = 11
  ·subst k11
   clear k7
   rcases HF.out with ⟨e1,e2⟩|⟨e1,e2⟩
   rotate_left
   ·subst e1
    have HNF:=hid e2
    clear e2
    have HZ:=hid (HNO.out (fun z => HNF.out (z.2.2 rfl).2))
    go_wp2_with (first|(go_at_call 199;refine zC M (impl_OpOk _ _ _ _ _) ?_;clear M;intro w' M;rw [hop])|((with_reducible refine zN ?_);first|((first|refine Mine.wp_arg M.out rfl 237 _ rfl _ _ rfl _ HR.out HB.out _ Tryz.underlying237 (by rfl) (by kernel_rfl) ?_|refine zGs M.out 237 0 4 ?_|refine zG M.out 0 ?_);(try simp only [zr_,zm_]))|(refine Mine.wp_alloc M.out rfl 237 rfl (.agg #[.int .i64 0,.int .i64 0,.int .i64 0,.int .i64 0]) (by kernel_rfl) ?_;intro go w' M';(try simp only [Value.cells,zr_,zm_] at M');replace M:=hid M';clear M';(try simp only [zr_,zm_]))|(refine zSs M.out 237 0 ?_;intro w' M';(try simp only [zr_,zm_] at M');replace M:=hid M';clear M')))
    go_ret
    exact ⟨by rw [HZ.out];first|done|rfl,M.out.ext⟩
   subst e1
   have HFF:=hid e2
   clear e2
   obtain ⟨d,hd⟩ : ∃ d,dep l q = d:=⟨_,rfl⟩
   have HD:=hid hd
   by_cases hz : d = 0
   rotate_left
   ·have bz : (d != 0) = true:=by simpa using hz
    have HZN:=hid hz
    clear hz hd
    have HZ:=hid (HNO.out (fun z => HZN.out (by rw [← HD.out];exact (z.2.2 rfl).1)))
    go_wp2_with (first|(go_at_call 199;refine zC M (impl_OpOk _ _ _ _ _) ?_;clear M;intro w' M;rw [hop])|(go_at_call 200;refine zC M (impl_DepthAt (some ⟨b,oo,none⟩) n c l _ S (HS.out.ext M.out.ext) (by omega) q (by omega)) ?_;clear M;intro w' M;rw [HD.out])|((with_reducible refine zN ?_);first|((first|refine Mine.wp_arg M.out rfl 237 _ rfl _ _ rfl _ HR.out HB.out _ Tryz.underlying237 (by rfl) (by kernel_rfl) ?_|refine zGs M.out 237 0 4 ?_|refine zG M.out 0 ?_);(try simp only [zr_,zm_]))|(refine Mine.wp_alloc M.out rfl 237 rfl (.agg #[.int .i64 0,.int .i64 0,.int .i64 0,.int .i64 0]) (by kernel_rfl) ?_;intro go w' M';(try simp only [Value.cells,zr_,zm_] at M');replace M:=hid M';clear M';(try simp only [zr_,zm_]))|(refine zSs M.out 237 0 ?_;intro w' M';(try simp only [zr_,zm_] at M');replace M:=hid M';clear M')))
    go_ret
    exact ⟨by rw [HZ.out];first|done|rfl,M.out.ext⟩
   subst hz
   clear hd
   have HC : Hid (cTwo l q _):=⟨HOK.out,fun z => (by simp at z),fun _ => ⟨HD.out,HFF.out⟩⟩
   go_wp2_with (first|(go_at_call 199;refine zC M (impl_OpOk _ _ _ _ _) ?_;clear M;intro w' M;rw [hop])|(go_at_call 200;refine zC M (impl_DepthAt (some ⟨b,oo,none⟩) n c l _ S (HS.out.ext M.out.ext) (by omega) q (by omega)) ?_;clear M;intro w' M;rw [HD.out])|((with_reducible refine zN ?_);first|((first|refine Mine.wp_arg M.out rfl 237 _ rfl _ _ rfl _ HR.out HB.out _ Tryz.underlying237 (by rfl) (by kernel_rfl) ?_|refine zGs M.out 237 0 4 ?_|refine zG M.out 0 ?_);(try simp only [zr_,zm_]))|(refine Mine.wp_alloc M.out rfl 237 rfl (.agg #[.int .i64 0,.int .i64 0,.int .i64 0,.int .i64 0]) (by kernel_rfl) ?_;intro go w' M';(try simp only [Value.cells,zr_,zm_] at M');replace M:=hid M';clear M';(try simp only [zr_,zm_]))|(refine zSs M.out 237 0 ?_;intro w' M';(try simp only [zr_,zm_] at M');replace M:=hid M';clear M')))
   go_roundw
   case rel => exact ⟨q + 1,_,HLT.out,by go_num,rfl,hid (HU.out.succ HO.out HC.out),hid (.inr ⟨rfl,ff_not HO.out rfl⟩),hid M.out.tail⟩
   case measure => have:=HLT.out;simp [intOf];omega
  have b7 : (k == 7) = false:=by simpa using k7
  have b11 : (k == 11) = false:=by simpa using k11
  have HK7:=hid k7
  have HK11:=hid k11
  clear k7 k11
  have HC : Hid (cTwo l q _):=⟨HOK.out,fun z => absurd z HK7.out,fun z => absurd z HK11.out⟩
  go_wp2_with (first|(go_at_call 199;refine zC M (impl_OpOk _ _ _ _ _) ?_;clear M;intro w' M;rw [hop])|((with_reducible refine zN ?_);first|((first|refine Mine.wp_arg M.out rfl 237 _ rfl _ _ rfl _ HR.out HB.out _ Tryz.underlying237 (by rfl) (by kernel_rfl) ?_|refine zGs M.out 237 0 4 ?_|refine zG M.out 0 ?_);(try simp only [zr_,zm_]))|(refine Mine.wp_alloc M.out rfl 237 rfl (.agg #[.int .i64 0,.int .i64 0,.int .i64 0,.int .i64 0]) (by kernel_rfl) ?_;intro go w' M';(try simp only [Value.cells,zr_,zm_] at M');replace M:=hid M';clear M';(try simp only [zr_,zm_]))|(refine zSs M.out 237 0 ?_;intro w' M';(try simp only [zr_,zm_] at M');replace M:=hid M';clear M')))
  go_roundw
  case rel => exact ⟨q + 1,_,HLT.out,by go_num,rfl,hid (HU.out.succ HO.out HC.out),hid (HF.out.next HO.out HK11.out),hid M.out.tail⟩
  case measure => have:=HLT.out;simp [intOf];omega

end Go.Proofs.YtoegjiigaoanbaaGreat
namespace Go.Proofs.YtoegjiigaoanbaaGreat
open Go.RowKit Go.Deep
set_option linter.unnecessarySimpa false
set_option maxHeartbeats 400000000
open Go.Lib (hid)
set_option maxRecDepth 16000
set_option linter.unusedSimpArgs false
set_option linter.unusedVariables false

def noFk0 (o : GOp) : Prop:=o.kind_ ≠ 11
theorem hfC_any (k a b c : Int) (w : World) :
  Calls Tryz.prog 202 #[.agg #[.int .i64 k,.int .i64 a,.int .i64 b,.int .i64 c]] w fun e w' => e = .returned (.bool (!dec (noFk0 ⟨k,a,b,c⟩))) ∧ Ext w w':=by
 by_cases h : k = 11
 ·have b0 : (k == 11) = true:=by simp [h]
  rw [dec_no (show ¬ noFk0 ⟨k,a,b,c⟩ from fun q => q h)]
  clear h
  go_enter Tryz.func202,Tryz.ntmps202
  go_wp2
  go_ret
  exact ⟨rfl,(Ext.refl' _).al _⟩
 ·have b0 : (k == 11) = false:=by simpa using h
  rw [dec_yes (show noFk0 ⟨k,a,b,c⟩ from h)]
  clear h
  go_enter Tryz.func202,Tryz.ntmps202
  go_wp2
  go_ret
  exact ⟨rfl,(Ext.refl' _).al _⟩

theorem idxhf_any (A : Option Addr) (n c : Nat) (l : List GOp) (w : World) (S : Nat → Prop) (hs : Sl w S 4 A n (l.flatMap GOp.cells)) (hm : n ≤ 9223372036854775807) :
  Calls Tryz.prog 226 #[.slice A n c,.func (.func 202) #[] #[]] w fun e w' => ∃ i : Int,e = .returned (.int .i64 i) ∧ ((i = -1 ∧ AllTo (fun _ x => noFk0 x) l l.length) ∨ (0 ≤ i ∧ ¬ AllTo (fun _ x => noFk0 x) l l.length)) ∧ Ext w w':=by
 have H:=hid (hs.flen GOp.cells_length (by omega))
 have HS:=hid hs
 clear hs
 go_enter Tryz.func226,Tryz.ntmps226
 go_wp2
 go_loopw [8] (fun i wr => ∃ k : Nat,k ≤ n ∧ i = .int .i64 k ∧ AllTo (fun _ x => noFk0 x) l k ∧ Ext w wr) (fun i _ => n - (intOf i).toNat)
 case atStart => exact ⟨0,Nat.zero_le _,rfl,AllTo.zero _ _,Ext.refl' _⟩
 case round =>
  obtain ⟨k,hk,rfl,hup,hx⟩:=hrel
  have HU:=hid hup
  have HX:=hid hx
  clear hup hx
  by_cases hlt : (k : Int) < (n : Int)
  ·
   obtain ⟨b,o,rfl⟩:=HS.out.addr (by omega)
   obtain ⟨x,hsk,-,hc⟩:=(HS.out.ext HX.out).flat_cell GOp.cells_length (by omega) (k:=k) (by omega)
   obtain ⟨g0,g1,g2,g3⟩:=x
   have k0:=hc 0 (by omega)
   have k1:=hc 1 (by omega)
   have k2:=hc 2 (by omega)
   have k3:=hc 3 (by omega)
   simp only [GOp.cells,List.getElem?_cons_zero,List.getElem?_cons_succ,Nat.add_zero] at k0 k1 k2 k3
   have HSK:=hid hsk
   clear hsk hc
   go_wp2_with fail
   refine (hfC_any g0 g1 g2 g3 _).mono ?_
   rintro e w2 ⟨rfl,x2⟩
   have X2:=hid (HX.out.tr x2)
   clear x2
   by_cases h0 : noFk0 (⟨g0,g1,g2,g3⟩ : GOp)
   ·have H0:=hid h0
    rw [dec_yes h0]
    clear h0
    go_wp2
    go_roundw
    case rel => exact ⟨k + 1,by omega,by go_num,HU.out.succ HSK.out H0.out,X2.out⟩
    case measure => simp [intOf];omega
   ·have H0:=hid h0
    rw [dec_no h0]
    clear h0
    go_wp2
    go_ret
    exact ⟨k,rfl,.inr ⟨by omega,fun h => AllTo.not HSK.out (by have a:=H.out;omega) (fun q => H0.out q) h⟩,X2.out⟩
  ·have e : Hid (k = l.length):=by show k = _;have a:=H.out;omega
   go_wp2
   go_ret
   exact ⟨-1,rfl,.inl ⟨rfl,by rw [← e.out];exact HU.out⟩,HX.out⟩

theorem anyhf_any (A : Option Addr) (n c : Nat) (l : List GOp) (w : World) (S : Nat → Prop) (hs : Sl w S 4 A n (l.flatMap GOp.cells)) (hm : n ≤ 9223372036854775807) :
  Calls Tryz.prog 201 #[.slice A n c,.func (.func 202) #[] #[]] w fun e w' => e = .returned (.bool (!dec (AllTo (fun _ x => noFk0 x) l l.length))) ∧ Ext w w':=by
 go_enter Tryz.func201,Tryz.ntmps201
 go_wp2_with fail
 refine (idxhf_any _ _ _ _ _ _ hs hm).mono ?_
 rintro e w1 ⟨i,rfl,hi,x1⟩
 have X1:=hid x1
 clear x1
 rcases hi with ⟨rfl,hx⟩|⟨hi,hx⟩
 ·have HX:=hid hx
  clear hx
  go_wp2
  go_ret
  exact ⟨by rw [dec_yes HX.out];rfl,X1.out⟩
 ·have HX:=hid hx
  clear hx
  go_wp2
  go_ret
  exact ⟨by rw [dec_no HX.out];rfl,X1.out⟩
theorem hasFork_is (l : List GOp) : hasFork l = !dec (AllTo (fun _ x => noFk0 x) l l.length):=by
 cases h : dec (AllTo (fun _ x => noFk0 x) l l.length)
 ·exact dec_yes (dec_false h)
 ·exact dec_no fun z => z (dec_true h)

theorem impl_HasFork (A : Option Addr) (n c : Nat) (l : List GOp) (w : World) (S : Nat → Prop) (hs : Sl w S 4 A n (l.flatMap GOp.cells)) (hm : n ≤ 1048576) :
  Calls Tryz.prog 154 #[.slice A n c] w fun e w' => e = .returned (.bool (hasFork l)) ∧ Ext w w':=by
 rw [hasFork_is]
 go_enter Tryz.func154,Tryz.ntmps154
 go_wp2_with fail
 refine (anyhf_any A n c l _ S hs (by omega)).mono ?_
 rintro e w1 ⟨rfl,x1⟩
 have X1:=hid x1
 clear x1
 obtain ⟨B,hB⟩ : ∃ B,(!dec (AllTo (fun _ x => noFk0 x) l l.length)) = B:=⟨_,rfl⟩
 rw [hB]
 have HB:=hid hB
 clear hB
 go_wp2
 go_ret
 exact ⟨by rw [HB.out];first|done|rfl,X1.out⟩
theorem impl_KidOk (A : Option Addr) (n c : Nat) (l : List GOp) (w : World) (S : Nat → Prop) (hs : Sl w S 4 A n (l.flatMap GOp.cells)) (hm : n ≤ 1048576) (hcn : n ≤ c) :
  Calls Tryz.prog 152 #[.slice A n c] w fun e w' => e = .returned (.bool (kidOk l)) ∧ Ext w w':=by
 have hl : l.length = n:=hs.flen GOp.cells_length (by omega)
 have HS:=hid hs
 have HL:=hid hl
 have M : Hid (Mine w w []):=Mine.refl w
 clear hs hl
 go_enter Tryz.func152,Tryz.ntmps152
 go_wp2
 go_loopw [7] (fun i wr => ∃ q : Nat,q ≤ n ∧ i = .int .i64 (q : Int) ∧ Hid (AllTo kidOp l q) ∧ Hid (Mine w wr [])) (fun i _ => n - (intOf i).toNat)
 case atStart => exact ⟨0,Nat.zero_le _,rfl,AllTo.zero _ _,M⟩
 case round =>
  clear M
  obtain ⟨q,hq,rfl,HU,M⟩:=hrel
  by_cases hlt : q < n
  rotate_left
  ·have HZ : Hid (kidOk l = codeOk l):=by
    show _ = _
    cases hco : codeOk l
    ·exact dec_no fun z => by rw [hco] at z;exact absurd z.1 (by simp)
    ·exact dec_yes ⟨hco,by rw [HL.out,← (show q = n by omega)];exact HU.out⟩
   cases hco : codeOk l
   ·skip
    rw [hco] at HZ
    go_wp2_with ((go_at_call 153;refine zC M (impl_CodeOk A n c l _ S (HS.out.ext M.out.ext) hm hcn) ?_;clear M;intro w' M;rw [hco]))
    go_ret
    exact ⟨by rw [HZ.out];first|done|rfl,M.out.ext⟩
   ·skip
    rw [hco] at HZ
    go_wp2_with ((go_at_call 153;refine zC M (impl_CodeOk A n c l _ S (HS.out.ext M.out.ext) hm hcn) ?_;clear M;intro w' M;rw [hco]))
    go_ret
    exact ⟨by rw [HZ.out];first|done|rfl,M.out.ext⟩
  have HLT : Hid (q < n):=hlt
  obtain ⟨b,oo,rfl⟩:=HS.out.addr (by omega)
  obtain ⟨o,ho,hr,hb,-,-⟩:=code_at HS.out hlt
  have HR:=hid hr
  have HB:=hid hb
  have HO:=hid ho
  clear ho hr hb
  obtain ⟨k,a,b2,c2⟩:=o
  simp only [GOp.cells] at HR
  have htw:=touch_two ⟨k,a,b2,c2⟩
  obtain ⟨T,hT⟩ : ∃ T,touchF ⟨k,a,b2,c2⟩ = T:=⟨_,rfl⟩
  rw [hT] at htw
  have HT:=hid hT
  clear hT
  by_cases k11 : k = 11
  ·have HZ : Hid (kidOk l = false):=dec_no fun z => (z.2 q (by rw [HL.out];exact HLT.out) _ HO.out).1 k11
   subst k11
   clear htw
   go_wp2_with (((with_reducible refine zN ?_);first|((first|refine Mine.wp_arg M.out rfl 237 _ rfl _ _ rfl _ HR.out HB.out _ Tryz.underlying237 (by rfl) (by kernel_rfl) ?_|refine zG M.out 0 ?_);(try simp only [zr_,zm_]))|(refine Mine.wp_alloc M.out rfl 237 rfl (.agg #[.int .i64 0,.int .i64 0,.int .i64 0,.int .i64 0]) (by kernel_rfl) ?_;intro go w' M';(try simp only [Value.cells,zr_,zm_] at M');replace M:=hid M';clear M';(try simp only [zr_,zm_]))|(refine zSs M.out 237 0 ?_;intro w' M';(try simp only [zr_,zm_] at M');replace M:=hid M';clear M')))
   go_ret
   exact ⟨by rw [HZ.out];first|done|rfl,M.out.ext⟩
  have b11 : (k == 11) = false:=by simpa using k11
  have HK11:=hid k11
  clear k11
  by_cases h2 : T = 2
  ·have HZ : Hid (kidOk l = false):=dec_no fun z => (z.2 q (by rw [HL.out];exact HLT.out) _ HO.out).2 (htw.1 h2)
   subst h2
   clear htw
   go_wp2_with (first|(go_at_call 197;refine zC M (impl_Touches _ _ _ _ _) ?_;clear M;intro w' M;rw [HT.out])|((with_reducible refine zN ?_);first|((first|refine Mine.wp_arg M.out rfl 237 _ rfl _ _ rfl _ HR.out HB.out _ Tryz.underlying237 (by rfl) (by kernel_rfl) ?_|refine zG M.out 0 ?_);(try simp only [zr_,zm_]))|(refine Mine.wp_alloc M.out rfl 237 rfl (.agg #[.int .i64 0,.int .i64 0,.int .i64 0,.int .i64 0]) (by kernel_rfl) ?_;intro go w' M';(try simp only [Value.cells,zr_,zm_] at M');replace M:=hid M';clear M';(try simp only [zr_,zm_]))|(refine zSs M.out 237 0 ?_;intro w' M';(try simp only [zr_,zm_] at M');replace M:=hid M';clear M'))|((with_reducible show wpList _ _ _ (⟨_,.load _ _,_,_,_,some _⟩::_) _ _);first|(refine Mine.wp_getsg M.out (by rfl) 237 _ rfl 0 _ 4 rfl rfl (Nat.le_of_ble_eq_true rfl) _ Tryz.underlying237 (by rfl) (by kernel_rfl) ?_;(try simp only [zr_,zm_]))))
   go_ret
   exact ⟨by rw [HZ.out];first|done|rfl,M.out.ext⟩
  have HK : Hid (kidOp q ⟨k,a,b2,c2⟩):=⟨HK11.out,fun z => h2 (htw.2 z)⟩
  have b2 : (T == 2) = false:=by simpa using h2
  clear h2 htw
  go_wp2_with (first|(go_at_call 197;refine zC M (impl_Touches _ _ _ _ _) ?_;clear M;intro w' M;rw [HT.out])|((with_reducible refine zN ?_);first|((first|refine Mine.wp_arg M.out rfl 237 _ rfl _ _ rfl _ HR.out HB.out _ Tryz.underlying237 (by rfl) (by kernel_rfl) ?_|refine zG M.out 0 ?_);(try simp only [zr_,zm_]))|(refine Mine.wp_alloc M.out rfl 237 rfl (.agg #[.int .i64 0,.int .i64 0,.int .i64 0,.int .i64 0]) (by kernel_rfl) ?_;intro go w' M';(try simp only [Value.cells,zr_,zm_] at M');replace M:=hid M';clear M';(try simp only [zr_,zm_]))|(refine zSs M.out 237 0 ?_;intro w' M';(try simp only [zr_,zm_] at M');replace M:=hid M';clear M'))|((with_reducible show wpList _ _ _ (⟨_,.load _ _,_,_,_,some _⟩::_) _ _);first|(refine Mine.wp_getsg M.out (by rfl) 237 _ rfl 0 _ 4 rfl rfl (Nat.le_of_ble_eq_true rfl) _ Tryz.underlying237 (by rfl) (by kernel_rfl) ?_;(try simp only [zr_,zm_]))))
  go_roundw
  case rel => exact ⟨q + 1,HLT.out,by go_num,hid (HU.out.succ HO.out HK.out),hid M.out.tail⟩
  case measure => have:=HLT.out;simp [intOf];omega
set_option maxRecDepth 8000 in
theorem impl_ProgOk (x : Prog) (cs : List Value) (w : World) (S : Nat → Prop) (h : Prog.R w S cs x) (_hw : Prog.wt x ≤ 1048576) :
  Calls Tryz.prog 94 #[.agg cs.toArray] w fun e w' => e = .returned (.bool (progOk x)) ∧ Ext w w':=by
 obtain ⟨A0,n0,c0,A1,n1,c1,rfl,⟨kh0,mh0,h0⟩,⟨kh1,mh1,h1⟩⟩:=h
 have hl0 : x.code_.length = n0:=h0.flen GOp.cells_length (by omega)
 have hl1 : x.kids_.length = n1:=h1.1
 have hkl:=wtl_len Kid.wt x.kids_
 have hn0 : n0 ≤ 1048576:=by unfold Prog.wt at _hw;omega
 have hn1 : n1 ≤ 1048576:=by unfold Prog.wt at _hw;omega
 have HW : Hid (∀ k ∈ x.kids_,k.code_.length ≤ 1048576):=fun k hk => by
  obtain ⟨i,hi⟩:=List.mem_iff_getElem?.1 hk
  have h1:=wtl_at Kid.wt hi
  have h2 : Kid.wt k = k.code_.length:=rfl
  unfold Prog.wt at _hw;omega
 have H0:=hid h0
 have H1:=hid h1
 have HL1:=hid hl1
 have HC0 : Hid (n0 ≤ c0):=kh0
 clear h0 h1 hkl _hw
 have M : Hid (Mine w (w.alloc (.cells #[.slice A0 n0 c0,.slice A1 n1 c1] 84)) [.box w.heap.size 84 #[.slice A0 n0 c0,.slice A1 n1 c1]]):=(Mine.refl w).box 84 #[.slice A0 n0 c0,.slice A1 n1 c1]
 show Calls Tryz.prog _ #[.agg #[.slice A0 n0 c0,.slice A1 n1 c1]] w _
 go_enter Tryz.func94,Tryz.ntmps94
 go_wp2_with (((with_reducible refine zN ?_);first|(refine zG M.out 0 ?_;(try simp only [zr_,zm_]))))
 go_loopw [8] (fun i wr => ∃ q : Nat,q ≤ n1 ∧ i = .int .i64 (q : Int) ∧ Hid (AllTo kidP x.kids_ q) ∧ Hid (Mine w wr [.box w.heap.size 84 #[.slice A0 n0 c0,.slice A1 n1 c1]])) (fun i _ => n1 - (intOf i).toNat)
 case atStart => exact ⟨0,Nat.zero_le _,rfl,AllTo.zero _ _,M⟩
 case round =>
  clear M
  obtain ⟨q,hq,rfl,HU,M⟩:=hrel
  by_cases hlt : q < n1
  rotate_left
  ·skip
   have HUA : Hid (AllTo kidP x.kids_ x.kids_.length):=by show AllTo _ _ _;rw [HL1.out,← (show q = n1 by omega)];exact HU.out
   cases hco : codeOk x.code_
   ·have HZ : Hid (progOk x = false):=dec_no fun z => by have h:=z.1;rw [hco] at h;cases h
    go_wp2_with fail
    refine zRQ M.out ?_
    repeat (first|go_big_quiet_skip|(go_big_quiet_want;first|(refine zQ 0 ?_;(try simp only [zr_,zm_]);go_big_quiet_on)|(unfold Oper.quiet;apply Exists.intro;refine ⟨fun wq hq => ?_,?_⟩;(go_simp;go_at_call 153;(with_reducible refine (impl_CodeOk A0 n0 c0 x.code_ _ S (H0.out.ext hq.ext) hn0 HC0.out).mono ?_);rintro e w2 ⟨rfl,x2⟩;first|exact ⟨rfl,hq.on x2⟩|(subst x2;exact ⟨rfl,hq⟩));(try rw [hco]);(try simp only [zs_,zl_]);go_big_quiet_on)|(unfold Oper.quiet;apply Exists.intro;refine ⟨fun wq hq => ?_,?_⟩;(clear hq;go_simp;first|done|rfl|exact ⟨rfl,rfl⟩);(try simp only [zs_,zl_]);go_big_quiet_on)))
    refine wpQuiet_nil ?_
    intro w' M'
    replace M:=hid M'
    clear M'
    go_wp2
    go_ret
    exact ⟨by rw [HZ.out];first|done|rfl,M.out.ext⟩
   by_cases h3 : n1 ≤ 3
   rotate_left
   ·have HZ : Hid (progOk x = false):=dec_no fun z => h3 (by have:=z.2.1;rw [HL1.out] at this;exact this)
    have d3 : decide ((n1 : Int) ≤ 3) = false:=decide_eq_false (by omega)
    clear h3
    go_wp2_with fail
    refine zRQ M.out ?_
    repeat (first|go_big_quiet_skip|(go_big_quiet_want;first|(refine zQ 0 ?_;(try simp only [zr_,zm_]);go_big_quiet_on)|(unfold Oper.quiet;apply Exists.intro;refine ⟨fun wq hq => ?_,?_⟩;(go_simp;go_at_call 153;(with_reducible refine (impl_CodeOk A0 n0 c0 x.code_ _ S (H0.out.ext hq.ext) hn0 HC0.out).mono ?_);rintro e w2 ⟨rfl,x2⟩;first|exact ⟨rfl,hq.on x2⟩|(subst x2;exact ⟨rfl,hq⟩));(try rw [hco]);(try simp only [zs_,zl_]);go_big_quiet_on)|(unfold Oper.quiet;apply Exists.intro;refine ⟨fun wq hq => ?_,?_⟩;(clear hq;go_simp;first|done|rfl|exact ⟨rfl,rfl⟩);(try simp only [zs_,zl_]);go_big_quiet_on)))
    refine wpQuiet_nil ?_
    intro w' M'
    replace M:=hid M'
    clear M'
    go_wp2
    go_ret
    exact ⟨by rw [HZ.out];first|done|rfl,M.out.ext⟩
   have d3 : decide ((n1 : Int) ≤ 3) = true:=decide_eq_true (by omega)
   have H3:=hid h3
   clear h3
   have hf9 : fkOk x ↔ hasFork x.code_ = decide (0 < n1):=by
    unfold fkOk
    have e : decide (0 < x.kids_.length) = decide (0 < n1):=decide_eq_decide.2 (by omega)
    rw [e]
   have HF9:=hid hf9
   clear hf9
   cases hhf : hasFork x.code_
   ·skip
    have e0 : decide ((0 : Int) < (n1 : Int)) = decide (0 < n1):=decide_eq_decide.2 (by omega)
    cases d0 : decide (0 < n1)
    ·skip
     rw [d0] at e0
     have HZ : Hid (progOk x = true):=dec_yes ⟨hco,by rw [HL1.out];exact H3.out,HF9.out.2 (by rw [hhf,d0]),HUA.out⟩
     go_wp2_with fail
     refine zRQ M.out ?_
     repeat (first|go_big_quiet_skip|(go_big_quiet_want;first|(refine zQ 0 ?_;(try simp only [zr_,zm_]);go_big_quiet_on)|(unfold Oper.quiet;apply Exists.intro;refine ⟨fun wq hq => ?_,?_⟩;(go_simp;go_at_call 153;(with_reducible refine (impl_CodeOk A0 n0 c0 x.code_ _ S (H0.out.ext hq.ext) hn0 HC0.out).mono ?_);rintro e w2 ⟨rfl,x2⟩;first|exact ⟨rfl,hq.on x2⟩|(subst x2;exact ⟨rfl,hq⟩));(try rw [hco]);(try simp only [zs_,zl_]);go_big_quiet_on)|(unfold Oper.quiet;apply Exists.intro;refine ⟨fun wq hq => ?_,?_⟩;(go_simp;go_at_call 154;(with_reducible refine (impl_HasFork A0 n0 c0 x.code_ _ S (H0.out.ext hq.ext) hn0).mono ?_);rintro e w2 ⟨rfl,x2⟩;first|exact ⟨rfl,hq.on x2⟩|(subst x2;exact ⟨rfl,hq⟩));(try rw [hhf]);(try simp only [zs_,zl_]);go_big_quiet_on)|(unfold Oper.quiet;apply Exists.intro;refine ⟨fun wq hq => ?_,?_⟩;(clear hq;go_simp;first|done|rfl|exact ⟨rfl,rfl⟩);(try simp only [zs_,zl_]);go_big_quiet_on)))
     refine wpQuiet_nil ?_
     intro w' M'
     replace M:=hid M'
     clear M'
     go_wp2
     go_ret
     exact ⟨by rw [HZ.out];first|done|rfl,M.out.ext⟩
    ·skip
     rw [d0] at e0
     have HZ : Hid (progOk x = false):=dec_no fun z => by have h:=HF9.out.1 z.2.2.1;rw [hhf,d0] at h;cases h
     go_wp2_with fail
     refine zRQ M.out ?_
     repeat (first|go_big_quiet_skip|(go_big_quiet_want;first|(refine zQ 0 ?_;(try simp only [zr_,zm_]);go_big_quiet_on)|(unfold Oper.quiet;apply Exists.intro;refine ⟨fun wq hq => ?_,?_⟩;(go_simp;go_at_call 153;(with_reducible refine (impl_CodeOk A0 n0 c0 x.code_ _ S (H0.out.ext hq.ext) hn0 HC0.out).mono ?_);rintro e w2 ⟨rfl,x2⟩;first|exact ⟨rfl,hq.on x2⟩|(subst x2;exact ⟨rfl,hq⟩));(try rw [hco]);(try simp only [zs_,zl_]);go_big_quiet_on)|(unfold Oper.quiet;apply Exists.intro;refine ⟨fun wq hq => ?_,?_⟩;(go_simp;go_at_call 154;(with_reducible refine (impl_HasFork A0 n0 c0 x.code_ _ S (H0.out.ext hq.ext) hn0).mono ?_);rintro e w2 ⟨rfl,x2⟩;first|exact ⟨rfl,hq.on x2⟩|(subst x2;exact ⟨rfl,hq⟩));(try rw [hhf]);(try simp only [zs_,zl_]);go_big_quiet_on)|(unfold Oper.quiet;apply Exists.intro;refine ⟨fun wq hq => ?_,?_⟩;(clear hq;go_simp;first|done|rfl|exact ⟨rfl,rfl⟩);(try simp only [zs_,zl_]);go_big_quiet_on)))
     refine wpQuiet_nil ?_
     intro w' M'
     replace M:=hid M'
     clear M'
     go_wp2
     go_ret
     exact ⟨by rw [HZ.out];first|done|rfl,M.out.ext⟩
   ·skip
    have e0 : decide ((0 : Int) < (n1 : Int)) = decide (0 < n1):=decide_eq_decide.2 (by omega)
    cases d0 : decide (0 < n1)
    ·skip
     rw [d0] at e0
     have HZ : Hid (progOk x = false):=dec_no fun z => by have h:=HF9.out.1 z.2.2.1;rw [hhf,d0] at h;cases h
     go_wp2_with fail
     refine zRQ M.out ?_
     repeat (first|go_big_quiet_skip|(go_big_quiet_want;first|(refine zQ 0 ?_;(try simp only [zr_,zm_]);go_big_quiet_on)|(unfold Oper.quiet;apply Exists.intro;refine ⟨fun wq hq => ?_,?_⟩;(go_simp;go_at_call 153;(with_reducible refine (impl_CodeOk A0 n0 c0 x.code_ _ S (H0.out.ext hq.ext) hn0 HC0.out).mono ?_);rintro e w2 ⟨rfl,x2⟩;first|exact ⟨rfl,hq.on x2⟩|(subst x2;exact ⟨rfl,hq⟩));(try rw [hco]);(try simp only [zs_,zl_]);go_big_quiet_on)|(unfold Oper.quiet;apply Exists.intro;refine ⟨fun wq hq => ?_,?_⟩;(go_simp;go_at_call 154;(with_reducible refine (impl_HasFork A0 n0 c0 x.code_ _ S (H0.out.ext hq.ext) hn0).mono ?_);rintro e w2 ⟨rfl,x2⟩;first|exact ⟨rfl,hq.on x2⟩|(subst x2;exact ⟨rfl,hq⟩));(try rw [hhf]);(try simp only [zs_,zl_]);go_big_quiet_on)|(unfold Oper.quiet;apply Exists.intro;refine ⟨fun wq hq => ?_,?_⟩;(clear hq;go_simp;first|done|rfl|exact ⟨rfl,rfl⟩);(try simp only [zs_,zl_]);go_big_quiet_on)))
     refine wpQuiet_nil ?_
     intro w' M'
     replace M:=hid M'
     clear M'
     go_wp2
     go_ret
     exact ⟨by rw [HZ.out];first|done|rfl,M.out.ext⟩
    ·skip
     rw [d0] at e0
     have HZ : Hid (progOk x = true):=dec_yes ⟨hco,by rw [HL1.out];exact H3.out,HF9.out.2 (by rw [hhf,d0]),HUA.out⟩
     go_wp2_with fail
     refine zRQ M.out ?_
     repeat (first|go_big_quiet_skip|(go_big_quiet_want;first|(refine zQ 0 ?_;(try simp only [zr_,zm_]);go_big_quiet_on)|(unfold Oper.quiet;apply Exists.intro;refine ⟨fun wq hq => ?_,?_⟩;(go_simp;go_at_call 153;(with_reducible refine (impl_CodeOk A0 n0 c0 x.code_ _ S (H0.out.ext hq.ext) hn0 HC0.out).mono ?_);rintro e w2 ⟨rfl,x2⟩;first|exact ⟨rfl,hq.on x2⟩|(subst x2;exact ⟨rfl,hq⟩));(try rw [hco]);(try simp only [zs_,zl_]);go_big_quiet_on)|(unfold Oper.quiet;apply Exists.intro;refine ⟨fun wq hq => ?_,?_⟩;(go_simp;go_at_call 154;(with_reducible refine (impl_HasFork A0 n0 c0 x.code_ _ S (H0.out.ext hq.ext) hn0).mono ?_);rintro e w2 ⟨rfl,x2⟩;first|exact ⟨rfl,hq.on x2⟩|(subst x2;exact ⟨rfl,hq⟩));(try rw [hhf]);(try simp only [zs_,zl_]);go_big_quiet_on)|(unfold Oper.quiet;apply Exists.intro;refine ⟨fun wq hq => ?_,?_⟩;(clear hq;go_simp;first|done|rfl|exact ⟨rfl,rfl⟩);(try simp only [zs_,zl_]);go_big_quiet_on)))
     refine wpQuiet_nil ?_
     intro w' M'
     replace M:=hid M'
     clear M'
     go_wp2
     go_ret
     exact ⟨by rw [HZ.out];first|done|rfl,M.out.ext⟩
  have HLT : Hid (q < n1):=hlt
  obtain ⟨b,oo,kx,K0,kn0,kc0,rfl,hkx,hkb,kc,ks,klen,kle⟩:=kid_at H1.out hlt
  have HKX:=hid hkx
  have HKC : Hid (w.rangeAt b (oo + q) [.slice K0 kn0 kc0]):=fun u v hu => by
   have h3 : u = 0:=by have:=(List.getElem?_eq_some_iff.1 hu).1;simp at this;omega
   subst h3;rw [Nat.add_zero,kc];exact hu
  have HKB:=hid hkb
  have HKS:=hid ks
  have hkn : kn0 ≤ 1048576:=by rw [← klen];exact HW.out kx (List.mem_of_getElem? hkx)
  clear hkx hkb kc ks klen
  cases hko : kidOk kx.code_
  ·have HZ : Hid (progOk x = false):=dec_no fun z => AllTo.not HKX.out (by rw [HL1.out];exact HLT.out) (fun q => by have q2 : kidOk kx.code_ = true:=q;rw [hko] at q2;cases q2) z.2.2.2
   go_wp2_with (first|(go_at_call 152;refine zC M (impl_KidOk K0 kn0 kc0 kx.code_ _ S (HKS.out.ext M.out.ext) hkn kle) ?_;clear M;intro w' M;rw [hko])|((with_reducible refine zN ?_);first|((first|refine Mine.wp_arg M.out rfl 209 _ rfl _ _ rfl _ HKC.out HKB.out _ Tryz.underlying209 (by rfl) (by kernel_rfl) ?_|refine zG M.out 0 ?_);(try simp only [zr_,zm_]))|(refine Mine.wp_alloc M.out rfl 209 rfl (.agg #[.slice none 0 0]) (by kernel_rfl) ?_;intro gk w' M';(try simp only [Value.cells,zr_,zm_] at M');replace M:=hid M';clear M';(try simp only [zr_,zm_]))|(refine zSs M.out 209 0 ?_;intro w' M';(try simp only [zr_,zm_] at M');replace M:=hid M';clear M')))
   go_ret
   exact ⟨by rw [HZ.out];first|done|rfl,M.out.ext⟩
  have HKO : Hid (kidP q kx):=hko
  go_wp2_with (first|(go_at_call 152;refine zC M (impl_KidOk K0 kn0 kc0 kx.code_ _ S (HKS.out.ext M.out.ext) hkn kle) ?_;clear M;intro w' M;rw [hko])|((with_reducible refine zN ?_);first|((first|refine Mine.wp_arg M.out rfl 209 _ rfl _ _ rfl _ HKC.out HKB.out _ Tryz.underlying209 (by rfl) (by kernel_rfl) ?_|refine zG M.out 0 ?_);(try simp only [zr_,zm_]))|(refine Mine.wp_alloc M.out rfl 209 rfl (.agg #[.slice none 0 0]) (by kernel_rfl) ?_;intro gk w' M';(try simp only [Value.cells,zr_,zm_] at M');replace M:=hid M';clear M';(try simp only [zr_,zm_]))|(refine zSs M.out 209 0 ?_;intro w' M';(try simp only [zr_,zm_] at M');replace M:=hid M';clear M')))
  go_roundw
  case rel => exact ⟨q + 1,HLT.out,by go_num,hid (HU.out.succ HKX.out HKO.out),hid M.out.tail⟩
  case measure => have:=HLT.out;simp [intOf];omega

def progGood (p : Prog) : Prop:=progOk p = true
theorem progGood_is (p : Prog) : dec (progGood p) = progOk p:=by
 cases h : progOk p
 ·exact dec_no fun z => by have z2 : progOk p = true:=z;rw [h] at z2;cases z2
 ·exact dec_yes h
theorem poC_any (x : Prog) (cs : List Value) (S : Nat → Prop) (w : World) (h : Prog.R w S cs x) (hw : Prog.wt x ≤ 1048576) (w0 : World) (hx : Ext w w0) :
  Calls Tryz.prog 93 #[.agg cs.toArray] w0 fun e w' => e = .returned (.bool (!dec (progGood x))) ∧ Ext w0 w':=by
 rw [progGood_is]
 have HP:=hid (Prog.R_good.ext h hx)
 obtain ⟨A0,n0,c0,A1,n1,c1,rfl⟩:=Prog.R_cells h
 clear h hx
 have M : Hid (Mine w0 (w0.alloc (.cells #[.slice A0 n0 c0,.slice A1 n1 c1] 84)) [.box w0.heap.size 84 #[.slice A0 n0 c0,.slice A1 n1 c1]]):=(Mine.refl w0).box 84 #[.slice A0 n0 c0,.slice A1 n1 c1]
 show Calls Tryz.prog _ #[.agg #[.slice A0 n0 c0,.slice A1 n1 c1]] w0 _

 go_enter Tryz.func93,Tryz.ntmps93
 obtain ⟨B,hB⟩ : ∃ B,progOk x = B:=⟨_,rfl⟩
 rw [hB]
 have HB:=hid hB
 clear hB
 go_wp2_with (first|(go_at_call 94;refine zC M (impl_ProgOk x [.slice A0 n0 c0,.slice A1 n1 c1] _ S (Prog.R_good.ext HP.out M.out.ext) hw) ?_;clear M;intro w' M;rw [HB.out])|((with_reducible refine zN ?_);first|(refine zGs M.out 84 0 2 ?_;(try simp only [zr_,zm_]))))
 go_ret
 exact ⟨rfl,M.out.ext⟩

theorem idxpo_any (A : Option Addr) (n c : Nat) (l : List Prog) (hw : ∀ p ∈ l,Prog.wt p ≤ 1048576) (w : World) (S : Nat → Prop) (hs : SlR Prog.R 2 w S A n l) (hm : n ≤ 9223372036854775807) :
  Calls Tryz.prog 151 #[.slice A n c,.func (.func 93) #[] #[]] w fun e w' => ∃ i : Int,e = .returned (.int .i64 i) ∧ ((i = -1 ∧ AllTo (fun _ x => progGood x) l l.length) ∨ (0 ≤ i ∧ ¬ AllTo (fun _ x => progGood x) l l.length)) ∧ Ext w w':=by
 have H:=hid (hs.1)
 have HS:=hid hs
 clear hs
 go_enter Tryz.func151,Tryz.ntmps151
 go_wp2
 go_loopw [8] (fun i wr => ∃ k : Nat,k ≤ n ∧ i = .int .i64 k ∧ AllTo (fun _ x => progGood x) l k ∧ Ext w wr) (fun i _ => n - (intOf i).toNat)
 case atStart => exact ⟨0,Nat.zero_le _,rfl,AllTo.zero _ _,Ext.refl' _⟩
 case round =>
  obtain ⟨k,hk,rfl,hup,hx⟩:=hrel
  have HU:=hid hup
  have HX:=hid hx
  clear hup hx
  by_cases hlt : (k : Int) < (n : Int)
  ·
   obtain ⟨b,o,rfl⟩:=HS.out.addr (by omega)
   obtain ⟨x,row,hsk,-,hrw,hc⟩:=(HS.out.ext Prog.R_good HX.out).at_ (k:=k) (by omega)
   have HRW:=hid hrw
   obtain ⟨A0,n0,c0,A1,n1,c1,rfl⟩:=Prog.R_cells hrw
   have k0:=hc 0 (by omega)
   have k1:=hc 1 (by omega)
   simp only [List.getElem?_cons_zero,List.getElem?_cons_succ,Nat.add_zero] at k0 k1
   have HSK:=hid hsk
   clear hsk hc hrw
   go_wp2_with fail
   refine (poC_any x _ S _ HRW.out (hw x (List.mem_of_getElem? HSK.out)) _ (Ext.refl' _)).mono ?_
   rintro e w2 ⟨rfl,x2⟩
   have X2:=hid (HX.out.tr x2)
   clear x2
   by_cases h0 : progGood x
   ·have H0:=hid h0
    rw [dec_yes h0]
    clear h0
    go_wp2
    go_roundw
    case rel => exact ⟨k + 1,by omega,by go_num,HU.out.succ HSK.out H0.out,X2.out⟩
    case measure => simp [intOf];omega
   ·have H0:=hid h0
    rw [dec_no h0]
    clear h0
    go_wp2
    go_ret
    exact ⟨k,rfl,.inr ⟨by omega,fun h => AllTo.not HSK.out (by have a:=H.out;omega) (fun q => H0.out q) h⟩,X2.out⟩
  ·have e : Hid (k = l.length):=by show k = _;have a:=H.out;omega
   go_wp2
   go_ret
   exact ⟨-1,rfl,.inl ⟨rfl,by rw [← e.out];exact HU.out⟩,HX.out⟩

theorem anypo_any (A : Option Addr) (n c : Nat) (l : List Prog) (hw : ∀ p ∈ l,Prog.wt p ≤ 1048576) (w : World) (S : Nat → Prop) (hs : SlR Prog.R 2 w S A n l) (hm : n ≤ 9223372036854775807) :
  Calls Tryz.prog 92 #[.slice A n c,.func (.func 93) #[] #[]] w fun e w' => e = .returned (.bool (!dec (AllTo (fun _ x => progGood x) l l.length))) ∧ Ext w w':=by
 go_enter Tryz.func92,Tryz.ntmps92
 go_wp2_with fail
 refine (idxpo_any _ _ _ _ hw _ _ hs hm).mono ?_
 rintro e w1 ⟨i,rfl,hi,x1⟩
 have X1:=hid x1
 clear x1
 rcases hi with ⟨rfl,hx⟩|⟨hi,hx⟩
 ·have HX:=hid hx
  clear hx
  go_wp2
  go_ret
  exact ⟨by rw [dec_yes HX.out];rfl,X1.out⟩
 ·have HX:=hid hx
  clear hx
  go_wp2
  go_ret
  exact ⟨by rw [dec_no HX.out];rfl,X1.out⟩
set_option maxRecDepth 8000 in
theorem impl_ScriptOk (x : Script) (cs : List Value) (w : World) (S : Nat → Prop) (h : Script.R w S cs x) (_hw : Script.wt x ≤ 1048576) :
  Calls Tryz.prog 42 #[.agg cs.toArray] w fun e w' => e = .returned (.bool (scriptOk x)) ∧ Ext w w':=by
 obtain ⟨v0,A2,n2,c2,A3,n3,c3,rfl,h0,⟨kh1,mh1,h1⟩,⟨kh2,mh2,h2⟩⟩:=h
 obtain ⟨A0,n0,c0,A1,n1,c1,rfl⟩:=Things.R_cells h0
 have hl3 : x.progs_.length = n2:=h1.1
 have hl4 : x.acts_.length = n3:=h2.flen GAct.cells_length (by omega)
 have hkl:=wtl_len Prog.wt x.progs_
 have hn2 : n2 ≤ 1048576:=by unfold Script.wt at _hw;omega
 have hn3 : n3 ≤ 1048576:=by unfold Script.wt at _hw;omega
 have HWT : Hid (Things.wt x.start_ ≤ 1048576):=by show _ ≤ _;unfold Script.wt at _hw;omega
 have HW : Hid (∀ k ∈ x.progs_,Prog.wt k ≤ 1048576):=fun k hk => by
  obtain ⟨i,hi⟩:=List.mem_iff_getElem?.1 hk
  have h1:=wtl_at Prog.wt hi
  unfold Script.wt at _hw;omega
 have H0:=hid h0
 have H1:=hid h1
 have HL3:=hid hl3
 have HL4:=hid hl4
 clear h0 h1 h2 hkl _hw hl3 hl4
 have M : Hid (Mine w (w.alloc (.cells #[.slice A0 n0 c0,.slice A1 n1 c1,.int .i64 x.start_.count_,.slice A2 n2 c2,.slice A3 n3 c3] 48)) [.box w.heap.size 48 #[.slice A0 n0 c0,.slice A1 n1 c1,.int .i64 x.start_.count_,.slice A2 n2 c2,.slice A3 n3 c3]]):=(Mine.refl w).box 48 #[.slice A0 n0 c0,.slice A1 n1 c1,.int .i64 x.start_.count_,.slice A2 n2 c2,.slice A3 n3 c3]
 show Calls Tryz.prog _ #[.agg #[.slice A0 n0 c0,.slice A1 n1 c1,.int .i64 x.start_.count_,.slice A2 n2 c2,.slice A3 n3 c3]] w _
 cases hto : thingsOk x.start_
 ·have HZ : Hid (scriptOk x = false):=dec_no fun z => by have h:=z.1;rw [hto] at h;cases h
  go_enter Tryz.func42,Tryz.ntmps42
  go_wp2_with (first|(go_at_call 91;refine zC M (impl_ThingsOk x.start_ _ _ S (Things.R_good.ext H0.out M.out.ext) HWT.out) ?_;clear M;intro w' M;rw [hto])|((with_reducible refine zN ?_);first|(refine zGs M.out 42 0 3 ?_;(try simp only [zr_,zm_]))))
  go_ret
  exact ⟨by rw [HZ.out];first|done|rfl,M.out.ext⟩
 by_cases h4 : n2 ≤ 4
 rotate_left
 ·have HZ : Hid (scriptOk x = false):=dec_no fun z => h4 (by have:=z.2.1;rw [HL3.out] at this;exact this)
  have d4 : decide ((n2 : Int) ≤ 4) = false:=decide_eq_false (by omega)
  clear h4
  go_enter Tryz.func42,Tryz.ntmps42
  go_wp2_with (first|(go_at_call 91;refine zC M (impl_ThingsOk x.start_ _ _ S (Things.R_good.ext H0.out M.out.ext) HWT.out) ?_;clear M;intro w' M;rw [hto])|((with_reducible refine zN ?_);first|(refine zGs M.out 42 0 3 ?_;(try simp only [zr_,zm_])))|((with_reducible show wpList _ _ _ (⟨_,.load _ _,_,_,_,some _⟩::_) _ _);first|(refine zGg M.out 0 ?_;(try simp only [zr_,zm_]))))
  go_ret
  exact ⟨by rw [HZ.out];first|done|rfl,M.out.ext⟩
 have H4:=hid h4
 have d4 : decide ((n2 : Int) ≤ 4) = true:=decide_eq_true (by omega)
 clear h4
 by_cases h5 : n3 ≤ 400
 rotate_left
 ·have HZ : Hid (scriptOk x = false):=dec_no fun z => h5 (by have:=z.2.2.1;rw [HL4.out] at this;exact this)
  have d5 : decide ((n3 : Int) ≤ 400) = false:=decide_eq_false (by omega)
  clear h5
  go_enter Tryz.func42,Tryz.ntmps42
  go_wp2_with (first|(go_at_call 91;refine zC M (impl_ThingsOk x.start_ _ _ S (Things.R_good.ext H0.out M.out.ext) HWT.out) ?_;clear M;intro w' M;rw [hto])|((with_reducible refine zN ?_);first|(refine zGs M.out 42 0 3 ?_;(try simp only [zr_,zm_])))|((with_reducible show wpList _ _ _ (⟨_,.load _ _,_,_,_,some _⟩::_) _ _);first|(refine zGg M.out 0 ?_;(try simp only [zr_,zm_]))))
  go_ret
  exact ⟨by rw [HZ.out];first|done|rfl,M.out.ext⟩
 have H5:=hid h5
 have d5 : decide ((n3 : Int) ≤ 400) = true:=decide_eq_true (by omega)
 clear h5
 have HTO:=hid hto
 cases hpa : dec (AllTo (fun _ p => progGood p) x.progs_ x.progs_.length)
 ·have HZ : Hid (scriptOk x = false):=dec_no fun z => dec_false hpa z.2.2.2
  go_enter Tryz.func42,Tryz.ntmps42
  go_wp2_with (first|(go_at_call 91;refine zC M (impl_ThingsOk x.start_ _ _ S (Things.R_good.ext H0.out M.out.ext) HWT.out) ?_;clear M;intro w' M;rw [hto])|(go_at_call 92;refine zC M (anypo_any A2 n2 c2 x.progs_ HW.out _ S (H1.out.ext Prog.R_good M.out.ext) (by omega)) ?_;clear M;intro w' M;rw [hpa])|((with_reducible refine zN ?_);first|(refine zGs M.out 42 0 3 ?_;(try simp only [zr_,zm_])))|((with_reducible show wpList _ _ _ (⟨_,.load _ _,_,_,_,some _⟩::_) _ _);first|(refine zGg M.out 0 ?_;(try simp only [zr_,zm_]))))
  go_ret
  exact ⟨by rw [HZ.out];first|done|rfl,M.out.ext⟩
 have HZ : Hid (scriptOk x = true):=dec_yes ⟨HTO.out,by rw [HL3.out];exact H4.out,by rw [HL4.out];exact H5.out,dec_true hpa⟩
 go_enter Tryz.func42,Tryz.ntmps42
 go_wp2_with (first|(go_at_call 91;refine zC M (impl_ThingsOk x.start_ _ _ S (Things.R_good.ext H0.out M.out.ext) HWT.out) ?_;clear M;intro w' M;rw [hto])|(go_at_call 92;refine zC M (anypo_any A2 n2 c2 x.progs_ HW.out _ S (H1.out.ext Prog.R_good M.out.ext) (by omega)) ?_;clear M;intro w' M;rw [hpa])|((with_reducible refine zN ?_);first|(refine zGs M.out 42 0 3 ?_;(try simp only [zr_,zm_])))|((with_reducible show wpList _ _ _ (⟨_,.load _ _,_,_,_,some _⟩::_) _ _);first|(refine zGg M.out 0 ?_;(try simp only [zr_,zm_]))))
 go_ret
 exact ⟨by rw [HZ.out];first|done|rfl,M.out.ext⟩

end Go.Proofs.YtoegjiigaoanbaaGreat
