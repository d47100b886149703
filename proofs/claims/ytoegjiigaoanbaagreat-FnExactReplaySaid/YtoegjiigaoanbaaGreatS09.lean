/- A serial walk of the program. No condition but lengths. Serial of both. No condition but right arguments. Words of SerialAll. No condition. SerialAll of the reference. No condition but right arguments. SerialAll of the program. No condition but right arguments. Settled and StampOf of program and reference. No condition. -/
import Derived.Test.YtoegjiigaoanbaaGreatS00
import Derived.Test.YtoegjiigaoanbaaGreatS08
import Derived.Deep.Cut
import Derived.Test.YtoegjiigaoanbaaGreatS03
namespace Go.Proofs.YtoegjiigaoanbaaGreat
open Go.RowKit Go.Deep
set_option linter.unnecessarySimpa false
set_option maxHeartbeats 400000000
open Go.Lib (hid)
set_option linter.unusedSimpArgs false
set_option linter.unusedVariables false

theorem Tryz.infoMarkI : (Tryz.prog.info? 285).map (fun i => (i.zero,i.size,i.bytes)) = some (some (.agg #[.int .i64 0,.slice none 0 0,.slice none 0 0,.slice none 0 0,.int .i64 0]),5,88):=by kernel_rfl
def Walk0I : Prop:=∀ (A : Option Addr) (n c : Nat) (l : List GOp) (R : Option Addr) (rc : Nat) (regs : List Int) (C : Option Addr) (cc : Nat) (P : Option Addr) (pc : Nat) (t : Things) (w : World),
 Sl w (fun _ => True) 4 A n (l.flatMap GOp.cells) → codeOk l = true → AllTo noFk l l.length → Sl w (fun _ => True) 1 R 4 (ints regs) → regsOk regs = true → Sl w (fun _ => True) 1 C 8 (ints t.cells_) → Sl w (fun _ => True) 1 P 8 (ints t.map_) → thingsOk t = true →
 Calls Tryz.prog 159 #[.slice A n c,.slice none 0 0,.slice none 0 0,.slice R 4 rc,.agg #[.slice C 8 cc,.slice P 8 pc,.int .i64 t.count_]] w fun e w' => WPost l F0 regs t w e w'

set_option maxRecDepth 16000 in
theorem impl_walk (A : Option Addr) (n c : Nat) (l : List GOp) (K : Option Addr) (kn kc : Nat) (kids : List Kid) (O : Option Addr) (on oc : Nat) (lo : List Int) (R : Option Addr) (rc : Nat) (regs : List Int) (C : Option Addr) (cc : Nat) (P : Option Addr) (pc : Nat) (t0 : Things) (F : FF) (w : World) (hs : Sl w (fun _ => True) 4 A n (l.flatMap GOp.cells)) (hc : codeOk l = true) (hr : Sl w (fun _ => True) 1 R 4 (ints regs)) (hro : regsOk regs = true) (h0 : Sl w (fun _ => True) 1 C 8 (ints t0.cells_)) (h1 : Sl w (fun _ => True) 1 P 8 (ints t0.map_)) (hth : thingsOk t0 = true) (hF : FOk F)
  (hfk : AllTo noFk l l.length ∨ (Walk0I ∧ F = forkF kids (fullOrd kn lo) ∧ SlR Kid.R 1 w (fun _ => True) K kn kids ∧ KidsOk kids ∧ kn ≤ 3 ∧ Sl w (fun _ => True) 1 O on (ints lo) ∧ ordOk kn lo = true)) :
  Calls Tryz.prog 159 #[.slice A n c,.slice K kn kc,.slice O on oc,.slice R 4 rc,.agg #[.slice C 8 cc,.slice P 8 pc,.int .i64 t0.count_]] w fun e w' => WPost l F regs t0 w e w':=by
 have hl : l.length = n:=hs.flen GOp.cells_length (by omega)
 have hn24 : n ≤ 24:=by have:=codeOk_len hc;omega
 have HS:=hid hs
 have HCO:=hid hc
 have HR:=hid hr
 have HRO:=hid hro
 have H0:=hid h0
 have H1:=hid h1
 have HTH:=hid hth
 have HL:=hid hl
 have HF:=hid hF
 have HFK:=hid hfk
 have M:=hid (Mine.refl w)
 clear hs hc hr hro h0 h1 hth hl hF hfk
 go_enter Tryz.func159,Tryz.ntmps159
 go_wp2_with (first|(go_at_call 157;(with_reducible refine (copyInts_any R 4 rc regs _ _ (HR.out.ext M.out.ext) (by omega)).mono ?_);rintro e w' ⟨A2,c2,rfl,o9,x9⟩;replace M:=hid (M.out.own o9 x9);clear o9 x9)|(go_at_call 99;(with_reducible refine (copyThings_m C 8 _ P 8 _ t0 _ _ _ (H0.out.ext M.out.ext) (by omega) (H1.out.ext M.out.ext) (by omega)).mono ?_);rintro e w' ⟨B0,d0,B1,d1,rfl,M9⟩;have M8:=M.out.call M9;replace M:=hid M8;clear M8 M9;simp only [List.cons_append,List.nil_append] at M)|((with_reducible refine zN ?_);first|(refine Mine.wp_box M.out rfl 42 _ rfl _ rfl ?_;intro ga w' M';(try simp only [zr_,zm_] at M');replace M:=hid M';clear M';(try simp only [zr_,zm_]))|(refine Mine.wp_alloc M.out rfl 111 rfl (.agg #[.int .i64 0,.slice none 0 0,.slice none 0 0,.slice none 0 0,.int .i64 0]) (by kernel_rfl) ?_;intro gr w' M';(try simp only [Value.cells,zr_,zm_] at M');replace M:=hid M';clear M';(try simp only [zr_,zm_]))|(refine Mine.wp_alloc M.out rfl 42 rfl (.agg #[.slice none 0 0,.slice none 0 0,.int .i64 0]) (by kernel_rfl) ?_;intro gs w' M';(try simp only [Value.cells,zr_,zm_] at M');replace M:=hid M';clear M';(try simp only [zr_,zm_]))|(refine zGs M.out 42 2 3 ?_;(try simp only [zr_,zm_]))|(refine zSs M.out 42 0 ?_;intro w' M';(try simp only [zr_,zm_] at M');replace M:=hid M';clear M')))
 have M9:=M.out.own (own_lit0 _ 285 5) ((Ext.refl' _).al _)
 have M7:=M9.perm (List.Perm.trans (List.Perm.trans (List.Perm.trans (List.Perm.trans (List.Perm.trans (List.Perm.trans (List.Perm.trans (List.Perm.cons _ (List.Perm.cons _ (List.Perm.cons _ (List.Perm.swap _ _ _)))) (List.Perm.cons _ (List.Perm.cons _ (List.Perm.swap _ _ _)))) (List.Perm.cons _ (List.Perm.swap _ _ _))) (List.Perm.swap _ _ _)) (List.Perm.cons _ (List.Perm.cons _ (List.Perm.swap _ _ _)))) (List.Perm.cons _ (List.Perm.swap _ _ _))) (List.Perm.cons _ (List.Perm.cons _ (List.Perm.cons _ (List.Perm.swap _ _ _))))) (List.Perm.cons _ (List.Perm.cons _ (List.Perm.swap _ _ _))))
 clear M M9
 go_loopw [3,12,13] (fun rv mv iv wr => WRel l F t0 ⟨0,regs,t0,[]⟩ 285 gs [.box gr 111 #[.int .i64 0,.slice none 0 0,.slice none 0 0,.slice none 0 0,.int .i64 0],.box ga 42 #[.slice C 8 cc,.slice P 8 pc,.int .i64 t0.count_]] w wr rv mv iv) (fun _ _ iv _ => n - (intOf iv).toNat)
 case atStart => exact ⟨⟨0,regs,t0,[]⟩,(_,_),(_,_),(_,_),_,_,[],rfl,rfl,rfl,rfl,WInv.zero HRO.out HTH.out,M7⟩
 case round =>
  clear M7
  obtain ⟨s,⟨RA,rd⟩,⟨CA,cd⟩,⟨PA,pd⟩,MA,mc,es,rfl,rfl,rfl,hes,hI,M1⟩:=hrel
  simp only [SRows,List.cons_append,List.nil_append] at M1
  obtain ⟨gR,rfl⟩:=M1.addr 0 rfl (by omega)
  obtain ⟨gC,rfl⟩:=M1.addr 1 rfl (by omega)
  obtain ⟨gP,rfl⟩:=M1.addr 2 rfl (by omega)
  have M:=hid M1
  have HI:=hid hI
  have HES:=hid hes
  have hml:=es_len hes hI.inv (by rw [HL.out];exact hn24)
  have hpl:=hI.inv.le
  rw [HL.out] at hpl
  clear M1 hI hes
  by_cases hlt : s.pc < n
  rotate_left
  ·as_aux_lemma =>
    obtain ⟨hru,hok⟩:=HI.out.done HCO.out HF.out HTH.out ⟨HRO.out,HTH.out,fun m hm => by cases hm⟩ (by rw [HL.out];omega)
    have HRU:=hid hru
    have HOK:=hid hok
    clear hru hok
    go_wp2_with (((with_reducible refine zN ?_);first|(refine zGs M.out 42 4 3 ?_;(try simp only [zr_,zm_]))|(refine zSs M.out 111 5 ?_;intro w' M';(try simp only [zr_,zm_] at M');replace M:=hid M';clear M')))
    refine bodyPost_ret (M.out.results_cell Tryz.results159 _ 5 rfl rfl _ Tryz.underlying111 (by rfl) (by kernel_rfl)) rfl ?_
    exact ⟨⟨1,s.regs,s.th⟩,(_,_),(_,_),(_,_),rfl,HRU.out,HOK.out,M.out.sub (sk_ (sk_ (sk_ s0_)))⟩
  have HLT : Hid (s.pc < n):=hlt
  have hpc : s.pc < 24:=by omega
  obtain ⟨b,oo,rfl⟩:=HS.out.addr (by omega)
  obtain ⟨o,ho,hrg,hb,-,-⟩:=code_at HS.out hlt
  have HRG:=hid hrg
  have HB:=hid hb
  have HO:=hid ho
  have HOP:=hid (codeOk_at HCO.out ho).1
  have HREG:=hid HI.out.ok.regs
  have HTHS:=hid (th_parts HI.out.ok.th)
  clear hrg hb ho
  obtain ⟨kd,a,b2,c2⟩:=o
  simp only [GOp.cells] at HRG
  by_cases e7 : kd = 7
  ·as_aux_lemma =>
    subst e7
    obtain ⟨⟨ha0,ha1⟩,⟨hb0,hb1⟩,hc0⟩:=ok7 HOP.out rfl
    simp only at ha0 ha1 hb0 hb1 hc0
    obtain ⟨ka,rfl⟩ : ∃ u : Nat,a = (u : Int):=⟨a.toNat,by omega⟩
    have hka : ka < 4:=by omega
    have hka1 : (ka : Int) < 4:=by omega
    have hsk:=(codeOk_at HCO.out HO.out).2.1 rfl
    have hbn : 0 ≤ b2:=by omega
    have HSKM:=hid (HI.out.inv.skip HO.out rfl hsk hbn)
    have hb20 : b2.toNat ≤ 20:=by omega
    obtain ⟨kb,rfl⟩ : ∃ u : Nat,b2 = (u : Int):=⟨b2.toNat,by omega⟩
    have hkb20 : kb ≤ 20:=by omega
    clear hsk hbn hb20
    have hbx:=regs_gi HREG.out (x:=(ka : Int)) ⟨by omega,by omega⟩
    have hcx:=ints_gi (l:=s.regs) (k:=ka) (by rw [regsOk_len HREG.out];exact hka)
    obtain ⟨x,hex⟩ : ∃ x,gi s.regs (ka : Int) = x:=⟨_,rfl⟩
    rw [hex] at hbx hcx
    obtain ⟨hbx0,hbx1⟩:=hbx
    have HX:=hid hcx
    have Ex:=hid hex
    clear hcx hex
    clear ha0 ha1 hb0 hb1 hc0
    by_cases hx0 : x = 0
    ·skip
     subst hx0
     have hst : stp l F ⟨7,(ka : Int),(kb : Int),c2⟩ s = some ⟨s.pc + 1 + kb,s.regs,s.th,s.ms⟩:=by
      rw [stp7 (by first|rfl|(simp only;omega))]
      simp only [Int.toNat_natCast,Ex.out,if_true]
     have HST:=hid hst
     clear hst
     simp only [Int.toNat_natCast] at HSKM
     go_wp2_with (((with_reducible refine zN ?_);first|((first|refine Mine.wp_arg M.out rfl 237 _ rfl _ _ rfl _ HRG.out HB.out _ Tryz.underlying237 (by rfl) (by kernel_rfl) ?_|refine zG M.out 0 ?_|refine Mine.wp_getr M.out rfl _ _ rfl 1 _ rfl rfl _ (by exact HX.out) _ (by first|exact Tryz.underlying3) (by rfl) ?_);(try simp only [zr_,zm_]))|(refine Mine.wp_alloc M.out rfl 237 rfl (.agg #[.int .i64 0,.int .i64 0,.int .i64 0,.int .i64 0]) (by kernel_rfl) ?_;intro go w' M';(try simp only [Value.cells,zr_,zm_] at M');replace M:=hid M';clear M';(try simp only [zr_,zm_]))|(refine zSs M.out 237 0 ?_;intro w' M';(try simp only [zr_,zm_] at M');replace M:=hid M';clear M')))
     go_roundw
     case rel => exact ⟨⟨s.pc + 1 + kb,s.regs,s.th,s.ms⟩,(some ⟨gR,0,none⟩,rd),(some ⟨gC,0,none⟩,cd),(some ⟨gP,0,none⟩,pd),MA,mc,es,rfl,rfl,by go_num,HES.out,HI.out.step HCO.out HF.out HO.out HST.out HSKM.out,M.out.tail⟩
     case measure => have:=HLT.out;simp [intOf];omega
    ·skip
     have bx : (x == 0) = false:=by simpa using hx0
     have hst : stp l F ⟨7,(ka : Int),(kb : Int),c2⟩ s = some ⟨s.pc + 1,s.regs,s.th,s.ms⟩:=by
      rw [stp7 (by first|rfl|(simp only;omega))]
      simp only [Int.toNat_natCast,Ex.out,if_neg hx0,Nat.add_zero]
     have HST:=hid hst
     clear hst
     clear hx0
     go_wp2_with (((with_reducible refine zN ?_);first|((first|refine Mine.wp_arg M.out rfl 237 _ rfl _ _ rfl _ HRG.out HB.out _ Tryz.underlying237 (by rfl) (by kernel_rfl) ?_|refine zG M.out 0 ?_|refine Mine.wp_getr M.out rfl _ _ rfl 1 _ rfl rfl _ (by exact HX.out) _ (by first|exact Tryz.underlying3) (by rfl) ?_);(try simp only [zr_,zm_]))|(refine Mine.wp_alloc M.out rfl 237 rfl (.agg #[.int .i64 0,.int .i64 0,.int .i64 0,.int .i64 0]) (by kernel_rfl) ?_;intro go w' M';(try simp only [Value.cells,zr_,zm_] at M');replace M:=hid M';clear M';(try simp only [zr_,zm_]))|(refine zSs M.out 237 0 ?_;intro w' M';(try simp only [zr_,zm_] at M');replace M:=hid M';clear M')))
     go_roundw
     case rel => exact ⟨⟨s.pc + 1,s.regs,s.th,s.ms⟩,(some ⟨gR,0,none⟩,rd),(some ⟨gC,0,none⟩,cd),(some ⟨gP,0,none⟩,pd),MA,mc,es,rfl,rfl,by go_num,HES.out,HI.out.plain HCO.out HF.out HO.out HST.out (by simp) (by simp) rfl rfl,M.out.tail⟩
     case measure => have:=HLT.out;simp [intOf];omega
  by_cases e8 : kd = 8
  ·skip
   subst e8
   clear e7
   have hst : stp l F ⟨8,a,b2,c2⟩ s = some ⟨s.pc + 1,s.regs,s.th,s.ms ++ [⟨s.pc,s.regs,s.th⟩]⟩:=stp8 rfl
   have HST:=hid hst
   clear hst
   go_wp2_with (((with_reducible refine zN ?_);first|((first|refine Mine.wp_arg M.out rfl 237 _ rfl _ _ rfl _ HRG.out HB.out _ Tryz.underlying237 (by rfl) (by kernel_rfl) ?_|refine zG M.out 0 ?_);(try simp only [zr_,zm_]))|(refine Mine.wp_alloc M.out rfl 237 rfl (.agg #[.int .i64 0,.int .i64 0,.int .i64 0,.int .i64 0]) (by kernel_rfl) ?_;intro go w' M';(try simp only [Value.cells,zr_,zm_] at M');replace M:=hid M';clear M';(try simp only [zr_,zm_]))|(refine zSs M.out 237 0 ?_;intro w' M';(try simp only [zr_,zm_] at M');replace M:=hid M';clear M')))
   refine zRH M.out 8 ?_
   intro w' M'
   replace M:=hid M'
   clear M'
   refine zXL 0 ?_;(try simp only [zs_,zl_])
   refine zXL 1 ?_;(try simp only [zs_,zl_])
   refine zXL 2 ?_;(try simp only [zs_,zl_])
   refine zTL 4 ?_;intro K hK;((refine zDs 42 5 3 ?_;(try simp only [zr_,zm_]);go_big_quiet_on))
   refine zNy 3 (fun K hK => ?_)
   go_simp
   go_at_call 157
   refine (copyInts_any _ 4 rd s.regs _ _ (M.out.row_sl 1 rfl) (by omega)).mono ?_
   rintro e w5 ⟨A2,c2x,rfl,o9,x9⟩
   replace M:=hid (M.out.own o9 x9)
   clear o9 x9
   refine hK.out _ _ (M.out.tail) ?_
   clear hK K
   (try simp only [zs_,zl_])
   refine zNy 5 (fun K hK => ?_)
   go_simp
   go_at_call 99
   refine (copyThings_m _ 8 cd _ 8 pd s.th _ _ _ (M.out.row_sl 3 rfl) (by omega) (M.out.row_sl 4 rfl) (by omega)).mono ?_
   rintro e w5 ⟨C9,cd9,P9,pd9,rfl,M4⟩
   replace M:=hid (M.out.call M4)
   simp only [List.cons_append,List.nil_append] at M
   clear M4
   refine hK.out _ _ (M.out.tail.tail.tail) ?_
   clear hK K
   (try simp only [zs_,zl_])
   refine zXL 6 ?_;(try simp only [zs_,zl_])
   refine zNy 7 (fun K hK => ?_)
   go_simp
   refine hK.out _ _ ((M.out.tail.tail.tail).al _) ?_
   clear hK K
   (try simp only [zs_,zl_])
   refine HQ.end_ (by kernel_rfl) ?_
   simp only [List.drop_succ_cons,List.drop_zero]
   go_wp2_with ((at_builtin;refine Mine.wp_push M.out rfl _ _ 283 rfl 285 _ _ _ Tryz.underlying283 Tryz.infoMarkI rfl (by omega) 7 rfl rfl _ _ rfl rfl rfl (by simp [Value.oneCell']) (by omega) (by unfold maxLen;omega) ?_;intro A7 c7 w' M';(try simp only [zr_,zm_] at M');replace M:=hid M';clear M'))
   have M9:=SRows.push (p2:=s.pc + 1) (ms:=s.ms ++ [⟨s.pc,s.regs,s.th⟩]) (R:=(some ⟨gR,0,none⟩,rd)) (C:=(some ⟨gC,0,none⟩,cd)) (P:=(some ⟨gP,0,none⟩,pd)) (r:=(_,_)) (c:=(_,_)) (m:=(_,_)) (B:=[.box gr 111 #[.int .i64 0,.slice none 0 0,.slice none 0 0,.slice none 0 0,.int .i64 0],.box ga 42 #[.slice C 8 cc,.slice P 8 pc,.int .i64 t0.count_]]) (M.out.sub (sk_ (sk_ (sk_ (sd_ s1_)))))
   have MF:=hid M9
   clear M9
   skip
   go_roundw
   case rel => exact ⟨⟨s.pc + 1,s.regs,s.th,s.ms ++ [⟨s.pc,s.regs,s.th⟩]⟩,(some ⟨gR,0,none⟩,rd),(some ⟨gC,0,none⟩,cd),(some ⟨gP,0,none⟩,pd),_,_,_,rfl,by rw [List.length_append];rfl,by go_num,by simp [HES.out],HI.out.step HCO.out HF.out HO.out HST.out (by simpa using HI.out.inv.begin HO.out rfl),MF.out⟩
   case measure => have:=HLT.out;simp [intOf];omega
  by_cases e9 : kd = 9
  ·as_aux_lemma =>
    subst e9
    clear e7 e8
    have hne : es ≠ []:=fun z => HI.out.inv.some_ HCO.out HO.out rfl (by rw [← HES.out,z];rfl)
    obtain ⟨es',e,rfl⟩:=es_snoc hne
    obtain ⟨hml1,hml2⟩:=ms_last HES.out
    have hms:=ms_snoc HES.out
    have HMS:=hid hms
    have HM1:=hid hml1
    have HM2:=hid hml2
    have hinv:=HI.out.inv
    rw [hms] at hinv
    obtain ⟨hm1,⟨o8,ho8,hk8⟩,-,-⟩:=hinv.last
    have HINV:=hid hinv
    have HO8:=hid ho8
    have HK8:=hid hk8
    have HEM:=hid (HI.out.ok.ms e.x (getLast_mem hml1))
    have hm24 : e.x.at_ < n:=by omega
    clear hml1 hml2 hms hinv hne
    obtain ⟨oa,hoa,-,hcb,-,hc1⟩:=code_at HS.out hm24
    rw [HO8.out] at hoa
    injection hoa with hoa
    subst hoa
    obtain ⟨⟨hx0,hx1⟩,-,-⟩:=ok8 (codeOk_at HCO.out HO8.out).1 HK8.out
    obtain ⟨ka,hka⟩ : ∃ u : Nat,o8.a_ = (u : Int):=⟨o8.a_.toNat,by omega⟩
    rw [hka] at hc1 hx1
    have hka4 : ka < 4:=by omega
    have hka1 : (ka : Int) < 4:=by omega
    have HAC : Hid (w.cell? ⟨b,oo + e.x.at_ * 4 + 1,none⟩ = some (.int .i64 (ka : Int)) ∧ b < w.heap.size):=⟨hc1,hcb⟩
    have HOA : Hid (opA l e.x.at_ = ka):=by show _ = _;rw [opA_is HO8.out,hka];rfl
    clear hc1 hcb hx0 hx1 hka ho8 hk8
    have M8:=SRows.front (s:=s) (R:=(some ⟨gR,0,none⟩,rd)) (C:=(some ⟨gC,0,none⟩,cd)) (P:=(some ⟨gP,0,none⟩,pd)) (B:=[.box gr 111 #[.int .i64 0,.slice none 0 0,.slice none 0 0,.slice none 0 0,.int .i64 0],.box ga 42 #[.slice C 8 cc,.slice P 8 pc,.int .i64 t0.count_]]) M.out
    rw [show (es' ++ [e]).length = es'.length + 1 from by simp] at hml ⊢
    simp only [List.cons_append,List.nil_append] at M8
    replace M:=hid M8
    clear M8
    obtain ⟨K,hK⟩ : ∃ K,es'.length = K:=⟨_,rfl⟩
    have HLE:=hid (marks_last es' e)
    rw [hK] at M hml HLE ⊢
    have HK:=hid hK
    clear hK
    obtain ⟨gM,rfl⟩:=M.out.addr 6 rfl (by omega)
    simp only [mcell] at HLE
    have hmc:=M.out.cap 6 rfl
    have hmc1 : K ≤ mc:=by omega
    have hst : stp l F ⟨9,a,b2,c2⟩ s = some ⟨s.pc + 1,s.regs.set ka 1,s.th,es'.map MEnt.x⟩:=by rw [stp9 rfl,HM1.out,HM2.out];simp only [HOA.out]
    have HST:=hid hst
    clear hst
    go_wp2_with (((with_reducible refine zN ?_);first|((first|refine Mine.wp_arg M.out rfl 237 _ rfl _ _ rfl _ HRG.out HB.out _ Tryz.underlying237 (by rfl) (by kernel_rfl) ?_|refine zG M.out 0 ?_|refine Mine.wp_getrs M.out rfl 285 _ rfl 7 _ rfl rfl [.int .i64 (e.x.at_ : Int),.slice e.r.1 4 e.r.2,.slice e.c.1 8 e.c.2,.slice e.m.1 8 e.m.2,.int .i64 e.x.th.count_] (fun k hk => HLE.out k hk) _ Tryz.underlying285 (by rfl) (by kernel_rfl) ?_|refine Mine.wp_argc M.out rfl _ _ rfl _ _ HAC.out rfl _ Tryz.underlying3 (by rfl) ?_);(try simp only [zr_,zm_]))|(refine Mine.wp_alloc M.out rfl 237 rfl (.agg #[.int .i64 0,.int .i64 0,.int .i64 0,.int .i64 0]) (by kernel_rfl) ?_;intro go w' M';(try simp only [Value.cells,zr_,zm_] at M');replace M:=hid M';clear M';(try simp only [zr_,zm_]))|((first|refine zSs M.out 237 0 ?_|refine zSs M.out 285 0 ?_|refine Mine.wp_put M.out rfl _ _ _ rfl rfl 5 _ rfl rfl _ (by (conv => lhs;whnf) <;> rfl) (by omega) (by rfl) (by kernel_rfl) ?_);intro w' M';(try simp only [zr_,zm_] at M');replace M:=hid M';clear M')|(refine Mine.wp_alloc M.out rfl 285 rfl (.agg #[.int .i64 0,.slice none 0 0,.slice none 0 0,.slice none 0 0,.int .i64 0]) (by kernel_rfl) ?_;intro gm w' M';(try simp only [Value.cells,zr_,zm_] at M');replace M:=hid M';clear M';(try simp only [zr_,zm_]))))
    have hk9:=HK.out
    have M7:=M.out.sub (sd_ (sd_ (sd_ (sd_ (sd_ (sk_ (sk_ (sk_ (sk_ (sk_ (sk_ (sk_ s1_))))))))))))
    rw [← hk9] at M7
    have MF:=hid (SRows.cut (p2:=s.pc + 1) (ms:=es'.map MEnt.x) (R:=(some ⟨gR,0,none⟩,rd)) (C:=(some ⟨gC,0,none⟩,cd)) (P:=(some ⟨gP,0,none⟩,pd)) (B:=[.box gr 111 #[.int .i64 0,.slice none 0 0,.slice none 0 0,.slice none 0 0,.int .i64 0],.box ga 42 #[.slice C 8 cc,.slice P 8 pc,.int .i64 t0.count_]]) M7)
    clear M7 hk9
    go_roundw
    case rel => exact ⟨⟨s.pc + 1,s.regs.set ka 1,s.th,es'.map MEnt.x⟩,(some ⟨gR,0,none⟩,rd),(some ⟨gC,0,none⟩,cd),(some ⟨gP,0,none⟩,pd),_,_,es',rfl,by rw [HK.out],by go_num,rfl,HI.out.step HCO.out HF.out HO.out HST.out (HINV.out.end_ HO.out rfl),MF.out⟩
    case measure => have:=HLT.out;simp [intOf];omega
  by_cases e10 : kd = 10
  ·as_aux_lemma =>
    subst e10
    clear e7 e8 e9
    by_cases hne : es = []
    ·subst hne
     have hms : s.ms = []:=HES.out.symm
     have hst : stp l F ⟨10,a,b2,c2⟩ s = none:=by rw [stp10 rfl,hms];rfl
     obtain ⟨hru,hok⟩:=HI.out.abort HCO.out HF.out HTH.out ⟨HRO.out,HTH.out,fun m hm => by cases hm⟩ HO.out hst
     have HRU:=hid hru
     have HOK:=hid hok
     clear hru hok hst hms
     go_wp2_with (first|(go_at_call 99;(with_reducible refine (copyThings_m C 8 cc P 8 pc t0 _ _ _ (H0.out.ext M.out.ext) (by omega) (H1.out.ext M.out.ext) (by omega)).mono ?_);rintro e w' ⟨C9,cd9,P9,pd9,rfl,M9⟩;have M8:=M.out.call M9;replace M:=hid M8;clear M8 M9;simp only [List.cons_append,List.nil_append] at M)|((with_reducible refine zN ?_);first|((first|refine Mine.wp_arg M.out rfl 237 _ rfl _ _ rfl _ HRG.out HB.out _ Tryz.underlying237 (by rfl) (by kernel_rfl) ?_|refine zG M.out 0 ?_|refine zGs M.out 42 7 3 ?_);(try simp only [zr_,zm_]))|(refine Mine.wp_alloc M.out rfl 237 rfl (.agg #[.int .i64 0,.int .i64 0,.int .i64 0,.int .i64 0]) (by kernel_rfl) ?_;intro go w' M';(try simp only [Value.cells,zr_,zm_] at M');replace M:=hid M';clear M';(try simp only [zr_,zm_]))|((first|refine zSs M.out 237 0 ?_|refine zSs M.out 111 8 ?_);intro w' M';(try simp only [zr_,zm_] at M');replace M:=hid M';clear M')))
     refine bodyPost_ret (M.out.results_cell Tryz.results159 _ 8 rfl rfl _ Tryz.underlying111 (by rfl) (by kernel_rfl)) rfl ?_
     exact ⟨⟨2,s.regs,t0⟩,(_,_),(_,_),(_,_),rfl,HRU.out,HOK.out,(M.out.perm (List.Perm.trans (List.Perm.trans (List.Perm.cons _ (List.Perm.cons _ (List.Perm.swap _ _ _))) (List.Perm.cons _ (List.Perm.swap _ _ _))) (List.Perm.swap _ _ _))).sub (sk_ (sk_ (sk_ (sd_ (sd_ (sd_ (sd_ (sd_ (sd_ (sd_ s0_))))))))))⟩
    obtain ⟨es',e,rfl⟩:=es_snoc hne
    obtain ⟨hml1,hml2⟩:=ms_last HES.out
    have hms:=ms_snoc HES.out
    have HMS:=hid hms
    have HM1:=hid hml1
    have HM2:=hid hml2
    have hinv:=HI.out.inv
    rw [hms] at hinv
    obtain ⟨hm1,⟨o8,ho8,hk8⟩,-,-⟩:=hinv.last
    have HINV:=hid hinv
    have HO8:=hid ho8
    have HK8:=hid hk8
    have HEM:=hid (HI.out.ok.ms e.x (getLast_mem hml1))
    have hm24 : e.x.at_ < n:=by omega
    clear hml1 hml2 hms hinv hne
    obtain ⟨oa,hoa,-,hcb,-,hc1⟩:=code_at HS.out hm24
    rw [HO8.out] at hoa
    injection hoa with hoa
    subst hoa
    obtain ⟨⟨hx0,hx1⟩,-,-⟩:=ok8 (codeOk_at HCO.out HO8.out).1 HK8.out
    obtain ⟨ka,hka⟩ : ∃ u : Nat,o8.a_ = (u : Int):=⟨o8.a_.toNat,by omega⟩
    rw [hka] at hc1 hx1
    have hka4 : ka < 4:=by omega
    have hka1 : (ka : Int) < 4:=by omega
    have HAC : Hid (w.cell? ⟨b,oo + e.x.at_ * 4 + 1,none⟩ = some (.int .i64 (ka : Int)) ∧ b < w.heap.size):=⟨hc1,hcb⟩
    have HOA : Hid (opA l e.x.at_ = ka):=by show _ = _;rw [opA_is HO8.out,hka];rfl
    clear hc1 hcb hx0 hx1 hka ho8 hk8
    have M8:=SRows.front (s:=s) (R:=(some ⟨gR,0,none⟩,rd)) (C:=(some ⟨gC,0,none⟩,cd)) (P:=(some ⟨gP,0,none⟩,pd)) (B:=[.box gr 111 #[.int .i64 0,.slice none 0 0,.slice none 0 0,.slice none 0 0,.int .i64 0],.box ga 42 #[.slice C 8 cc,.slice P 8 pc,.int .i64 t0.count_]]) M.out
    rw [show (es' ++ [e]).length = es'.length + 1 from by simp] at hml ⊢
    simp only [List.cons_append,List.nil_append] at M8
    replace M:=hid M8
    clear M8
    obtain ⟨K,hK⟩ : ∃ K,es'.length = K:=⟨_,rfl⟩
    have HLE:=hid (marks_last es' e)
    rw [hK] at M hml HLE ⊢
    have HK:=hid hK
    clear hK
    obtain ⟨gM,rfl⟩:=M.out.addr 6 rfl (by omega)
    simp only [mcell] at HLE
    have hmc:=M.out.cap 6 rfl
    have hmc1 : K ≤ mc:=by omega
    obtain ⟨e1,he1⟩:=end_ex HCO.out HO8.out HK8.out
    have hgt:=HINV.out.end_gt he1 HO.out (by simp)
    have hab:=HINV.out.abort he1 HO.out (by simp)
    have HAB:=hid hab
    have HE1:=hid he1
    have heo:=endOf_is he1
    have hen : e1 < n:=by have:=he1.2.1;rw [HL.out] at this;exact this
    have HEN : Hid (s.pc < e1):=hgt
    skip
    have hst : stp l F ⟨10,a,b2,c2⟩ s = some ⟨e1 + 1,e.x.regs.set ka 0,e.x.th,es'.map MEnt.x⟩:=by rw [stp10 rfl,HM1.out,HM2.out];simp only [HOA.out,heo]
    have HST:=hid hst
    clear hst heo hab he1
    obtain ⟨gE,hgE⟩ : ∃ g,e.r.1 = some ⟨g,0,none⟩:=M.out.addr 0 rfl (by omega)
    rw [hgE] at M HLE
    have HGE:=hid hgE
    clear hgE
    go_wp2_with (((with_reducible refine zN ?_);first|((first|refine Mine.wp_arg M.out rfl 237 _ rfl _ _ rfl _ HRG.out HB.out _ Tryz.underlying237 (by rfl) (by kernel_rfl) ?_|refine Mine.wp_getrs M.out rfl 285 _ rfl 7 _ rfl rfl [.int .i64 (e.x.at_ : Int),.slice (some ⟨gE,0,none⟩) 4 e.r.2,.slice e.c.1 8 e.c.2,.slice e.m.1 8 e.m.2,.int .i64 e.x.th.count_] (fun k hk => HLE.out k hk) _ Tryz.underlying285 (by rfl) (by kernel_rfl) ?_|refine zG M.out 0 ?_);(try simp only [zr_,zm_]))|(refine Mine.wp_alloc M.out rfl 237 rfl (.agg #[.int .i64 0,.int .i64 0,.int .i64 0,.int .i64 0]) (by kernel_rfl) ?_;intro go w' M';(try simp only [Value.cells,zr_,zm_] at M');replace M:=hid M';clear M';(try simp only [zr_,zm_]))|((first|refine zSs M.out 237 0 ?_|refine zSs M.out 285 0 ?_);intro w' M';(try simp only [zr_,zm_] at M');replace M:=hid M';clear M')|(refine Mine.wp_alloc M.out rfl 285 rfl (.agg #[.int .i64 0,.slice none 0 0,.slice none 0 0,.slice none 0 0,.int .i64 0]) (by kernel_rfl) ?_;intro gm w' M';(try simp only [Value.cells,zr_,zm_] at M');replace M:=hid M';clear M';(try simp only [zr_,zm_]))))
    refine zRH M.out 5 ?_
    intro w' M'
    replace M:=hid M'
    clear M'
    refine zXL 0 ?_;(try simp only [zs_,zl_])
    refine zTL 1 ?_;intro K hK;((refine zD 0 ?_;(try simp only [zr_,zm_]);go_big_quiet_on))
    refine zXL 2 ?_;(try simp only [zs_,zl_])
    refine zTL 3 ?_;intro K hK;((refine zDs 42 0 3 ?_;(try simp only [zr_,zm_]);go_big_quiet_on))
    refine zXL 4 ?_;(try simp only [zs_,zl_])
    refine HQ.end_ (by kernel_rfl) ?_
    simp only [List.drop_succ_cons,List.drop_zero]
    go_wp2_with (first|(go_at_call 207;(with_reducible refine (impl_EndOf _ n c l _ _ (HS.out.ext M.out.ext) (by omega) e.x.at_ e1 o8 HO8.out HK8.out HE1.out).mono ?_);rintro e9 w' ⟨rfl,x9⟩;replace M:=hid (M.out.on x9);clear x9)|((with_reducible refine zN ?_);first|((first|refine zSs M.out 42 9 ?_|refine Mine.wp_put M.out rfl _ _ _ rfl rfl 2 _ rfl rfl _ (by (conv => lhs;whnf) <;> rfl) (by omega) (by rfl) (by kernel_rfl) ?_);intro w' M';(try simp only [zr_,zm_] at M');replace M:=hid M';clear M')|((first|refine Mine.wp_argc M.out rfl _ _ rfl _ _ HAC.out rfl _ Tryz.underlying3 (by rfl) ?_|refine zG M.out 0 ?_);(try simp only [zr_,zm_]))))
    have hk9:=HK.out
    have M7:=M.out.sub (sd_ (sd_ (sk_ (sk_ (sk_ (sd_ (sd_ (sd_ (sk_ (sk_ (sk_ (sk_ s1_))))))))))))
    rw [← hk9] at M7
    have MF:=hid (SRows.cut (p2:=e1 + 1) (ms:=es'.map MEnt.x) (th:=e.x.th) (regs:=e.x.regs.set ka 0) (R:=(some ⟨gE,0,none⟩,e.r.2)) (C:=e.c) (P:=e.m) (B:=[.box gr 111 #[.int .i64 0,.slice none 0 0,.slice none 0 0,.slice none 0 0,.int .i64 0],.box ga 42 #[.slice C 8 cc,.slice P 8 pc,.int .i64 t0.count_]]) M7)
    clear M7 hk9
    go_roundw
    case rel => exact ⟨⟨e1 + 1,e.x.regs.set ka 0,e.x.th,es'.map MEnt.x⟩,(some ⟨gE,0,none⟩,e.r.2),e.c,e.m,_,_,es',rfl,by rw [HK.out],by go_num,rfl,HI.out.step HCO.out HF.out HO.out HST.out HAB.out,MF.out⟩
    case measure => have:=HLT.out;have:=HEN.out;simp [intOf];omega
  by_cases e11 : kd = 11
  ·as_aux_lemma =>
    subst e11
    clear e7 e8 e9 e10
    rcases HFK.out with hnf|⟨hl0,hFF,hkids,hko,hkn3,hlo,hord⟩
    ·exact absurd rfl (hnf s.pc (by rw [HL.out];exact HLT.out) _ HO.out)
    have hkl : kids.length = kn:=hkids.1
    have hol : lo.length = on:=hlo.len
    have hon : on ≤ 3:=by have h:=full_le hord;unfold fullOrd at h;rw [List.length_append,hol] at h;omega
    have HL0:=hid hl0
    have HFF:=hid hFF
    have HKD:=hid hkids
    have HKO:=hid hko
    have HLO:=hid hlo
    have HND:=hid (full_nodup hord)
    have HIN:=hid (full_in hord)
    have HFL:=hid (full_le hord)
    have HORD:=hid hord
    have HKL:=hid hkl
    obtain ⟨fo,hfo⟩ : ∃ fo,fullOrd kn lo = fo:=⟨_,rfl⟩
    rw [hfo] at HND HIN HFL HFF
    have HFO:=hid hfo
    clear hl0 hFF hkids hko hlo hord hkl hol hfo HFK
    go_wp2_with (first|(go_at_call 157;(with_reducible refine (copyInts_any _ 4 rd s.regs _ _ (M.out.row_sl 1 rfl) (by omega)).mono ?_);rintro e w' ⟨A5,c5,rfl,o9,x9⟩;replace M:=hid (M.out.own o9 x9);clear o9 x9)|(go_at_call 208;(with_reducible refine (impl_fullOrder O on oc lo kn hkn3 _ _ (HLO.out.ext M.out.ext) (by omega) HORD.out).mono ?_);rintro e w' ⟨F5,fm,fd,rfl,hfm,M9⟩;rw [HFO.out] at M9;have M8:=M.out.call M9;replace M:=hid M8;clear M8 M9;simp only [List.cons_append,List.nil_append] at M)|((with_reducible refine zN ?_);first|((first|refine Mine.wp_arg M.out rfl 237 _ rfl _ _ rfl _ HRG.out HB.out _ Tryz.underlying237 (by rfl) (by kernel_rfl) ?_|refine zG M.out 0 ?_);(try simp only [zr_,zm_]))|(refine Mine.wp_alloc M.out rfl 237 rfl (.agg #[.int .i64 0,.int .i64 0,.int .i64 0,.int .i64 0]) (by kernel_rfl) ?_;intro go w' M';(try simp only [Value.cells,zr_,zm_] at M');replace M:=hid M';clear M';(try simp only [zr_,zm_]))|(refine zSs M.out 237 0 ?_;intro w' M';(try simp only [zr_,zm_] at M');replace M:=hid M';clear M')))
    have hfl : fo.length = fm:=by have h:=M.out.len1 0 rfl;rw [ints_length] at h;exact h
    have HFM:=hid hfl
    clear hfl
    go_loopw [141] (fun qv wx => ∃ (q : Nat) (CC : Option Addr × Nat),q ≤ fm ∧ qv = .int .i64 (q : Int) ∧ Hid (Mine w wx (.row 3 1 F5 fm fd (ints fo)::.row 3 1 A5 4 c5 (ints s.regs)::.box go 237 #[.int .i64 11,.int .i64 a,.int .i64 b2,.int .i64 c2]::SRows 285 gs ⟨s.pc,(forkF kids (fo.take q) s.regs s.th.cells_).1,⟨(forkF kids (fo.take q) s.regs s.th.cells_).2,s.th.map_,s.th.count_⟩,s.ms⟩ (some ⟨gR,0,none⟩,rd) CC (some ⟨gP,0,none⟩,pd) MA mc es [.box gr 111 #[.int .i64 0,.slice none 0 0,.slice none 0 0,.slice none 0 0,.int .i64 0],.box ga 42 #[.slice C 8 cc,.slice P 8 pc,.int .i64 t0.count_]]))) (fun qv _ => fm - (intOf qv).toNat)
    case atStart => exact ⟨0,(some ⟨gC,0,none⟩,cd),Nat.zero_le _,rfl,M⟩
    case round =>
     clear M
     obtain ⟨q,⟨CB,cb⟩,hq,rfl,M1⟩:=hrel
     by_cases hqo : q < fm
     rotate_left
     ·skip
      have hte : fo.take q = fo:=List.take_of_length_le (by rw [HFM.out];omega)
      rw [hte] at M1
      have hfe : forkF kids fo = F:=by rw [HFF.out]
      rw [hfe] at M1
      have hst : stp l F ⟨11,a,b2,c2⟩ s = some ⟨s.pc + 1,(F s.regs s.th.cells_).1,⟨(F s.regs s.th.cells_).2,s.th.map_,s.th.count_⟩,s.ms⟩:=stp11 rfl
      have HST:=hid hst
      clear hst hfe hte
      go_wp2
      go_roundw
      case rel => exact ⟨⟨s.pc + 1,(F s.regs s.th.cells_).1,⟨(F s.regs s.th.cells_).2,s.th.map_,s.th.count_⟩,s.ms⟩,(some ⟨gR,0,none⟩,rd),(CB,cb),(some ⟨gP,0,none⟩,pd),MA,mc,es,rfl,rfl,by go_num,HES.out,HI.out.plain HCO.out HF.out HO.out HST.out (by simp) (by simp) rfl rfl,M1.out.tail.tail.tail⟩
      case measure => have:=HLT.out;simp [intOf];omega
     have HQO : Hid (q < fm):=hqo
     obtain ⟨k,hk⟩ : ∃ k,fo[q]? = some k:=⟨_,List.getElem?_eq_getElem (by rw [HFM.out];exact hqo)⟩
     have hkin:=HIN.out k (List.mem_of_getElem? hk)
     have HKX:=hid hk
     obtain ⟨kk,rfl⟩ : ∃ u : Nat,k = (u : Int):=⟨k.toNat,by omega⟩
     have hkk : kk < kn:=by omega
     have hkk1 : (kk : Int) < (kn : Int):=by omega
     have hkk4 : kk < 4:=by omega
     have hkk41 : (kk : Int) < 4:=by omega
     have HFX : Hid ((ints fo)[q]? = some (.int .i64 (kk : Int))):=by show (ints fo)[q]? = _;unfold ints;rw [List.getElem?_map,hk];rfl
     clear hk hkin
     obtain ⟨bK,oK,kid,D0,dn0,dc0,rfl,hkid,hbK,hck,hsl,hlen,-⟩:=kid_at HKD.out hkk
     have HKID:=hid hkid
     have HKH : Hid (w.cell? ⟨bK,oK + kk,none⟩ = some (.slice D0 dn0 dc0) ∧ bK < w.heap.size):=⟨hck,hbK⟩
     have HSL:=hid hsl
     have HKK:=hid (HKO.out kid (List.mem_of_getElem? hkid))
     clear hkid hbK hck hsl hlen
     have M:=hid M1.out
     simp only [SRows,List.cons_append,List.nil_append] at M
     clear M1
     obtain ⟨gF,rfl⟩:=M.out.addr 0 rfl (by omega)
     obtain ⟨gB,rfl⟩:=M.out.addr 4 rfl (by omega)
     have hfok:=fork_ok (lo:=fo.take q) HKO.out (fun x hx => by rw [HKL.out];exact HIN.out x (List.mem_of_mem_take hx)) s.regs s.th.cells_ HREG.out HTHS.out.1
     have hfs:=fork_snoc kids (fo.take q) s.regs s.th.cells_ (kk : Int)
     rw [← take_snoc HKX.out] at hfs
     unfold forkStep at hfs
     obtain ⟨rq,hrq⟩ : ∃ c,(forkF kids (fo.take q) s.regs s.th.cells_).1 = c:=⟨_,rfl⟩
     obtain ⟨cq,hcq⟩ : ∃ c,(forkF kids (fo.take q) s.regs s.th.cells_).2 = c:=⟨_,rfl⟩
     rw [hcq,hrq] at hfok M hfs
     rw [Int.toNat_natCast] at hfs
     have HFS:=hid hfs
     have HTQ : Hid (thingsOk ⟨cq,zeros8,0⟩ = true):=th_mk hfok.2 zeros_ok ⟨by omega,by omega⟩
     have hrl : rq.length = 4:=regsOk_len hfok.1
     have HRQL:=hid hrl
     clear hcq hrq hfok hfs hrl
     go_wp2_with (((with_reducible refine zN ?_);first|(refine Mine.wp_getr M.out rfl _ _ rfl 0 _ rfl rfl _ (by exact HFX.out) _ (by first|exact Tryz.underlying3) (by rfl) ?_;(try simp only [zr_,zm_]))))
     refine zRH M.out 12 ?_
     intro w' M'
     replace M:=hid M'
     clear M'
     refine zXL 0 ?_;(try simp only [zs_,zl_])
     refine zXL 1 ?_;(try simp only [zs_,zl_])
     refine zXL 2 ?_;(try simp only [zs_,zl_])
     refine zXL 3 ?_;(try simp only [zs_,zl_])
     refine zTL 4 ?_;intro K hK;((refine Mine.rd_arg 81 _ rfl _ _ HKH.out rfl _ Tryz.underlying81 (by rfl) ?_;(try simp only [zr_,zm_]);go_big_quiet_on))
     refine zXL 5 ?_;(try simp only [zs_,zl_])
     refine zXL 6 ?_;(try simp only [zs_,zl_])
     refine zTL 7 ?_;intro K hK;((refine zD 7 ?_;(try simp only [zr_,zm_]);go_big_quiet_on))
     refine HQ.noisy (rs:=[8,11]) (by kernel_rfl) (by simp) (AllG.cons rfl (Nat.le_of_ble_eq_true rfl) (fun K hK => ?_) (AllG.cons rfl (Nat.le_of_ble_eq_true rfl) (fun K hK => ?_) AllG.nil))
     refine Mine.step_make M.out rfl 22 _ _ rfl 3 _ _ _ Tryz.underlying22 Tryz.infoInt 8 rfl rfl (by omega) (by unfold maxLen;omega) ?_
     intro gz w6 M6
     rw [made_zeros] at M6
     replace M:=hid M6
     clear M6
     refine hK.out _ _ (M.out.tail) ?_
     clear hK K
     (try simp only [zs_,zl_])
     refine zXL 9 ?_;(try simp only [zs_,zl_])
     refine HQ.noisy (rs:=[10,11]) (by kernel_rfl) (by simp) (AllG.cons rfl (Nat.le_of_ble_eq_true rfl) (fun K hK => ?_) (AllG.cons rfl (Nat.le_of_ble_eq_true rfl) (fun K hK => ?_) AllG.nil))
     go_simp
     go_at_call 159
     refine (HL0.out D0 dn0 dc0 kid.code_ _ c5 s.regs _ cb _ 8 ⟨cq,zeros8,0⟩ _ (HSL.out.ext M.out.ext) (dec_true HKK.out).1 (kid_nofk HKK.out) (M.out.row_sl 2 rfl) HREG.out (M.out.row_sl 5 rfl) (M.out.row_sl 0 rfl) HTQ.out).mono ?_
     rintro e w5 ⟨r,⟨RR,rr⟩,⟨RC,rcc⟩,⟨RP,rp⟩,rfl,hrun,hrok,M4⟩
     replace M:=hid (M.out.call M4)
     simp only [List.cons_append,List.nil_append] at M
     have HRUN:=hid hrun
     have HROK:=hid hrok
     clear M4 hrun hrok
     refine hK.out _ _ (M.out.tail.tail.tail.tail) ?_
     clear hK K
     (try simp only [zs_,zl_])
     refine zNy 11 (fun K hK => ?_)
     go_simp
     replace M:=hid (M.out.box 111 #[.int .i64 0,.slice none 0 0,.slice none 0 0,.slice none 0 0,.int .i64 0])
     refine hK.out _ _ (M.out.tail.tail.tail.tail.tail) ?_
     clear hK K
     (try simp only [zs_,zl_])
     refine HQ.end_ (by kernel_rfl) ?_
     simp only [List.drop_succ_cons,List.drop_zero]
     generalize w5.heap.size = gN at M ⊢
     replace M:=hid (M.out.perm (List.Perm.trans (List.Perm.trans (List.Perm.swap _ _ _) (List.Perm.cons _ (List.Perm.swap _ _ _))) (List.Perm.cons _ (List.Perm.cons _ (List.Perm.swap _ _ _)))))
     rotate_left
     go_simp
     replace M:=hid (M.out.box 111 #[.int .i64 0,.slice none 0 0,.slice none 0 0,.slice none 0 0,.int .i64 0])
     refine hK.out _ _ (M.out.tail.tail) ?_
     clear hK K
     (try simp only [zs_,zl_])
     generalize w6.heap.size = gN at M ⊢
     refine zNy 10 (fun K hK => ?_)
     go_simp
     go_at_call 159
     refine (HL0.out D0 dn0 dc0 kid.code_ _ c5 s.regs _ cb _ 8 ⟨cq,zeros8,0⟩ _ (HSL.out.ext M.out.ext) (dec_true HKK.out).1 (kid_nofk HKK.out) (M.out.row_sl 3 rfl) HREG.out (M.out.row_sl 6 rfl) (M.out.row_sl 1 rfl) HTQ.out).mono ?_
     rintro e w5 ⟨r,⟨RR,rr⟩,⟨RC,rcc⟩,⟨RP,rp⟩,rfl,hrun,hrok,M4⟩
     replace M:=hid (M.out.call M4)
     simp only [List.cons_append,List.nil_append] at M
     have HRUN:=hid hrun
     have HROK:=hid hrok
     clear M4 hrun hrok
     refine hK.out _ _ (M.out.tail.tail.tail.tail.tail) ?_
     clear hK K
     (try simp only [zs_,zl_])
     refine HQ.end_ (by kernel_rfl) ?_
     simp only [List.drop_succ_cons,List.drop_zero]
     rotate_left
     go_simp
     replace M:=hid (M.out.box 111 #[.int .i64 0,.slice none 0 0,.slice none 0 0,.slice none 0 0,.int .i64 0])
     refine hK.out _ _ (M.out.tail) ?_
     clear hK K
     (try simp only [zs_,zl_])
     generalize w'.heap.size = gN at M ⊢
     refine zNy 8 (fun K hK => ?_)
     refine Mine.step_make M.out rfl 22 _ _ rfl 3 _ _ _ Tryz.underlying22 Tryz.infoInt 8 rfl rfl (by omega) (by unfold maxLen;omega) ?_
     intro gz w6 M6
     rw [made_zeros] at M6
     replace M:=hid M6
     clear M6
     refine hK.out _ _ (M.out.tail.tail) ?_
     clear hK K
     (try simp only [zs_,zl_])
     refine zXL 9 ?_;(try simp only [zs_,zl_])
     refine zNy 10 (fun K hK => ?_)
     go_simp
     go_at_call 159
     refine (HL0.out D0 dn0 dc0 kid.code_ _ c5 s.regs _ cb _ 8 ⟨cq,zeros8,0⟩ _ (HSL.out.ext M.out.ext) (dec_true HKK.out).1 (kid_nofk HKK.out) (M.out.row_sl 3 rfl) HREG.out (M.out.row_sl 6 rfl) (M.out.row_sl 0 rfl) HTQ.out).mono ?_
     rintro e w5 ⟨r,⟨RR,rr⟩,⟨RC,rcc⟩,⟨RP,rp⟩,rfl,hrun,hrok,M4⟩
     replace M:=hid (M.out.call M4)
     simp only [List.cons_append,List.nil_append] at M
     have HRUN:=hid hrun
     have HROK:=hid hrok
     clear M4 hrun hrok
     refine hK.out _ _ (M.out.tail.tail.tail.tail.tail) ?_
     clear hK K
     (try simp only [zs_,zl_])
     refine HQ.end_ (by kernel_rfl) ?_
     simp only [List.drop_succ_cons,List.drop_zero]
     replace M:=hid (M.out.perm (List.Perm.cons _ (List.Perm.cons _ (List.Perm.cons _ (List.Perm.swap _ _ _)))))
     rotate_left
     all_goals (
      obtain ⟨gX,rfl⟩:=M.out.addr 0 rfl (by omega)
      have hkv : kidRun kids s.regs cq (kk : Int) = r:=by
       unfold kidRun
       rw [Int.toNat_natCast,List.getD_eq_getElem?_getD,HKID.out]
       exact run0_is HRUN.out
      have hfs:=HFS.out
      rw [hkv] at hfs
      have hf1:=congrArg Prod.fst hfs
      have hf2:=congrArg Prod.snd hfs
      simp only at hf1 hf2
      unfold kidVal at hf1
      have HF1:=hid hf1
      have HF2:=hid hf2
      have hx:=regs_gi HROK.out.regs (x:=0) ⟨by omega,by omega⟩
      have hci:=ints_gi (l:=r.regs_) (k:=0) (by rw [regsOk_len HROK.out.regs];omega)
      rw [show ((0 : Nat) : Int) = 0 from rfl] at hci
      obtain ⟨x,hxe⟩ : ∃ x,gi r.regs_ 0 = x:=⟨_,rfl⟩
      rw [hxe] at hx hci
      have HX:=hid hci
      have HXE:=hid hxe
      clear hf1 hf2 hfs hkv hci hxe hx
      have hout:=HROK.out.out
      by_cases ho1 : r.out_ = 1
      ·skip
       have b1 : (r.out_ == 1) = true:=by simp [ho1]
       have HN:=HF1.out
       simp only [ho1,↓reduceIte,HXE.out] at HN
       have HNX:=hid HN
       clear HN ho1 hout
       go_wp2_with (((with_reducible refine zN ?_);first|((first|refine zSs M.out 111 3 ?_|refine zS M.out 12 ?_|refine Mine.wp_put M.out rfl _ _ _ rfl rfl 8 _ rfl rfl _ (by (conv => lhs;whnf) <;> rfl) (by omega) (by rfl) (by kernel_rfl) ?_);intro w' M';(try simp only [zr_,zm_] at M');replace M:=hid M';clear M')|((first|refine zG M.out 3 ?_|refine Mine.wp_getr M.out rfl _ _ rfl 0 _ rfl rfl _ (by exact HX.out) _ (by first|exact Tryz.underlying3) (by rfl) ?_);(try simp only [zr_,zm_]))))
       have M9:=(M.out.sub (sd_ (sk_ (sd_ (sd_ (sd_ (sk_ (sk_ (sk_ (sk_ (sd_ (sk_ (sk_ (sk_ (sk_ (sk_ s1_)))))))))))))))).perm (List.Perm.trans (List.Perm.trans (List.Perm.trans (List.Perm.swap _ _ _) (List.Perm.cons _ (List.Perm.swap _ _ _))) (List.Perm.cons _ (List.Perm.cons _ (List.Perm.swap _ _ _)))) (List.Perm.cons _ (List.Perm.cons _ (List.Perm.cons _ (List.Perm.swap _ _ _)))))
       simp only [List.set_set] at M9
       rw [← HF2.out,← HNX.out] at M9
       have MF:=hid M9
       clear M9
       go_roundw
       case rel => exact ⟨q + 1,(_,_),HQO.out,by go_num,MF⟩
       case measure => have:=HQO.out;simp [intOf];omega
      ·skip
       have b1 : (r.out_ == 1) = false:=by simp [ho1]
       have HN:=HF1.out
       simp only [ho1,↓reduceIte,HXE.out] at HN
       have HNX:=hid HN
       clear HN ho1 hout
       go_wp2_with (((with_reducible refine zN ?_);first|((first|refine zSs M.out 111 3 ?_|refine zS M.out 12 ?_|refine Mine.wp_put M.out rfl _ _ _ rfl rfl 8 _ rfl rfl _ (by (conv => lhs;whnf) <;> rfl) (by omega) (by rfl) (by kernel_rfl) ?_);intro w' M';(try simp only [zr_,zm_] at M');replace M:=hid M';clear M')|(refine zG M.out 3 ?_;(try simp only [zr_,zm_]))))
       have M9:=(M.out.sub (sd_ (sk_ (sd_ (sd_ (sd_ (sk_ (sk_ (sk_ (sk_ (sd_ (sk_ (sk_ (sk_ (sk_ (sk_ s1_)))))))))))))))).perm (List.Perm.trans (List.Perm.trans (List.Perm.trans (List.Perm.swap _ _ _) (List.Perm.cons _ (List.Perm.swap _ _ _))) (List.Perm.cons _ (List.Perm.cons _ (List.Perm.swap _ _ _)))) (List.Perm.cons _ (List.Perm.cons _ (List.Perm.cons _ (List.Perm.swap _ _ _)))))
       skip
       rw [← HF2.out,← HNX.out] at M9
       have MF:=hid M9
       clear M9
       go_roundw
       case rel => exact ⟨q + 1,(_,_),HQO.out,by go_num,MF⟩
       case measure => have:=HQO.out;simp [intOf];omega
     )
  by_cases e1 : kd = 1
  ·as_aux_lemma =>
    subst e1
    clear e7 e8 e9 e10 e11
    have hst : stp l F ⟨1,a,b2,c2⟩ s = some ⟨s.pc + 1,calcF ⟨1,a,b2,c2⟩ s.regs,s.th,s.ms⟩:=stp1 (by simp)
    have HST:=hid hst
    clear hst
    go_wp2_with (first|(go_at_call 206;(with_reducible refine (impl_Calc 1 a b2 c2 _ 4 rd s.regs _ _ (M.out.row_sl 1 rfl) HOP.out (by omega) HREG.out).mono ?_);rintro e w' ⟨R9,rd9,rfl,o9,x9⟩;replace M:=hid (M.out.own o9 x9);clear o9 x9)|((with_reducible refine zN ?_);first|((first|refine Mine.wp_arg M.out rfl 237 _ rfl _ _ rfl _ HRG.out HB.out _ Tryz.underlying237 (by rfl) (by kernel_rfl) ?_|refine zG M.out 0 ?_|refine zGs M.out 237 0 4 ?_);(try simp only [zr_,zm_]))|(refine Mine.wp_alloc M.out rfl 237 rfl (.agg #[.int .i64 0,.int .i64 0,.int .i64 0,.int .i64 0]) (by kernel_rfl) ?_;intro go w' M';(try simp only [Value.cells,zr_,zm_] at M');replace M:=hid M';clear M';(try simp only [zr_,zm_]))|(refine zSs M.out 237 0 ?_;intro w' M';(try simp only [zr_,zm_] at M');replace M:=hid M';clear M')))
    obtain ⟨gR9,rfl⟩:=M.out.addr 0 rfl (by omega)
    go_roundw
    case rel => exact ⟨⟨s.pc + 1,calcF ⟨1,a,b2,c2⟩ s.regs,s.th,s.ms⟩,(some ⟨gR9,0,none⟩,rd9),(some ⟨gC,0,none⟩,cd),(some ⟨gP,0,none⟩,pd),MA,mc,es,rfl,rfl,by go_num,HES.out,HI.out.plain HCO.out HF.out HO.out HST.out (by simp) (by simp) rfl rfl,M.out.sub (sk_ (sd_ (sd_ (sk_ s1_))))⟩
    case measure => have:=HLT.out;simp [intOf];omega
  by_cases e2 : kd = 2
  ·as_aux_lemma =>
    subst e2
    clear e7 e8 e9 e10 e11 e1
    have hst : stp l F ⟨2,a,b2,c2⟩ s = some ⟨s.pc + 1,calcF ⟨2,a,b2,c2⟩ s.regs,s.th,s.ms⟩:=stp1 (by simp)
    have HST:=hid hst
    clear hst
    go_wp2_with (first|(go_at_call 206;(with_reducible refine (impl_Calc 2 a b2 c2 _ 4 rd s.regs _ _ (M.out.row_sl 1 rfl) HOP.out (by omega) HREG.out).mono ?_);rintro e w' ⟨R9,rd9,rfl,o9,x9⟩;replace M:=hid (M.out.own o9 x9);clear o9 x9)|((with_reducible refine zN ?_);first|((first|refine Mine.wp_arg M.out rfl 237 _ rfl _ _ rfl _ HRG.out HB.out _ Tryz.underlying237 (by rfl) (by kernel_rfl) ?_|refine zG M.out 0 ?_|refine zGs M.out 237 0 4 ?_);(try simp only [zr_,zm_]))|(refine Mine.wp_alloc M.out rfl 237 rfl (.agg #[.int .i64 0,.int .i64 0,.int .i64 0,.int .i64 0]) (by kernel_rfl) ?_;intro go w' M';(try simp only [Value.cells,zr_,zm_] at M');replace M:=hid M';clear M';(try simp only [zr_,zm_]))|(refine zSs M.out 237 0 ?_;intro w' M';(try simp only [zr_,zm_] at M');replace M:=hid M';clear M')))
    obtain ⟨gR9,rfl⟩:=M.out.addr 0 rfl (by omega)
    go_roundw
    case rel => exact ⟨⟨s.pc + 1,calcF ⟨2,a,b2,c2⟩ s.regs,s.th,s.ms⟩,(some ⟨gR9,0,none⟩,rd9),(some ⟨gC,0,none⟩,cd),(some ⟨gP,0,none⟩,pd),MA,mc,es,rfl,rfl,by go_num,HES.out,HI.out.plain HCO.out HF.out HO.out HST.out (by simp) (by simp) rfl rfl,M.out.sub (sk_ (sd_ (sd_ (sk_ s1_))))⟩
    case measure => have:=HLT.out;simp [intOf];omega
  by_cases e3 : kd = 3
  ·as_aux_lemma =>
    subst e3
    clear e7 e8 e9 e10 e11 e1 e2
    have hst : stp l F ⟨3,a,b2,c2⟩ s = some ⟨s.pc + 1,calcF ⟨3,a,b2,c2⟩ s.regs,s.th,s.ms⟩:=stp1 (by simp)
    have HST:=hid hst
    clear hst
    go_wp2_with (first|(go_at_call 206;(with_reducible refine (impl_Calc 3 a b2 c2 _ 4 rd s.regs _ _ (M.out.row_sl 1 rfl) HOP.out (by omega) HREG.out).mono ?_);rintro e w' ⟨R9,rd9,rfl,o9,x9⟩;replace M:=hid (M.out.own o9 x9);clear o9 x9)|((with_reducible refine zN ?_);first|((first|refine Mine.wp_arg M.out rfl 237 _ rfl _ _ rfl _ HRG.out HB.out _ Tryz.underlying237 (by rfl) (by kernel_rfl) ?_|refine zG M.out 0 ?_|refine zGs M.out 237 0 4 ?_);(try simp only [zr_,zm_]))|(refine Mine.wp_alloc M.out rfl 237 rfl (.agg #[.int .i64 0,.int .i64 0,.int .i64 0,.int .i64 0]) (by kernel_rfl) ?_;intro go w' M';(try simp only [Value.cells,zr_,zm_] at M');replace M:=hid M';clear M';(try simp only [zr_,zm_]))|(refine zSs M.out 237 0 ?_;intro w' M';(try simp only [zr_,zm_] at M');replace M:=hid M';clear M')))
    obtain ⟨gR9,rfl⟩:=M.out.addr 0 rfl (by omega)
    go_roundw
    case rel => exact ⟨⟨s.pc + 1,calcF ⟨3,a,b2,c2⟩ s.regs,s.th,s.ms⟩,(some ⟨gR9,0,none⟩,rd9),(some ⟨gC,0,none⟩,cd),(some ⟨gP,0,none⟩,pd),MA,mc,es,rfl,rfl,by go_num,HES.out,HI.out.plain HCO.out HF.out HO.out HST.out (by simp) (by simp) rfl rfl,M.out.sub (sk_ (sd_ (sd_ (sk_ s1_))))⟩
    case measure => have:=HLT.out;simp [intOf];omega
  by_cases e4 : kd = 4
  ·as_aux_lemma =>
    subst e4
    clear e7 e8 e9 e10 e11 e1 e2 e3
    have hst : stp l F ⟨4,a,b2,c2⟩ s = some ⟨s.pc + 1,calcF ⟨4,a,b2,c2⟩ s.regs,s.th,s.ms⟩:=stp1 (by simp)
    have HST:=hid hst
    clear hst
    go_wp2_with (first|(go_at_call 206;(with_reducible refine (impl_Calc 4 a b2 c2 _ 4 rd s.regs _ _ (M.out.row_sl 1 rfl) HOP.out (by omega) HREG.out).mono ?_);rintro e w' ⟨R9,rd9,rfl,o9,x9⟩;replace M:=hid (M.out.own o9 x9);clear o9 x9)|((with_reducible refine zN ?_);first|((first|refine Mine.wp_arg M.out rfl 237 _ rfl _ _ rfl _ HRG.out HB.out _ Tryz.underlying237 (by rfl) (by kernel_rfl) ?_|refine zG M.out 0 ?_|refine zGs M.out 237 0 4 ?_);(try simp only [zr_,zm_]))|(refine Mine.wp_alloc M.out rfl 237 rfl (.agg #[.int .i64 0,.int .i64 0,.int .i64 0,.int .i64 0]) (by kernel_rfl) ?_;intro go w' M';(try simp only [Value.cells,zr_,zm_] at M');replace M:=hid M';clear M';(try simp only [zr_,zm_]))|(refine zSs M.out 237 0 ?_;intro w' M';(try simp only [zr_,zm_] at M');replace M:=hid M';clear M')))
    obtain ⟨gR9,rfl⟩:=M.out.addr 0 rfl (by omega)
    go_roundw
    case rel => exact ⟨⟨s.pc + 1,calcF ⟨4,a,b2,c2⟩ s.regs,s.th,s.ms⟩,(some ⟨gR9,0,none⟩,rd9),(some ⟨gC,0,none⟩,cd),(some ⟨gP,0,none⟩,pd),MA,mc,es,rfl,rfl,by go_num,HES.out,HI.out.plain HCO.out HF.out HO.out HST.out (by simp) (by simp) rfl rfl,M.out.sub (sk_ (sd_ (sd_ (sk_ s1_))))⟩
    case measure => have:=HLT.out;simp [intOf];omega
  have HTK : Hid (kd = 5 ∨ kd = 6 ∨ (12 ≤ kd ∧ kd ≤ 16)):=by have h:=opOk_kind HOP.out;simp only at h;show _ ∨ _;omega
  as_aux_lemma =>
   have hq7 : (kd == 7) = false:=by simpa using e7
   have hq8 : (kd == 8) = false:=by simpa using e8
   have hq9 : (kd == 9) = false:=by simpa using e9
   have hq10 : (kd == 10) = false:=by simpa using e10
   have hq11 : (kd == 11) = false:=by simpa using e11
   have hq1 : (kd == 1) = false:=by simpa using e1
   have hq2 : (kd == 2) = false:=by simpa using e2
   have hq3 : (kd == 3) = false:=by simpa using e3
   have hq4 : (kd == 4) = false:=by simpa using e4
   have HK5 : Hid (kd ≠ 8 ∧ kd ≠ 9):=⟨by omega,by omega⟩
   clear e7 e8 e9 e10 e11 e1 e2 e3 e4
   go_wp2_with (first|(go_at_call 209;have M5:=M.out.perm (List.Perm.trans (List.Perm.trans (List.Perm.trans (List.Perm.trans (List.Perm.swap _ _ _) (List.Perm.cons _ (List.Perm.swap _ _ _))) (List.Perm.cons _ (List.Perm.cons _ (List.Perm.swap _ _ _)))) (List.Perm.cons _ (List.Perm.cons _ (List.Perm.cons _ (List.Perm.swap _ _ _))))) (List.Perm.cons _ (List.Perm.cons _ (List.Perm.cons _ (List.Perm.cons _ (List.Perm.swap _ _ _))))));refine (touch_m kd a b2 c2 _ rd s.regs _ cd _ pd s.th _ _ _ _ _ HTK.out HOP.out HREG.out HTHS.out M5).mono ?_;(try clear M5);rintro e w' ⟨rfl,rg,th9,hst9,M9⟩;replace M:=hid M9;have HST9:=hid hst9;clear M9 hst9)|((with_reducible refine zN ?_);first|((first|refine Mine.wp_arg M.out rfl 237 _ rfl _ _ rfl _ HRG.out HB.out _ Tryz.underlying237 (by rfl) (by kernel_rfl) ?_|refine zG M.out 0 ?_|refine zGs M.out 237 0 4 ?_);(try simp only [zr_,zm_]))|(refine Mine.wp_alloc M.out rfl 237 rfl (.agg #[.int .i64 0,.int .i64 0,.int .i64 0,.int .i64 0]) (by kernel_rfl) ?_;intro go w' M';(try simp only [Value.cells,zr_,zm_] at M');replace M:=hid M';clear M';(try simp only [zr_,zm_]))|(refine zSs M.out 237 0 ?_;intro w' M';(try simp only [zr_,zm_] at M');replace M:=hid M';clear M')))
   have HST:=hid (HST9.out l F s.pc s.ms)
   go_roundw
   case rel => exact ⟨⟨s.pc + 1,rg,th9,s.ms⟩,(some ⟨gR,0,none⟩,rd),(some ⟨gC,0,none⟩,cd),(some ⟨gP,0,none⟩,pd),MA,mc,es,rfl,rfl,by go_num,HES.out,HI.out.plain HCO.out HF.out HO.out HST.out HK5.out.1 HK5.out.2 rfl rfl,M.out.sub (sk_ (sk_ (sk_ (sk_ (sk_ (sd_ s1_))))))⟩
   case measure => have:=HLT.out;simp [intOf];omega

end Go.Proofs.YtoegjiigaoanbaaGreat
namespace Go.Proofs.YtoegjiigaoanbaaGreat
open Go.RowKit Go.Deep
set_option linter.unnecessarySimpa false
set_option maxHeartbeats 400000000
open Go.Lib (hid)
set_option linter.unusedSimpArgs false
set_option linter.unusedVariables false

theorem walk0S : Walk0S:=fun A n c l R rc regs C cc P pc t w hs hc hn hr hro h0 h1 ht =>
 spec_walk A n c l none 0 0 [] none 0 0 [] R rc regs C cc P pc t F0 w hs hc hr hro h0 h1 ht F0_ok (.inl hn)
theorem walk0I : Walk0I:=fun A n c l R rc regs C cc P pc t w hs hc hn hr hro h0 h1 ht =>
 impl_walk A n c l none 0 0 [] none 0 0 [] R rc regs C cc P pc t F0 w hs hc hr hro h0 h1 ht F0_ok (.inl hn)
def SPost (p : Prog) (lo : List Int) (t : Things) (w : World) (e : Ending) (w' : World) : Prop :=
 ∃ (R C P : Option Addr × Nat × Nat),e = .returned (.agg #[.int .i64 (serialF p lo t).out_,.slice R.1 R.2.1 R.2.2,.slice C.1 C.2.1 C.2.2,.slice P.1 P.2.1 P.2.2,.int .i64 (serialF p lo t).things_.count_]) ∧
  Mine w w' [.row 3 1 R.1 R.2.1 R.2.2 (ints (serialF p lo t).regs_),.row 3 1 C.1 C.2.1 C.2.2 (ints (serialF p lo t).things_.cells_),.row 3 1 P.1 P.2.1 P.2.2 (ints (serialF p lo t).things_.map_)]
theorem SPost.bad {p : Prog} {lo : List Int} {t : Things} {w w' : World} {rs : List Res} (h : serialF p lo t = zRun) (M : Mine w w' rs) : SPost p lo t w (.returned (.agg #[.int .i64 0,.slice none 0 0,.slice none 0 0,.slice none 0 0,.int .i64 0])) w':=by
 refine ⟨(none,0,0),(none,0,0),(none,0,0),by rw [h];rfl,?_⟩
 rw [h]
 exact (((M.sub s0_).nil 3 1).nil 3 1).nil 3 1
theorem SPost.good {p : Prog} {lo : List Int} {t : Things} {w w0 w' : World} {e : Ending} {rs : List Res} (ho : ordOk p.kids_.length lo = true) (M : Mine w w0 rs) (h : WPost p.code_ (forkF p.kids_ (fullOrd p.kids_.length lo)) regs0 t w0 e w') : SPost p lo t w e w':=by
 obtain ⟨r,R,C,P,rfl,hr,-,M2⟩:=h
 have e1 : serialF p lo t = r:=by unfold serialF;rw [if_pos ho];exact runF_is hr
 refine ⟨(R.1,4,R.2),(C.1,8,C.2),(P.1,8,P.2),by rw [e1],?_⟩
 rw [e1]
 exact (M.call M2).sub (List.sublist_append_left _ _)

set_option maxRecDepth 8000 in
theorem spec_Serial (p : Prog) (cs : List Value) (O : Option Addr) (on oc : Nat) (lo : List Int) (C : Option Addr) (cc : Nat) (P : Option Addr) (pc : Nat) (th : Things) (w : World) (h : Prog.R w (fun _ => True) cs p) (_hw : Prog.wt p ≤ 1048576) (hp : progOk p = true) (ho : Sl w (fun _ => True) 1 O on (ints lo)) (hon : on ≤ 1048576) (hoc : on ≤ oc) (g0 : Sl w (fun _ => True) 1 C 8 (ints th.cells_)) (g1 : Sl w (fun _ => True) 1 P 8 (ints th.map_)) (hcc : 8 ≤ cc) (hpc : 8 ≤ pc) (hth : thingsOk th = true) :
  Calls Tryz.prog 83 #[.agg cs.toArray,.slice O on oc,.agg #[.slice C 8 cc,.slice P 8 pc,.int .i64 th.count_]] w fun e w' => SPost p lo th w e w':=by
 have HPR:=hid h
 obtain ⟨A0,n0,c0,A1,n1,c1,rfl,⟨kh0,mh0,h0⟩,⟨kh1,mh1,h1⟩⟩:=h
 have hl1 : p.kids_.length = n1:=h1.1
 have hk3:=progOk_le hp
 have hn3 : n1 ≤ 3:=by omega
 have hn31 : (n1 : Int) ≤ 3:=by omega
 have HPW : Hid (Prog.wt p ≤ 1048576):=_hw
 have HA:=hid h0
 have HK:=hid h1
 have HL1:=hid hl1
 have HPO:=hid hp
 have HO:=hid ho
 have HTHO:=hid hth
 have G0:=hid g0
 have G1:=hid g1
 have HTR : Hid (Things.R w (fun _ => True) [.slice C 8 cc,.slice P 8 pc,.int .i64 th.count_] th):=⟨C,8,cc,P,8,pc,rfl,⟨hcc,by omega,g0⟩,⟨hpc,by omega,g1⟩⟩
 have HTW : Hid (Things.wt th ≤ 1048576):=by have a:=g0.len;have b:=g1.len;show _ ≤ _;unfold Things.wt;omega
 have hpk:=hp
 have hthk:=hth
 clear h0 h1 hl1 hk3 _hw ho hth g0 g1 hp
 have M:=hid (Mine.refl w)
 show Calls Tryz.prog _ #[.agg #[.slice A0 n0 c0,.slice A1 n1 c1],_,_] w _
 cases hord : ordOk n1 lo
 ·skip
  have HOK:=hid hord
  have HZ:=hid (serial_bad (p:=p) (t:=th) (by rw [HL1.out];exact hord))
  clear hord
  go_enter Tryz.func83,Tryz.ntmps83
  go_wp2_with (first|(go_at_call 79;refine zC M (spec_ProgOk p [.slice A0 n0 c0,.slice A1 n1 c1] _ _ (Prog.R_good.ext HPR.out M.out.ext) HPW.out) ?_;clear M;intro w' M;rw [hpk])|(go_at_call 78;refine zC M (spec_ThingsOk th [.slice C 8 cc,.slice P 8 pc,.int .i64 th.count_] _ _ (Things.R_good.ext HTR.out M.out.ext) HTW.out) ?_;clear M;intro w' M;rw [hthk])|(go_at_call 137;(with_reducible refine (spec_l7Order O on oc lo n1 hn3 _ _ (HO.out.ext M.out.ext) hon).mono ?_);rintro e w' ⟨B5,m5,d5,rfl,x9,hmo⟩;rw [HOK.out];replace M:=hid (M.out.on x9);have HMO:=hid hmo;clear hmo)|((with_reducible refine zN ?_);first|(refine Mine.wp_box M.out rfl 84 _ rfl _ rfl ?_;intro gp w' M';(try simp only [zr_,zm_] at M');replace M:=hid M';clear M';(try simp only [zr_,zm_]))|(refine Mine.wp_box M.out rfl 42 _ rfl _ rfl ?_;intro gt w' M';(try simp only [zr_,zm_] at M');replace M:=hid M';clear M';(try simp only [zr_,zm_]))|(refine Mine.wp_alloc M.out rfl 111 rfl (.agg #[.int .i64 0,.slice none 0 0,.slice none 0 0,.slice none 0 0,.int .i64 0]) (by kernel_rfl) ?_;intro gr w' M';(try simp only [Value.cells,zr_,zm_] at M');replace M:=hid M';clear M';(try simp only [zr_,zm_]))|((first|refine zGs M.out 84 2 2 ?_|refine zG M.out 2 ?_);(try simp only [zr_,zm_]))|(refine zSs M.out 111 0 ?_;intro w' M';(try simp only [zr_,zm_] at M');replace M:=hid M';clear M'))|((with_reducible show wpList _ _ _ (⟨_,.load _ _,_,_,_,some _⟩::_) _ _);first|(refine Mine.wp_getsg M.out (by rfl) 42 _ rfl 1 _ 3 rfl rfl (Nat.le_of_ble_eq_true rfl) _ Tryz.underlying42 (by rfl) (by kernel_rfl) ?_;(try simp only [zr_,zm_]))))
  refine bodyPost_ret (M.out.results_cell Tryz.results83 _ 0 rfl rfl _ Tryz.underlying111 (by rfl) (by kernel_rfl)) rfl ?_
  exact SPost.bad HZ.out M.out
 have HOK:=hid hord
 clear hord
 go_enter Tryz.func83,Tryz.ntmps83
 go_wp2_with (first|(go_at_call 79;refine zC M (spec_ProgOk p [.slice A0 n0 c0,.slice A1 n1 c1] _ _ (Prog.R_good.ext HPR.out M.out.ext) HPW.out) ?_;clear M;intro w' M;rw [hpk])|(go_at_call 78;refine zC M (spec_ThingsOk th [.slice C 8 cc,.slice P 8 pc,.int .i64 th.count_] _ _ (Things.R_good.ext HTR.out M.out.ext) HTW.out) ?_;clear M;intro w' M;rw [hthk])|(go_at_call 137;(with_reducible refine (spec_l7Order O on oc lo n1 hn3 _ _ (HO.out.ext M.out.ext) hon).mono ?_);rintro e w' ⟨B5,m5,d5,rfl,x9,hmo⟩;rw [HOK.out];obtain ⟨hm5,M9⟩:=hmo.out HOK.out;have M8:=M.out.call M9;replace M:=hid M8;have HM5:=hid hm5;clear M8 M9 hmo x9 hm5;simp only [List.cons_append,List.nil_append] at M)|((with_reducible refine zN ?_);first|(refine Mine.wp_box M.out rfl 84 _ rfl _ rfl ?_;intro gp w' M';(try simp only [zr_,zm_] at M');replace M:=hid M';clear M';(try simp only [zr_,zm_]))|(refine Mine.wp_box M.out rfl 42 _ rfl _ rfl ?_;intro gt w' M';(try simp only [zr_,zm_] at M');replace M:=hid M';clear M';(try simp only [zr_,zm_]))|(refine Mine.wp_alloc M.out rfl 111 rfl (.agg #[.int .i64 0,.slice none 0 0,.slice none 0 0,.slice none 0 0,.int .i64 0]) (by kernel_rfl) ?_;intro gr w' M';(try simp only [Value.cells,zr_,zm_] at M');replace M:=hid M';clear M';(try simp only [zr_,zm_]))|((first|refine zGs M.out 84 2 2 ?_|refine zG M.out 2 ?_);(try simp only [zr_,zm_])))|((with_reducible show wpList _ _ _ (⟨_,.load _ _,_,_,_,some _⟩::_) _ _);first|(refine Mine.wp_getsg M.out (by rfl) 42 _ rfl 1 _ 3 rfl rfl (Nat.le_of_ble_eq_true rfl) _ Tryz.underlying42 (by rfl) (by kernel_rfl) ?_;(try simp only [zr_,zm_]))))
 clear hpk hthk
 refine zRH M.out 8 ?_
 intro w' M'
 replace M:=hid M'
 clear M'
 refine zXL 0 ?_;(try simp only [zs_,zl_])
 refine zTL 1 ?_;intro K hK;((refine zD 3 ?_;(try simp only [zr_,zm_]);go_big_quiet_on))
 refine zXL 2 ?_;(try simp only [zs_,zl_])
 refine zTL 3 ?_;intro K hK;((refine zD 3 ?_;(try simp only [zr_,zm_]);go_big_quiet_on))
 refine zXL 4 ?_;(try simp only [zs_,zl_])
 refine zTL 6 ?_;intro K hK;((refine zDs 42 2 3 ?_;(try simp only [zr_,zm_]);go_big_quiet_on))
 refine zNy 5 (fun K hK => ?_)
 refine Mine.step_make M.out rfl 22 _ _ rfl 3 _ _ _ Tryz.underlying22 Tryz.infoInt 4 rfl rfl (by omega) (by unfold maxLen;omega) ?_
 intro gz w6 M6
 rw [made_zeros] at M6
 replace M:=hid M6
 clear M6
 refine hK.out _ _ (M.out.tail) ?_
 clear hK K
 (try simp only [zs_,zl_])
 refine zNy 7 (fun K hK => ?_)
 have hfl:=(M.out.row_sl 1 rfl).len
 have hnd:=full_nodup HOK.out
 have hin:=full_in HOK.out
 have HFL:=hid hfl
 go_simp
 go_at_call 138
 refine (spec_walk A0 n0 c0 p.code_ A1 n1 c1 p.kids_ B5 m5 d5 (fullOrd n1 lo) (some ⟨gz,0,none⟩) 4 regs0 C cc P pc th (forkF p.kids_ (fullOrd n1 lo)) _ (HA.out.ext M.out.ext) (progOk_code HPO.out) (M.out.row_sl 0 rfl) regs0_ok (G0.out.ext M.out.ext) (G1.out.ext M.out.ext) HTHO.out (fork_ok (progOk_kids HPO.out) (by rw [HL1.out];exact hin)) (.inr ⟨walk0S,rfl,HK.out.ext Kid.R_good M.out.ext,progOk_kids HPO.out,hn3,M.out.row_sl 1 rfl,HM5.out,hnd,(by rw [HL1.out];exact hin),fun j hj => full_all j (by rw [HL1.out] at hj;exact hj)⟩)).mono ?_
 rintro e w5 hwp
 have HWP:=hid hwp
 obtain ⟨r,⟨RR,rr⟩,⟨RC,rcc⟩,⟨RP,rp⟩,rfl,hrun,-,M4⟩:=hwp
 have HRUN:=hid hrun
 replace M:=hid (M.out.call M4)
 simp only [List.cons_append,List.nil_append] at M
 clear M4 hrun
 refine hK.out _ _ (M.out.tail.tail.tail.tail) ?_
 clear hK K
 (try simp only [zs_,zl_])
 refine HQ.end_ (by kernel_rfl) ?_
 simp only [List.drop_succ_cons,List.drop_zero]
 go_wp2_with (((with_reducible refine zN ?_);first|(refine zSs M.out 111 5 ?_;intro w' M';(try simp only [zr_,zm_] at M');replace M:=hid M';clear M')))
 refine bodyPost_ret (M.out.results_cell Tryz.results83 _ 5 rfl rfl _ Tryz.underlying111 (by rfl) (by kernel_rfl)) rfl ?_
 have e1 : serialF p lo th = r:=by unfold serialF;rw [HL1.out,if_pos HOK.out];exact runF_is HRUN.out
 refine ⟨(RR,4,rr),(RC,8,rcc),(RP,8,rp),by rw [e1],?_⟩
 rw [e1]
 exact M.out.sub (sk_ (sk_ (sk_ s0_)))
set_option maxRecDepth 8000 in
theorem impl_Serial (p : Prog) (cs : List Value) (O : Option Addr) (on oc : Nat) (lo : List Int) (C : Option Addr) (cc : Nat) (P : Option Addr) (pc : Nat) (th : Things) (w : World) (h : Prog.R w (fun _ => True) cs p) (_hw : Prog.wt p ≤ 1048576) (hp : progOk p = true) (ho : Sl w (fun _ => True) 1 O on (ints lo)) (hon : on ≤ 1048576) (hoc : on ≤ oc) (g0 : Sl w (fun _ => True) 1 C 8 (ints th.cells_)) (g1 : Sl w (fun _ => True) 1 P 8 (ints th.map_)) (hcc : 8 ≤ cc) (hpc : 8 ≤ pc) (hth : thingsOk th = true) :
  Calls Tryz.prog 100 #[.agg cs.toArray,.slice O on oc,.agg #[.slice C 8 cc,.slice P 8 pc,.int .i64 th.count_]] w fun e w' => SPost p lo th w e w':=by
 have HPR:=hid h
 obtain ⟨A0,n0,c0,A1,n1,c1,rfl,⟨kh0,mh0,h0⟩,⟨kh1,mh1,h1⟩⟩:=h
 have hl1 : p.kids_.length = n1:=h1.1
 have hk3:=progOk_le hp
 have hn3 : n1 ≤ 3:=by omega
 have hn31 : (n1 : Int) ≤ 3:=by omega
 have HPW : Hid (Prog.wt p ≤ 1048576):=_hw
 have HA:=hid h0
 have HK:=hid h1
 have HL1:=hid hl1
 have HPO:=hid hp
 have HO:=hid ho
 have HTHO:=hid hth
 have G0:=hid g0
 have G1:=hid g1
 have HTR : Hid (Things.R w (fun _ => True) [.slice C 8 cc,.slice P 8 pc,.int .i64 th.count_] th):=⟨C,8,cc,P,8,pc,rfl,⟨hcc,by omega,g0⟩,⟨hpc,by omega,g1⟩⟩
 have HTW : Hid (Things.wt th ≤ 1048576):=by have a:=g0.len;have b:=g1.len;show _ ≤ _;unfold Things.wt;omega
 have hpk:=hp
 have hthk:=hth
 clear h0 h1 hl1 hk3 _hw ho hth g0 g1 hp
 have M:=hid (Mine.refl w)
 show Calls Tryz.prog _ #[.agg #[.slice A0 n0 c0,.slice A1 n1 c1],_,_] w _
 cases hord : ordOk n1 lo
 ·skip
  have HOK:=hid hord
  have HZ:=hid (serial_bad (p:=p) (t:=th) (by rw [HL1.out];exact hord))
  clear hord
  go_enter Tryz.func100,Tryz.ntmps100
  go_wp2_with (first|(go_at_call 94;refine zC M (impl_ProgOk p [.slice A0 n0 c0,.slice A1 n1 c1] _ _ (Prog.R_good.ext HPR.out M.out.ext) HPW.out) ?_;clear M;intro w' M;rw [hpk])|(go_at_call 158;(with_reducible refine (impl_orderOk O on oc lo n1 hn3 _ _ (HO.out.ext M.out.ext) hon hoc).mono ?_);rintro e w' ⟨rfl,rfl⟩;rw [HOK.out])|((with_reducible refine zN ?_);first|(refine Mine.wp_box M.out rfl 84 _ rfl _ rfl ?_;intro gp w' M';(try simp only [zr_,zm_] at M');replace M:=hid M';clear M';(try simp only [zr_,zm_]))|(refine Mine.wp_box M.out rfl 42 _ rfl _ rfl ?_;intro gt w' M';(try simp only [zr_,zm_] at M');replace M:=hid M';clear M';(try simp only [zr_,zm_]))|(refine Mine.wp_alloc M.out rfl 111 rfl (.agg #[.int .i64 0,.slice none 0 0,.slice none 0 0,.slice none 0 0,.int .i64 0]) (by kernel_rfl) ?_;intro gr w' M';(try simp only [Value.cells,zr_,zm_] at M');replace M:=hid M';clear M';(try simp only [zr_,zm_]))|(refine zGs M.out 84 2 2 ?_;(try simp only [zr_,zm_]))|(refine zSs M.out 111 0 ?_;intro w' M';(try simp only [zr_,zm_] at M');replace M:=hid M';clear M'))|((with_reducible show wpList _ _ _ (⟨_,.load _ _,_,_,_,some _⟩::_) _ _);first|(refine zGg M.out 2 ?_;(try simp only [zr_,zm_]))))
  refine bodyPost_ret (M.out.results_cell Tryz.results100 _ 0 rfl rfl _ Tryz.underlying111 (by rfl) (by kernel_rfl)) rfl ?_
  exact SPost.bad HZ.out M.out
 have HOK:=hid hord
 clear hord
 go_enter Tryz.func100,Tryz.ntmps100
 go_wp2_with (first|(go_at_call 94;refine zC M (impl_ProgOk p [.slice A0 n0 c0,.slice A1 n1 c1] _ _ (Prog.R_good.ext HPR.out M.out.ext) HPW.out) ?_;clear M;intro w' M;rw [hpk])|(go_at_call 91;refine zC M (impl_ThingsOk th [.slice C 8 cc,.slice P 8 pc,.int .i64 th.count_] _ _ (Things.R_good.ext HTR.out M.out.ext) HTW.out) ?_;clear M;intro w' M;rw [hthk])|(go_at_call 158;(with_reducible refine (impl_orderOk O on oc lo n1 hn3 _ _ (HO.out.ext M.out.ext) hon hoc).mono ?_);rintro e w' ⟨rfl,rfl⟩;rw [HOK.out])|((with_reducible refine zN ?_);first|(refine Mine.wp_box M.out rfl 84 _ rfl _ rfl ?_;intro gp w' M';(try simp only [zr_,zm_] at M');replace M:=hid M';clear M';(try simp only [zr_,zm_]))|(refine Mine.wp_box M.out rfl 42 _ rfl _ rfl ?_;intro gt w' M';(try simp only [zr_,zm_] at M');replace M:=hid M';clear M';(try simp only [zr_,zm_]))|(refine Mine.wp_alloc M.out rfl 111 rfl (.agg #[.int .i64 0,.slice none 0 0,.slice none 0 0,.slice none 0 0,.int .i64 0]) (by kernel_rfl) ?_;intro gr w' M';(try simp only [Value.cells,zr_,zm_] at M');replace M:=hid M';clear M';(try simp only [zr_,zm_]))|(refine zGs M.out 84 2 2 ?_;(try simp only [zr_,zm_])))|((with_reducible show wpList _ _ _ (⟨_,.load _ _,_,_,_,some _⟩::_) _ _);first|((first|refine Mine.wp_getsg M.out (by rfl) 42 _ rfl 1 _ 3 rfl rfl (Nat.le_of_ble_eq_true rfl) _ Tryz.underlying42 (by rfl) (by kernel_rfl) ?_|refine zGg M.out 2 ?_);(try simp only [zr_,zm_]))))
 clear hpk hthk
 refine zRH M.out 8 ?_
 intro w' M'
 replace M:=hid M'
 clear M'
 refine zXL 0 ?_;(try simp only [zs_,zl_])
 refine zTL 1 ?_;intro K hK;((refine zD 2 ?_;(try simp only [zr_,zm_]);go_big_quiet_on))
 refine zXL 2 ?_;(try simp only [zs_,zl_])
 refine zTL 3 ?_;intro K hK;((refine zD 2 ?_;(try simp only [zr_,zm_]);go_big_quiet_on))
 refine zXL 4 ?_;(try simp only [zs_,zl_])
 refine zTL 6 ?_;intro K hK;((refine zDs 42 1 3 ?_;(try simp only [zr_,zm_]);go_big_quiet_on))
 refine zNy 5 (fun K hK => ?_)
 refine Mine.step_make M.out rfl 22 _ _ rfl 3 _ _ _ Tryz.underlying22 Tryz.infoInt 4 rfl rfl (by omega) (by unfold maxLen;omega) ?_
 intro gz w6 M6
 rw [made_zeros] at M6
 replace M:=hid M6
 clear M6
 refine hK.out _ _ (M.out.tail) ?_
 clear hK K
 (try simp only [zs_,zl_])
 refine zNy 7 (fun K hK => ?_)
 have hin:=full_in HOK.out
 go_simp
 go_at_call 159
 refine (impl_walk A0 n0 c0 p.code_ A1 n1 c1 p.kids_ O on oc lo (some ⟨gz,0,none⟩) 4 regs0 C cc P pc th (forkF p.kids_ (fullOrd n1 lo)) _ (HA.out.ext M.out.ext) (progOk_code HPO.out) (M.out.row_sl 0 rfl) regs0_ok (G0.out.ext M.out.ext) (G1.out.ext M.out.ext) HTHO.out (fork_ok (progOk_kids HPO.out) (by rw [HL1.out];exact hin)) (.inr ⟨walk0I,rfl,HK.out.ext Kid.R_good M.out.ext,progOk_kids HPO.out,hn3,HO.out.ext M.out.ext,HOK.out⟩)).mono ?_
 rintro e w5 hwp
 have HWP:=hid hwp
 obtain ⟨r,⟨RR,rr⟩,⟨RC,rcc⟩,⟨RP,rp⟩,rfl,hrun,-,M4⟩:=hwp
 have HRUN:=hid hrun
 replace M:=hid (M.out.call M4)
 simp only [List.cons_append,List.nil_append] at M
 clear M4 hrun
 refine hK.out _ _ (M.out.tail.tail.tail.tail) ?_
 clear hK K
 (try simp only [zs_,zl_])
 refine HQ.end_ (by kernel_rfl) ?_
 simp only [List.drop_succ_cons,List.drop_zero]
 go_wp2_with (((with_reducible refine zN ?_);first|(refine zSs M.out 111 4 ?_;intro w' M';(try simp only [zr_,zm_] at M');replace M:=hid M';clear M')))
 refine bodyPost_ret (M.out.results_cell Tryz.results100 _ 4 rfl rfl _ Tryz.underlying111 (by rfl) (by kernel_rfl)) rfl ?_
 have e1 : serialF p lo th = r:=by unfold serialF;rw [HL1.out,if_pos HOK.out];exact runF_is HRUN.out
 refine ⟨(RR,4,rr),(RC,8,rcc),(RP,8,rp),by rw [e1],?_⟩
 rw [e1]
 exact M.out.sub (sk_ (sk_ (sk_ s0_)))

end Go.Proofs.YtoegjiigaoanbaaGreat
namespace Go.Proofs.YtoegjiigaoanbaaGreat
open Go.RowKit Go.Deep
set_option linter.unnecessarySimpa false
set_option maxHeartbeats 400000000
open Go.Lib (hid)
set_option linter.unusedSimpArgs false
set_option linter.unusedVariables false

/-! ### Order -/
structure Order where
 kids_ : List Int
deriving Inhabited
def Order.wt (x : Order) : Nat:=x.kids_.length
def Order.R (w : World) (S : Nat → Prop) (cs : List Value) (x : Order) : Prop:=∃ (A0 : Option Addr) (n0 c0 : Nat),cs = [.slice A0 n0 c0] ∧ (n0 ≤ c0 ∧ n0 ≤ 9223372036854775807 ∧ Sl w S 1 A0 n0 (ints x.kids_))
def Order.W (w : World) (S : Nat → Prop) (cs : List Value) (x : Order) : Prop:=∃ (A0 : Option Addr) (n0 c0 : Nat) (lab : Nat → Nat),cs = [.slice A0 n0 c0] ∧ (n0 ≤ c0 ∧ n0 ≤ 9223372036854775807 ∧ OwS w (fun g => S g ∧ lab g = 0) 3 1 A0 n0 c0 (ints x.kids_))
theorem Order.R_good : Good Order.R 1:=⟨fun {_ _ _ _} h => by
  obtain ⟨A0,n0,c0,rfl,⟨kh0,mh0,h0⟩⟩:=h
  rfl,
 fun {_ _ _ _ _ _} h k hd => by
  obtain ⟨A0,n0,c0,rfl,⟨kh0,mh0,h0⟩⟩:=h
  exact ⟨_,_,_,rfl,⟨kh0,mh0,h0.chg k hd⟩⟩,
 fun {_ _ _ _ _} h hs => by
  obtain ⟨A0,n0,c0,rfl,⟨kh0,mh0,h0⟩⟩:=h
  exact ⟨_,_,_,rfl,⟨kh0,mh0,h0.mono hs⟩⟩⟩
theorem Order.W_good : Good Order.W 1:=⟨fun {_ _ _ _} h => by
  obtain ⟨A0,n0,c0,lab,rfl,⟨kh0,mh0,h0⟩⟩:=h
  rfl,
 fun {_ _ _ _ _ _} h k hd => by
  obtain ⟨A0,n0,c0,lab,rfl,⟨kh0,mh0,h0⟩⟩:=h
  exact ⟨_,_,_,lab,rfl,⟨kh0,mh0,h0.chg k fun i hi => hd i hi.1⟩⟩,
 fun {_ _ _ _ _} h hs => by
  obtain ⟨A0,n0,c0,lab,rfl,⟨kh0,mh0,h0⟩⟩:=h
  exact ⟨_,_,_,lab,rfl,⟨kh0,mh0,h0.mono fun i _ hi => ⟨hs i hi.1,hi.2⟩⟩⟩⟩
theorem Order.W_R {w : World} {S : Nat → Prop} {cs : List Value} {x : Order} (h : Order.W w S cs x) : Order.R w S cs x:=by
 obtain ⟨A0,n0,c0,lab,rfl,⟨kh0,mh0,h0⟩⟩:=h
 exact ⟨_,_,_,rfl,⟨kh0,mh0,h0.sl.mono fun i hi => hi.1⟩⟩
theorem Order.R_cells {w : World} {S : Nat → Prop} {cs : List Value} {x : Order} (h : Order.R w S cs x) : ∃ (A0 : Option Addr) (n0 c0 : Nat),cs = [.slice A0 n0 c0]:=by
 obtain ⟨A0,n0,c0,rfl,⟨kh0,mh0,h0⟩⟩:=h
 exact ⟨A0,n0,c0,rfl⟩
theorem Order.W_cells {w : World} {S : Nat → Prop} {cs : List Value} {x : Order} (h : Order.W w S cs x) : ∃ (A0 : Option Addr) (n0 c0 : Nat),cs = [.slice A0 n0 c0]:=by
 obtain ⟨A0,n0,c0,lab,rfl,⟨kh0,mh0,h0⟩⟩:=h
 exact ⟨A0,n0,c0,rfl⟩

structure REnt where
 r : Option Addr × Nat × Nat
 c : Option Addr × Nat × Nat
 m : Option Addr × Nat × Nat
 x : Run
def rcell (p : REnt) : List Value:=[.int .i64 p.x.out_,.slice p.r.1 p.r.2.1 p.r.2.2,.slice p.c.1 p.c.2.1 p.c.2.2,.slice p.m.1 p.m.2.1 p.m.2.2,.int .i64 p.x.things_.count_]
theorem rcell_length (p : REnt) : (rcell p).length = 5:=rfl
def rrows (p : REnt) : List Res:=[.row 3 1 p.r.1 p.r.2.1 p.r.2.2 (ints p.x.regs_),.row 3 1 p.c.1 p.c.2.1 p.c.2.2 (ints p.x.things_.cells_),.row 3 1 p.m.1 p.m.2.1 p.m.2.2 (ints p.x.things_.map_)]
theorem runs_push (es : List REnt) (e : REnt) : es.flatMap rcell ++ rcell e = (es ++ [e]).flatMap rcell:=by rw [List.flatMap_append];simp
theorem rrows_push (es : List REnt) (e : REnt) : es.flatMap rrows ++ rrows e = (es ++ [e]).flatMap rrows:=by rw [List.flatMap_append];simp
theorem Tryz.infoRunU : (Tryz.prog.info? 111).map (fun i => (i.zero,i.size,i.bytes)) = some (some (.agg #[.int .i64 0,.slice none 0 0,.slice none 0 0,.slice none 0 0,.int .i64 0]),5,88):=by kernel_rfl
def RunsV (w w' : World) (rs : List Run) (th : Things) (A : Option Addr) (m d : Nat) (C P : Option Addr × Nat × Nat) : Prop :=
 ∃ es : List REnt,es.map REnt.x = rs ∧ m = rs.length ∧ Mine w w' (.row 111 5 A m d (es.flatMap rcell)::.row 3 1 C.1 C.2.1 C.2.2 (ints th.cells_)::.row 3 1 P.1 P.2.1 P.2.2 (ints th.map_)::es.flatMap rrows)
theorem RunsV.bad {w w' : World} {A : Option Addr} {d : Nat} {rs : List Res} (M : Mine w w' (.row 111 5 A 0 d []::rs)) : RunsV w w' [] zThings A 0 d (none,0,0) (none,0,0):=by
 refine ⟨[],rfl,rfl,?_⟩
 have h:=((M.sub (.cons_cons _ s0_)).nil 3 1).nil 3 1
 exact h.perm ((List.Perm.cons _ (List.Perm.swap _ _ _)).trans (List.Perm.swap _ _ _))
def zipO (lp : List Prog) (lo : List Order) : List (Prog × List Int):=List.zipWith (fun p o => (p,o.kids_)) lp lo
theorem zipO_at {lp : List Prog} {lo : List Order} {k : Nat} {p : Prog} {o : Order} (hp : lp[k]? = some p) (ho : lo[k]? = some o) : (zipO lp lo)[k]? = some (p,o.kids_):=by
 unfold zipO;rw [List.getElem?_zipWith,hp,ho]
theorem zipO_mem {lp : List Prog} {lo : List Order} {x : Prog × List Int} (h : x ∈ zipO lp lo) : x.1 ∈ lp:=by
 obtain ⟨i,hi⟩:=List.mem_iff_getElem?.1 h
 unfold zipO at hi
 rw [List.getElem?_zipWith] at hi
 cases hp : lp[i]? with
 | none => rw [hp] at hi;simp at hi
 | some p =>
  cases ho : lo[i]? with
  | none => rw [hp,ho] at hi;simp at hi
  | some o =>
   rw [hp,ho] at hi
   simp only [Option.some.injEq] at hi
   subst hi
   exact List.mem_of_getElem? hp
theorem order_at {w : World} {S : Nat → Prop} {A : Option Addr} {n : Nat} {l : List Order} (h : SlR Order.R 1 w S A n l) {k : Nat} (hk : k < n) :
  ∃ (b o : Nat) (x : Order) (A0 : Option Addr) (n0 c0 : Nat),A = some ⟨b,o,none⟩ ∧ l[k]? = some x ∧ b < w.heap.size ∧ w.cell? ⟨b,o + k,none⟩ = some (.slice A0 n0 c0) ∧ Sl w S 1 A0 n0 (ints x.kids_) ∧ x.kids_.length = n0 ∧ n0 ≤ c0:=by
 obtain ⟨b,o,rfl⟩:=h.addr (by omega)
 obtain ⟨x,row,hx,hb,hr,hc⟩:=h.at_ hk
 obtain ⟨A0,n0,c0,rfl,⟨k0,m0,s0⟩⟩:=hr
 have h0:=hc 0 (by omega)
 simp only [Nat.mul_one,Nat.add_zero] at h0
 exact ⟨b,o,x,A0,n0,c0,rfl,hx,hb,h0,s0,s0.len,k0⟩
theorem serial_out {p : Prog} {lo : List Int} {t : Things} (hp : progOk p = true) (ht : thingsOk t = true) : (ordOk p.kids_.length lo = true ∧ ROk (serialF p lo t) ∧ (serialF p lo t).out_ ≠ 0) ∨ (ordOk p.kids_.length lo = false ∧ (serialF p lo t).out_ = 0):=by
 cases h : ordOk p.kids_.length lo
 ·exact .inr ⟨rfl,by rw [serial_bad h];rfl⟩
 ·have h1:=serial_ok (t:=t) hp h ht
  exact .inl ⟨rfl,h1,by have:=h1.out;omega⟩
theorem serTo_bad {l : List (Prog × List Int)} {t s : Things} {rs : List Run} {k : Nat} {p : Prog × List Int} (hk : l[k]? = some p) (h : serTo (l.take k) t = some (rs,s)) (ho : (serialF p.1 p.2 s).out_ = 0) : serAll l t = ([],zThings) :=
 serAll_bad (k:=k + 1) (by rw [serTo_take hk,h];unfold serNext;simp [ho])
theorem serTo_good {l : List (Prog × List Int)} {t s : Things} {rs : List Run} {k : Nat} {p : Prog × List Int} (hk : l[k]? = some p) (h : serTo (l.take k) t = some (rs,s)) (ho : (serialF p.1 p.2 s).out_ ≠ 0) : serTo (l.take (k + 1)) t = some (rs ++ [serialF p.1 p.2 s],(serialF p.1 p.2 s).things_):=by
 rw [serTo_take hk,h];unfold serNext;simp [ho]
theorem Mine.results_tc {P : Program} {b w : World} {rs : List Res} {fn : Func} {s k : Tmp} {ty : TypeId} (hr : fn.results = #[.tmp k,.cell s ty]) (M : Mine b w rs) (tmps : Array Value) (i : Nat) {g : Nat} {t : TypeId} {vs : List Value} (hi : rs[i]? = some (.box g t vs.toArray)) (hx : tmps.getD s undef = .pointer (some ⟨g,0,none⟩))
  (d : TypeDesc) (hu : P.underlying ty = some d) (hd : d.isRow = true) (hf : (P.info? ty).map (·.size) = some vs.length) : (results fn tmps).run P w = .ok (.tuple #[tmps.getD k undef,.agg vs.toArray]) w:=by
 have hrun:=run_loadVar_mid (P:=P) w g 0 ty vs d (fun k v hv => by rw [Nat.zero_add,(M.box_at i hi).cell];simpa using hv) hu hd hf
 have hx' : tmps[s]?.getD undef = .pointer (some ⟨g,0,none⟩):=by simpa using hx
 simp [results,hr,asAddr,hx',hrun]

theorem REnt.back {b w : World} {e : REnt} {L : List Res} {es : List REnt} (M : Mine b w (.row 3 1 e.r.1 e.r.2.1 e.r.2.2 (ints e.x.regs_)::.row 3 1 e.c.1 e.c.2.1 e.c.2.2 (ints e.x.things_.cells_)::.row 3 1 e.m.1 e.m.2.1 e.m.2.2 (ints e.x.things_.map_)::(L ++ es.flatMap rrows))) : Mine b w (L ++ (es ++ [e]).flatMap rrows):=by
 rw [← rrows_push,← List.append_assoc]
 exact M.perm (List.perm_append_comm (l₁:=rrows e) (l₂:=L ++ es.flatMap rrows))


end Go.Proofs.YtoegjiigaoanbaaGreat
namespace Go.Proofs.YtoegjiigaoanbaaGreat
open Go.RowKit Go.Deep
set_option linter.unnecessarySimpa false
set_option maxHeartbeats 400000000
open Go.Lib (hid)
set_option linter.unusedSimpArgs false
set_option linter.unusedVariables false
set_option maxRecDepth 8000 in
theorem spec_SerialAll (A : Option Addr) (n c : Nat) (lp : List Prog) (O : Option Addr) (oc : Nat) (lor : List Order) (C : Option Addr) (cc : Nat) (P : Option Addr) (pc : Nat) (th : Things) (w : World) (hp : SlR Prog.R 2 w (fun _ => True) A n lp) (hn : n ≤ 1048576) (hpw : ∀ p ∈ lp,Prog.wt p ≤ 1048576) (hpo : ∀ p ∈ lp,progOk p = true) (ho : SlR Order.R 1 w (fun _ => True) O n lor) (how : ∀ o ∈ lor,o.kids_.length ≤ 1048576) (g0 : Sl w (fun _ => True) 1 C 8 (ints th.cells_)) (g1 : Sl w (fun _ => True) 1 P 8 (ints th.map_)) (hcc : 8 ≤ cc) (hpc : 8 ≤ pc) (hth : thingsOk th = true) :
  Calls Tryz.prog 33 #[.slice A n c,.slice O n oc,.agg #[.slice C 8 cc,.slice P 8 pc,.int .i64 th.count_]] w fun e w' => ∃ (B : Option Addr) (m d : Nat) (C2 P2 : Option Addr × Nat × Nat),e = .returned (.tuple #[.slice B m d,.agg #[.slice C2.1 C2.2.1 C2.2.2,.slice P2.1 P2.2.1 P2.2.2,.int .i64 (serAll (zipO lp lor) th).2.count_]]) ∧ Hid (RunsV w w' (serAll (zipO lp lor) th).1 (serAll (zipO lp lor) th).2 B m d C2 P2):=by
 have hl1 : lp.length = n:=hp.1
 have hl2 : lor.length = n:=ho.1
 have HP:=hid hp
 have HPW:=hid hpw
 have HPO:=hid hpo
 have HO:=hid ho
 have HOW:=hid how
 have HTHO:=hid hth
 have G0:=hid g0
 have G1:=hid g1
 have HL1:=hid hl1
 have HL2:=hid hl2
 have hthk:=hth
 have hzl : (zipO lp lor).length = n:=by unfold zipO;rw [List.length_zipWith];omega
 have HZL:=hid hzl
 have HZP : Hid (∀ x ∈ zipO lp lor,progOk x.1 = true):=fun x hx => hpo _ (zipO_mem hx)
 have HTR : Hid (Things.R w (fun _ => True) [.slice C 8 cc,.slice P 8 pc,.int .i64 th.count_] th):=⟨C,8,cc,P,8,pc,rfl,⟨hcc,by omega,g0⟩,⟨hpc,by omega,g1⟩⟩
 have HTW : Hid (Things.wt th ≤ 1048576):=by have a:=g0.len;have b:=g1.len;show _ ≤ _;unfold Things.wt;omega
 clear hp hpw hpo ho how g0 g1 hth hl1 hl2 hzl
 have M:=hid (Mine.refl w)
 go_enter Tryz.func33,Tryz.ntmps33
 have MS : Hid (n = n):=rfl
 go_upto_region 2 with (((with_reducible refine zN ?_);first|(refine Mine.wp_box M.out rfl 42 _ rfl _ rfl ?_;intro gt w' M';(try simp only [zr_,zm_] at M');replace M:=hid M';clear M';(try simp only [zr_,zm_]))|(refine Mine.wp_alloc M.out rfl 42 rfl (.agg #[.slice none 0 0,.slice none 0 0,.int .i64 0]) (by kernel_rfl) ?_;intro gr w' M';(try simp only [Value.cells,zr_,zm_] at M');replace M:=hid M';clear M';(try simp only [zr_,zm_]))))
 replace M:=hid (M.out.own (own_lit0 _ 111 5) ((Ext.refl' _).al _))
 go_wp2_with (first|(go_at_call 78;refine zC M (spec_ThingsOk th [.slice C 8 cc,.slice P 8 pc,.int .i64 th.count_] _ _ (Things.R_good.ext HTR.out M.out.ext) HTW.out) ?_;clear M;intro w' M;rw [hthk])|(go_at_call 82;(with_reducible refine (l7Copy_m C 8 cc P 8 pc th _ _ _ (G0.out.ext M.out.ext) (by omega) (G1.out.ext M.out.ext) (by omega)).mono ?_);rintro e w' ⟨C9,cd9,P9,pd9,rfl,M9⟩;have M8:=M.out.call M9;replace M:=hid M8;clear M8 M9;simp only [List.cons_append,List.nil_append] at M)|((with_reducible refine zN ?_);first|(refine zGs M.out 42 2 3 ?_;(try simp only [zr_,zm_]))|(refine Mine.wp_alloc M.out rfl 42 rfl (.agg #[.slice none 0 0,.slice none 0 0,.int .i64 0]) (by kernel_rfl) ?_;intro gw w' M';(try simp only [Value.cells,zr_,zm_] at M');replace M:=hid M';clear M';(try simp only [zr_,zm_]))|(refine zSs M.out 42 0 ?_;intro w' M';(try simp only [zr_,zm_] at M');replace M:=hid M';clear M'))|((with_reducible show wpList _ _ _ (⟨_,.load _ _,_,_,_,some _⟩::_) _ _);first|(refine Mine.wp_getsg M.out (by rfl) 42 _ rfl 2 _ 3 rfl rfl (Nat.le_of_ble_eq_true rfl) _ Tryz.underlying42 (by rfl) (by kernel_rfl) ?_;(try simp only [zr_,zm_]))))
 have M7:=M.out.perm (List.Perm.trans (List.Perm.trans (List.Perm.trans (List.Perm.trans (List.Perm.cons _ (List.Perm.cons _ (List.Perm.swap _ _ _))) (List.Perm.cons _ (List.Perm.swap _ _ _))) (List.Perm.swap _ _ _)) (List.Perm.cons _ (List.Perm.swap _ _ _))) (List.Perm.cons _ (List.Perm.cons _ (List.Perm.swap _ _ _))))
 clear M MS hthk
 go_loopw [8,10] (fun ov iv wr => ∃ (q : Nat) (OA : Option Addr) (od : Nat) (es : List REnt) (s : Things) (CC PP : Option Addr × Nat),q ≤ n ∧ iv = .int .i64 (q : Int) ∧ ov = .slice OA es.length od ∧ Hid (serTo ((zipO lp lor).take q) th = some (es.map REnt.x,s)) ∧ Hid (Mine w wr (.row 111 5 OA es.length od (es.flatMap rcell)::.row 3 1 CC.1 8 CC.2 (ints s.cells_)::.row 3 1 PP.1 8 PP.2 (ints s.map_)::.box gw 42 #[.slice CC.1 8 CC.2,.slice PP.1 8 PP.2,.int .i64 s.count_]::.box gr 42 #[.slice none 0 0,.slice none 0 0,.int .i64 0]::.box gt 42 #[.slice C 8 cc,.slice P 8 pc,.int .i64 th.count_]::es.flatMap rrows))) (fun _ iv _ => n - (intOf iv).toNat)
 case atStart => exact ⟨0,_,_,[],th,(_,_),(_,_),Nat.zero_le _,rfl,rfl,rfl,M7⟩
 case round =>
  clear M7
  obtain ⟨q,OA,od,es,s,⟨CA,cd⟩,⟨PA,pd⟩,hq,rfl,rfl,HSE,M⟩:=hrel
  obtain ⟨hso,hel,-⟩:=serTo_ok HZP.out HTHO.out q _ _ (by rw [HZL.out];exact hq) HSE.out
  rw [List.length_map] at hel
  have HSO:=hid hso
  have HEL : Hid (es.length = q):=hel
  have hel2 : es.length ≤ 1048576:=by omega
  clear hso hel
  by_cases hlt : q < n
  rotate_left
  ·skip
   have HZ:=hid (serAll_good HSE.out (by rw [HZL.out];omega))
   go_wp2_with fail
   refine zRH M.out 3 ?_
   intro w' M'
   replace M:=hid M'
   clear M'
   refine zXL 0 ?_;(try simp only [zs_,zl_])
   refine zTL 1 ?_;intro K hK;((refine zDs 42 3 3 ?_;(try simp only [zr_,zm_]);go_big_quiet_on))
   refine zXL 2 ?_;(try simp only [zs_,zl_])
   refine HQ.end_ (by kernel_rfl) ?_
   simp only [List.drop_succ_cons,List.drop_zero]
   go_wp2_with (((with_reducible refine zN ?_);first|(refine zSs M.out 42 4 ?_;intro w' M';(try simp only [zr_,zm_] at M');replace M:=hid M';clear M')))
   refine bodyPost_ret (M.out.results_tc Tryz.results33 _ 4 rfl rfl _ Tryz.underlying42 (by rfl) (by kernel_rfl)) rfl ?_
   rw [HZ.out]
   exact ⟨_,_,_,(CA,8,cd),(PA,8,pd),rfl,es,rfl,by simp,M.out.sub (sk_ (sk_ (sk_ (sd_ (sd_ (sd_ s1_))))))⟩
  have HLT : Hid (q < n):=hlt
  have hqi : (q : Int) < (n : Int):=by omega
  obtain ⟨b,oo,p,P0,pn0,pc0,P1,pn1,pc1,rfl,hpx,hpb,hpr,hpR⟩:=prog_at HP.out hlt
  obtain ⟨bo,o2,od_,K0,kn0,kc0,rfl,hox,hob,hoc,hos,hol,hok⟩:=order_at HO.out hlt
  have HPX:=hid hpx
  have HR:=hid hpr
  have HB:=hid hpb
  have HPR:=hid hpR
  have HPWX:=hid (HPW.out p (List.mem_of_getElem? hpx))
  have HPOX:=hid (HPO.out p (List.mem_of_getElem? hpx))
  have HOS:=hid hos
  have hkn : kn0 ≤ 1048576:=by rw [← hol];exact HOW.out od_ (List.mem_of_getElem? hox)
  have HOC : Hid (w.cell? ⟨bo,o2 + q,none⟩ = some (.slice K0 kn0 kc0) ∧ bo < w.heap.size):=⟨hoc,hob⟩
  have HZX:=hid (zipO_at hpx hox)
  clear hpx hpb hpr hpR hox hob hoc hos hol
  have hcc9:=M.out.cap 1 rfl
  have hpc9:=M.out.cap 2 rfl
  go_wp2_with fail
  refine zRH M.out 12 ?_
  intro w' M'
  replace M:=hid M'
  clear M'
  refine zXL 0 ?_;(try simp only [zs_,zl_])
  refine zXL 1 ?_;(try simp only [zs_,zl_])
  refine zXL 2 ?_;(try simp only [zs_,zl_])
  refine zTL 3 ?_;intro K hK;((refine Mine.rd_argall 84 _ rfl _ _ rfl _ HR.out HB.out _ Tryz.underlying84 (by rfl) (by kernel_rfl) ?_;(try simp only [zr_,zm_]);go_big_quiet_on))
  refine zXL 4 ?_;(try simp only [zs_,zl_])
  refine zXL 5 ?_;(try simp only [zs_,zl_])
  refine zXL 6 ?_;(try simp only [zs_,zl_])
  refine zXL 7 ?_;(try simp only [zs_,zl_])
  refine zTL 8 ?_;intro K hK;((refine Mine.rd_arg 22 _ rfl _ _ HOC.out rfl _ Tryz.underlying22 (by rfl) ?_;(try simp only [zr_,zm_]);go_big_quiet_on))
  refine zTL 9 ?_;intro K hK;((refine zDs 42 3 3 ?_;(try simp only [zr_,zm_]);go_big_quiet_on))
  refine HQ.noisy (rs:=[10,11]) (by kernel_rfl) (by simp) (AllG.cons rfl (Nat.le_of_ble_eq_true rfl) (fun K hK => ?_) (AllG.cons rfl (Nat.le_of_ble_eq_true rfl) (fun K hK => ?_) AllG.nil))
  go_simp
  go_at_call 83
  refine (spec_Serial p [.slice P0 pn0 pc0,.slice P1 pn1 pc1] K0 kn0 kc0 od_.kids_ CA cd PA pd s _ (Prog.R_good.ext HPR.out M.out.ext) HPWX.out HPOX.out (HOS.out.ext M.out.ext) hkn hok (M.out.row_sl 1 rfl) (M.out.row_sl 2 rfl) hcc9 hpc9 HSO.out).mono ?_
  rintro e w5 ⟨RR,RC,RP,rfl,M4⟩
  replace M:=hid (M.out.call M4)
  simp only [List.cons_append,List.nil_append] at M
  clear M4
  refine hK.out _ _ (M.out.tail.tail.tail) ?_
  clear hK K
  (try simp only [zs_,zl_])
  refine zNy 11 (fun K hK => ?_)
  go_simp
  replace M:=hid (M.out.box 111 #[.int .i64 0,.slice none 0 0,.slice none 0 0,.slice none 0 0,.int .i64 0])
  refine hK.out _ _ (M.out.tail.tail.tail.tail) ?_
  clear hK K
  (try simp only [zs_,zl_])
  refine HQ.end_ (by kernel_rfl) ?_
  simp only [List.drop_succ_cons,List.drop_zero]
  generalize w5.heap.size = gN at M ⊢
  replace M:=hid (M.out.perm (List.Perm.trans (List.Perm.trans (List.Perm.swap _ _ _) (List.Perm.cons _ (List.Perm.swap _ _ _))) (List.Perm.cons _ (List.Perm.cons _ (List.Perm.swap _ _ _)))))
  rotate_left
  go_simp
  replace M:=hid (M.out.box 111 #[.int .i64 0,.slice none 0 0,.slice none 0 0,.slice none 0 0,.int .i64 0])
  refine hK.out _ _ (M.out.tail) ?_
  clear hK K
  (try simp only [zs_,zl_])
  generalize w'.heap.size = gN at M ⊢
  refine zNy 10 (fun K hK => ?_)
  go_simp
  go_at_call 83
  refine (spec_Serial p [.slice P0 pn0 pc0,.slice P1 pn1 pc1] K0 kn0 kc0 od_.kids_ CA cd PA pd s _ (Prog.R_good.ext HPR.out M.out.ext) HPWX.out HPOX.out (HOS.out.ext M.out.ext) hkn hok (M.out.row_sl 2 rfl) (M.out.row_sl 3 rfl) hcc9 hpc9 HSO.out).mono ?_
  rintro e w5 ⟨RR,RC,RP,rfl,M4⟩
  replace M:=hid (M.out.call M4)
  simp only [List.cons_append,List.nil_append] at M
  clear M4
  refine hK.out _ _ (M.out.tail.tail.tail.tail) ?_
  clear hK K
  (try simp only [zs_,zl_])
  refine HQ.end_ (by kernel_rfl) ?_
  simp only [List.drop_succ_cons,List.drop_zero]
  rotate_left
  all_goals (
   obtain ⟨F,hF⟩ : ∃ F,serialF p od_.kids_ s = F:=⟨_,rfl⟩
   have hso:=serial_out (lo:=od_.kids_) HPOX.out HSO.out
   have hsb:=serTo_bad HZX.out HSE.out
   have hsg:=serTo_good HZX.out HSE.out
   simp only at hsb hsg
   rw [hF] at hso hsb hsg M
   have HSB:=hid hsb
   have HSG:=hid hsg
   clear hsb hsg
   (try rw [hF])
   have HF:=hid hF
   clear hF
   rcases hso with ⟨h1,h2,h3⟩|⟨h1,h2⟩
   ·skip
    have b0 : (F.out_ == 0) = false:=by simpa using h3
    have HRO:=hid h2
    have HSG2:=hid (HSG.out h3)
    obtain ⟨R0,R1,R2⟩:=RR
    obtain ⟨C0,C1,C2⟩:=RC
    obtain ⟨Q0,Q1,Q2⟩:=RP
    obtain rfl : C1 = 8:=by have h:=M.out.len1 1 rfl;rw [ints_length,valsOk_len (th_parts h2.th).1] at h;exact h.symm
    obtain rfl : Q1 = 8:=by have h:=M.out.len1 2 rfl;rw [ints_length,(dec_true (th_parts h2.th).2.1).1] at h;exact h.symm
    clear h1 h2 h3
    go_wp2_with (first|(go_at_call 82;(with_reducible refine (l7Copy_m C0 8 C2 Q0 8 Q2 F.things_ _ _ _ (M.out.row_sl 1 rfl) (by omega) (M.out.row_sl 2 rfl) (by omega)).mono ?_);rintro e w' ⟨C9,cd9,P9,pd9,rfl,M9⟩;have M8:=M.out.call M9;replace M:=hid M8;clear M8 M9;simp only [List.cons_append,List.nil_append] at M)|(at_builtin;refine Mine.wp_push M.out rfl _ _ 41 rfl 111 _ _ _ Tryz.underlying41 Tryz.infoRunU rfl (by omega) 6 rfl rfl _ _ rfl rfl rfl (by simp [Value.oneCell']) (by omega) (by unfold maxLen;omega) ?_;intro A7 c7 w' M';(try simp only [zr_,zm_] at M');replace M:=hid M';clear M')|((with_reducible refine zN ?_);first|((first|refine zSs M.out 111 3 ?_|refine zSs M.out 42 9 ?_);intro w' M';(try simp only [zr_,zm_] at M');replace M:=hid M';clear M')|((first|refine zG M.out 3 ?_|refine zGs M.out 42 3 3 ?_|refine zGs M.out 111 5 5 ?_);(try simp only [zr_,zm_]))))
    have M9:=(M.out.sub (sk_ (sk_ (sk_ (sk_ (sk_ (sd_ (sk_ (sd_ (sd_ (sk_ (sk_ (sk_ s1_))))))))))))).perm (List.Perm.trans (List.Perm.trans (List.Perm.trans (List.Perm.trans (List.Perm.trans (List.Perm.trans (List.Perm.trans (List.Perm.cons _ (List.Perm.swap _ _ _)) (List.Perm.swap _ _ _)) (List.Perm.cons _ (List.Perm.cons _ (List.Perm.swap _ _ _)))) (List.Perm.cons _ (List.Perm.swap _ _ _))) (List.Perm.cons _ (List.Perm.cons _ (List.Perm.cons _ (List.Perm.swap _ _ _))))) (List.Perm.cons _ (List.Perm.cons _ (List.Perm.swap _ _ _)))) (List.Perm.cons _ (List.Perm.cons _ (List.Perm.cons _ (List.Perm.cons _ (List.Perm.swap _ _ _)))))) (List.Perm.cons _ (List.Perm.cons _ (List.Perm.cons _ (List.Perm.swap _ _ _)))))
    have M8:=REnt.back (e:=⟨(R0,R1,R2),(C0,8,C2),(Q0,8,Q2),F⟩) (L:=[_,_,_,_,_,_]) M9
    have MF:=hid M8
    clear M9 M8
    go_roundw
    case rel => exact ⟨q + 1,A7,c7,es ++ [⟨(R0,R1,R2),(C0,8,C2),(Q0,8,Q2),F⟩],F.things_,(_,_),(_,_),HLT.out,by go_num,by rw [List.length_append];rfl,by show serTo _ _ = _;rw [HSG2.out,List.map_append];rfl,by rw [List.length_append,← runs_push];exact MF⟩
    case measure => have:=HLT.out;simp [intOf];omega
   ·skip
    have b0 : (F.out_ == 0) = true:=by simpa using h2
    have HZ:=hid (HSB.out h2)
    clear h1 h2
    go_wp2_with (((with_reducible refine zN ?_);first|((first|refine zSs M.out 111 3 ?_|refine Mine.wp_sets (M.out.own (own_lit0 _ 111 5) ((Ext.refl' _).al _)) rfl 42 _ _ rfl rfl 9 _ rfl rfl _ rfl (Nat.le_of_ble_eq_true rfl) (by simp [Value.oneCell']) (by kernel_rfl) ?_);intro w' M';(try simp only [zr_,zm_] at M');replace M:=hid M';clear M')|(refine zG M.out 3 ?_;(try simp only [zr_,zm_]))))
    refine bodyPost_ret (M.out.results_tc Tryz.results33 _ 9 rfl rfl _ Tryz.underlying42 (by rfl) (by kernel_rfl)) rfl ?_
    rw [HZ.out]
    exact ⟨_,_,_,(none,0,0),(none,0,0),rfl,RunsV.bad M.out⟩
  )

end Go.Proofs.YtoegjiigaoanbaaGreat
namespace Go.Proofs.YtoegjiigaoanbaaGreat
open Go.RowKit Go.Deep
set_option linter.unnecessarySimpa false
set_option maxHeartbeats 400000000
open Go.Lib (hid)
set_option linter.unusedSimpArgs false
set_option linter.unusedVariables false
set_option maxRecDepth 8000 in
theorem impl_SerialAll (A : Option Addr) (n c : Nat) (lp : List Prog) (O : Option Addr) (oc : Nat) (lor : List Order) (C : Option Addr) (cc : Nat) (P : Option Addr) (pc : Nat) (th : Things) (w : World) (hp : SlR Prog.R 2 w (fun _ => True) A n lp) (hn : n ≤ 1048576) (hpw : ∀ p ∈ lp,Prog.wt p ≤ 1048576) (hpo : ∀ p ∈ lp,progOk p = true) (ho : SlR Order.R 1 w (fun _ => True) O n lor) (how : ∀ o ∈ lor,o.kids_.length ≤ 1048576) (g0 : Sl w (fun _ => True) 1 C 8 (ints th.cells_)) (g1 : Sl w (fun _ => True) 1 P 8 (ints th.map_)) (hcc : 8 ≤ cc) (hpc : 8 ≤ pc) (hth : thingsOk th = true) :
  Calls Tryz.prog 44 #[.slice A n c,.slice O n oc,.agg #[.slice C 8 cc,.slice P 8 pc,.int .i64 th.count_]] w fun e w' => ∃ (B : Option Addr) (m d : Nat) (C2 P2 : Option Addr × Nat × Nat),e = .returned (.tuple #[.slice B m d,.agg #[.slice C2.1 C2.2.1 C2.2.2,.slice P2.1 P2.2.1 P2.2.2,.int .i64 (serAll (zipO lp lor) th).2.count_]]) ∧ Hid (RunsV w w' (serAll (zipO lp lor) th).1 (serAll (zipO lp lor) th).2 B m d C2 P2):=by
 have hl1 : lp.length = n:=hp.1
 have hl2 : lor.length = n:=ho.1
 have HP:=hid hp
 have HPW:=hid hpw
 have HPO:=hid hpo
 have HO:=hid ho
 have HOW:=hid how
 have HTHO:=hid hth
 have G0:=hid g0
 have G1:=hid g1
 have HL1:=hid hl1
 have HL2:=hid hl2
 have hthk:=hth
 have hzl : (zipO lp lor).length = n:=by unfold zipO;rw [List.length_zipWith];omega
 have HZL:=hid hzl
 have HZP : Hid (∀ x ∈ zipO lp lor,progOk x.1 = true):=fun x hx => hpo _ (zipO_mem hx)
 have HTR : Hid (Things.R w (fun _ => True) [.slice C 8 cc,.slice P 8 pc,.int .i64 th.count_] th):=⟨C,8,cc,P,8,pc,rfl,⟨hcc,by omega,g0⟩,⟨hpc,by omega,g1⟩⟩
 have HTW : Hid (Things.wt th ≤ 1048576):=by have a:=g0.len;have b:=g1.len;show _ ≤ _;unfold Things.wt;omega
 clear hp hpw hpo ho how g0 g1 hth hl1 hl2 hzl
 have M:=hid (Mine.refl w)
 go_enter Tryz.func44,Tryz.ntmps44
 have MS : Hid (n = n):=rfl
 go_wp2_with (first|(go_at_call 91;refine zC M (impl_ThingsOk th [.slice C 8 cc,.slice P 8 pc,.int .i64 th.count_] _ _ (Things.R_good.ext HTR.out M.out.ext) HTW.out) ?_;clear M;intro w' M;rw [hthk])|(go_at_call 99;(with_reducible refine (copyThings_m C 8 cc P 8 pc th _ _ _ (G0.out.ext (M.out.ext.tr ((Ext.refl' _).al _))) (by omega) (G1.out.ext (M.out.ext.tr ((Ext.refl' _).al _))) (by omega)).mono ?_);rintro e w' ⟨C9,cd9,P9,pd9,rfl,M9⟩;have M8:=(M.out.own (own_lit0 _ 111 5) ((Ext.refl' _).al _)).call M9;replace M:=hid M8;clear M8 M9;simp only [List.cons_append,List.nil_append] at M)|((with_reducible refine zN ?_);first|(refine Mine.wp_box M.out rfl 42 _ rfl _ rfl ?_;intro gt w' M';(try simp only [zr_,zm_] at M');replace M:=hid M';clear M';(try simp only [zr_,zm_]))|(refine Mine.wp_alloc M.out rfl 42 rfl (.agg #[.slice none 0 0,.slice none 0 0,.int .i64 0]) (by kernel_rfl) ?_;intro gr w' M';(try simp only [Value.cells,zr_,zm_] at M');replace M:=hid M';clear M';(try simp only [zr_,zm_]))|(refine Mine.wp_gets (M.out.al _) rfl 42 _ rfl 1 _ 3 rfl rfl (Nat.le_of_ble_eq_true rfl) _ Tryz.underlying42 (by rfl) (by kernel_rfl) ?_;(try simp only [zr_,zm_]))|(refine zSs M.out 42 4 ?_;intro w' M';(try simp only [zr_,zm_] at M');replace M:=hid M';clear M'))|((with_reducible show wpList _ _ _ (⟨_,.load _ _,_,_,_,some _⟩::_) _ _);first|(refine Mine.wp_getsg M.out (by rfl) 42 _ rfl 1 _ 3 rfl rfl (Nat.le_of_ble_eq_true rfl) _ Tryz.underlying42 (by rfl) (by kernel_rfl) ?_;(try simp only [zr_,zm_]))))
 have M7:=M.out.perm (List.Perm.trans (List.Perm.trans (List.Perm.cons _ (List.Perm.swap _ _ _)) (List.Perm.swap _ _ _)) (List.Perm.cons _ (List.Perm.cons _ (List.Perm.cons _ (List.Perm.swap _ _ _)))))
 clear M MS hthk
 go_loopw [8,28] (fun ov iv wr => ∃ (q : Nat) (OA : Option Addr) (od : Nat) (es : List REnt) (s : Things) (CC PP : Option Addr × Nat),q ≤ n ∧ iv = .int .i64 (q : Int) ∧ ov = .slice OA es.length od ∧ Hid (serTo ((zipO lp lor).take q) th = some (es.map REnt.x,s)) ∧ Hid (Mine w wr (.row 111 5 OA es.length od (es.flatMap rcell)::.row 3 1 CC.1 8 CC.2 (ints s.cells_)::.row 3 1 PP.1 8 PP.2 (ints s.map_)::.box gt 42 #[.slice CC.1 8 CC.2,.slice PP.1 8 PP.2,.int .i64 s.count_]::.box gr 42 #[.slice none 0 0,.slice none 0 0,.int .i64 0]::es.flatMap rrows))) (fun _ iv _ => n - (intOf iv).toNat)
 case atStart => exact ⟨0,_,_,[],th,(_,_),(_,_),Nat.zero_le _,rfl,rfl,rfl,M7⟩
 case round =>
  clear M7
  obtain ⟨q,OA,od,es,s,⟨CA,cd⟩,⟨PA,pd⟩,hq,rfl,rfl,HSE,M⟩:=hrel
  obtain ⟨hso,hel,-⟩:=serTo_ok HZP.out HTHO.out q _ _ (by rw [HZL.out];exact hq) HSE.out
  rw [List.length_map] at hel
  have HSO:=hid hso
  have HEL : Hid (es.length = q):=hel
  have hel2 : es.length ≤ 1048576:=by omega
  clear hso hel
  by_cases hlt : q < n
  rotate_left
  ·skip
   have HZ:=hid (serAll_good HSE.out (by rw [HZL.out];omega))
   go_wp2_with fail
   refine zRH M.out 3 ?_
   intro w' M'
   replace M:=hid M'
   clear M'
   refine zXL 0 ?_;(try simp only [zs_,zl_])
   refine zTL 1 ?_;intro K hK;((refine zDs 42 3 3 ?_;(try simp only [zr_,zm_]);go_big_quiet_on))
   refine zXL 2 ?_;(try simp only [zs_,zl_])
   refine HQ.end_ (by kernel_rfl) ?_
   simp only [List.drop_succ_cons,List.drop_zero]
   go_wp2_with (((with_reducible refine zN ?_);first|(refine zSs M.out 42 4 ?_;intro w' M';(try simp only [zr_,zm_] at M');replace M:=hid M';clear M')))
   refine bodyPost_ret (M.out.results_tc Tryz.results44 _ 4 rfl rfl _ Tryz.underlying42 (by rfl) (by kernel_rfl)) rfl ?_
   rw [HZ.out]
   exact ⟨_,_,_,(CA,8,cd),(PA,8,pd),rfl,es,rfl,by simp,M.out.sub (sk_ (sk_ (sk_ (sd_ (sd_ s1_)))))⟩
  have HLT : Hid (q < n):=hlt
  have hqi : (q : Int) < (n : Int):=by omega
  obtain ⟨b,oo,p,P0,pn0,pc0,P1,pn1,pc1,rfl,hpx,hpb,hpr,hpR⟩:=prog_at HP.out hlt
  obtain ⟨bo,o2,od_,K0,kn0,kc0,rfl,hox,hob,hoc,hos,hol,hok⟩:=order_at HO.out hlt
  have HPX:=hid hpx
  have HR:=hid hpr
  have HB:=hid hpb
  have HPR:=hid hpR
  have HPWX:=hid (HPW.out p (List.mem_of_getElem? hpx))
  have HPOX:=hid (HPO.out p (List.mem_of_getElem? hpx))
  have HOS:=hid hos
  have hkn : kn0 ≤ 1048576:=by rw [← hol];exact HOW.out od_ (List.mem_of_getElem? hox)
  have HOC : Hid (w.cell? ⟨bo,o2 + q,none⟩ = some (.slice K0 kn0 kc0) ∧ bo < w.heap.size):=⟨hoc,hob⟩
  have HZX:=hid (zipO_at hpx hox)
  clear hpx hpb hpr hpR hox hob hoc hos hol
  have hcc9:=M.out.cap 1 rfl
  have hpc9:=M.out.cap 2 rfl
  go_wp2_with (((with_reducible refine zN ?_);first|(refine Mine.wp_arg M.out rfl 84 _ rfl _ _ rfl _ HR.out HB.out _ Tryz.underlying84 (by rfl) (by kernel_rfl) ?_;(try simp only [zr_,zm_]))|(refine Mine.wp_alloc M.out rfl 84 rfl (.agg #[.slice none 0 0,.slice none 0 0]) (by kernel_rfl) ?_;intro gp w' M';(try simp only [Value.cells,zr_,zm_] at M');replace M:=hid M';clear M';(try simp only [zr_,zm_]))|(refine zSs M.out 84 0 ?_;intro w' M';(try simp only [zr_,zm_] at M');replace M:=hid M';clear M')))
  refine zRH M.out 9 ?_
  intro w' M'
  replace M:=hid M'
  clear M'
  refine zTL 0 ?_;intro K hK;((refine zDs 84 0 2 ?_;(try simp only [zr_,zm_]);go_big_quiet_on))
  refine zXL 1 ?_;(try simp only [zs_,zl_])
  refine zXL 2 ?_;(try simp only [zs_,zl_])
  refine zXL 3 ?_;(try simp only [zs_,zl_])
  refine zXL 4 ?_;(try simp only [zs_,zl_])
  refine zTL 5 ?_;intro K hK;((refine Mine.rd_arg 22 _ rfl _ _ HOC.out rfl _ Tryz.underlying22 (by rfl) ?_;(try simp only [zr_,zm_]);go_big_quiet_on))
  refine zTL 6 ?_;intro K hK;((refine zDs 42 4 3 ?_;(try simp only [zr_,zm_]);go_big_quiet_on))
  refine HQ.noisy (rs:=[7,8]) (by kernel_rfl) (by simp) (AllG.cons rfl (Nat.le_of_ble_eq_true rfl) (fun K hK => ?_) (AllG.cons rfl (Nat.le_of_ble_eq_true rfl) (fun K hK => ?_) AllG.nil))
  go_simp
  go_at_call 100
  refine (impl_Serial p [.slice P0 pn0 pc0,.slice P1 pn1 pc1] K0 kn0 kc0 od_.kids_ CA cd PA pd s _ (Prog.R_good.ext HPR.out M.out.ext) HPWX.out HPOX.out (HOS.out.ext M.out.ext) hkn hok (M.out.row_sl 2 rfl) (M.out.row_sl 3 rfl) hcc9 hpc9 HSO.out).mono ?_
  rintro e w5 ⟨RR,RC,RP,rfl,M4⟩
  replace M:=hid (M.out.call M4)
  simp only [List.cons_append,List.nil_append] at M
  clear M4
  refine hK.out _ _ (M.out.tail.tail.tail) ?_
  clear hK K
  (try simp only [zs_,zl_])
  refine zNy 8 (fun K hK => ?_)
  go_simp
  replace M:=hid (M.out.box 111 #[.int .i64 0,.slice none 0 0,.slice none 0 0,.slice none 0 0,.int .i64 0])
  refine hK.out _ _ (M.out.tail.tail.tail.tail) ?_
  clear hK K
  (try simp only [zs_,zl_])
  refine HQ.end_ (by kernel_rfl) ?_
  simp only [List.drop_succ_cons,List.drop_zero]
  generalize w5.heap.size = gN at M ⊢
  replace M:=hid (M.out.perm (List.Perm.trans (List.Perm.trans (List.Perm.swap _ _ _) (List.Perm.cons _ (List.Perm.swap _ _ _))) (List.Perm.cons _ (List.Perm.cons _ (List.Perm.swap _ _ _)))))
  rotate_left
  go_simp
  replace M:=hid (M.out.box 111 #[.int .i64 0,.slice none 0 0,.slice none 0 0,.slice none 0 0,.int .i64 0])
  refine hK.out _ _ (M.out.tail) ?_
  clear hK K
  (try simp only [zs_,zl_])
  generalize w'.heap.size = gN at M ⊢
  refine zNy 7 (fun K hK => ?_)
  go_simp
  go_at_call 100
  refine (impl_Serial p [.slice P0 pn0 pc0,.slice P1 pn1 pc1] K0 kn0 kc0 od_.kids_ CA cd PA pd s _ (Prog.R_good.ext HPR.out M.out.ext) HPWX.out HPOX.out (HOS.out.ext M.out.ext) hkn hok (M.out.row_sl 3 rfl) (M.out.row_sl 4 rfl) hcc9 hpc9 HSO.out).mono ?_
  rintro e w5 ⟨RR,RC,RP,rfl,M4⟩
  replace M:=hid (M.out.call M4)
  simp only [List.cons_append,List.nil_append] at M
  clear M4
  refine hK.out _ _ (M.out.tail.tail.tail.tail) ?_
  clear hK K
  (try simp only [zs_,zl_])
  refine HQ.end_ (by kernel_rfl) ?_
  simp only [List.drop_succ_cons,List.drop_zero]
  rotate_left
  all_goals (
   obtain ⟨F,hF⟩ : ∃ F,serialF p od_.kids_ s = F:=⟨_,rfl⟩
   have hso:=serial_out (lo:=od_.kids_) HPOX.out HSO.out
   have hsb:=serTo_bad HZX.out HSE.out
   have hsg:=serTo_good HZX.out HSE.out
   simp only at hsb hsg
   rw [hF] at hso hsb hsg M
   have HSB:=hid hsb
   have HSG:=hid hsg
   clear hsb hsg
   (try rw [hF])
   have HF:=hid hF
   clear hF
   rcases hso with ⟨h1,h2,h3⟩|⟨h1,h2⟩
   ·skip
    have b0 : (F.out_ == 0) = false:=by simpa using h3
    have HRO:=hid h2
    have HSG2:=hid (HSG.out h3)
    obtain ⟨R0,R1,R2⟩:=RR
    obtain ⟨C0,C1,C2⟩:=RC
    obtain ⟨Q0,Q1,Q2⟩:=RP
    obtain rfl : C1 = 8:=by have h:=M.out.len1 1 rfl;rw [ints_length,valsOk_len (th_parts h2.th).1] at h;exact h.symm
    obtain rfl : Q1 = 8:=by have h:=M.out.len1 2 rfl;rw [ints_length,(dec_true (th_parts h2.th).2.1).1] at h;exact h.symm
    clear h1 h2 h3
    go_wp2_with (first|(at_builtin;refine Mine.wp_push M.out rfl _ _ 41 rfl 111 _ _ _ Tryz.underlying41 Tryz.infoRunU rfl (by omega) 5 rfl rfl _ _ rfl rfl rfl (by simp [Value.oneCell']) (by omega) (by unfold maxLen;omega) ?_;intro A7 c7 w' M';(try simp only [zr_,zm_] at M');replace M:=hid M';clear M')|(go_at_call 99;(with_reducible refine (copyThings_m C0 8 C2 Q0 8 Q2 F.things_ _ _ _ (M.out.row_sl 1 rfl) (by omega) (M.out.row_sl 2 rfl) (by omega)).mono ?_);rintro e w' ⟨C9,cd9,P9,pd9,rfl,M9⟩;have M8:=M.out.call M9;replace M:=hid M8;clear M8 M9;simp only [List.cons_append,List.nil_append] at M)|((with_reducible refine zN ?_);first|((first|refine zSs M.out 111 3 ?_|refine zSs M.out 42 10 ?_);intro w' M';(try simp only [zr_,zm_] at M');replace M:=hid M';clear M')|((first|refine zG M.out 3 ?_|refine zGs M.out 111 3 5 ?_|refine zGs M.out 42 3 3 ?_);(try simp only [zr_,zm_]))))
    have M9:=(M.out.sub (sk_ (sk_ (sk_ (sk_ (sk_ (sd_ (sd_ (sk_ (sd_ (sd_ (sk_ (sk_ s1_))))))))))))).perm (List.Perm.trans (List.Perm.trans (List.Perm.trans (List.Perm.trans (List.Perm.trans (List.Perm.trans (List.Perm.trans (List.Perm.cons _ (List.Perm.swap _ _ _)) (List.Perm.swap _ _ _)) (List.Perm.cons _ (List.Perm.cons _ (List.Perm.swap _ _ _)))) (List.Perm.cons _ (List.Perm.swap _ _ _))) (List.Perm.cons _ (List.Perm.cons _ (List.Perm.cons _ (List.Perm.swap _ _ _))))) (List.Perm.cons _ (List.Perm.cons _ (List.Perm.swap _ _ _)))) (List.Perm.cons _ (List.Perm.cons _ (List.Perm.cons _ (List.Perm.cons _ (List.Perm.swap _ _ _)))))) (List.Perm.cons _ (List.Perm.cons _ (List.Perm.cons _ (List.Perm.swap _ _ _)))))
    have M8:=REnt.back (e:=⟨(R0,R1,R2),(C0,8,C2),(Q0,8,Q2),F⟩) (L:=[_,_,_,_,_]) M9
    have MF:=hid M8
    clear M9 M8
    go_roundw
    case rel => exact ⟨q + 1,A7,c7,es ++ [⟨(R0,R1,R2),(C0,8,C2),(Q0,8,Q2),F⟩],F.things_,(_,_),(_,_),HLT.out,by go_num,by rw [List.length_append];rfl,by show serTo _ _ = _;rw [HSG2.out,List.map_append];rfl,by rw [List.length_append,← runs_push];exact MF⟩
    case measure => have:=HLT.out;simp [intOf];omega
   ·skip
    have b0 : (F.out_ == 0) = true:=by simpa using h2
    have HZ:=hid (HSB.out h2)
    clear h1 h2
    go_wp2_with (((with_reducible refine zN ?_);first|((first|refine zSs M.out 111 3 ?_|refine zSs M.out 42 9 ?_);intro w' M';(try simp only [zr_,zm_] at M');replace M:=hid M';clear M')|(refine zG M.out 3 ?_;(try simp only [zr_,zm_]))))
    refine bodyPost_ret (M.out.results_tc Tryz.results44 _ 9 rfl rfl _ Tryz.underlying42 (by rfl) (by kernel_rfl)) rfl ?_
    rw [HZ.out]
    exact ⟨_,_,_,(none,0,0),(none,0,0),rfl,RunsV.bad (M.out.nil 111 5)⟩
  )

end Go.Proofs.YtoegjiigaoanbaaGreat
namespace Go.Proofs.YtoegjiigaoanbaaGreat
open Go.RowKit Go.Deep
set_option linter.unnecessarySimpa false
set_option maxHeartbeats 400000000
open Go.Lib (hid)

def settledP (x : Root) : Prop:=x.phase_ = 8 ∨ ((x.phase_ = 6 ∨ x.phase_ = 7) ∧ x.fate_ ≠ 0) ∨ (x.phase_ = 5 ∧ (x.commit_.phase_ = 4 ∨ x.commit_.phase_ = 5))
noncomputable def settledOf (x : Root) : Bool:=dec (settledP x)
noncomputable def stampOf (x : Root) : Int:=if settledOf x = false then 0 else if x.phase_ = 5 then x.commit_.wv_ else x.stamp_

set_option maxRecDepth 8000 in
theorem impl_Settled (x : Root) (cs : List Value) (w : World) (S : Nat → Prop) (h : Root.R w S cs x) :
  Calls Tryz.prog 95 #[.agg cs.toArray] w fun e w' => e = .returned (.bool (settledOf x)) ∧ Ext w w':=by
 obtain ⟨A0,n0,c0,A1,n1,c1,A2,n2,c2,A3,n3,c3,A4,n4,c4,A5,n5,c5,A6,n6,c6,A7,n7,c7,A8,n8,c8,A9,n9,c9,A10,n10,c10,A11,n11,c11,A12,n12,c12,A13,n13,c13,rfl⟩:=Root.R_cells h
 clear h
 show Calls Tryz.prog _ #[.agg (List.toArray ((.int .i64 x.phase_)::(.int .i64 x.tries_)::(.int .i64 x.spare_)::(.int .i64 x.pc_)::(.int .i64 x.rv_)::(.int .i64 x.newRv_)::(.int .i64 x.at_)::(.int .i64 x.fate_)::(.int .i64 x.stamp_)::(.int .i64 x.began_)::(.int .i64 x.ended_)::(.bool x.doomed_)::(.slice A0 n0 c0)::(.slice A1 n1 c1)::(.slice A2 n2 c2)::(.slice A3 n3 c3)::(.slice A4 n4 c4)::(.slice A5 n5 c5)::(.bool x.busy_)::(.int .i64 x.probe_.cell_)::(.int .i64 x.probe_.phase_)::(.int .i64 x.probe_.ver_)::(.int .i64 x.probe_.val_)::(.int .i64 x.commit_.who_)::(.int .i64 x.commit_.rv_)::(.int .i64 x.commit_.phase_)::(.int .i64 x.commit_.at_)::(.int .i64 x.commit_.wv_)::(.slice A6 n6 c6)::(.slice A7 n7 c7)::(.int .i64 x.fam_.rv_)::(.int .i64 x.fam_.clock_)::(.int .i64 x.fam_.owner_)::(.bool x.fam_.lost_)::(.slice A8 n8 c8)::(.slice A9 n9 c9)::(.slice A10 n10 c10)::(.slice A11 n11 c11)::(.slice A12 n12 c12)::(.slice A13 n13 c13)::[]))] w _
 have HX:=hid ((Ext.refl' w).al (.cells (List.toArray ((.int .i64 x.phase_)::(.int .i64 x.tries_)::(.int .i64 x.spare_)::(.int .i64 x.pc_)::(.int .i64 x.rv_)::(.int .i64 x.newRv_)::(.int .i64 x.at_)::(.int .i64 x.fate_)::(.int .i64 x.stamp_)::(.int .i64 x.began_)::(.int .i64 x.ended_)::(.bool x.doomed_)::(.slice A0 n0 c0)::(.slice A1 n1 c1)::(.slice A2 n2 c2)::(.slice A3 n3 c3)::(.slice A4 n4 c4)::(.slice A5 n5 c5)::(.bool x.busy_)::(.int .i64 x.probe_.cell_)::(.int .i64 x.probe_.phase_)::(.int .i64 x.probe_.ver_)::(.int .i64 x.probe_.val_)::(.int .i64 x.commit_.who_)::(.int .i64 x.commit_.rv_)::(.int .i64 x.commit_.phase_)::(.int .i64 x.commit_.at_)::(.int .i64 x.commit_.wv_)::(.slice A6 n6 c6)::(.slice A7 n7 c7)::(.int .i64 x.fam_.rv_)::(.int .i64 x.fam_.clock_)::(.int .i64 x.fam_.owner_)::(.bool x.fam_.lost_)::(.slice A8 n8 c8)::(.slice A9 n9 c9)::(.slice A10 n10 c10)::(.slice A11 n11 c11)::(.slice A12 n12 c12)::(.slice A13 n13 c13)::[])) 97))
 by_cases hp : x.phase_ = 8
 ·skip
  have b8 : (x.phase_ == 8) = true:=by simp [hp]
  have b6 : (x.phase_ == 6) = false:=by simp [hp]
  have b7 : (x.phase_ == 7) = false:=by simp [hp]
  have b5 : (x.phase_ == 5) = false:=by simp [hp]
  have HY:=hid (dec_yes (p:=settledP x) (.inl hp))
  clear hp
  go_enter Tryz.func95,Tryz.ntmps95
  go_wp2
  go_ret
  exact ⟨by unfold settledOf;rw [HY.out];try rfl,HX.out⟩
 have np8:=hp
 clear hp
 by_cases hp : x.phase_ = 6
 ·skip
  have b8 : (x.phase_ == 8) = false:=by simp [hp]
  have b6 : (x.phase_ == 6) = true:=by simp [hp]
  have b7 : (x.phase_ == 7) = false:=by simp [hp]
  have b5 : (x.phase_ == 5) = false:=by simp [hp]
  by_cases hf : x.fate_ = 0
  ·have bf : (x.fate_ != 0) = false:=by simp [hf]
   have HY:=hid (dec_no (p:=settledP x) (fun z => by unfold settledP at z;omega))
   clear hp hf np8
   go_enter Tryz.func95,Tryz.ntmps95
   go_wp2
   go_ret
   exact ⟨by unfold settledOf;rw [HY.out];try rfl,HX.out⟩
  ·have bf : (x.fate_ != 0) = true:=by simp [hf]
   have HY:=hid (dec_yes (p:=settledP x) (by unfold settledP;omega))
   clear hp hf np8
   go_enter Tryz.func95,Tryz.ntmps95
   go_wp2
   go_ret
   exact ⟨by unfold settledOf;rw [HY.out];try rfl,HX.out⟩
 have np6:=hp
 clear hp
 by_cases hp : x.phase_ = 7
 ·skip
  have b8 : (x.phase_ == 8) = false:=by simp [hp]
  have b6 : (x.phase_ == 6) = false:=by simp [hp]
  have b7 : (x.phase_ == 7) = true:=by simp [hp]
  have b5 : (x.phase_ == 5) = false:=by simp [hp]
  by_cases hf : x.fate_ = 0
  ·have bf : (x.fate_ != 0) = false:=by simp [hf]
   have HY:=hid (dec_no (p:=settledP x) (fun z => by unfold settledP at z;omega))
   clear hp hf np8 np6
   go_enter Tryz.func95,Tryz.ntmps95
   go_wp2
   go_ret
   exact ⟨by unfold settledOf;rw [HY.out];try rfl,HX.out⟩
  ·have bf : (x.fate_ != 0) = true:=by simp [hf]
   have HY:=hid (dec_yes (p:=settledP x) (by unfold settledP;omega))
   clear hp hf np8 np6
   go_enter Tryz.func95,Tryz.ntmps95
   go_wp2
   go_ret
   exact ⟨by unfold settledOf;rw [HY.out];try rfl,HX.out⟩
 have np7:=hp
 clear hp
 by_cases hp : x.phase_ = 5
 ·skip
  have b8 : (x.phase_ == 8) = false:=by simp [hp]
  have b6 : (x.phase_ == 6) = false:=by simp [hp]
  have b7 : (x.phase_ == 7) = false:=by simp [hp]
  have b5 : (x.phase_ == 5) = true:=by simp [hp]
  by_cases h4 : x.commit_.phase_ = 4
  ·have c4 : (x.commit_.phase_ == 4) = true:=by simp [h4]
   have HY:=hid (dec_yes (p:=settledP x) (by unfold settledP;omega))
   clear hp h4 np8 np6 np7
   go_enter Tryz.func95,Tryz.ntmps95
   go_wp2
   go_ret
   exact ⟨by unfold settledOf;rw [HY.out];try rfl,HX.out⟩
  have c4 : (x.commit_.phase_ == 4) = false:=by simp [h4]
  by_cases h5 : x.commit_.phase_ = 5
  ·have c5 : (x.commit_.phase_ == 5) = true:=by simp [h5]
   have HY:=hid (dec_yes (p:=settledP x) (by unfold settledP;omega))
   clear hp h4 h5 np8 np6 np7
   go_enter Tryz.func95,Tryz.ntmps95
   go_wp2
   go_ret
   exact ⟨by unfold settledOf;rw [HY.out];try rfl,HX.out⟩
  ·have c5 : (x.commit_.phase_ == 5) = false:=by simp [h5]
   have HY:=hid (dec_no (p:=settledP x) (fun z => by unfold settledP at z;omega))
   clear hp h4 h5 np8 np6 np7
   go_enter Tryz.func95,Tryz.ntmps95
   go_wp2
   go_ret
   exact ⟨by unfold settledOf;rw [HY.out];try rfl,HX.out⟩
 have b8 : (x.phase_ == 8) = false:=by simp [np8]
 have b6 : (x.phase_ == 6) = false:=by simp [np6]
 have b7 : (x.phase_ == 7) = false:=by simp [np7]
 have b5 : (x.phase_ == 5) = false:=by simp [hp]
 have HY:=hid (dec_no (p:=settledP x) (fun z => by unfold settledP at z;omega))
 clear hp np8 np6 np7
 go_enter Tryz.func95,Tryz.ntmps95
 go_wp2
 go_ret
 exact ⟨by unfold settledOf;rw [HY.out];try rfl,HX.out⟩
set_option maxRecDepth 8000 in
theorem spec_Settled (x : Root) (cs : List Value) (w : World) (S : Nat → Prop) (h : Root.R w S cs x) :
  Calls Tryz.prog 80 #[.agg cs.toArray] w fun e w' => e = .returned (.bool (settledOf x)) ∧ Ext w w':=by
 obtain ⟨A0,n0,c0,A1,n1,c1,A2,n2,c2,A3,n3,c3,A4,n4,c4,A5,n5,c5,A6,n6,c6,A7,n7,c7,A8,n8,c8,A9,n9,c9,A10,n10,c10,A11,n11,c11,A12,n12,c12,A13,n13,c13,rfl⟩:=Root.R_cells h
 clear h
 show Calls Tryz.prog _ #[.agg (List.toArray ((.int .i64 x.phase_)::(.int .i64 x.tries_)::(.int .i64 x.spare_)::(.int .i64 x.pc_)::(.int .i64 x.rv_)::(.int .i64 x.newRv_)::(.int .i64 x.at_)::(.int .i64 x.fate_)::(.int .i64 x.stamp_)::(.int .i64 x.began_)::(.int .i64 x.ended_)::(.bool x.doomed_)::(.slice A0 n0 c0)::(.slice A1 n1 c1)::(.slice A2 n2 c2)::(.slice A3 n3 c3)::(.slice A4 n4 c4)::(.slice A5 n5 c5)::(.bool x.busy_)::(.int .i64 x.probe_.cell_)::(.int .i64 x.probe_.phase_)::(.int .i64 x.probe_.ver_)::(.int .i64 x.probe_.val_)::(.int .i64 x.commit_.who_)::(.int .i64 x.commit_.rv_)::(.int .i64 x.commit_.phase_)::(.int .i64 x.commit_.at_)::(.int .i64 x.commit_.wv_)::(.slice A6 n6 c6)::(.slice A7 n7 c7)::(.int .i64 x.fam_.rv_)::(.int .i64 x.fam_.clock_)::(.int .i64 x.fam_.owner_)::(.bool x.fam_.lost_)::(.slice A8 n8 c8)::(.slice A9 n9 c9)::(.slice A10 n10 c10)::(.slice A11 n11 c11)::(.slice A12 n12 c12)::(.slice A13 n13 c13)::[]))] w _
 have HX:=hid ((Ext.refl' w).al (.cells (List.toArray ((.int .i64 x.phase_)::(.int .i64 x.tries_)::(.int .i64 x.spare_)::(.int .i64 x.pc_)::(.int .i64 x.rv_)::(.int .i64 x.newRv_)::(.int .i64 x.at_)::(.int .i64 x.fate_)::(.int .i64 x.stamp_)::(.int .i64 x.began_)::(.int .i64 x.ended_)::(.bool x.doomed_)::(.slice A0 n0 c0)::(.slice A1 n1 c1)::(.slice A2 n2 c2)::(.slice A3 n3 c3)::(.slice A4 n4 c4)::(.slice A5 n5 c5)::(.bool x.busy_)::(.int .i64 x.probe_.cell_)::(.int .i64 x.probe_.phase_)::(.int .i64 x.probe_.ver_)::(.int .i64 x.probe_.val_)::(.int .i64 x.commit_.who_)::(.int .i64 x.commit_.rv_)::(.int .i64 x.commit_.phase_)::(.int .i64 x.commit_.at_)::(.int .i64 x.commit_.wv_)::(.slice A6 n6 c6)::(.slice A7 n7 c7)::(.int .i64 x.fam_.rv_)::(.int .i64 x.fam_.clock_)::(.int .i64 x.fam_.owner_)::(.bool x.fam_.lost_)::(.slice A8 n8 c8)::(.slice A9 n9 c9)::(.slice A10 n10 c10)::(.slice A11 n11 c11)::(.slice A12 n12 c12)::(.slice A13 n13 c13)::[])) 97))
 by_cases hp : x.phase_ = 8
 ·skip
  have b8 : (x.phase_ == 8) = true:=by simp [hp]
  have b6 : (x.phase_ == 6) = false:=by simp [hp]
  have b7 : (x.phase_ == 7) = false:=by simp [hp]
  have b5 : (x.phase_ == 5) = false:=by simp [hp]
  have HY:=hid (dec_yes (p:=settledP x) (.inl hp))
  clear hp
  go_enter Tryz.func80,Tryz.ntmps80
  go_wp2
  go_ret
  exact ⟨by unfold settledOf;rw [HY.out];try rfl,HX.out⟩
 have np8:=hp
 clear hp
 by_cases hp : x.phase_ = 6
 ·skip
  have b8 : (x.phase_ == 8) = false:=by simp [hp]
  have b6 : (x.phase_ == 6) = true:=by simp [hp]
  have b7 : (x.phase_ == 7) = false:=by simp [hp]
  have b5 : (x.phase_ == 5) = false:=by simp [hp]
  by_cases hf : x.fate_ = 0
  ·have bf : (x.fate_ != 0) = false:=by simp [hf]
   have HY:=hid (dec_no (p:=settledP x) (fun z => by unfold settledP at z;omega))
   clear hp hf np8
   go_enter Tryz.func80,Tryz.ntmps80
   go_wp2
   go_ret
   exact ⟨by unfold settledOf;rw [HY.out];try rfl,HX.out⟩
  ·have bf : (x.fate_ != 0) = true:=by simp [hf]
   have HY:=hid (dec_yes (p:=settledP x) (by unfold settledP;omega))
   clear hp hf np8
   go_enter Tryz.func80,Tryz.ntmps80
   go_wp2
   go_ret
   exact ⟨by unfold settledOf;rw [HY.out];try rfl,HX.out⟩
 have np6:=hp
 clear hp
 by_cases hp : x.phase_ = 7
 ·skip
  have b8 : (x.phase_ == 8) = false:=by simp [hp]
  have b6 : (x.phase_ == 6) = false:=by simp [hp]
  have b7 : (x.phase_ == 7) = true:=by simp [hp]
  have b5 : (x.phase_ == 5) = false:=by simp [hp]
  by_cases hf : x.fate_ = 0
  ·have bf : (x.fate_ != 0) = false:=by simp [hf]
   have HY:=hid (dec_no (p:=settledP x) (fun z => by unfold settledP at z;omega))
   clear hp hf np8 np6
   go_enter Tryz.func80,Tryz.ntmps80
   go_wp2
   go_ret
   exact ⟨by unfold settledOf;rw [HY.out];try rfl,HX.out⟩
  ·have bf : (x.fate_ != 0) = true:=by simp [hf]
   have HY:=hid (dec_yes (p:=settledP x) (by unfold settledP;omega))
   clear hp hf np8 np6
   go_enter Tryz.func80,Tryz.ntmps80
   go_wp2
   go_ret
   exact ⟨by unfold settledOf;rw [HY.out];try rfl,HX.out⟩
 have np7:=hp
 clear hp
 by_cases hp : x.phase_ = 5
 ·skip
  have b8 : (x.phase_ == 8) = false:=by simp [hp]
  have b6 : (x.phase_ == 6) = false:=by simp [hp]
  have b7 : (x.phase_ == 7) = false:=by simp [hp]
  have b5 : (x.phase_ == 5) = true:=by simp [hp]
  by_cases h4 : x.commit_.phase_ = 4
  ·have c4 : (x.commit_.phase_ == 4) = true:=by simp [h4]
   have HY:=hid (dec_yes (p:=settledP x) (by unfold settledP;omega))
   clear hp h4 np8 np6 np7
   go_enter Tryz.func80,Tryz.ntmps80
   go_wp2
   go_ret
   exact ⟨by unfold settledOf;rw [HY.out];try rfl,HX.out⟩
  have c4 : (x.commit_.phase_ == 4) = false:=by simp [h4]
  by_cases h5 : x.commit_.phase_ = 5
  ·have c5 : (x.commit_.phase_ == 5) = true:=by simp [h5]
   have HY:=hid (dec_yes (p:=settledP x) (by unfold settledP;omega))
   clear hp h4 h5 np8 np6 np7
   go_enter Tryz.func80,Tryz.ntmps80
   go_wp2
   go_ret
   exact ⟨by unfold settledOf;rw [HY.out];try rfl,HX.out⟩
  ·have c5 : (x.commit_.phase_ == 5) = false:=by simp [h5]
   have HY:=hid (dec_no (p:=settledP x) (fun z => by unfold settledP at z;omega))
   clear hp h4 h5 np8 np6 np7
   go_enter Tryz.func80,Tryz.ntmps80
   go_wp2
   go_ret
   exact ⟨by unfold settledOf;rw [HY.out];try rfl,HX.out⟩
 have b8 : (x.phase_ == 8) = false:=by simp [np8]
 have b6 : (x.phase_ == 6) = false:=by simp [np6]
 have b7 : (x.phase_ == 7) = false:=by simp [np7]
 have b5 : (x.phase_ == 5) = false:=by simp [hp]
 have HY:=hid (dec_no (p:=settledP x) (fun z => by unfold settledP at z;omega))
 clear hp np8 np6 np7
 go_enter Tryz.func80,Tryz.ntmps80
 go_wp2
 go_ret
 exact ⟨by unfold settledOf;rw [HY.out];try rfl,HX.out⟩
set_option maxRecDepth 8000 in
theorem impl_StampOf (x : Root) (cs : List Value) (w : World) (S : Nat → Prop) (h : Root.R w S cs x) :
  Calls Tryz.prog 156 #[.agg cs.toArray] w fun e w' => e = .returned (.int .i64 (stampOf x)) ∧ Ext w w':=by
 have HR:=hid h
 obtain ⟨A0,n0,c0,A1,n1,c1,A2,n2,c2,A3,n3,c3,A4,n4,c4,A5,n5,c5,A6,n6,c6,A7,n7,c7,A8,n8,c8,A9,n9,c9,A10,n10,c10,A11,n11,c11,A12,n12,c12,A13,n13,c13,rfl⟩:=Root.R_cells h
 clear h
 show Calls Tryz.prog _ #[.agg (List.toArray ((.int .i64 x.phase_)::(.int .i64 x.tries_)::(.int .i64 x.spare_)::(.int .i64 x.pc_)::(.int .i64 x.rv_)::(.int .i64 x.newRv_)::(.int .i64 x.at_)::(.int .i64 x.fate_)::(.int .i64 x.stamp_)::(.int .i64 x.began_)::(.int .i64 x.ended_)::(.bool x.doomed_)::(.slice A0 n0 c0)::(.slice A1 n1 c1)::(.slice A2 n2 c2)::(.slice A3 n3 c3)::(.slice A4 n4 c4)::(.slice A5 n5 c5)::(.bool x.busy_)::(.int .i64 x.probe_.cell_)::(.int .i64 x.probe_.phase_)::(.int .i64 x.probe_.ver_)::(.int .i64 x.probe_.val_)::(.int .i64 x.commit_.who_)::(.int .i64 x.commit_.rv_)::(.int .i64 x.commit_.phase_)::(.int .i64 x.commit_.at_)::(.int .i64 x.commit_.wv_)::(.slice A6 n6 c6)::(.slice A7 n7 c7)::(.int .i64 x.fam_.rv_)::(.int .i64 x.fam_.clock_)::(.int .i64 x.fam_.owner_)::(.bool x.fam_.lost_)::(.slice A8 n8 c8)::(.slice A9 n9 c9)::(.slice A10 n10 c10)::(.slice A11 n11 c11)::(.slice A12 n12 c12)::(.slice A13 n13 c13)::[]))] w _
 have HX:=hid ((Ext.refl' w).al (.cells (List.toArray ((.int .i64 x.phase_)::(.int .i64 x.tries_)::(.int .i64 x.spare_)::(.int .i64 x.pc_)::(.int .i64 x.rv_)::(.int .i64 x.newRv_)::(.int .i64 x.at_)::(.int .i64 x.fate_)::(.int .i64 x.stamp_)::(.int .i64 x.began_)::(.int .i64 x.ended_)::(.bool x.doomed_)::(.slice A0 n0 c0)::(.slice A1 n1 c1)::(.slice A2 n2 c2)::(.slice A3 n3 c3)::(.slice A4 n4 c4)::(.slice A5 n5 c5)::(.bool x.busy_)::(.int .i64 x.probe_.cell_)::(.int .i64 x.probe_.phase_)::(.int .i64 x.probe_.ver_)::(.int .i64 x.probe_.val_)::(.int .i64 x.commit_.who_)::(.int .i64 x.commit_.rv_)::(.int .i64 x.commit_.phase_)::(.int .i64 x.commit_.at_)::(.int .i64 x.commit_.wv_)::(.slice A6 n6 c6)::(.slice A7 n7 c7)::(.int .i64 x.fam_.rv_)::(.int .i64 x.fam_.clock_)::(.int .i64 x.fam_.owner_)::(.bool x.fam_.lost_)::(.slice A8 n8 c8)::(.slice A9 n9 c9)::(.slice A10 n10 c10)::(.slice A11 n11 c11)::(.slice A12 n12 c12)::(.slice A13 n13 c13)::[])) 97))
 have HB : Hid (Bx (w.alloc (.cells (List.toArray ((.int .i64 x.phase_)::(.int .i64 x.tries_)::(.int .i64 x.spare_)::(.int .i64 x.pc_)::(.int .i64 x.rv_)::(.int .i64 x.newRv_)::(.int .i64 x.at_)::(.int .i64 x.fate_)::(.int .i64 x.stamp_)::(.int .i64 x.began_)::(.int .i64 x.ended_)::(.bool x.doomed_)::(.slice A0 n0 c0)::(.slice A1 n1 c1)::(.slice A2 n2 c2)::(.slice A3 n3 c3)::(.slice A4 n4 c4)::(.slice A5 n5 c5)::(.bool x.busy_)::(.int .i64 x.probe_.cell_)::(.int .i64 x.probe_.phase_)::(.int .i64 x.probe_.ver_)::(.int .i64 x.probe_.val_)::(.int .i64 x.commit_.who_)::(.int .i64 x.commit_.rv_)::(.int .i64 x.commit_.phase_)::(.int .i64 x.commit_.at_)::(.int .i64 x.commit_.wv_)::(.slice A6 n6 c6)::(.slice A7 n7 c7)::(.int .i64 x.fam_.rv_)::(.int .i64 x.fam_.clock_)::(.int .i64 x.fam_.owner_)::(.bool x.fam_.lost_)::(.slice A8 n8 c8)::(.slice A9 n9 c9)::(.slice A10 n10 c10)::(.slice A11 n11 c11)::(.slice A12 n12 c12)::(.slice A13 n13 c13)::[])) 97)) w.heap.size 97 (List.toArray ((.int .i64 x.phase_)::(.int .i64 x.tries_)::(.int .i64 x.spare_)::(.int .i64 x.pc_)::(.int .i64 x.rv_)::(.int .i64 x.newRv_)::(.int .i64 x.at_)::(.int .i64 x.fate_)::(.int .i64 x.stamp_)::(.int .i64 x.began_)::(.int .i64 x.ended_)::(.bool x.doomed_)::(.slice A0 n0 c0)::(.slice A1 n1 c1)::(.slice A2 n2 c2)::(.slice A3 n3 c3)::(.slice A4 n4 c4)::(.slice A5 n5 c5)::(.bool x.busy_)::(.int .i64 x.probe_.cell_)::(.int .i64 x.probe_.phase_)::(.int .i64 x.probe_.ver_)::(.int .i64 x.probe_.val_)::(.int .i64 x.commit_.who_)::(.int .i64 x.commit_.rv_)::(.int .i64 x.commit_.phase_)::(.int .i64 x.commit_.at_)::(.int .i64 x.commit_.wv_)::(.slice A6 n6 c6)::(.slice A7 n7 c7)::(.int .i64 x.fam_.rv_)::(.int .i64 x.fam_.clock_)::(.int .i64 x.fam_.owner_)::(.bool x.fam_.lost_)::(.slice A8 n8 c8)::(.slice A9 n9 c9)::(.slice A10 n10 c10)::(.slice A11 n11 c11)::(.slice A12 n12 c12)::(.slice A13 n13 c13)::[]))):=Bx.new' _ _ _ rfl
 go_enter Tryz.func156,Tryz.ntmps156
 go_wp2_with (refine wpList_load_row rfl 97 _ rfl w.heap.size rfl 97 (List.toArray ((.int .i64 x.phase_)::(.int .i64 x.tries_)::(.int .i64 x.spare_)::(.int .i64 x.pc_)::(.int .i64 x.rv_)::(.int .i64 x.newRv_)::(.int .i64 x.at_)::(.int .i64 x.fate_)::(.int .i64 x.stamp_)::(.int .i64 x.began_)::(.int .i64 x.ended_)::(.bool x.doomed_)::(.slice A0 n0 c0)::(.slice A1 n1 c1)::(.slice A2 n2 c2)::(.slice A3 n3 c3)::(.slice A4 n4 c4)::(.slice A5 n5 c5)::(.bool x.busy_)::(.int .i64 x.probe_.cell_)::(.int .i64 x.probe_.phase_)::(.int .i64 x.probe_.ver_)::(.int .i64 x.probe_.val_)::(.int .i64 x.commit_.who_)::(.int .i64 x.commit_.rv_)::(.int .i64 x.commit_.phase_)::(.int .i64 x.commit_.at_)::(.int .i64 x.commit_.wv_)::(.slice A6 n6 c6)::(.slice A7 n7 c7)::(.int .i64 x.fam_.rv_)::(.int .i64 x.fam_.clock_)::(.int .i64 x.fam_.owner_)::(.bool x.fam_.lost_)::(.slice A8 n8 c8)::(.slice A9 n9 c9)::(.slice A10 n10 c10)::(.slice A11 n11 c11)::(.slice A12 n12 c12)::(.slice A13 n13 c13)::[])) (0,0) _ ?hg Tryz.underlying97 rfl Root.size_info ?hk;(case hg => (show Bx _ _ _ _;exact HB.out));(try simp only [Act.put,List.setIfInBounds_toArray,List.set_cons_zero,List.set_cons_succ]))
 refine (impl_Settled x _ _ S (Root.R_good.ext HR.out HX.out)).mono ?_
 rintro e w1 ⟨rfl,x1⟩
 have X1:=hid (HX.out.tr x1)
 have B1:=hid (HB.out.ext x1)
 clear x1
 have q0 : w1.cell? ⟨w.heap.size,0,none⟩ = some (.int .i64 x.phase_):=B1.out.cell 0
 have q8 : w1.cell? ⟨w.heap.size,8,none⟩ = some (.int .i64 x.stamp_):=B1.out.cell 8
 have q27 : w1.cell? ⟨w.heap.size,27,none⟩ = some (.int .i64 x.commit_.wv_):=B1.out.cell 27
 cases hs : settledOf x
 ·have HY : Hid (stampOf x = 0):=by show _ = _;unfold stampOf;rw [hs];rfl
  clear hs
  go_wp2
  go_ret
  exact ⟨by rw [HY.out];try rfl,X1.out⟩
 by_cases hp : x.phase_ = 5
 ·have b5 : (x.phase_ == 5) = true:=by simp [hp]
  have HY : Hid (stampOf x = x.commit_.wv_):=by show _ = _;unfold stampOf;rw [hs,if_neg (by decide),if_pos hp]
  clear hs hp
  go_wp2
  go_ret
  exact ⟨by rw [HY.out];try rfl,X1.out⟩
 ·have b5 : (x.phase_ == 5) = false:=by simp [hp]
  have HY : Hid (stampOf x = x.stamp_):=by show _ = _;unfold stampOf;rw [hs,if_neg (by decide),if_neg hp]
  clear hs hp
  go_wp2
  go_ret
  exact ⟨by rw [HY.out];try rfl,X1.out⟩
set_option maxRecDepth 8000 in
theorem spec_StampOf (x : Root) (cs : List Value) (w : World) (S : Nat → Prop) (h : Root.R w S cs x) :
  Calls Tryz.prog 136 #[.agg cs.toArray] w fun e w' => e = .returned (.int .i64 (stampOf x)) ∧ Ext w w':=by
 have HR:=hid h
 obtain ⟨A0,n0,c0,A1,n1,c1,A2,n2,c2,A3,n3,c3,A4,n4,c4,A5,n5,c5,A6,n6,c6,A7,n7,c7,A8,n8,c8,A9,n9,c9,A10,n10,c10,A11,n11,c11,A12,n12,c12,A13,n13,c13,rfl⟩:=Root.R_cells h
 clear h
 show Calls Tryz.prog _ #[.agg (List.toArray ((.int .i64 x.phase_)::(.int .i64 x.tries_)::(.int .i64 x.spare_)::(.int .i64 x.pc_)::(.int .i64 x.rv_)::(.int .i64 x.newRv_)::(.int .i64 x.at_)::(.int .i64 x.fate_)::(.int .i64 x.stamp_)::(.int .i64 x.began_)::(.int .i64 x.ended_)::(.bool x.doomed_)::(.slice A0 n0 c0)::(.slice A1 n1 c1)::(.slice A2 n2 c2)::(.slice A3 n3 c3)::(.slice A4 n4 c4)::(.slice A5 n5 c5)::(.bool x.busy_)::(.int .i64 x.probe_.cell_)::(.int .i64 x.probe_.phase_)::(.int .i64 x.probe_.ver_)::(.int .i64 x.probe_.val_)::(.int .i64 x.commit_.who_)::(.int .i64 x.commit_.rv_)::(.int .i64 x.commit_.phase_)::(.int .i64 x.commit_.at_)::(.int .i64 x.commit_.wv_)::(.slice A6 n6 c6)::(.slice A7 n7 c7)::(.int .i64 x.fam_.rv_)::(.int .i64 x.fam_.clock_)::(.int .i64 x.fam_.owner_)::(.bool x.fam_.lost_)::(.slice A8 n8 c8)::(.slice A9 n9 c9)::(.slice A10 n10 c10)::(.slice A11 n11 c11)::(.slice A12 n12 c12)::(.slice A13 n13 c13)::[]))] w _
 have HX:=hid ((Ext.refl' w).al (.cells (List.toArray ((.int .i64 x.phase_)::(.int .i64 x.tries_)::(.int .i64 x.spare_)::(.int .i64 x.pc_)::(.int .i64 x.rv_)::(.int .i64 x.newRv_)::(.int .i64 x.at_)::(.int .i64 x.fate_)::(.int .i64 x.stamp_)::(.int .i64 x.began_)::(.int .i64 x.ended_)::(.bool x.doomed_)::(.slice A0 n0 c0)::(.slice A1 n1 c1)::(.slice A2 n2 c2)::(.slice A3 n3 c3)::(.slice A4 n4 c4)::(.slice A5 n5 c5)::(.bool x.busy_)::(.int .i64 x.probe_.cell_)::(.int .i64 x.probe_.phase_)::(.int .i64 x.probe_.ver_)::(.int .i64 x.probe_.val_)::(.int .i64 x.commit_.who_)::(.int .i64 x.commit_.rv_)::(.int .i64 x.commit_.phase_)::(.int .i64 x.commit_.at_)::(.int .i64 x.commit_.wv_)::(.slice A6 n6 c6)::(.slice A7 n7 c7)::(.int .i64 x.fam_.rv_)::(.int .i64 x.fam_.clock_)::(.int .i64 x.fam_.owner_)::(.bool x.fam_.lost_)::(.slice A8 n8 c8)::(.slice A9 n9 c9)::(.slice A10 n10 c10)::(.slice A11 n11 c11)::(.slice A12 n12 c12)::(.slice A13 n13 c13)::[])) 97))
 have HB : Hid (Bx (w.alloc (.cells (List.toArray ((.int .i64 x.phase_)::(.int .i64 x.tries_)::(.int .i64 x.spare_)::(.int .i64 x.pc_)::(.int .i64 x.rv_)::(.int .i64 x.newRv_)::(.int .i64 x.at_)::(.int .i64 x.fate_)::(.int .i64 x.stamp_)::(.int .i64 x.began_)::(.int .i64 x.ended_)::(.bool x.doomed_)::(.slice A0 n0 c0)::(.slice A1 n1 c1)::(.slice A2 n2 c2)::(.slice A3 n3 c3)::(.slice A4 n4 c4)::(.slice A5 n5 c5)::(.bool x.busy_)::(.int .i64 x.probe_.cell_)::(.int .i64 x.probe_.phase_)::(.int .i64 x.probe_.ver_)::(.int .i64 x.probe_.val_)::(.int .i64 x.commit_.who_)::(.int .i64 x.commit_.rv_)::(.int .i64 x.commit_.phase_)::(.int .i64 x.commit_.at_)::(.int .i64 x.commit_.wv_)::(.slice A6 n6 c6)::(.slice A7 n7 c7)::(.int .i64 x.fam_.rv_)::(.int .i64 x.fam_.clock_)::(.int .i64 x.fam_.owner_)::(.bool x.fam_.lost_)::(.slice A8 n8 c8)::(.slice A9 n9 c9)::(.slice A10 n10 c10)::(.slice A11 n11 c11)::(.slice A12 n12 c12)::(.slice A13 n13 c13)::[])) 97)) w.heap.size 97 (List.toArray ((.int .i64 x.phase_)::(.int .i64 x.tries_)::(.int .i64 x.spare_)::(.int .i64 x.pc_)::(.int .i64 x.rv_)::(.int .i64 x.newRv_)::(.int .i64 x.at_)::(.int .i64 x.fate_)::(.int .i64 x.stamp_)::(.int .i64 x.began_)::(.int .i64 x.ended_)::(.bool x.doomed_)::(.slice A0 n0 c0)::(.slice A1 n1 c1)::(.slice A2 n2 c2)::(.slice A3 n3 c3)::(.slice A4 n4 c4)::(.slice A5 n5 c5)::(.bool x.busy_)::(.int .i64 x.probe_.cell_)::(.int .i64 x.probe_.phase_)::(.int .i64 x.probe_.ver_)::(.int .i64 x.probe_.val_)::(.int .i64 x.commit_.who_)::(.int .i64 x.commit_.rv_)::(.int .i64 x.commit_.phase_)::(.int .i64 x.commit_.at_)::(.int .i64 x.commit_.wv_)::(.slice A6 n6 c6)::(.slice A7 n7 c7)::(.int .i64 x.fam_.rv_)::(.int .i64 x.fam_.clock_)::(.int .i64 x.fam_.owner_)::(.bool x.fam_.lost_)::(.slice A8 n8 c8)::(.slice A9 n9 c9)::(.slice A10 n10 c10)::(.slice A11 n11 c11)::(.slice A12 n12 c12)::(.slice A13 n13 c13)::[]))):=Bx.new' _ _ _ rfl
 go_enter Tryz.func136,Tryz.ntmps136
 go_wp2_with (refine wpList_load_row rfl 97 _ rfl w.heap.size rfl 97 (List.toArray ((.int .i64 x.phase_)::(.int .i64 x.tries_)::(.int .i64 x.spare_)::(.int .i64 x.pc_)::(.int .i64 x.rv_)::(.int .i64 x.newRv_)::(.int .i64 x.at_)::(.int .i64 x.fate_)::(.int .i64 x.stamp_)::(.int .i64 x.began_)::(.int .i64 x.ended_)::(.bool x.doomed_)::(.slice A0 n0 c0)::(.slice A1 n1 c1)::(.slice A2 n2 c2)::(.slice A3 n3 c3)::(.slice A4 n4 c4)::(.slice A5 n5 c5)::(.bool x.busy_)::(.int .i64 x.probe_.cell_)::(.int .i64 x.probe_.phase_)::(.int .i64 x.probe_.ver_)::(.int .i64 x.probe_.val_)::(.int .i64 x.commit_.who_)::(.int .i64 x.commit_.rv_)::(.int .i64 x.commit_.phase_)::(.int .i64 x.commit_.at_)::(.int .i64 x.commit_.wv_)::(.slice A6 n6 c6)::(.slice A7 n7 c7)::(.int .i64 x.fam_.rv_)::(.int .i64 x.fam_.clock_)::(.int .i64 x.fam_.owner_)::(.bool x.fam_.lost_)::(.slice A8 n8 c8)::(.slice A9 n9 c9)::(.slice A10 n10 c10)::(.slice A11 n11 c11)::(.slice A12 n12 c12)::(.slice A13 n13 c13)::[])) (0,0) _ ?hg Tryz.underlying97 rfl Root.size_info ?hk;(case hg => (show Bx _ _ _ _;exact HB.out));(try simp only [Act.put,List.setIfInBounds_toArray,List.set_cons_zero,List.set_cons_succ]))
 refine (spec_Settled x _ _ S (Root.R_good.ext HR.out HX.out)).mono ?_
 rintro e w1 ⟨rfl,x1⟩
 have X1:=hid (HX.out.tr x1)
 have B1:=hid (HB.out.ext x1)
 clear x1
 have q0 : w1.cell? ⟨w.heap.size,0,none⟩ = some (.int .i64 x.phase_):=B1.out.cell 0
 have q8 : w1.cell? ⟨w.heap.size,8,none⟩ = some (.int .i64 x.stamp_):=B1.out.cell 8
 have q27 : w1.cell? ⟨w.heap.size,27,none⟩ = some (.int .i64 x.commit_.wv_):=B1.out.cell 27
 cases hs : settledOf x
 ·have HY : Hid (stampOf x = 0):=by show _ = _;unfold stampOf;rw [hs];rfl
  clear hs
  go_wp2
  go_ret
  exact ⟨by rw [HY.out];try rfl,X1.out⟩
 by_cases hp : x.phase_ = 5
 ·have b5 : (x.phase_ == 5) = true:=by simp [hp]
  have HY : Hid (stampOf x = x.commit_.wv_):=by show _ = _;unfold stampOf;rw [hs,if_neg (by decide),if_pos hp]
  clear hs hp
  go_wp2
  go_ret
  exact ⟨by rw [HY.out];try rfl,X1.out⟩
 ·have b5 : (x.phase_ == 5) = false:=by simp [hp]
  have HY : Hid (stampOf x = x.stamp_):=by show _ = _;unfold stampOf;rw [hs,if_neg (by decide),if_neg hp]
  clear hs hp
  go_wp2
  go_ret
  exact ⟨by rw [HY.out];try rfl,X1.out⟩

end Go.Proofs.YtoegjiigaoanbaaGreat
