/- Registers: l4Regs and areValues. No condition but lengths. Calc of the reference at right arguments. No condition but these. Calc of the program at right arguments. No condition but these. A register read. No condition. KidOk, ProgOk, ScriptOk of the reference. No condition but sizes. The switch of the reference. No condition. Steps of the reference by kind. No condition but right code. Steps of the reference by kind. No condition but right code. Steps of the reference by kind. No condition but right code. Steps of the reference by kind. No condition but right code. No condition but lengths. -/
import Derived.Test.YtoegjiigaoanbaaGreatS06
import Derived.Test.YtoegjiigaoanbaaGreatS05
import Derived.Test.YtoegjiigaoanbaaGreatS00
import Derived.Deep.Cut
import Derived.Deep.CutRange
namespace Go.Proofs.YtoegjiigaoanbaaGreat
open Go.RowKit Go.Deep
set_option linter.unnecessarySimpa false
set_option maxHeartbeats 400000000
open Go.Lib (hid)
set_option linter.unusedSimpArgs false
set_option linter.unusedVariables false
theorem l4Regs_any (A : Option Addr) (n c : Nat) (l : List Int) (w : World) (S : Nat → Prop) (hs : Sl w S 1 A n (ints l)) (hm : n ≤ 1048576) :
  Calls Tryz.prog 220 #[.slice A n c] w fun e w' => e = .returned (.bool (regsOk l)) ∧ w = w':=by
 have H:=hid hs.len
 by_cases h8 : n = 4
 rotate_left
 ·have b8 : ((n : Int) != 4) = true:=by simp;omega
  have H8:=hid h8
  clear h8
  go_enter Tryz.func220,Tryz.ntmps220
  go_wp2
  go_ret
  exact ⟨by rw [regsOk,dec_no fun h => H8.out (by rw [← H.out];exact h.1)];rfl,rfl⟩
 have b8 : ((n : Int) != 4) = false:=by simp;omega
 have H8:=hid h8
 clear h8
 go_enter Tryz.func220,Tryz.ntmps220
 go_wp2
 go_loop [3] (fun i => ∃ k : Nat,k ≤ n ∧ i = .int .i64 k ∧ AllTo isVal l k) (fun i => n - (intOf i).toNat)
 case atStart => exact ⟨0,Nat.zero_le _,rfl,AllTo.zero _ _⟩
 case round =>
  obtain ⟨k,hk,rfl,hup⟩:=hrel
  have HU:=hid hup
  clear hup
  by_cases hlt : k < n
  ·obtain ⟨b,o,x,rfl,hb,hx,hc⟩:=hs.int_at hlt
   have HX:=hid hx
   clear hx
   by_cases h0 : 0 ≤ x ∧ x ≤ 65535
   ·have d0 : decide (0 ≤ x ∧ x ≤ 65535) = true:=by simpa using h0
    go_wp2_with (go_at_call 131;refine (l3Val_any _ _).mono ?_;rintro e w' ⟨rfl,rfl⟩)
    go_round
    case rel => exact ⟨k + 1,by omega,by go_num,HU.out.succ HX.out h0⟩
    case measure => simp [intOf];omega
   ·have d0 : decide (0 ≤ x ∧ x ≤ 65535) = false:=by simpa using h0
    go_wp2_with (go_at_call 131;refine (l3Val_any _ _).mono ?_;rintro e w' ⟨rfl,rfl⟩)
    go_ret
    exact ⟨by rw [regsOk,dec_no fun h => AllTo.not HX.out (by rw [H.out];exact hlt) h0 h.2];rfl,rfl⟩
  ·go_wp2
   go_ret
   have e : k = l.length:=by rw [H.out];omega
   exact ⟨by rw [regsOk,dec_yes ⟨by rw [H.out];exact H8.out,by rw [← e];exact HU.out⟩];rfl,rfl⟩

theorem areValues4_any (A : Option Addr) (n c : Nat) (l : List Int) (w : World) (S : Nat → Prop) (hs : Sl w S 1 A n (ints l)) (hm : n ≤ 1048576) :
  Calls Tryz.prog 148 #[.slice A n c,.int .i64 4] w fun e w' => e = .returned (.bool (regsOk l)) ∧ w = w':=by
 have H:=hid hs.len
 go_enter Tryz.func148,Tryz.ntmps148
 go_wp2
 go_loop [9] (fun i => ∃ k : Nat,k ≤ n ∧ i = .int .i64 k ∧ AllTo isVal l k) (fun i => n - (intOf i).toNat)
 case atStart => exact ⟨0,Nat.zero_le _,rfl,AllTo.zero _ _⟩
 case round =>
  obtain ⟨k,hk,rfl,hup⟩:=hrel
  have HU:=hid hup
  clear hup
  by_cases hlt : k < n
  ·obtain ⟨b,o,x,rfl,hb,hx,hc⟩:=hs.int_at hlt
   have HX:=hid hx
   clear hx
   by_cases h0 : 0 ≤ x ∧ x ≤ 65535
   ·have d0 : decide (0 ≤ x ∧ x ≤ 65535) = true:=by simpa using h0
    go_wp2_with (go_at_call 150;refine (isValue_any _ _).mono ?_;rintro e w' ⟨rfl,rfl⟩)
    go_round
    case rel => exact ⟨k + 1,by omega,by go_num,HU.out.succ HX.out h0⟩
    case measure => simp [intOf];omega
   ·have d0 : decide (0 ≤ x ∧ x ≤ 65535) = false:=by simpa using h0
    go_wp2_with (go_at_call 150;refine (isValue_any _ _).mono ?_;rintro e w' ⟨rfl,rfl⟩)
    go_ret
    exact ⟨by rw [regsOk,dec_no fun h => AllTo.not HX.out (by rw [H.out];exact hlt) h0 h.2];rfl,rfl⟩
  ·have e : k = l.length:=by rw [H.out];omega
   by_cases h8 : n = 4
   ·have b8 : ((n : Int) == 4) = true:=by simp;omega
    have HY:=hid (dec_yes (p:=l.length = 4 ∧ AllTo isVal l l.length) ⟨by rw [H.out];exact h8,by rw [← e];exact HU.out⟩)
    clear h8 e
    go_wp2
    go_ret
    exact ⟨by rw [regsOk,HY.out];rfl,rfl⟩
   ·have b8 : ((n : Int) == 4) = false:=by simp;omega
    have HY:=hid (dec_no (p:=l.length = 4 ∧ AllTo isVal l l.length) fun h => h8 (by rw [← H.out];exact h.1))
    clear h8 e
    go_wp2
    go_ret
    exact ⟨by rw [regsOk,HY.out];rfl,rfl⟩


end Go.Proofs.YtoegjiigaoanbaaGreat
namespace Go.Proofs.YtoegjiigaoanbaaGreat
open Go.RowKit Go.Deep
set_option linter.unnecessarySimpa false
set_option maxHeartbeats 400000000
open Go.Lib (hid)
set_option linter.unusedSimpArgs false
set_option linter.unusedVariables false
set_option maxRecDepth 8000 in
theorem spec_Calc (k a b c : Int) (A : Option Addr) (n d : Nat) (r : List Int) (w : World) (S : Nat → Prop) (hs : Sl w S 1 A n (ints r)) (ho : opOk ⟨k,a,b,c⟩) (hk : k ≤ 4) (hr : regsOk r = true) :
  Calls Tryz.prog 189 #[.agg #[.int .i64 k,.int .i64 a,.int .i64 b,.int .i64 c],.slice A n d] w fun e w' => ∃ B d',e = .returned (.tuple #[.slice B 4 d',.bool true]) ∧ w'.ownsRow w.heap.size 3 1 (.slice B 4 d') 4 (ints (calcF ⟨k,a,b,c⟩ r)) ∧ Ext w w':=by
 have hl : r.length = n:=hs.len
 have h4:=regsOk_len hr
 obtain rfl : n = 4:=by omega
 have hop : dec (opOk ⟨k,a,b,c⟩) = true:=dec_yes ho
 have hk1:=(opOk_kind ho).1
 simp only at hk1
 have HS:=hid hs
 have HR:=hid hr
 have hreg : regsOk r = true:=hr
 obtain ⟨bb,oo,rfl⟩:=hs.addr (by omega)
 have M:=hid (Mine.refl w)
 clear hs hl h4 hr
 by_cases e1 : k = 1
 ·subst e1
  obtain ⟨⟨ha0,ha1⟩,hbb,hcc⟩:=ok1 ho rfl
  simp only at ha0 ha1 hbb hcc
  obtain ⟨ka,rfl⟩ : ∃ u : Nat,a = (u : Int):=⟨a.toNat,by omega⟩
  have hka : ka < 4:=by omega
  have hka1 : (ka : Int) < 4:=by omega
  clear ha0 ha1 ho hk hk1
  subst hcc
  obtain ⟨hv0,hv1⟩:=hbb
  have HZ : Hid (calcF ⟨1,(ka : Int),b,0⟩ r = r.set ka (b)):=by
   show _ = _
   unfold calcF
   simp
  go_enter Tryz.func189,Tryz.ntmps189
  go_wp2_with (first|(at_builtin;refine Mine.wp_pour (M.out.own (own_lit0 _ _ _) ((Ext.refl' _).al _)) rfl _ _ 22 rfl 3 _ _ _ Tryz.underlying22 Tryz.infoInt rfl (by omega) 0 rfl rfl S _ 4 d (ints r) rfl (HS.out.ext (M.out.ext.tr ((Ext.refl' _).al _))) (ints_one _) (by omega) (by unfold maxLen;omega) ?_;intro A2 c2 w' M';obtain ⟨gp,rfl⟩:=Mine.addr M' 0 rfl (by omega);(try simp only [zr_,zm_,List.nil_append,Nat.zero_add,List.set_cons_zero] at M');replace M:=hid M';clear M';(try simp only [Nat.zero_add]))|(go_at_call 185;refine zC M (spec_OpOk _ _ _ _ _) ?_;clear M;intro w' M;rw [hop])|(go_at_call 220;(with_reducible refine (l4Regs_any _ 4 d r _ S (HS.out.ext M.out.ext) (by omega)).mono ?_);rintro e w' ⟨rfl,rfl⟩;rw [hreg])|((with_reducible refine zN ?_);first|((first|refine zG M.out 1 ?_|refine zGs M.out 237 1 4 ?_);(try simp only [zr_,zm_]))|(refine Mine.wp_box M.out rfl 237 _ rfl _ rfl ?_;intro gv w' M';(try simp only [zr_,zm_] at M');replace M:=hid M';clear M';(try simp only [zr_,zm_]))|(refine Mine.wp_put M.out rfl _ _ _ rfl rfl 0 _ rfl rfl _ (by (conv => lhs;whnf) <;> rfl) (by omega) (by rfl) (by kernel_rfl) ?_;intro w' M';(try simp only [zr_,zm_] at M');replace M:=hid M';clear M'))|((with_reducible show wpList _ _ _ (⟨_,.load _ _,_,_,_,some _⟩::_) _ _);first|(refine zGg M.out 1 ?_;(try simp only [zr_,zm_]))))
  go_ret2
  exact ⟨_,_,rfl,by rw [HZ.out];exact M.out.row_at 0 rfl,M.out.ext⟩
 by_cases e2 : k = 2
 ·subst e2
  obtain ⟨⟨ha0,ha1⟩,hbb,hcc⟩:=ok2 ho rfl
  simp only at ha0 ha1 hbb hcc
  obtain ⟨ka,rfl⟩ : ∃ u : Nat,a = (u : Int):=⟨a.toNat,by omega⟩
  have hka : ka < 4:=by omega
  have hka1 : (ka : Int) < 4:=by omega
  clear ha0 ha1 ho hk hk1
  obtain ⟨hb0,hb1⟩:=hbb
  obtain ⟨hc0,hc1⟩:=hcc
  obtain ⟨kb,rfl⟩ : ∃ u : Nat,b = (u : Int):=⟨b.toNat,by omega⟩
  obtain ⟨kc,rfl⟩ : ∃ u : Nat,c = (u : Int):=⟨c.toNat,by omega⟩
  have hkb : kb < 4:=by omega
  have hkc : kc < 4:=by omega
  have hkb1 : (kb : Int) < 4:=by omega
  have hkc1 : (kc : Int) < 4:=by omega
  clear hb0 hb1 hc0 hc1
  obtain ⟨yb,hyb,hbb,cyb⟩:=HS.out.int_cell (k:=kb) (by omega)
  have HB : Hid (w.cell? ⟨bb,oo + kb,none⟩ = some (.int .i64 yb) ∧ bb < w.heap.size):=⟨cyb,hbb⟩
  have eb : gi r (kb : Int) = yb:=by unfold gi;rw [Int.toNat_natCast,List.getD_eq_getElem?_getD,hyb];rfl
  have hvb:=regs_gi HR.out (x:=(kb : Int)) ⟨by omega,by omega⟩
  rw [eb] at hvb
  obtain ⟨hvb0,hvb1⟩:=hvb
  have Eb:=hid eb
  clear cyb hbb hyb eb
  obtain ⟨yc,hyc,hbc,cyc⟩:=HS.out.int_cell (k:=kc) (by omega)
  have HC : Hid (w.cell? ⟨bb,oo + kc,none⟩ = some (.int .i64 yc) ∧ bb < w.heap.size):=⟨cyc,hbc⟩
  have ec : gi r (kc : Int) = yc:=by unfold gi;rw [Int.toNat_natCast,List.getD_eq_getElem?_getD,hyc];rfl
  have hvc:=regs_gi HR.out (x:=(kc : Int)) ⟨by omega,by omega⟩
  rw [ec] at hvc
  obtain ⟨hvc0,hvc1⟩:=hvc
  have Ec:=hid ec
  clear cyc hbc hyc ec
  have HZ : Hid (calcF ⟨2,(ka : Int),(kb : Int),(kc : Int)⟩ r = r.set ka ((yb + yc) % 65536)):=by
   show _ = _
   unfold calcF
   simp [Eb.out,Ec.out]
  go_enter Tryz.func189,Tryz.ntmps189
  go_wp2_with (first|(at_builtin;refine Mine.wp_pour (M.out.own (own_lit0 _ _ _) ((Ext.refl' _).al _)) rfl _ _ 22 rfl 3 _ _ _ Tryz.underlying22 Tryz.infoInt rfl (by omega) 0 rfl rfl S _ 4 d (ints r) rfl (HS.out.ext (M.out.ext.tr ((Ext.refl' _).al _))) (ints_one _) (by omega) (by unfold maxLen;omega) ?_;intro A2 c2 w' M';obtain ⟨gp,rfl⟩:=Mine.addr M' 0 rfl (by omega);(try simp only [zr_,zm_,List.nil_append,Nat.zero_add,List.set_cons_zero] at M');replace M:=hid M';clear M';(try simp only [Nat.zero_add]))|(go_at_call 185;refine zC M (spec_OpOk _ _ _ _ _) ?_;clear M;intro w' M;rw [hop])|(go_at_call 220;(with_reducible refine (l4Regs_any _ 4 d r _ S (HS.out.ext M.out.ext) (by omega)).mono ?_);rintro e w' ⟨rfl,rfl⟩;rw [hreg])|((with_reducible refine zN ?_);first|((first|refine zG M.out 1 ?_|refine zGs M.out 237 1 4 ?_|refine Mine.wp_argc M.out rfl _ _ rfl _ _ HB.out rfl _ Tryz.underlying3 (by rfl) ?_|refine Mine.wp_argc M.out rfl _ _ rfl _ _ HC.out rfl _ Tryz.underlying3 (by rfl) ?_);(try simp only [zr_,zm_]))|(refine Mine.wp_box M.out rfl 237 _ rfl _ rfl ?_;intro gv w' M';(try simp only [zr_,zm_] at M');replace M:=hid M';clear M';(try simp only [zr_,zm_]))|(refine Mine.wp_put M.out rfl _ _ _ rfl rfl 0 _ rfl rfl _ (by (conv => lhs;whnf) <;> rfl) (by omega) (by rfl) (by kernel_rfl) ?_;intro w' M';(try simp only [zr_,zm_] at M');replace M:=hid M';clear M'))|((with_reducible show wpList _ _ _ (⟨_,.load _ _,_,_,_,some _⟩::_) _ _);first|(refine zGg M.out 1 ?_;(try simp only [zr_,zm_]))))
  go_ret2
  exact ⟨_,_,rfl,by rw [HZ.out];exact M.out.row_at 0 rfl,M.out.ext⟩
 by_cases e3 : k = 3
 ·subst e3
  obtain ⟨⟨ha0,ha1⟩,hbb,hcc⟩:=ok3 ho rfl
  simp only at ha0 ha1 hbb hcc
  obtain ⟨ka,rfl⟩ : ∃ u : Nat,a = (u : Int):=⟨a.toNat,by omega⟩
  have hka : ka < 4:=by omega
  have hka1 : (ka : Int) < 4:=by omega
  clear ha0 ha1 ho hk hk1
  obtain ⟨hb0,hb1⟩:=hbb
  obtain ⟨hc0,hc1⟩:=hcc
  obtain ⟨kb,rfl⟩ : ∃ u : Nat,b = (u : Int):=⟨b.toNat,by omega⟩
  obtain ⟨kc,rfl⟩ : ∃ u : Nat,c = (u : Int):=⟨c.toNat,by omega⟩
  have hkb : kb < 4:=by omega
  have hkc : kc < 4:=by omega
  have hkb1 : (kb : Int) < 4:=by omega
  have hkc1 : (kc : Int) < 4:=by omega
  clear hb0 hb1 hc0 hc1
  obtain ⟨yb,hyb,hbb,cyb⟩:=HS.out.int_cell (k:=kb) (by omega)
  have HB : Hid (w.cell? ⟨bb,oo + kb,none⟩ = some (.int .i64 yb) ∧ bb < w.heap.size):=⟨cyb,hbb⟩
  have eb : gi r (kb : Int) = yb:=by unfold gi;rw [Int.toNat_natCast,List.getD_eq_getElem?_getD,hyb];rfl
  have hvb:=regs_gi HR.out (x:=(kb : Int)) ⟨by omega,by omega⟩
  rw [eb] at hvb
  obtain ⟨hvb0,hvb1⟩:=hvb
  have Eb:=hid eb
  clear cyb hbb hyb eb
  obtain ⟨yc,hyc,hbc,cyc⟩:=HS.out.int_cell (k:=kc) (by omega)
  have HC : Hid (w.cell? ⟨bb,oo + kc,none⟩ = some (.int .i64 yc) ∧ bb < w.heap.size):=⟨cyc,hbc⟩
  have ec : gi r (kc : Int) = yc:=by unfold gi;rw [Int.toNat_natCast,List.getD_eq_getElem?_getD,hyc];rfl
  have hvc:=regs_gi HR.out (x:=(kc : Int)) ⟨by omega,by omega⟩
  rw [ec] at hvc
  obtain ⟨hvc0,hvc1⟩:=hvc
  have Ec:=hid ec
  clear cyc hbc hyc ec
  have HZ : Hid (calcF ⟨3,(ka : Int),(kb : Int),(kc : Int)⟩ r = r.set ka ((yb - yc + 65536) % 65536)):=by
   show _ = _
   unfold calcF
   simp [Eb.out,Ec.out]
  go_enter Tryz.func189,Tryz.ntmps189
  go_wp2_with (first|(at_builtin;refine Mine.wp_pour (M.out.own (own_lit0 _ _ _) ((Ext.refl' _).al _)) rfl _ _ 22 rfl 3 _ _ _ Tryz.underlying22 Tryz.infoInt rfl (by omega) 0 rfl rfl S _ 4 d (ints r) rfl (HS.out.ext (M.out.ext.tr ((Ext.refl' _).al _))) (ints_one _) (by omega) (by unfold maxLen;omega) ?_;intro A2 c2 w' M';obtain ⟨gp,rfl⟩:=Mine.addr M' 0 rfl (by omega);(try simp only [zr_,zm_,List.nil_append,Nat.zero_add,List.set_cons_zero] at M');replace M:=hid M';clear M';(try simp only [Nat.zero_add]))|(go_at_call 185;refine zC M (spec_OpOk _ _ _ _ _) ?_;clear M;intro w' M;rw [hop])|(go_at_call 220;(with_reducible refine (l4Regs_any _ 4 d r _ S (HS.out.ext M.out.ext) (by omega)).mono ?_);rintro e w' ⟨rfl,rfl⟩;rw [hreg])|((with_reducible refine zN ?_);first|((first|refine zG M.out 1 ?_|refine zGs M.out 237 1 4 ?_|refine Mine.wp_argc M.out rfl _ _ rfl _ _ HB.out rfl _ Tryz.underlying3 (by rfl) ?_|refine Mine.wp_argc M.out rfl _ _ rfl _ _ HC.out rfl _ Tryz.underlying3 (by rfl) ?_);(try simp only [zr_,zm_]))|(refine Mine.wp_box M.out rfl 237 _ rfl _ rfl ?_;intro gv w' M';(try simp only [zr_,zm_] at M');replace M:=hid M';clear M';(try simp only [zr_,zm_]))|(refine Mine.wp_put M.out rfl _ _ _ rfl rfl 0 _ rfl rfl _ (by (conv => lhs;whnf) <;> rfl) (by omega) (by rfl) (by kernel_rfl) ?_;intro w' M';(try simp only [zr_,zm_] at M');replace M:=hid M';clear M'))|((with_reducible show wpList _ _ _ (⟨_,.load _ _,_,_,_,some _⟩::_) _ _);first|(refine zGg M.out 1 ?_;(try simp only [zr_,zm_]))))
  go_ret2
  exact ⟨_,_,rfl,by rw [HZ.out];exact M.out.row_at 0 rfl,M.out.ext⟩
 obtain rfl : k = 4:=by omega
 obtain ⟨⟨ha0,ha1⟩,hbb,hcc⟩:=ok4 ho rfl
 simp only at ha0 ha1 hbb hcc
 obtain ⟨ka,rfl⟩ : ∃ u : Nat,a = (u : Int):=⟨a.toNat,by omega⟩
 have hka : ka < 4:=by omega
 have hka1 : (ka : Int) < 4:=by omega
 clear ha0 ha1 ho hk hk1
 obtain ⟨hb0,hb1⟩:=hbb
 obtain ⟨hc0,hc1⟩:=hcc
 obtain ⟨kb,rfl⟩ : ∃ u : Nat,b = (u : Int):=⟨b.toNat,by omega⟩
 obtain ⟨kc,rfl⟩ : ∃ u : Nat,c = (u : Int):=⟨c.toNat,by omega⟩
 have hkb : kb < 4:=by omega
 have hkc : kc < 4:=by omega
 have hkb1 : (kb : Int) < 4:=by omega
 have hkc1 : (kc : Int) < 4:=by omega
 clear hb0 hb1 hc0 hc1
 obtain ⟨yb,hyb,hbb,cyb⟩:=HS.out.int_cell (k:=kb) (by omega)
 have HB : Hid (w.cell? ⟨bb,oo + kb,none⟩ = some (.int .i64 yb) ∧ bb < w.heap.size):=⟨cyb,hbb⟩
 have eb : gi r (kb : Int) = yb:=by unfold gi;rw [Int.toNat_natCast,List.getD_eq_getElem?_getD,hyb];rfl
 have hvb:=regs_gi HR.out (x:=(kb : Int)) ⟨by omega,by omega⟩
 rw [eb] at hvb
 obtain ⟨hvb0,hvb1⟩:=hvb
 have Eb:=hid eb
 clear cyb hbb hyb eb
 obtain ⟨yc,hyc,hbc,cyc⟩:=HS.out.int_cell (k:=kc) (by omega)
 have HC : Hid (w.cell? ⟨bb,oo + kc,none⟩ = some (.int .i64 yc) ∧ bb < w.heap.size):=⟨cyc,hbc⟩
 have ec : gi r (kc : Int) = yc:=by unfold gi;rw [Int.toNat_natCast,List.getD_eq_getElem?_getD,hyc];rfl
 have hvc:=regs_gi HR.out (x:=(kc : Int)) ⟨by omega,by omega⟩
 rw [ec] at hvc
 obtain ⟨hvc0,hvc1⟩:=hvc
 have Ec:=hid ec
 clear cyc hbc hyc ec
 by_cases hlt : yb < yc
 ·skip
  have HZ : Hid (calcF ⟨4,(ka : Int),(kb : Int),(kc : Int)⟩ r = (r.set ka 0).set ka 1):=by
   show _ = _
   unfold calcF
   simp [Eb.out,Ec.out,hlt]
  go_enter Tryz.func189,Tryz.ntmps189
  go_wp2_with (first|(at_builtin;refine Mine.wp_pour (M.out.own (own_lit0 _ _ _) ((Ext.refl' _).al _)) rfl _ _ 22 rfl 3 _ _ _ Tryz.underlying22 Tryz.infoInt rfl (by omega) 0 rfl rfl S _ 4 d (ints r) rfl (HS.out.ext (M.out.ext.tr ((Ext.refl' _).al _))) (ints_one _) (by omega) (by unfold maxLen;omega) ?_;intro A2 c2 w' M';obtain ⟨gp,rfl⟩:=Mine.addr M' 0 rfl (by omega);(try simp only [zr_,zm_,List.nil_append,Nat.zero_add,List.set_cons_zero] at M');replace M:=hid M';clear M';(try simp only [Nat.zero_add]))|(go_at_call 185;refine zC M (spec_OpOk _ _ _ _ _) ?_;clear M;intro w' M;rw [hop])|(go_at_call 220;(with_reducible refine (l4Regs_any _ 4 d r _ S (HS.out.ext M.out.ext) (by omega)).mono ?_);rintro e w' ⟨rfl,rfl⟩;rw [hreg])|((with_reducible refine zN ?_);first|((first|refine zG M.out 1 ?_|refine zGs M.out 237 1 4 ?_|refine Mine.wp_argc M.out rfl _ _ rfl _ _ HB.out rfl _ Tryz.underlying3 (by rfl) ?_|refine Mine.wp_argc M.out rfl _ _ rfl _ _ HC.out rfl _ Tryz.underlying3 (by rfl) ?_);(try simp only [zr_,zm_]))|(refine Mine.wp_box M.out rfl 237 _ rfl _ rfl ?_;intro gv w' M';(try simp only [zr_,zm_] at M');replace M:=hid M';clear M';(try simp only [zr_,zm_]))|(refine Mine.wp_put M.out rfl _ _ _ rfl rfl 0 _ rfl rfl _ (by (conv => lhs;whnf) <;> rfl) (by omega) (by rfl) (by kernel_rfl) ?_;intro w' M';(try simp only [zr_,zm_] at M');replace M:=hid M';clear M'))|((with_reducible show wpList _ _ _ (⟨_,.load _ _,_,_,_,some _⟩::_) _ _);first|(refine zGg M.out 1 ?_;(try simp only [zr_,zm_]))))
  go_ret2
  exact ⟨_,_,rfl,by rw [HZ.out];exact M.out.row_at 0 rfl,M.out.ext⟩
 ·skip
  have HZ : Hid (calcF ⟨4,(ka : Int),(kb : Int),(kc : Int)⟩ r = r.set ka 0):=by
   show _ = _
   unfold calcF
   simp [Eb.out,Ec.out,hlt]
  go_enter Tryz.func189,Tryz.ntmps189
  go_wp2_with (first|(at_builtin;refine Mine.wp_pour (M.out.own (own_lit0 _ _ _) ((Ext.refl' _).al _)) rfl _ _ 22 rfl 3 _ _ _ Tryz.underlying22 Tryz.infoInt rfl (by omega) 0 rfl rfl S _ 4 d (ints r) rfl (HS.out.ext (M.out.ext.tr ((Ext.refl' _).al _))) (ints_one _) (by omega) (by unfold maxLen;omega) ?_;intro A2 c2 w' M';obtain ⟨gp,rfl⟩:=Mine.addr M' 0 rfl (by omega);(try simp only [zr_,zm_,List.nil_append,Nat.zero_add,List.set_cons_zero] at M');replace M:=hid M';clear M';(try simp only [Nat.zero_add]))|(go_at_call 185;refine zC M (spec_OpOk _ _ _ _ _) ?_;clear M;intro w' M;rw [hop])|(go_at_call 220;(with_reducible refine (l4Regs_any _ 4 d r _ S (HS.out.ext M.out.ext) (by omega)).mono ?_);rintro e w' ⟨rfl,rfl⟩;rw [hreg])|((with_reducible refine zN ?_);first|((first|refine zG M.out 1 ?_|refine zGs M.out 237 1 4 ?_|refine Mine.wp_argc M.out rfl _ _ rfl _ _ HB.out rfl _ Tryz.underlying3 (by rfl) ?_|refine Mine.wp_argc M.out rfl _ _ rfl _ _ HC.out rfl _ Tryz.underlying3 (by rfl) ?_);(try simp only [zr_,zm_]))|(refine Mine.wp_box M.out rfl 237 _ rfl _ rfl ?_;intro gv w' M';(try simp only [zr_,zm_] at M');replace M:=hid M';clear M';(try simp only [zr_,zm_]))|(refine Mine.wp_put M.out rfl _ _ _ rfl rfl 0 _ rfl rfl _ (by (conv => lhs;whnf) <;> rfl) (by omega) (by rfl) (by kernel_rfl) ?_;intro w' M';(try simp only [zr_,zm_] at M');replace M:=hid M';clear M'))|((with_reducible show wpList _ _ _ (⟨_,.load _ _,_,_,_,some _⟩::_) _ _);first|(refine zGg M.out 1 ?_;(try simp only [zr_,zm_]))))
  go_ret2
  exact ⟨_,_,rfl,by rw [HZ.out];exact M.out.row_at 0 rfl,M.out.ext⟩

end Go.Proofs.YtoegjiigaoanbaaGreat
namespace Go.Proofs.YtoegjiigaoanbaaGreat
open Go.RowKit Go.Deep
set_option linter.unnecessarySimpa false
set_option maxHeartbeats 400000000
open Go.Lib (hid)
set_option linter.unusedSimpArgs false
set_option linter.unusedVariables false
set_option maxRecDepth 8000 in
theorem impl_Calc (k a b c : Int) (A : Option Addr) (n d : Nat) (r : List Int) (w : World) (S : Nat → Prop) (hs : Sl w S 1 A n (ints r)) (ho : opOk ⟨k,a,b,c⟩) (hk : k ≤ 4) (hr : regsOk r = true) :
  Calls Tryz.prog 206 #[.agg #[.int .i64 k,.int .i64 a,.int .i64 b,.int .i64 c],.slice A n d] w fun e w' => ∃ B d',e = .returned (.tuple #[.slice B 4 d',.bool true]) ∧ w'.ownsRow w.heap.size 3 1 (.slice B 4 d') 4 (ints (calcF ⟨k,a,b,c⟩ r)) ∧ Ext w w':=by
 have hl : r.length = n:=hs.len
 have h4:=regsOk_len hr
 obtain rfl : n = 4:=by omega
 have hop : dec (opOk ⟨k,a,b,c⟩) = true:=dec_yes ho
 have hk1:=(opOk_kind ho).1
 simp only at hk1
 have HS:=hid hs
 have HR:=hid hr
 have hreg : regsOk r = true:=hr
 obtain ⟨bb,oo,rfl⟩:=hs.addr (by omega)
 have M:=hid (Mine.refl w)
 clear hs hl h4 hr
 by_cases e1 : k = 1
 ·subst e1
  obtain ⟨⟨ha0,ha1⟩,hbb,hcc⟩:=ok1 ho rfl
  simp only at ha0 ha1 hbb hcc
  obtain ⟨ka,rfl⟩ : ∃ u : Nat,a = (u : Int):=⟨a.toNat,by omega⟩
  have hka : ka < 4:=by omega
  have hka1 : (ka : Int) < 4:=by omega
  clear ha0 ha1 ho hk hk1
  subst hcc
  obtain ⟨hv0,hv1⟩:=hbb
  have HZ : Hid (calcF ⟨1,(ka : Int),b,0⟩ r = r.set ka (b)):=by
   show _ = _
   unfold calcF
   simp
  go_enter Tryz.func206,Tryz.ntmps206
  go_wp2_with (first|(go_at_call 157;(with_reducible refine (copyInts_any _ 4 d r _ S (HS.out.ext M.out.ext) (by omega)).mono ?_);rintro e w' ⟨A2,c2,rfl,o9,x9⟩;have M9:=M.out.own o9 x9;obtain ⟨gp,rfl⟩:=Mine.addr M9 0 rfl (by omega);replace M:=hid M9;clear o9 x9 M9)|(go_at_call 199;refine zC M (impl_OpOk _ _ _ _ _) ?_;clear M;intro w' M;rw [hop])|(go_at_call 148;(with_reducible refine (areValues4_any _ 4 d r _ S (HS.out.ext M.out.ext) (by omega)).mono ?_);rintro e w' ⟨rfl,rfl⟩;rw [hreg])|((with_reducible refine zN ?_);first|((first|refine zG M.out 1 ?_|refine zGs M.out 237 1 4 ?_);(try simp only [zr_,zm_]))|(refine Mine.wp_box M.out rfl 237 _ rfl _ rfl ?_;intro gv w' M';(try simp only [zr_,zm_] at M');replace M:=hid M';clear M';(try simp only [zr_,zm_]))|(refine Mine.wp_put M.out rfl _ _ _ rfl rfl 0 _ rfl rfl _ (by (conv => lhs;whnf) <;> rfl) (by omega) (by rfl) (by kernel_rfl) ?_;intro w' M';(try simp only [zr_,zm_] at M');replace M:=hid M';clear M'))|((with_reducible show wpList _ _ _ (⟨_,.load _ _,_,_,_,some _⟩::_) _ _);first|(refine zGg M.out 1 ?_;(try simp only [zr_,zm_]))))
  go_ret2
  exact ⟨_,_,rfl,by rw [HZ.out];exact M.out.row_at 0 rfl,M.out.ext⟩
 by_cases e2 : k = 2
 ·subst e2
  obtain ⟨⟨ha0,ha1⟩,hbb,hcc⟩:=ok2 ho rfl
  simp only at ha0 ha1 hbb hcc
  obtain ⟨ka,rfl⟩ : ∃ u : Nat,a = (u : Int):=⟨a.toNat,by omega⟩
  have hka : ka < 4:=by omega
  have hka1 : (ka : Int) < 4:=by omega
  clear ha0 ha1 ho hk hk1
  obtain ⟨hb0,hb1⟩:=hbb
  obtain ⟨hc0,hc1⟩:=hcc
  obtain ⟨kb,rfl⟩ : ∃ u : Nat,b = (u : Int):=⟨b.toNat,by omega⟩
  obtain ⟨kc,rfl⟩ : ∃ u : Nat,c = (u : Int):=⟨c.toNat,by omega⟩
  have hkb : kb < 4:=by omega
  have hkc : kc < 4:=by omega
  have hkb1 : (kb : Int) < 4:=by omega
  have hkc1 : (kc : Int) < 4:=by omega
  clear hb0 hb1 hc0 hc1
  obtain ⟨yb,hyb,hbb,cyb⟩:=HS.out.int_cell (k:=kb) (by omega)
  have HB : Hid (w.cell? ⟨bb,oo + kb,none⟩ = some (.int .i64 yb) ∧ bb < w.heap.size):=⟨cyb,hbb⟩
  have eb : gi r (kb : Int) = yb:=by unfold gi;rw [Int.toNat_natCast,List.getD_eq_getElem?_getD,hyb];rfl
  have hvb:=regs_gi HR.out (x:=(kb : Int)) ⟨by omega,by omega⟩
  rw [eb] at hvb
  obtain ⟨hvb0,hvb1⟩:=hvb
  have Eb:=hid eb
  clear cyb hbb hyb eb
  obtain ⟨yc,hyc,hbc,cyc⟩:=HS.out.int_cell (k:=kc) (by omega)
  have HC : Hid (w.cell? ⟨bb,oo + kc,none⟩ = some (.int .i64 yc) ∧ bb < w.heap.size):=⟨cyc,hbc⟩
  have ec : gi r (kc : Int) = yc:=by unfold gi;rw [Int.toNat_natCast,List.getD_eq_getElem?_getD,hyc];rfl
  have hvc:=regs_gi HR.out (x:=(kc : Int)) ⟨by omega,by omega⟩
  rw [ec] at hvc
  obtain ⟨hvc0,hvc1⟩:=hvc
  have Ec:=hid ec
  clear cyc hbc hyc ec
  have HZ : Hid (calcF ⟨2,(ka : Int),(kb : Int),(kc : Int)⟩ r = r.set ka ((yb + yc) % 65536)):=by
   show _ = _
   unfold calcF
   simp [Eb.out,Ec.out]
  go_enter Tryz.func206,Tryz.ntmps206
  have HVV : Hid ((IntKind.i64.wrap (yb + yc)).tmod 65536 = (yb + yc) % 65536):=by
   show _ = _
   rw [Go.IntWalk.i64_in _ (by omega),Int.tmod_eq_emod_of_nonneg (by omega)]
  go_wp2_with (first|(go_at_call 157;(with_reducible refine (copyInts_any _ 4 d r _ S (HS.out.ext M.out.ext) (by omega)).mono ?_);rintro e w' ⟨A2,c2,rfl,o9,x9⟩;have M9:=M.out.own o9 x9;obtain ⟨gp,rfl⟩:=Mine.addr M9 0 rfl (by omega);replace M:=hid M9;clear o9 x9 M9)|(go_at_call 199;refine zC M (impl_OpOk _ _ _ _ _) ?_;clear M;intro w' M;rw [hop])|(go_at_call 148;(with_reducible refine (areValues4_any _ 4 d r _ S (HS.out.ext M.out.ext) (by omega)).mono ?_);rintro e w' ⟨rfl,rfl⟩;rw [hreg])|((with_reducible refine zN ?_);first|((first|refine zG M.out 1 ?_|refine zGs M.out 237 1 4 ?_);(try simp only [zr_,zm_]))|(refine Mine.wp_box M.out rfl 237 _ rfl _ rfl ?_;intro gv w' M';(try simp only [zr_,zm_] at M');replace M:=hid M';clear M';(try simp only [zr_,zm_])))|((with_reducible show wpList _ _ _ (⟨_,.load _ _,_,_,_,some _⟩::_) _ _);first|(refine zGg M.out 1 ?_;(try simp only [zr_,zm_]))))
  refine Mine.region_tail M.out 16 (by kernel_rfl) (by kernel_rfl) ?_
  simp only [List.take_succ_cons,List.take_zero,List.drop_succ_cons,List.drop_zero]
  repeat (first|go_big_quiet_skip|(go_big_quiet_want;first|((first|refine zQ 1 ?_|refine Mine.oq_arg 3 _ rfl _ _ HB.out rfl _ Tryz.underlying3 (by rfl) ?_|refine Mine.oq_arg 3 _ rfl _ _ HC.out rfl _ Tryz.underlying3 (by rfl) ?_);(try simp only [zr_,zm_]);go_big_quiet_on)|(unfold Oper.quiet;apply Exists.intro;refine ⟨fun wq hq => ?_,?_⟩;(clear hq;go_simp;first|done|rfl|exact ⟨rfl,rfl⟩);(try simp only [zs_,zl_]);go_big_quiet_on)))
  refine wpQuiet_nil ?_
  intro w' M'
  replace M:=hid M'
  clear M'
  go_wp2_with (((with_reducible refine zN ?_);first|(refine Mine.wp_put M.out rfl _ _ _ rfl rfl 0 _ rfl rfl _ (by (conv => lhs;whnf) <;> rfl) (by omega) (by rfl) (by kernel_rfl) ?_;intro w' M';(try simp only [zr_,zm_] at M');replace M:=hid M';clear M')))
  go_ret2
  have M9:=M.out
  rw [HVV.out] at M9
  exact ⟨_,_,rfl,by rw [HZ.out];exact M9.row_at 0 rfl,M.out.ext⟩
 by_cases e3 : k = 3
 ·subst e3
  obtain ⟨⟨ha0,ha1⟩,hbb,hcc⟩:=ok3 ho rfl
  simp only at ha0 ha1 hbb hcc
  obtain ⟨ka,rfl⟩ : ∃ u : Nat,a = (u : Int):=⟨a.toNat,by omega⟩
  have hka : ka < 4:=by omega
  have hka1 : (ka : Int) < 4:=by omega
  clear ha0 ha1 ho hk hk1
  obtain ⟨hb0,hb1⟩:=hbb
  obtain ⟨hc0,hc1⟩:=hcc
  obtain ⟨kb,rfl⟩ : ∃ u : Nat,b = (u : Int):=⟨b.toNat,by omega⟩
  obtain ⟨kc,rfl⟩ : ∃ u : Nat,c = (u : Int):=⟨c.toNat,by omega⟩
  have hkb : kb < 4:=by omega
  have hkc : kc < 4:=by omega
  have hkb1 : (kb : Int) < 4:=by omega
  have hkc1 : (kc : Int) < 4:=by omega
  clear hb0 hb1 hc0 hc1
  obtain ⟨yb,hyb,hbb,cyb⟩:=HS.out.int_cell (k:=kb) (by omega)
  have HB : Hid (w.cell? ⟨bb,oo + kb,none⟩ = some (.int .i64 yb) ∧ bb < w.heap.size):=⟨cyb,hbb⟩
  have eb : gi r (kb : Int) = yb:=by unfold gi;rw [Int.toNat_natCast,List.getD_eq_getElem?_getD,hyb];rfl
  have hvb:=regs_gi HR.out (x:=(kb : Int)) ⟨by omega,by omega⟩
  rw [eb] at hvb
  obtain ⟨hvb0,hvb1⟩:=hvb
  have Eb:=hid eb
  clear cyb hbb hyb eb
  obtain ⟨yc,hyc,hbc,cyc⟩:=HS.out.int_cell (k:=kc) (by omega)
  have HC : Hid (w.cell? ⟨bb,oo + kc,none⟩ = some (.int .i64 yc) ∧ bb < w.heap.size):=⟨cyc,hbc⟩
  have ec : gi r (kc : Int) = yc:=by unfold gi;rw [Int.toNat_natCast,List.getD_eq_getElem?_getD,hyc];rfl
  have hvc:=regs_gi HR.out (x:=(kc : Int)) ⟨by omega,by omega⟩
  rw [ec] at hvc
  obtain ⟨hvc0,hvc1⟩:=hvc
  have Ec:=hid ec
  clear cyc hbc hyc ec
  have HZ : Hid (calcF ⟨3,(ka : Int),(kb : Int),(kc : Int)⟩ r = r.set ka ((yb - yc + 65536) % 65536)):=by
   show _ = _
   unfold calcF
   simp [Eb.out,Ec.out]
  go_enter Tryz.func206,Tryz.ntmps206
  have HVV : Hid ((IntKind.i64.wrap (IntKind.i64.wrap (yb - yc) + 65536)).tmod 65536 = (yb - yc + 65536) % 65536):=by
   show _ = _
   rw [Go.IntWalk.i64_in (yb - yc) (by omega),Go.IntWalk.i64_in (yb - yc + 65536) (by omega),Int.tmod_eq_emod_of_nonneg (by omega)]
  go_wp2_with (first|(go_at_call 157;(with_reducible refine (copyInts_any _ 4 d r _ S (HS.out.ext M.out.ext) (by omega)).mono ?_);rintro e w' ⟨A2,c2,rfl,o9,x9⟩;have M9:=M.out.own o9 x9;obtain ⟨gp,rfl⟩:=Mine.addr M9 0 rfl (by omega);replace M:=hid M9;clear o9 x9 M9)|(go_at_call 199;refine zC M (impl_OpOk _ _ _ _ _) ?_;clear M;intro w' M;rw [hop])|(go_at_call 148;(with_reducible refine (areValues4_any _ 4 d r _ S (HS.out.ext M.out.ext) (by omega)).mono ?_);rintro e w' ⟨rfl,rfl⟩;rw [hreg])|((with_reducible refine zN ?_);first|((first|refine zG M.out 1 ?_|refine zGs M.out 237 1 4 ?_);(try simp only [zr_,zm_]))|(refine Mine.wp_box M.out rfl 237 _ rfl _ rfl ?_;intro gv w' M';(try simp only [zr_,zm_] at M');replace M:=hid M';clear M';(try simp only [zr_,zm_])))|((with_reducible show wpList _ _ _ (⟨_,.load _ _,_,_,_,some _⟩::_) _ _);first|(refine zGg M.out 1 ?_;(try simp only [zr_,zm_]))))
  refine Mine.region_tail M.out 17 (by kernel_rfl) (by kernel_rfl) ?_
  simp only [List.take_succ_cons,List.take_zero,List.drop_succ_cons,List.drop_zero]
  repeat (first|go_big_quiet_skip|(go_big_quiet_want;first|((first|refine zQ 1 ?_|refine Mine.oq_arg 3 _ rfl _ _ HB.out rfl _ Tryz.underlying3 (by rfl) ?_|refine Mine.oq_arg 3 _ rfl _ _ HC.out rfl _ Tryz.underlying3 (by rfl) ?_);(try simp only [zr_,zm_]);go_big_quiet_on)|(unfold Oper.quiet;apply Exists.intro;refine ⟨fun wq hq => ?_,?_⟩;(clear hq;go_simp;first|done|rfl|exact ⟨rfl,rfl⟩);(try simp only [zs_,zl_]);go_big_quiet_on)))
  refine wpQuiet_nil ?_
  intro w' M'
  replace M:=hid M'
  clear M'
  go_wp2_with (((with_reducible refine zN ?_);first|(refine Mine.wp_put M.out rfl _ _ _ rfl rfl 0 _ rfl rfl _ (by (conv => lhs;whnf) <;> rfl) (by omega) (by rfl) (by kernel_rfl) ?_;intro w' M';(try simp only [zr_,zm_] at M');replace M:=hid M';clear M')))
  go_ret2
  have M9:=M.out
  rw [HVV.out] at M9
  exact ⟨_,_,rfl,by rw [HZ.out];exact M9.row_at 0 rfl,M.out.ext⟩
 obtain rfl : k = 4:=by omega
 obtain ⟨⟨ha0,ha1⟩,hbb,hcc⟩:=ok4 ho rfl
 simp only at ha0 ha1 hbb hcc
 obtain ⟨ka,rfl⟩ : ∃ u : Nat,a = (u : Int):=⟨a.toNat,by omega⟩
 have hka : ka < 4:=by omega
 have hka1 : (ka : Int) < 4:=by omega
 clear ha0 ha1 ho hk hk1
 obtain ⟨hb0,hb1⟩:=hbb
 obtain ⟨hc0,hc1⟩:=hcc
 obtain ⟨kb,rfl⟩ : ∃ u : Nat,b = (u : Int):=⟨b.toNat,by omega⟩
 obtain ⟨kc,rfl⟩ : ∃ u : Nat,c = (u : Int):=⟨c.toNat,by omega⟩
 have hkb : kb < 4:=by omega
 have hkc : kc < 4:=by omega
 have hkb1 : (kb : Int) < 4:=by omega
 have hkc1 : (kc : Int) < 4:=by omega
 clear hb0 hb1 hc0 hc1
 obtain ⟨yb,hyb,hbb,cyb⟩:=HS.out.int_cell (k:=kb) (by omega)
 have HB : Hid (w.cell? ⟨bb,oo + kb,none⟩ = some (.int .i64 yb) ∧ bb < w.heap.size):=⟨cyb,hbb⟩
 have eb : gi r (kb : Int) = yb:=by unfold gi;rw [Int.toNat_natCast,List.getD_eq_getElem?_getD,hyb];rfl
 have hvb:=regs_gi HR.out (x:=(kb : Int)) ⟨by omega,by omega⟩
 rw [eb] at hvb
 obtain ⟨hvb0,hvb1⟩:=hvb
 have Eb:=hid eb
 clear cyb hbb hyb eb
 obtain ⟨yc,hyc,hbc,cyc⟩:=HS.out.int_cell (k:=kc) (by omega)
 have HC : Hid (w.cell? ⟨bb,oo + kc,none⟩ = some (.int .i64 yc) ∧ bb < w.heap.size):=⟨cyc,hbc⟩
 have ec : gi r (kc : Int) = yc:=by unfold gi;rw [Int.toNat_natCast,List.getD_eq_getElem?_getD,hyc];rfl
 have hvc:=regs_gi HR.out (x:=(kc : Int)) ⟨by omega,by omega⟩
 rw [ec] at hvc
 obtain ⟨hvc0,hvc1⟩:=hvc
 have Ec:=hid ec
 clear cyc hbc hyc ec
 by_cases hlt : yb < yc
 ·skip
  have HZ : Hid (calcF ⟨4,(ka : Int),(kb : Int),(kc : Int)⟩ r = (r.set ka 0).set ka 1):=by
   show _ = _
   unfold calcF
   simp [Eb.out,Ec.out,hlt]
  go_enter Tryz.func206,Tryz.ntmps206
  go_wp2_with (first|(go_at_call 157;(with_reducible refine (copyInts_any _ 4 d r _ S (HS.out.ext M.out.ext) (by omega)).mono ?_);rintro e w' ⟨A2,c2,rfl,o9,x9⟩;have M9:=M.out.own o9 x9;obtain ⟨gp,rfl⟩:=Mine.addr M9 0 rfl (by omega);replace M:=hid M9;clear o9 x9 M9)|(go_at_call 199;refine zC M (impl_OpOk _ _ _ _ _) ?_;clear M;intro w' M;rw [hop])|(go_at_call 148;(with_reducible refine (areValues4_any _ 4 d r _ S (HS.out.ext M.out.ext) (by omega)).mono ?_);rintro e w' ⟨rfl,rfl⟩;rw [hreg])|((with_reducible refine zN ?_);first|((first|refine zG M.out 1 ?_|refine zGs M.out 237 1 4 ?_);(try simp only [zr_,zm_]))|(refine Mine.wp_box M.out rfl 237 _ rfl _ rfl ?_;intro gv w' M';(try simp only [zr_,zm_] at M');replace M:=hid M';clear M';(try simp only [zr_,zm_]))|(refine Mine.wp_put M.out rfl _ _ _ rfl rfl 0 _ rfl rfl _ (by (conv => lhs;whnf) <;> rfl) (by omega) (by rfl) (by kernel_rfl) ?_;intro w' M';(try simp only [zr_,zm_] at M');replace M:=hid M';clear M'))|((with_reducible show wpList _ _ _ (⟨_,.load _ _,_,_,_,some _⟩::_) _ _);first|(refine zGg M.out 1 ?_;(try simp only [zr_,zm_]))))
  refine zRQ M.out ?_
  repeat (first|go_big_quiet_skip|(go_big_quiet_want;first|((first|refine zQ 1 ?_|refine Mine.oq_arg 3 _ rfl _ _ HB.out rfl _ Tryz.underlying3 (by rfl) ?_|refine Mine.oq_arg 3 _ rfl _ _ HC.out rfl _ Tryz.underlying3 (by rfl) ?_);(try simp only [zr_,zm_]);go_big_quiet_on)|(unfold Oper.quiet;apply Exists.intro;refine ⟨fun wq hq => ?_,?_⟩;(clear hq;go_simp;first|done|rfl|exact ⟨rfl,rfl⟩);(try simp only [zs_,zl_]);go_big_quiet_on)))
  refine wpQuiet_nil ?_
  intro w' M'
  replace M:=hid M'
  clear M'
  go_wp2_with (((with_reducible refine zN ?_);first|(refine zG M.out 1 ?_;(try simp only [zr_,zm_]))|(refine Mine.wp_put M.out rfl _ _ _ rfl rfl 0 _ rfl rfl _ (by (conv => lhs;whnf) <;> rfl) (by omega) (by rfl) (by kernel_rfl) ?_;intro w' M';(try simp only [zr_,zm_] at M');replace M:=hid M';clear M')))
  go_ret2
  exact ⟨_,_,rfl,by rw [HZ.out];exact M.out.row_at 0 rfl,M.out.ext⟩
 ·skip
  have HZ : Hid (calcF ⟨4,(ka : Int),(kb : Int),(kc : Int)⟩ r = r.set ka 0):=by
   show _ = _
   unfold calcF
   simp [Eb.out,Ec.out,hlt]
  go_enter Tryz.func206,Tryz.ntmps206
  go_wp2_with (first|(go_at_call 157;(with_reducible refine (copyInts_any _ 4 d r _ S (HS.out.ext M.out.ext) (by omega)).mono ?_);rintro e w' ⟨A2,c2,rfl,o9,x9⟩;have M9:=M.out.own o9 x9;obtain ⟨gp,rfl⟩:=Mine.addr M9 0 rfl (by omega);replace M:=hid M9;clear o9 x9 M9)|(go_at_call 199;refine zC M (impl_OpOk _ _ _ _ _) ?_;clear M;intro w' M;rw [hop])|(go_at_call 148;(with_reducible refine (areValues4_any _ 4 d r _ S (HS.out.ext M.out.ext) (by omega)).mono ?_);rintro e w' ⟨rfl,rfl⟩;rw [hreg])|((with_reducible refine zN ?_);first|((first|refine zG M.out 1 ?_|refine zGs M.out 237 1 4 ?_);(try simp only [zr_,zm_]))|(refine Mine.wp_box M.out rfl 237 _ rfl _ rfl ?_;intro gv w' M';(try simp only [zr_,zm_] at M');replace M:=hid M';clear M';(try simp only [zr_,zm_]))|(refine Mine.wp_put M.out rfl _ _ _ rfl rfl 0 _ rfl rfl _ (by (conv => lhs;whnf) <;> rfl) (by omega) (by rfl) (by kernel_rfl) ?_;intro w' M';(try simp only [zr_,zm_] at M');replace M:=hid M';clear M'))|((with_reducible show wpList _ _ _ (⟨_,.load _ _,_,_,_,some _⟩::_) _ _);first|(refine zGg M.out 1 ?_;(try simp only [zr_,zm_]))))
  refine zRQ M.out ?_
  repeat (first|go_big_quiet_skip|(go_big_quiet_want;first|((first|refine zQ 1 ?_|refine Mine.oq_arg 3 _ rfl _ _ HB.out rfl _ Tryz.underlying3 (by rfl) ?_|refine Mine.oq_arg 3 _ rfl _ _ HC.out rfl _ Tryz.underlying3 (by rfl) ?_);(try simp only [zr_,zm_]);go_big_quiet_on)|(unfold Oper.quiet;apply Exists.intro;refine ⟨fun wq hq => ?_,?_⟩;(clear hq;go_simp;first|done|rfl|exact ⟨rfl,rfl⟩);(try simp only [zs_,zl_]);go_big_quiet_on)))
  refine wpQuiet_nil ?_
  intro w' M'
  replace M:=hid M'
  clear M'
  go_wp2_with (fail)
  go_ret2
  exact ⟨_,_,rfl,by rw [HZ.out];exact M.out.row_at 0 rfl,M.out.ext⟩

end Go.Proofs.YtoegjiigaoanbaaGreat
namespace Go.Proofs.YtoegjiigaoanbaaGreat
open Go.RowKit Go.Deep
set_option linter.unnecessarySimpa false
set_option maxHeartbeats 400000000
open Go.Lib (hid)
set_option linter.unusedSimpArgs false
set_option linter.unusedVariables false
theorem ints_gi {l : List Int} {k : Nat} (h : k < l.length) : (ints l)[k]? = some (.int .i64 (gi l (k : Int))):=by
 have h1:=gi_at (l:=l) (x:=(k : Int)) (by omega) (by omega)
 rw [Int.toNat_natCast] at h1
 unfold ints
 rw [List.getElem?_map,h1]
 rfl

end Go.Proofs.YtoegjiigaoanbaaGreat
namespace Go.Proofs.YtoegjiigaoanbaaGreat
open Go.RowKit Go.Deep
set_option linter.unnecessarySimpa false
set_option maxHeartbeats 400000000
open Go.Lib (hid)
set_option linter.unusedSimpArgs false
set_option linter.unusedVariables false
theorem spec_HasFork (A : Option Addr) (n c : Nat) (l : List GOp) (w : World) (S : Nat → Prop) (hs : Sl w S 4 A n (l.flatMap GOp.cells)) (hm : n ≤ 1048576) :
  Calls Tryz.prog 134 #[.slice A n c] w fun e w' => e = .returned (.bool (hasFork l)) ∧ w = w':=by
 have hl : l.length = n:=hs.flen GOp.cells_length (by omega)
 have HS:=hid hs
 have HL:=hid hl
 clear hs hl
 go_enter Tryz.func134,Tryz.ntmps134
 go_wp2
 go_loopw [3] (fun i wr => ∃ q : Nat,q ≤ n ∧ i = .int .i64 (q : Int) ∧ Hid (AllTo noFk l q) ∧ w = wr) (fun i _ => n - (intOf i).toNat)
 case atStart => exact ⟨0,Nat.zero_le _,rfl,AllTo.zero _ _,rfl⟩
 case round =>
  obtain ⟨q,hq,rfl,HU,rfl⟩:=hrel
  by_cases hlt : q < n
  rotate_left
  ·have HZ : Hid (hasFork l = false):=dec_no fun z => z (by rw [HL.out,← (show q = n by omega)];exact HU.out)
   go_wp2
   go_ret
   exact ⟨by rw [HZ.out];first|done|rfl,by trivial⟩
  have HLT : Hid (q < n):=hlt
  obtain ⟨b,oo,rfl⟩:=HS.out.addr (by omega)
  obtain ⟨o,ho,-,-,k0,-⟩:=code_at HS.out hlt
  have HO:=hid ho
  clear ho
  by_cases k11 : o.kind_ = 11
  ·have HZ : Hid (hasFork l = true):=dec_yes fun z => z q (by rw [HL.out];exact HLT.out) o HO.out k11
   rw [k11] at k0
   clear k11
   go_wp2
   go_ret
   exact ⟨by rw [HZ.out];first|done|rfl,by trivial⟩
  ·have HK:=hid k11
   have b11 : (o.kind_ == 11) = false:=by simpa using k11
   clear k11
   go_wp2
   go_roundw
   case rel => exact ⟨q + 1,HLT.out,by go_num,hid (HU.out.succ HO.out HK.out),by trivial⟩
   case measure => have:=HLT.out;simp [intOf];omega
theorem spec_KidOk (A : Option Addr) (n c : Nat) (l : List GOp) (w : World) (S : Nat → Prop) (hs : Sl w S 4 A n (l.flatMap GOp.cells)) (hm : n ≤ 1048576) :
  Calls Tryz.prog 135 #[.slice A n c] w fun e w' => e = .returned (.bool (kidOk l)) ∧ Ext w w':=by
 have hl : l.length = n:=hs.flen GOp.cells_length (by omega)
 have HS:=hid hs
 have HL:=hid hl
 have M : Hid (Mine w w []):=Mine.refl w
 clear hs hl
 cases hco : codeOk l
 ·have HZ : Hid (kidOk l = false):=dec_no fun z => by rw [hco] at z;exact absurd z.1 (by simp)
  go_enter Tryz.func135,Tryz.ntmps135
  go_wp2_with ((go_at_call 133;refine zC M (spec_CodeOk A n c l _ S (HS.out.ext M.out.ext) hm) ?_;clear M;intro w' M;rw [hco]))
  go_ret
  exact ⟨by rw [HZ.out];first|done|rfl,M.out.ext⟩
 cases hhf : hasFork l
 rotate_left
 ·have HZ : Hid (kidOk l = false):=dec_no fun z => dec_true hhf (fun i hi a ha => (z.2 i hi a ha).1)
  go_enter Tryz.func135,Tryz.ntmps135
  go_wp2_with (first|(go_at_call 133;refine zC M (spec_CodeOk A n c l _ S (HS.out.ext M.out.ext) hm) ?_;clear M;intro w' M;rw [hco])|(go_at_call 134;(with_reducible refine (spec_HasFork A n c l _ S (HS.out.ext M.out.ext) hm).mono ?_);rintro e w' ⟨rfl,rfl⟩;rw [hhf]))
  go_ret
  exact ⟨by rw [HZ.out];first|done|rfl,M.out.ext⟩
 have HCO:=hid hco
 have HHF : Hid (AllTo noFk l l.length):=by have:=dec_false hhf;exact Classical.not_not.1 this
 go_enter Tryz.func135,Tryz.ntmps135
 go_wp2_with (first|(go_at_call 133;refine zC M (spec_CodeOk A n c l _ S (HS.out.ext M.out.ext) hm) ?_;clear M;intro w' M;rw [hco])|(go_at_call 134;(with_reducible refine (spec_HasFork A n c l _ S (HS.out.ext M.out.ext) hm).mono ?_);rintro e w' ⟨rfl,rfl⟩;rw [hhf]))
 clear hco hhf
 go_loopw [3] (fun i wr => ∃ q : Nat,q ≤ n ∧ i = .int .i64 (q : Int) ∧ Hid (AllTo kidOp l q) ∧ Hid (Mine w wr [])) (fun i _ => n - (intOf i).toNat)
 case atStart => exact ⟨0,Nat.zero_le _,rfl,AllTo.zero _ _,M⟩
 case round =>
  clear M
  obtain ⟨q,hq,rfl,HU,M⟩:=hrel
  by_cases hlt : q < n
  rotate_left
  ·have HZ : Hid (kidOk l = true):=dec_yes ⟨HCO.out,by rw [HL.out,← (show q = n by omega)];exact HU.out⟩
   go_wp2
   go_ret
   exact ⟨by rw [HZ.out];first|done|rfl,M.out.ext⟩
  have HLT : Hid (q < n):=hlt
  obtain ⟨b,oo,rfl⟩:=HS.out.addr (by omega)
  obtain ⟨o,ho,hr,hb,-,-⟩:=code_at HS.out hlt
  have HR:=hid hr
  have HB:=hid hb
  have HO:=hid ho
  clear ho hr hb
  obtain ⟨k,a,b2,c2⟩:=o
  simp only [GOp.cells] at HR
  have htw:=touch_two ⟨k,a,b2,c2⟩
  obtain ⟨T,hT⟩ : ∃ T,touchF ⟨k,a,b2,c2⟩ = T:=⟨_,rfl⟩
  rw [hT] at htw
  have HT:=hid hT
  clear hT
  by_cases h2 : T = 2
  ·have HZ : Hid (kidOk l = false):=dec_no fun z => (z.2 q (by rw [HL.out];exact HLT.out) _ HO.out).2 (htw.1 h2)
   subst h2
   clear htw
   go_wp2_with (first|(go_at_call 187;refine zC M (spec_Touches _ _ _ _ _) ?_;clear M;intro w' M;rw [HT.out])|((with_reducible refine zN ?_);first|(refine Mine.wp_arg M.out rfl 237 _ rfl _ _ rfl _ HR.out HB.out _ Tryz.underlying237 (by rfl) (by kernel_rfl) ?_;(try simp only [zr_,zm_]))))
   go_ret
   exact ⟨by rw [HZ.out];first|done|rfl,M.out.ext⟩
  have HK : Hid (kidOp q ⟨k,a,b2,c2⟩):=⟨HHF.out q (by rw [HL.out];exact HLT.out) _ HO.out,fun z => h2 (htw.2 z)⟩
  have b2 : (T == 2) = false:=by simpa using h2
  clear h2 htw
  go_wp2_with (first|(go_at_call 187;refine zC M (spec_Touches _ _ _ _ _) ?_;clear M;intro w' M;rw [HT.out])|((with_reducible refine zN ?_);first|(refine Mine.wp_arg M.out rfl 237 _ rfl _ _ rfl _ HR.out HB.out _ Tryz.underlying237 (by rfl) (by kernel_rfl) ?_;(try simp only [zr_,zm_]))))
  go_roundw
  case rel => exact ⟨q + 1,HLT.out,by go_num,hid (HU.out.succ HO.out HK.out),M⟩
  case measure => have:=HLT.out;simp [intOf];omega
set_option maxRecDepth 8000 in
theorem spec_ProgOk (x : Prog) (cs : List Value) (w : World) (S : Nat → Prop) (h : Prog.R w S cs x) (_hw : Prog.wt x ≤ 1048576) :
  Calls Tryz.prog 79 #[.agg cs.toArray] w fun e w' => e = .returned (.bool (progOk x)) ∧ Ext w w':=by
 obtain ⟨A0,n0,c0,A1,n1,c1,rfl,⟨kh0,mh0,h0⟩,⟨kh1,mh1,h1⟩⟩:=h
 have hl0 : x.code_.length = n0:=h0.flen GOp.cells_length (by omega)
 have hl1 : x.kids_.length = n1:=h1.1
 have hkl:=wtl_len Kid.wt x.kids_
 have hn0 : n0 ≤ 1048576:=by unfold Prog.wt at _hw;omega
 have hn1 : n1 ≤ 1048576:=by unfold Prog.wt at _hw;omega
 have HW : Hid (∀ k ∈ x.kids_,k.code_.length ≤ 1048576):=fun k hk => by
  obtain ⟨i,hi⟩:=List.mem_iff_getElem?.1 hk
  have h1:=wtl_at Kid.wt hi
  have h2 : Kid.wt k = k.code_.length:=rfl
  unfold Prog.wt at _hw;omega
 have H0:=hid h0
 have H1:=hid h1
 have HL1:=hid hl1
 clear h0 h1 hkl _hw
 have M : Hid (Mine w (w.alloc (.cells #[.slice A0 n0 c0,.slice A1 n1 c1] 84)) [.box w.heap.size 84 #[.slice A0 n0 c0,.slice A1 n1 c1]]):=(Mine.refl w).box 84 #[.slice A0 n0 c0,.slice A1 n1 c1]
 show Calls Tryz.prog _ #[.agg #[.slice A0 n0 c0,.slice A1 n1 c1]] w _
 cases hco : codeOk x.code_
 ·have HZ : Hid (progOk x = false):=dec_no fun z => by have h:=z.1;rw [hco] at h;cases h
  go_enter Tryz.func79,Tryz.ntmps79
  go_wp2_with fail
  refine zRQ M.out ?_
  repeat (first|go_big_quiet_skip|(go_big_quiet_want;first|(refine zQ 0 ?_;(try simp only [zr_,zm_]);go_big_quiet_on)|(unfold Oper.quiet;apply Exists.intro;refine ⟨fun wq hq => ?_,?_⟩;(go_simp;go_at_call 133;(with_reducible refine (spec_CodeOk A0 n0 c0 x.code_ _ S (H0.out.ext hq.ext) hn0).mono ?_);rintro e w2 ⟨rfl,x2⟩;first|exact ⟨rfl,hq.on x2⟩|(subst x2;exact ⟨rfl,hq⟩));(try rw [hco]);(try simp only [zs_,zl_]);go_big_quiet_on)|(unfold Oper.quiet;apply Exists.intro;refine ⟨fun wq hq => ?_,?_⟩;(clear hq;go_simp;first|done|rfl|exact ⟨rfl,rfl⟩);(try simp only [zs_,zl_]);go_big_quiet_on)))
  refine wpQuiet_nil ?_
  intro w' M'
  replace M:=hid M'
  clear M'
  go_wp2
  go_ret
  exact ⟨by rw [HZ.out];first|done|rfl,M.out.ext⟩
 by_cases h3 : n1 ≤ 3
 rotate_left
 ·have HZ : Hid (progOk x = false):=dec_no fun z => h3 (by have:=z.2.1;omega)
  have d3 : decide ((3 : Int) < (n1 : Int)) = true:=decide_eq_true (by omega)
  clear h3
  go_enter Tryz.func79,Tryz.ntmps79
  go_wp2_with fail
  refine zRQ M.out ?_
  repeat (first|go_big_quiet_skip|(go_big_quiet_want;first|(refine zQ 0 ?_;(try simp only [zr_,zm_]);go_big_quiet_on)|(unfold Oper.quiet;apply Exists.intro;refine ⟨fun wq hq => ?_,?_⟩;(go_simp;go_at_call 133;(with_reducible refine (spec_CodeOk A0 n0 c0 x.code_ _ S (H0.out.ext hq.ext) hn0).mono ?_);rintro e w2 ⟨rfl,x2⟩;first|exact ⟨rfl,hq.on x2⟩|(subst x2;exact ⟨rfl,hq⟩));(try rw [hco]);(try simp only [zs_,zl_]);go_big_quiet_on)|(unfold Oper.quiet;apply Exists.intro;refine ⟨fun wq hq => ?_,?_⟩;(clear hq;go_simp;first|done|rfl|exact ⟨rfl,rfl⟩);(try simp only [zs_,zl_]);go_big_quiet_on)))
  refine wpQuiet_nil ?_
  intro w' M'
  replace M:=hid M'
  clear M'
  go_wp2
  go_ret
  exact ⟨by rw [HZ.out];first|done|rfl,M.out.ext⟩
 have d3 : decide ((3 : Int) < (n1 : Int)) = false:=decide_eq_false (by omega)
 have H3:=hid h3
 clear h3
 have hf9 : fkOk x ↔ hasFork x.code_ = decide (0 < n1):=by
  unfold fkOk
  have e : decide (0 < x.kids_.length) = decide (0 < n1):=decide_eq_decide.2 (by omega)
  rw [e]
 have HF9:=hid hf9
 clear hf9
 cases hhf : hasFork x.code_
 ·skip
  have e0 : decide ((0 : Int) < (n1 : Int)) = decide (0 < n1):=decide_eq_decide.2 (by omega)
  cases d0 : decide (0 < n1)
  ·skip
   rw [d0] at e0
   have HFK : Hid (fkOk x):=HF9.out.2 (by rw [hhf,d0])
   have HCO:=hid hco
   go_enter Tryz.func79,Tryz.ntmps79
   go_wp2_with fail
   refine zRQ M.out ?_
   repeat (first|go_big_quiet_skip|(go_big_quiet_want;first|(refine zQ 0 ?_;(try simp only [zr_,zm_]);go_big_quiet_on)|(unfold Oper.quiet;apply Exists.intro;refine ⟨fun wq hq => ?_,?_⟩;(go_simp;go_at_call 133;(with_reducible refine (spec_CodeOk A0 n0 c0 x.code_ _ S (H0.out.ext hq.ext) hn0).mono ?_);rintro e w2 ⟨rfl,x2⟩;first|exact ⟨rfl,hq.on x2⟩|(subst x2;exact ⟨rfl,hq⟩));(try rw [hco]);(try simp only [zs_,zl_]);go_big_quiet_on)|(unfold Oper.quiet;apply Exists.intro;refine ⟨fun wq hq => ?_,?_⟩;(go_simp;go_at_call 134;(with_reducible refine (spec_HasFork A0 n0 c0 x.code_ _ S (H0.out.ext hq.ext) hn0).mono ?_);rintro e w2 ⟨rfl,x2⟩;first|exact ⟨rfl,hq.on x2⟩|(subst x2;exact ⟨rfl,hq⟩));(try rw [hhf]);(try simp only [zs_,zl_]);go_big_quiet_on)|(unfold Oper.quiet;apply Exists.intro;refine ⟨fun wq hq => ?_,?_⟩;(clear hq;go_simp;first|done|rfl|exact ⟨rfl,rfl⟩);(try simp only [zs_,zl_]);go_big_quiet_on)))
   refine wpQuiet_nil ?_
   intro w' M'
   replace M:=hid M'
   clear M'
   go_wp2
   clear hco hhf d0 e0 d3
   go_loopw [3] (fun i wr => ∃ q : Nat,q ≤ n1 ∧ i = .int .i64 (q : Int) ∧ Hid (AllTo kidP x.kids_ q) ∧ Hid (Mine w wr [.box w.heap.size 84 #[.slice A0 n0 c0,.slice A1 n1 c1]])) (fun i _ => n1 - (intOf i).toNat)
   case atStart => exact ⟨0,Nat.zero_le _,rfl,AllTo.zero _ _,M⟩
   case round =>
    clear M
    obtain ⟨q,hq,rfl,HU,M⟩:=hrel
    by_cases hlt : q < n1
    rotate_left
    ·have HZ : Hid (progOk x = true):=dec_yes ⟨HCO.out,by rw [HL1.out];exact H3.out,HFK.out,by rw [HL1.out,← (show q = n1 by omega)];exact HU.out⟩
     go_wp2_with (((with_reducible refine zN ?_);first|(refine zG M.out 0 ?_;(try simp only [zr_,zm_]))))
     go_ret
     exact ⟨by rw [HZ.out];first|done|rfl,M.out.ext⟩
    have HLT : Hid (q < n1):=hlt
    obtain ⟨b,oo,kx,K0,kn0,kc0,rfl,hkx,hkb,kc,ks,klen,-⟩:=kid_at H1.out hlt
    have HKX:=hid hkx
    have HKC : Hid (w.cell? ⟨b,oo + q,none⟩ = some (.slice K0 kn0 kc0) ∧ b < w.heap.size):=⟨kc,hkb⟩
    have HKS:=hid ks
    have hkn : kn0 ≤ 1048576:=by rw [← klen];exact HW.out kx (List.mem_of_getElem? hkx)
    clear hkx hkb kc ks klen
    cases hko : kidOk kx.code_
    ·have HZ : Hid (progOk x = false):=dec_no fun z => AllTo.not HKX.out (by rw [HL1.out];exact HLT.out) (fun q => by have q2 : kidOk kx.code_ = true:=q;rw [hko] at q2;cases q2) z.2.2.2
     go_wp2_with (first|(go_at_call 135;refine zC M (spec_KidOk K0 kn0 kc0 kx.code_ _ S (HKS.out.ext M.out.ext) hkn) ?_;clear M;intro w' M;rw [hko])|((with_reducible refine zN ?_);first|((first|refine zG M.out 0 ?_|refine Mine.wp_argc M.out rfl _ _ rfl _ _ HKC.out rfl _ Tryz.underlying81 (by rfl) ?_);(try simp only [zr_,zm_]))))
     go_ret
     exact ⟨by rw [HZ.out];first|done|rfl,M.out.ext⟩
    have HKO : Hid (kidP q kx):=hko
    go_wp2_with (first|(go_at_call 135;refine zC M (spec_KidOk K0 kn0 kc0 kx.code_ _ S (HKS.out.ext M.out.ext) hkn) ?_;clear M;intro w' M;rw [hko])|((with_reducible refine zN ?_);first|((first|refine zG M.out 0 ?_|refine Mine.wp_argc M.out rfl _ _ rfl _ _ HKC.out rfl _ Tryz.underlying81 (by rfl) ?_);(try simp only [zr_,zm_]))))
    go_roundw
    case rel => exact ⟨q + 1,HLT.out,by go_num,hid (HU.out.succ HKX.out HKO.out),M⟩
    case measure => have:=HLT.out;simp [intOf];omega
  ·skip
   rw [d0] at e0
   have HZ : Hid (progOk x = false):=dec_no fun z => by have h:=HF9.out.1 z.2.2.1;rw [hhf,d0] at h;cases h
   go_enter Tryz.func79,Tryz.ntmps79
   go_wp2_with fail
   refine zRQ M.out ?_
   repeat (first|go_big_quiet_skip|(go_big_quiet_want;first|(refine zQ 0 ?_;(try simp only [zr_,zm_]);go_big_quiet_on)|(unfold Oper.quiet;apply Exists.intro;refine ⟨fun wq hq => ?_,?_⟩;(go_simp;go_at_call 133;(with_reducible refine (spec_CodeOk A0 n0 c0 x.code_ _ S (H0.out.ext hq.ext) hn0).mono ?_);rintro e w2 ⟨rfl,x2⟩;first|exact ⟨rfl,hq.on x2⟩|(subst x2;exact ⟨rfl,hq⟩));(try rw [hco]);(try simp only [zs_,zl_]);go_big_quiet_on)|(unfold Oper.quiet;apply Exists.intro;refine ⟨fun wq hq => ?_,?_⟩;(go_simp;go_at_call 134;(with_reducible refine (spec_HasFork A0 n0 c0 x.code_ _ S (H0.out.ext hq.ext) hn0).mono ?_);rintro e w2 ⟨rfl,x2⟩;first|exact ⟨rfl,hq.on x2⟩|(subst x2;exact ⟨rfl,hq⟩));(try rw [hhf]);(try simp only [zs_,zl_]);go_big_quiet_on)|(unfold Oper.quiet;apply Exists.intro;refine ⟨fun wq hq => ?_,?_⟩;(clear hq;go_simp;first|done|rfl|exact ⟨rfl,rfl⟩);(try simp only [zs_,zl_]);go_big_quiet_on)))
   refine wpQuiet_nil ?_
   intro w' M'
   replace M:=hid M'
   clear M'
   go_wp2
   go_ret
   exact ⟨by rw [HZ.out];first|done|rfl,M.out.ext⟩
 ·skip
  have e0 : decide ((0 : Int) < (n1 : Int)) = decide (0 < n1):=decide_eq_decide.2 (by omega)
  cases d0 : decide (0 < n1)
  ·skip
   rw [d0] at e0
   have HZ : Hid (progOk x = false):=dec_no fun z => by have h:=HF9.out.1 z.2.2.1;rw [hhf,d0] at h;cases h
   go_enter Tryz.func79,Tryz.ntmps79
   go_wp2_with fail
   refine zRQ M.out ?_
   repeat (first|go_big_quiet_skip|(go_big_quiet_want;first|(refine zQ 0 ?_;(try simp only [zr_,zm_]);go_big_quiet_on)|(unfold Oper.quiet;apply Exists.intro;refine ⟨fun wq hq => ?_,?_⟩;(go_simp;go_at_call 133;(with_reducible refine (spec_CodeOk A0 n0 c0 x.code_ _ S (H0.out.ext hq.ext) hn0).mono ?_);rintro e w2 ⟨rfl,x2⟩;first|exact ⟨rfl,hq.on x2⟩|(subst x2;exact ⟨rfl,hq⟩));(try rw [hco]);(try simp only [zs_,zl_]);go_big_quiet_on)|(unfold Oper.quiet;apply Exists.intro;refine ⟨fun wq hq => ?_,?_⟩;(go_simp;go_at_call 134;(with_reducible refine (spec_HasFork A0 n0 c0 x.code_ _ S (H0.out.ext hq.ext) hn0).mono ?_);rintro e w2 ⟨rfl,x2⟩;first|exact ⟨rfl,hq.on x2⟩|(subst x2;exact ⟨rfl,hq⟩));(try rw [hhf]);(try simp only [zs_,zl_]);go_big_quiet_on)|(unfold Oper.quiet;apply Exists.intro;refine ⟨fun wq hq => ?_,?_⟩;(clear hq;go_simp;first|done|rfl|exact ⟨rfl,rfl⟩);(try simp only [zs_,zl_]);go_big_quiet_on)))
   refine wpQuiet_nil ?_
   intro w' M'
   replace M:=hid M'
   clear M'
   go_wp2
   go_ret
   exact ⟨by rw [HZ.out];first|done|rfl,M.out.ext⟩
  ·skip
   rw [d0] at e0
   have HFK : Hid (fkOk x):=HF9.out.2 (by rw [hhf,d0])
   have HCO:=hid hco
   go_enter Tryz.func79,Tryz.ntmps79
   go_wp2_with fail
   refine zRQ M.out ?_
   repeat (first|go_big_quiet_skip|(go_big_quiet_want;first|(refine zQ 0 ?_;(try simp only [zr_,zm_]);go_big_quiet_on)|(unfold Oper.quiet;apply Exists.intro;refine ⟨fun wq hq => ?_,?_⟩;(go_simp;go_at_call 133;(with_reducible refine (spec_CodeOk A0 n0 c0 x.code_ _ S (H0.out.ext hq.ext) hn0).mono ?_);rintro e w2 ⟨rfl,x2⟩;first|exact ⟨rfl,hq.on x2⟩|(subst x2;exact ⟨rfl,hq⟩));(try rw [hco]);(try simp only [zs_,zl_]);go_big_quiet_on)|(unfold Oper.quiet;apply Exists.intro;refine ⟨fun wq hq => ?_,?_⟩;(go_simp;go_at_call 134;(with_reducible refine (spec_HasFork A0 n0 c0 x.code_ _ S (H0.out.ext hq.ext) hn0).mono ?_);rintro e w2 ⟨rfl,x2⟩;first|exact ⟨rfl,hq.on x2⟩|(subst x2;exact ⟨rfl,hq⟩));(try rw [hhf]);(try simp only [zs_,zl_]);go_big_quiet_on)|(unfold Oper.quiet;apply Exists.intro;refine ⟨fun wq hq => ?_,?_⟩;(clear hq;go_simp;first|done|rfl|exact ⟨rfl,rfl⟩);(try simp only [zs_,zl_]);go_big_quiet_on)))
   refine wpQuiet_nil ?_
   intro w' M'
   replace M:=hid M'
   clear M'
   go_wp2
   clear hco hhf d0 e0 d3
   go_loopw [3] (fun i wr => ∃ q : Nat,q ≤ n1 ∧ i = .int .i64 (q : Int) ∧ Hid (AllTo kidP x.kids_ q) ∧ Hid (Mine w wr [.box w.heap.size 84 #[.slice A0 n0 c0,.slice A1 n1 c1]])) (fun i _ => n1 - (intOf i).toNat)
   case atStart => exact ⟨0,Nat.zero_le _,rfl,AllTo.zero _ _,M⟩
   case round =>
    clear M
    obtain ⟨q,hq,rfl,HU,M⟩:=hrel
    by_cases hlt : q < n1
    rotate_left
    ·have HZ : Hid (progOk x = true):=dec_yes ⟨HCO.out,by rw [HL1.out];exact H3.out,HFK.out,by rw [HL1.out,← (show q = n1 by omega)];exact HU.out⟩
     go_wp2_with (((with_reducible refine zN ?_);first|(refine zG M.out 0 ?_;(try simp only [zr_,zm_]))))
     go_ret
     exact ⟨by rw [HZ.out];first|done|rfl,M.out.ext⟩
    have HLT : Hid (q < n1):=hlt
    obtain ⟨b,oo,kx,K0,kn0,kc0,rfl,hkx,hkb,kc,ks,klen,-⟩:=kid_at H1.out hlt
    have HKX:=hid hkx
    have HKC : Hid (w.cell? ⟨b,oo + q,none⟩ = some (.slice K0 kn0 kc0) ∧ b < w.heap.size):=⟨kc,hkb⟩
    have HKS:=hid ks
    have hkn : kn0 ≤ 1048576:=by rw [← klen];exact HW.out kx (List.mem_of_getElem? hkx)
    clear hkx hkb kc ks klen
    cases hko : kidOk kx.code_
    ·have HZ : Hid (progOk x = false):=dec_no fun z => AllTo.not HKX.out (by rw [HL1.out];exact HLT.out) (fun q => by have q2 : kidOk kx.code_ = true:=q;rw [hko] at q2;cases q2) z.2.2.2
     go_wp2_with (first|(go_at_call 135;refine zC M (spec_KidOk K0 kn0 kc0 kx.code_ _ S (HKS.out.ext M.out.ext) hkn) ?_;clear M;intro w' M;rw [hko])|((with_reducible refine zN ?_);first|((first|refine zG M.out 0 ?_|refine Mine.wp_argc M.out rfl _ _ rfl _ _ HKC.out rfl _ Tryz.underlying81 (by rfl) ?_);(try simp only [zr_,zm_]))))
     go_ret
     exact ⟨by rw [HZ.out];first|done|rfl,M.out.ext⟩
    have HKO : Hid (kidP q kx):=hko
    go_wp2_with (first|(go_at_call 135;refine zC M (spec_KidOk K0 kn0 kc0 kx.code_ _ S (HKS.out.ext M.out.ext) hkn) ?_;clear M;intro w' M;rw [hko])|((with_reducible refine zN ?_);first|((first|refine zG M.out 0 ?_|refine Mine.wp_argc M.out rfl _ _ rfl _ _ HKC.out rfl _ Tryz.underlying81 (by rfl) ?_);(try simp only [zr_,zm_]))))
    go_roundw
    case rel => exact ⟨q + 1,HLT.out,by go_num,hid (HU.out.succ HKX.out HKO.out),M⟩
    case measure => have:=HLT.out;simp [intOf];omega
set_option maxRecDepth 8000 in
theorem spec_ScriptOk (x : Script) (cs : List Value) (w : World) (S : Nat → Prop) (h : Script.R w S cs x) (_hw : Script.wt x ≤ 1048576) :
  Calls Tryz.prog 31 #[.agg cs.toArray] w fun e w' => e = .returned (.bool (scriptOk x)) ∧ Ext w w':=by
 obtain ⟨v0,A2,n2,c2,A3,n3,c3,rfl,h0,⟨kh1,mh1,h1⟩,⟨kh2,mh2,h2⟩⟩:=h
 obtain ⟨A0,n0,c0,A1,n1,c1,rfl⟩:=Things.R_cells h0
 have hl3 : x.progs_.length = n2:=h1.1
 have hl4 : x.acts_.length = n3:=h2.flen GAct.cells_length (by omega)
 have hkl:=wtl_len Prog.wt x.progs_
 have hn2 : n2 ≤ 1048576:=by unfold Script.wt at _hw;omega
 have hn3 : n3 ≤ 1048576:=by unfold Script.wt at _hw;omega
 have HWT : Hid (Things.wt x.start_ ≤ 1048576):=by show _ ≤ _;unfold Script.wt at _hw;omega
 have HW : Hid (∀ k ∈ x.progs_,Prog.wt k ≤ 1048576):=fun k hk => by
  obtain ⟨i,hi⟩:=List.mem_iff_getElem?.1 hk
  have h1:=wtl_at Prog.wt hi
  unfold Script.wt at _hw;omega
 have H0:=hid h0
 have H1:=hid h1
 have HL3:=hid hl3
 have HL4:=hid hl4
 clear h0 h1 h2 hkl _hw hl3 hl4
 have M : Hid (Mine w (w.alloc (.cells #[.slice A0 n0 c0,.slice A1 n1 c1,.int .i64 x.start_.count_,.slice A2 n2 c2,.slice A3 n3 c3] 48)) [.box w.heap.size 48 #[.slice A0 n0 c0,.slice A1 n1 c1,.int .i64 x.start_.count_,.slice A2 n2 c2,.slice A3 n3 c3]]):=(Mine.refl w).box 48 #[.slice A0 n0 c0,.slice A1 n1 c1,.int .i64 x.start_.count_,.slice A2 n2 c2,.slice A3 n3 c3]
 show Calls Tryz.prog _ #[.agg #[.slice A0 n0 c0,.slice A1 n1 c1,.int .i64 x.start_.count_,.slice A2 n2 c2,.slice A3 n3 c3]] w _
 cases hto : thingsOk x.start_
 ·have HZ : Hid (scriptOk x = false):=dec_no fun z => by have h:=z.1;rw [hto] at h;cases h
  go_enter Tryz.func31,Tryz.ntmps31
  go_wp2_with (first|(go_at_call 78;refine zC M (spec_ThingsOk x.start_ _ _ S (Things.R_good.ext H0.out M.out.ext) HWT.out) ?_;clear M;intro w' M;rw [hto])|((with_reducible refine zN ?_);first|(refine zGs M.out 42 0 3 ?_;(try simp only [zr_,zm_]))))
  go_ret
  exact ⟨by rw [HZ.out];first|done|rfl,M.out.ext⟩
 by_cases h4 : n2 ≤ 4
 rotate_left
 ·have HZ : Hid (scriptOk x = false):=dec_no fun z => h4 (by have:=z.2.1;rw [HL3.out] at this;exact this)
  have d4 : decide ((4 : Int) < (n2 : Int)) = true:=decide_eq_true (by omega)
  clear h4
  go_enter Tryz.func31,Tryz.ntmps31
  go_wp2_with (first|(go_at_call 78;refine zC M (spec_ThingsOk x.start_ _ _ S (Things.R_good.ext H0.out M.out.ext) HWT.out) ?_;clear M;intro w' M;rw [hto])|((with_reducible refine zN ?_);first|(refine zGs M.out 42 0 3 ?_;(try simp only [zr_,zm_])))|((with_reducible show wpList _ _ _ (⟨_,.load _ _,_,_,_,some _⟩::_) _ _);first|(refine zGg M.out 0 ?_;(try simp only [zr_,zm_]))))
  go_ret
  exact ⟨by rw [HZ.out];first|done|rfl,M.out.ext⟩
 have H4:=hid h4
 have d4 : decide ((4 : Int) < (n2 : Int)) = false:=decide_eq_false (by omega)
 clear h4
 by_cases h5 : n3 ≤ 400
 rotate_left
 ·have HZ : Hid (scriptOk x = false):=dec_no fun z => h5 (by have:=z.2.2.1;rw [HL4.out] at this;exact this)
  have d5 : decide ((400 : Int) < (n3 : Int)) = true:=decide_eq_true (by omega)
  clear h5
  go_enter Tryz.func31,Tryz.ntmps31
  go_wp2_with (first|(go_at_call 78;refine zC M (spec_ThingsOk x.start_ _ _ S (Things.R_good.ext H0.out M.out.ext) HWT.out) ?_;clear M;intro w' M;rw [hto])|((with_reducible refine zN ?_);first|(refine zGs M.out 42 0 3 ?_;(try simp only [zr_,zm_])))|((with_reducible show wpList _ _ _ (⟨_,.load _ _,_,_,_,some _⟩::_) _ _);first|(refine zGg M.out 0 ?_;(try simp only [zr_,zm_]))))
  go_ret
  exact ⟨by rw [HZ.out];first|done|rfl,M.out.ext⟩
 have H5:=hid h5
 have d5 : decide ((400 : Int) < (n3 : Int)) = false:=decide_eq_false (by omega)
 clear h5
 have HTO:=hid hto
 go_enter Tryz.func31,Tryz.ntmps31
 go_wp2_with (first|(go_at_call 78;refine zC M (spec_ThingsOk x.start_ _ _ S (Things.R_good.ext H0.out M.out.ext) HWT.out) ?_;clear M;intro w' M;rw [hto])|((with_reducible refine zN ?_);first|(refine zGs M.out 42 0 3 ?_;(try simp only [zr_,zm_])))|((with_reducible show wpList _ _ _ (⟨_,.load _ _,_,_,_,some _⟩::_) _ _);first|(refine zGg M.out 0 ?_;(try simp only [zr_,zm_]))))
 clear hto d4 d5
 go_loopw [3] (fun i wr => ∃ q : Nat,q ≤ n2 ∧ i = .int .i64 (q : Int) ∧ Hid (AllTo (fun _ p => progOk p = true) x.progs_ q) ∧ Hid (Mine w wr [.box w.heap.size 48 #[.slice A0 n0 c0,.slice A1 n1 c1,.int .i64 x.start_.count_,.slice A2 n2 c2,.slice A3 n3 c3]])) (fun i _ => n2 - (intOf i).toNat)
 case atStart => exact ⟨0,Nat.zero_le _,rfl,AllTo.zero _ _,M⟩
 case round =>
  clear M
  obtain ⟨q,hq,rfl,HU,M⟩:=hrel
  by_cases hlt : q < n2
  rotate_left
  ·have HZ : Hid (scriptOk x = true):=dec_yes ⟨HTO.out,by rw [HL3.out];exact H4.out,by rw [HL4.out];exact H5.out,by rw [HL3.out,← (show q = n2 by omega)];exact HU.out⟩
   go_wp2_with (((with_reducible refine zN ?_);first|(refine zG M.out 0 ?_;(try simp only [zr_,zm_]))))
   go_ret
   exact ⟨by rw [HZ.out];first|done|rfl,M.out.ext⟩
  have HLT : Hid (q < n2):=hlt
  obtain ⟨b,oo,p,P0,pn0,pc0,P1,pn1,pc1,rfl,hpx,hpb,hpr,hpR⟩:=prog_at H1.out hlt
  have HPX:=hid hpx
  have HR:=hid hpr
  have HB:=hid hpb
  have HPR:=hid hpR
  have HPW : Hid (Prog.wt p ≤ 1048576):=HW.out p (List.mem_of_getElem? hpx)
  clear hpx hpb hpr hpR
  cases hpo : progOk p
  ·have HZ : Hid (scriptOk x = false):=dec_no fun z => AllTo.not HPX.out (by rw [HL3.out];exact HLT.out) (fun q => by rw [hpo] at q;cases q) z.2.2.2
   go_wp2_with (first|(go_at_call 79;refine zC M (spec_ProgOk p [.slice P0 pn0 pc0,.slice P1 pn1 pc1] _ S (Prog.R_good.ext HPR.out M.out.ext) HPW.out) ?_;clear M;intro w' M;rw [hpo])|((with_reducible refine zN ?_);first|((first|refine zG M.out 0 ?_|refine Mine.wp_arg M.out rfl 84 _ rfl _ _ rfl _ HR.out HB.out _ Tryz.underlying84 (by rfl) (by kernel_rfl) ?_);(try simp only [zr_,zm_]))))
   go_ret
   exact ⟨by rw [HZ.out];first|done|rfl,M.out.ext⟩
  have HPO:=hid hpo
  go_wp2_with (first|(go_at_call 79;refine zC M (spec_ProgOk p [.slice P0 pn0 pc0,.slice P1 pn1 pc1] _ S (Prog.R_good.ext HPR.out M.out.ext) HPW.out) ?_;clear M;intro w' M;rw [hpo])|((with_reducible refine zN ?_);first|((first|refine zG M.out 0 ?_|refine Mine.wp_arg M.out rfl 84 _ rfl _ _ rfl _ HR.out HB.out _ Tryz.underlying84 (by rfl) (by kernel_rfl) ?_);(try simp only [zr_,zm_]))))
  go_roundw
  case rel => exact ⟨q + 1,HLT.out,by go_num,hid (HU.out.succ HPX.out HPO.out),M⟩
  case measure => have:=HLT.out;simp [intOf];omega

end Go.Proofs.YtoegjiigaoanbaaGreat
namespace Go.Proofs.YtoegjiigaoanbaaGreat
open Go.RowKit Go.Deep
set_option linter.unnecessarySimpa false
set_option maxHeartbeats 400000000
open Go.Lib (hid)
set_option linter.unusedSimpArgs false
set_option linter.unusedVariables false

theorem Tryz.infoMarkS : (Tryz.prog.info? 268).map (fun i => (i.zero,i.size,i.bytes)) = some (some (.agg #[.int .i64 0,.slice none 0 0,.slice none 0 0,.slice none 0 0,.int .i64 0]),5,88):=by kernel_rfl
def Walk0S : Prop:=∀ (A : Option Addr) (n c : Nat) (l : List GOp) (R : Option Addr) (rc : Nat) (regs : List Int) (C : Option Addr) (cc : Nat) (P : Option Addr) (pc : Nat) (t : Things) (w : World),
 Sl w (fun _ => True) 4 A n (l.flatMap GOp.cells) → codeOk l = true → AllTo noFk l l.length → Sl w (fun _ => True) 1 R 4 (ints regs) → regsOk regs = true → Sl w (fun _ => True) 1 C 8 (ints t.cells_) → Sl w (fun _ => True) 1 P 8 (ints t.map_) → thingsOk t = true →
 Calls Tryz.prog 138 #[.slice A n c,.slice none 0 0,.slice none 0 0,.slice R 4 rc,.agg #[.slice C 8 cc,.slice P 8 pc,.int .i64 t.count_]] w fun e w' => WPost l F0 regs t w e w'


def pickB (n : Nat) : Code → Option Code
 | .block k c => if k = n then some (.block k c) else pickB n c
 | .seq a b => match pickB n a with
  | some x => some x
  | none => pickB n b
 | .cond _ a b => match pickB n a with
  | some x => some x
  | none => pickB n b
 | .loop c => pickB n c
 | .scope c => pickB n c
 | .rangeFunc _ _ a b => match pickB n a with
  | some x => some x
  | none => pickB n b
 | _ => none
noncomputable def swS : Code:=match Tryz.f138.body with
 | some c => (pickB 2 c).getD .skip
 | none => .skip
def fru (L : List Value) (i : Nat) : Value:=L.getD i undef

set_option maxRecDepth 16000 in
def StepOk (kd : Int) : Prop:=∀ (n c : Nat) (l : List GOp) (K : Option Addr) (kn kc : Nat) (kids : List Kid) (O : Option Addr) (on oc : Nat) (lo : List Int) (regs : List Int) (t0 : Things) (F : FF) (w : World) (gs gr g0 : Nat) (SC : Option Addr) (se : Nat) (SM : Option Addr) (sf : Nat) (s : WS) (rd cd pd : Nat) (MA : Option Addr) (mc : Nat) (es : List MEnt) (gR gC gP b oo : Nat) (go : Nat) (w1 : World) (u : Nat → Value) (J9 KK9 : Act → World → Prop) (Q9 : Exit → Act → World → Prop) (a b2 c2 : Int) (HCO : Hid (codeOk l = true)) (HRO : Hid (regsOk regs = true)) (HTH : Hid (thingsOk t0 = true)) (HL : Hid (l.length = n)) (HF : Hid (FOk F)) (HFK : Hid (AllTo noFk l l.length ∨ (Walk0S ∧ F = forkF kids lo ∧ SlR Kid.R 1 w (fun _ => True) K kn kids ∧ KidsOk kids ∧ kn ≤ 3 ∧ Sl w (fun _ => True) 1 O on (ints lo) ∧ on ≤ 3 ∧ lo.Nodup ∧ (∀ x ∈ lo,0 ≤ x ∧ x < kids.length) ∧ (∀ j : Nat,j < kids.length → (j : Int) ∈ lo)))) (HI : Hid (WInv l F t0 ⟨0,regs,t0,[]⟩ s)) (HES : Hid (es.map MEnt.x = s.ms)) (HLT : Hid (s.pc < n)) (HS : Hid (Sl w (fun _ => True) 4 (some ⟨b,oo,none⟩) n (l.flatMap GOp.cells))) (HB : Hid (b < w.heap.size)) (HREG : Hid (regsOk s.regs = true)) (HTHS : Hid (valsOk s.th.cells_ = true ∧ mapOk s.th.map_ = true ∧ (0 ≤ s.th.count_ ∧ s.th.count_ ≤ 65535))) (HRG : Hid (w.rangeAt b (oo + s.pc * 4) [.int .i64 kd,.int .i64 a,.int .i64 b2,.int .i64 c2])) (HO : Hid (l[s.pc]? = some ⟨kd,a,b2,c2⟩)) (HOP : Hid (opOk ⟨kd,a,b2,c2⟩)) (hn24 : n ≤ 24) (hml : es.length ≤ 24) (hpl : s.pc ≤ n) (hpc : s.pc < 24) (M0 : Hid (Mine w w1 (.box go 237 #[.int .i64 kd,.int .i64 a,.int .i64 b2,.int .i64 c2]::SRows 268 gs s (some ⟨gR,0,none⟩,rd) (some ⟨gC,0,none⟩,cd) (some ⟨gP,0,none⟩,pd) MA mc es [.box g0 42 #[.slice SC 8 se,.slice SM 8 sf,.int .i64 t0.count_],.row 3 1 SC 8 se (ints t0.cells_),.row 3 1 SM 8 sf (ints t0.map_),.box gr 111 #[.int .i64 0,.slice none 0 0,.slice none 0 0,.slice none 0 0,.int .i64 0]])))
  (hJ9 : ∀ {x3 x12 x15 x16 x17 x18 x19 x20 x21 x22 x23 x24 x25 x34 x35 x36 x37 x38 x39 x40 x41 x42 x43 x44 x45 x46 x47 x48 x49 x50 x51 x52 x53 x54 x55 x56 x57 x58 x59 x60 x61 x62 x63 x64 x65 x66 x67 x68 x69 x70 x71 x72 x73 x74 x75 x76 x77 x78 x79 x80 x81 x82 x83 x84 x85 x86 x87 x88 x89 x90 x91 x92 x93 x94 x95 x96 x97 x98 x99 x100 x101 x102 x103 x104 x105 x106 x107 x108 x109 x110 x111 x112 x113 x114 x115 x116 x117 x118 x119 x120 x121 x122 x123 x124 x125 x126 x127 x128 x129 x130 x131 x132 x133 x134 x135 x136 x137 x138 x139 x140 x141 x142 x143 x144 x145 x146 x147 x148 x149 x150 x151 x152 x153 x154 x155 x156 x157 x158 x159 x160 x161 x162 x163 x164 x165 x166 x167 x168 x169 x170 x171 x172 x173 x174 x175 x176 x177 x178 x179 x180 x181 x182 x183 x184 x185 x186 x187 x188 x189 x190 x191 x192 x193 x194 x195 x196 x197 x198 x199 x200 x201 x202 x203 x204 x205 x206 x207 x208 x209 x210 x211 x212 x213 x214 x215 x216 x217 x218 x219 x220 x221 x222 x223 x224 x225 x226 x227 x228 x229 x230 x231 x232 x233 x234 x235 x236 x237 x238 x239 x240 x241 x242 x243 x244 x245 x246 x247 x248 x249 x250 x251 x252 x253 x254 x255 x256 x257 x258 x259 x260 x261 x262 x263 x264 x265 x266 x267 x268 x269 x270 x271 x272 x273 x274 x275 x276 x277 x278 x279 x280 x281 x282 x283 x284 x285 x286 x287 x288 : Value} (wx : World),WNext l F t0 ⟨0,regs,t0,[]⟩ s.pc 268 gs [.box g0 42 #[.slice SC 8 se,.slice SM 8 sf,.int .i64 t0.count_],.row 3 1 SC 8 se (ints t0.cells_),.row 3 1 SM 8 sf (ints t0.map_),.box gr 111 #[.int .i64 0,.slice none 0 0,.slice none 0 0,.slice none 0 0,.int .i64 0]] w wx x3 x12 x15 → J9 ⟨(List.toArray ((.slice (some ⟨b,oo,none⟩) n c)::(.slice K kn kc)::(.slice O on oc)::x3::(u 4)::(u 5)::(u 6)::(u 7)::(u 8)::(.pointer (some ⟨gs,0,none⟩))::(.pointer (some ⟨gr,0,none⟩))::(.pointer (some ⟨g0,0,none⟩))::x12::(.int .i64 (s.pc : Int))::(.pointer (some ⟨go,0,none⟩))::x15::x16::x17::x18::x19::x20::x21::x22::x23::x24::x25::(u 26)::(u 27)::(u 28)::(u 29)::(u 30)::(u 31)::(u 32)::(u 33)::x34::x35::x36::x37::x38::x39::x40::x41::x42::x43::x44::x45::x46::x47::x48::x49::x50::x51::x52::x53::x54::x55::x56::x57::x58::x59::x60::x61::x62::x63::x64::x65::x66::x67::x68::x69::x70::x71::x72::x73::x74::x75::x76::x77::x78::x79::x80::x81::x82::x83::x84::x85::x86::x87::x88::x89::x90::x91::x92::x93::x94::x95::x96::x97::x98::x99::x100::x101::x102::x103::x104::x105::x106::x107::x108::x109::x110::x111::x112::x113::x114::x115::x116::x117::x118::x119::x120::x121::x122::x123::x124::x125::x126::x127::x128::x129::x130::x131::x132::x133::x134::x135::x136::x137::x138::x139::x140::x141::x142::x143::x144::x145::x146::x147::x148::x149::x150::x151::x152::x153::x154::x155::x156::x157::x158::x159::x160::x161::x162::x163::x164::x165::x166::x167::x168::x169::x170::x171::x172::x173::x174::x175::x176::x177::x178::x179::x180::x181::x182::x183::x184::x185::x186::x187::x188::x189::x190::x191::x192::x193::x194::x195::x196::x197::x198::x199::x200::x201::x202::x203::x204::x205::x206::x207::x208::x209::x210::x211::x212::x213::x214::x215::x216::x217::x218::x219::x220::x221::x222::x223::x224::x225::x226::x227::x228::x229::x230::x231::x232::x233::x234::x235::x236::x237::x238::x239::x240::x241::x242::x243::x244::x245::x246::x247::x248::x249::x250::x251::x252::x253::x254::x255::x256::x257::x258::x259::x260::x261::x262::x263::x264::x265::x266::x267::x268::x269::x270::x271::x272::x273::x274::x275::x276::x277::x278::x279::x280::x281::x282::x283::x284::x285::x286::x287::x288::(u 289)::(u 290)::(u 291)::[])),[]⟩ wx)
  (hM9 : ∀ (aa : Act) (wx : World),Met J9 aa wx → KK9 aa wx)
  (hR9 : ∀ (aa : Act) (wx : World),bodyPost Tryz.prog Tryz.f138 (fun e w' => WPost l F regs t0 w e w') Exit.ret aa wx → Q9 Exit.ret aa wx)
  (hP9 : ∀ (ch : _) (a1 : Act) (dd : Option Nat) (vv : Value) (wx : World),Q9 (.panic ch) (a1.put dd vv) wx → Q9 (.panic ch) a1 wx),
  Code.wp Tryz.prog swS (Exit.then KK9 Q9) ⟨(List.toArray ((.slice (some ⟨b,oo,none⟩) n c)::(.slice K kn kc)::(.slice O on oc)::(.slice (some ⟨gR,0,none⟩) 4 rd)::(u 4)::(u 5)::(u 6)::(u 7)::(u 8)::(.pointer (some ⟨gs,0,none⟩))::(.pointer (some ⟨gr,0,none⟩))::(.pointer (some ⟨g0,0,none⟩))::(.slice MA es.length mc)::(.int .i64 (s.pc : Int))::(.pointer (some ⟨go,0,none⟩))::(.int .i64 ((s.pc : Int) + 1))::(u 16)::(u 17)::(u 18)::(u 19)::(u 20)::(u 21)::(u 22)::(u 23)::(u 24)::(u 25)::(u 26)::(u 27)::(u 28)::(u 29)::(u 30)::(u 31)::(u 32)::(u 33)::(u 34)::(u 35)::(u 36)::(u 37)::(u 38)::(u 39)::(u 40)::(u 41)::(u 42)::(u 43)::(u 44)::(.int .i64 kd)::(u 46)::(u 47)::(u 48)::(u 49)::(u 50)::(u 51)::(u 52)::(u 53)::(u 54)::(u 55)::(u 56)::(u 57)::(u 58)::(u 59)::(u 60)::(u 61)::(u 62)::(u 63)::(u 64)::(u 65)::(u 66)::(u 67)::(u 68)::(u 69)::(u 70)::(u 71)::(u 72)::(u 73)::(u 74)::(u 75)::(u 76)::(u 77)::(u 78)::(u 79)::(u 80)::(u 81)::(u 82)::(u 83)::(u 84)::(u 85)::(u 86)::(u 87)::(u 88)::(u 89)::(u 90)::(u 91)::(u 92)::(u 93)::(u 94)::(u 95)::(u 96)::(u 97)::(u 98)::(u 99)::(u 100)::(u 101)::(u 102)::(u 103)::(u 104)::(u 105)::(u 106)::(u 107)::(u 108)::(u 109)::(u 110)::(u 111)::(u 112)::(u 113)::(u 114)::(u 115)::(u 116)::(u 117)::(u 118)::(u 119)::(u 120)::(u 121)::(u 122)::(u 123)::(u 124)::(u 125)::(u 126)::(u 127)::(u 128)::(u 129)::(u 130)::(u 131)::(u 132)::(u 133)::(u 134)::(u 135)::(u 136)::(u 137)::(u 138)::(u 139)::(u 140)::(u 141)::(u 142)::(u 143)::(u 144)::(u 145)::(u 146)::(u 147)::(u 148)::(u 149)::(u 150)::(u 151)::(u 152)::(u 153)::(u 154)::(u 155)::(u 156)::(u 157)::(u 158)::(u 159)::(u 160)::(u 161)::(u 162)::(u 163)::(u 164)::(u 165)::(u 166)::(u 167)::(u 168)::(u 169)::(u 170)::(u 171)::(u 172)::(u 173)::(u 174)::(u 175)::(u 176)::(u 177)::(u 178)::(u 179)::(u 180)::(u 181)::(u 182)::(u 183)::(u 184)::(u 185)::(u 186)::(u 187)::(u 188)::(u 189)::(u 190)::(u 191)::(u 192)::(u 193)::(u 194)::(u 195)::(u 196)::(u 197)::(u 198)::(u 199)::(u 200)::(u 201)::(u 202)::(u 203)::(u 204)::(u 205)::(u 206)::(u 207)::(u 208)::(u 209)::(u 210)::(u 211)::(u 212)::(u 213)::(u 214)::(u 215)::(u 216)::(u 217)::(u 218)::(u 219)::(u 220)::(u 221)::(u 222)::(u 223)::(u 224)::(u 225)::(u 226)::(u 227)::(u 228)::(u 229)::(u 230)::(u 231)::(u 232)::(u 233)::(u 234)::(u 235)::(u 236)::(u 237)::(u 238)::(u 239)::(u 240)::(u 241)::(u 242)::(u 243)::(u 244)::(u 245)::(u 246)::(u 247)::(u 248)::(u 249)::(u 250)::(u 251)::(u 252)::(u 253)::(u 254)::(u 255)::(u 256)::(u 257)::(u 258)::(u 259)::(u 260)::(u 261)::(u 262)::(u 263)::(u 264)::(u 265)::(u 266)::(u 267)::(u 268)::(u 269)::(u 270)::(u 271)::(u 272)::(u 273)::(u 274)::(u 275)::(u 276)::(u 277)::(u 278)::(u 279)::(u 280)::(u 281)::(u 282)::(u 283)::(u 284)::(u 285)::(u 286)::(u 287)::(u 288)::(u 289)::(u 290)::(u 291)::[])),[]⟩ w1

end Go.Proofs.YtoegjiigaoanbaaGreat
namespace Go.Proofs.YtoegjiigaoanbaaGreat
open Go.RowKit Go.Deep
set_option linter.unnecessarySimpa false
set_option maxHeartbeats 400000000
open Go.Lib (hid)
set_option linter.unusedSimpArgs false
set_option linter.unusedVariables false
set_option maxRecDepth 16000 in
theorem spec_k5 : StepOk 5:=by
 intro n c l K kn kc kids O on oc lo regs t0 F w gs gr g0 SC se SM sf s rd cd pd MA mc es gR gC gP b oo go w1 u J9 KK9 Q9 a b2 c2 HCO HRO HTH HL HF HFK HI HES HLT HS HB HREG HTHS HRG HO HOP hn24 hml hpl hpc M0 hJ9 hM9 hR9 hP9
 have M:=hid M0.out
 simp only [SRows,List.cons_append,List.nil_append] at M
 clear M0
 conv =>
  arg 2
  whnf
 obtain ⟨⟨ha0,ha1⟩,⟨hb0,hb1⟩,hc0⟩:=ok5 HOP.out rfl
 simp only at ha0 ha1 hb0 hb1 hc0
 obtain ⟨ka,rfl⟩ : ∃ u : Nat,a = (u : Int):=⟨a.toNat,by omega⟩
 have hka : ka < 4:=by omega
 have hka1 : (ka : Int) < 4:=by omega
 obtain ⟨kb,rfl⟩ : ∃ u : Nat,b2 = (u : Int):=⟨b2.toNat,by omega⟩
 have hkb : kb < 8:=by omega
 have hkb1 : (kb : Int) < 8:=by omega
 have hbx:=vals_gi HTHS.out.1 (x:=(kb : Int)) ⟨by omega,by omega⟩
 have hcx:=ints_gi (l:=s.th.cells_) (k:=kb) (by rw [valsOk_len HTHS.out.1];exact hkb)
 obtain ⟨x,hex⟩ : ∃ x,gi s.th.cells_ (kb : Int) = x:=⟨_,rfl⟩
 rw [hex] at hbx hcx
 obtain ⟨hbx0,hbx1⟩:=hbx
 have HX:=hid hcx
 have Ex:=hid hex
 clear hcx hex
 have hst : stp l F ⟨5,(ka : Int),(kb : Int),c2⟩ s = some ⟨s.pc + 1,s.regs.set ka x,s.th,s.ms⟩:=by
  rw [stp5 (by first|rfl|(simp only;omega))]
  simp only [Int.toNat_natCast,Ex.out]
 have HST:=hid hst
 clear hst
 clear ha0 ha1 hb0 hb1 hc0
 go_wp2_with (first|((with_reducible refine zN ?_);first|(refine zG M.out 0 ?_;(try simp only [zr_,zm_]))))
 refine Mine.region_tail M.out 10 (by kernel_rfl) (by kernel_rfl) ?_
 simp only [List.take_succ_cons,List.take_zero,List.drop_succ_cons,List.drop_zero]
 repeat (first|go_big_quiet_skip|(go_big_quiet_want;first|((first|refine zQ 0 ?_|refine zQ 5 ?_|refine Mine.oq_getr _ _ rfl 2 _ rfl rfl _ (by exact HX.out) _ (by first|exact Tryz.underlying3) (by rfl) ?_);(try simp only [zr_,zm_]);go_big_quiet_on)|(unfold Oper.quiet;apply Exists.intro;refine ⟨fun wq hq => ?_,?_⟩;(clear hq;go_simp;first|done|rfl|exact ⟨rfl,rfl⟩);(try simp only [zs_,zl_]);go_big_quiet_on)))
 refine wpQuiet_nil ?_
 intro w' M'
 replace M:=hid M'
 clear M'
 go_wp2_with (first|((with_reducible refine zN ?_);first|(refine Mine.wp_put M.out rfl _ _ _ rfl rfl 1 _ rfl rfl _ (by (conv => lhs;whnf) <;> rfl) (by omega) (by rfl) (by kernel_rfl) ?_;intro w' M';(try simp only [zr_,zm_] at M');replace M:=hid M';clear M')))
 (refine Met.intro ?_;refine hJ9 _ ?rel)
 case rel => exact ⟨⟨s.pc + 1,s.regs.set ka x,s.th,s.ms⟩,(some ⟨gR,0,none⟩,rd),(some ⟨gC,0,none⟩,cd),(some ⟨gP,0,none⟩,pd),MA,mc,es,rfl,rfl,by go_num,HES.out,HI.out.plain HCO.out HF.out HO.out HST.out (by simp) (by simp) rfl rfl,(by first|exact Nat.lt_succ_self _|(simp only;omega)),M.out.tail⟩
set_option maxRecDepth 16000 in
theorem spec_k6 : StepOk 6:=by
 intro n c l K kn kc kids O on oc lo regs t0 F w gs gr g0 SC se SM sf s rd cd pd MA mc es gR gC gP b oo go w1 u J9 KK9 Q9 a b2 c2 HCO HRO HTH HL HF HFK HI HES HLT HS HB HREG HTHS HRG HO HOP hn24 hml hpl hpc M0 hJ9 hM9 hR9 hP9
 have M:=hid M0.out
 simp only [SRows,List.cons_append,List.nil_append] at M
 clear M0
 conv =>
  arg 2
  whnf
 obtain ⟨⟨ha0,ha1⟩,⟨hb0,hb1⟩,hc0⟩:=ok6 HOP.out rfl
 simp only at ha0 ha1 hb0 hb1 hc0
 obtain ⟨ka,rfl⟩ : ∃ u : Nat,a = (u : Int):=⟨a.toNat,by omega⟩
 have hka : ka < 8:=by omega
 have hka1 : (ka : Int) < 8:=by omega
 obtain ⟨kb,rfl⟩ : ∃ u : Nat,b2 = (u : Int):=⟨b2.toNat,by omega⟩
 have hkb : kb < 4:=by omega
 have hkb1 : (kb : Int) < 4:=by omega
 have hbx:=regs_gi HREG.out (x:=(kb : Int)) ⟨by omega,by omega⟩
 have hcx:=ints_gi (l:=s.regs) (k:=kb) (by rw [regsOk_len HREG.out];exact hkb)
 obtain ⟨x,hex⟩ : ∃ x,gi s.regs (kb : Int) = x:=⟨_,rfl⟩
 rw [hex] at hbx hcx
 obtain ⟨hbx0,hbx1⟩:=hbx
 have HX:=hid hcx
 have Ex:=hid hex
 clear hcx hex
 have hst : stp l F ⟨6,(ka : Int),(kb : Int),c2⟩ s = some ⟨s.pc + 1,s.regs,⟨s.th.cells_.set ka x,s.th.map_,s.th.count_⟩,s.ms⟩:=by
  rw [stp6 (by first|rfl|(simp only;omega))]
  simp only [Int.toNat_natCast,Ex.out]
 have HST:=hid hst
 clear hst
 clear ha0 ha1 hb0 hb1 hc0
 go_wp2_with (first|((with_reducible refine zN ?_);first|(refine zG M.out 0 ?_;(try simp only [zr_,zm_]))))
 refine Mine.region_tail M.out 10 (by kernel_rfl) (by kernel_rfl) ?_
 simp only [List.take_succ_cons,List.take_zero,List.drop_succ_cons,List.drop_zero]
 repeat (first|go_big_quiet_skip|(go_big_quiet_want;first|((first|refine zQ 0 ?_|refine zQ 5 ?_|refine Mine.oq_getr _ _ rfl 1 _ rfl rfl _ (by exact HX.out) _ (by first|exact Tryz.underlying3) (by rfl) ?_);(try simp only [zr_,zm_]);go_big_quiet_on)|(unfold Oper.quiet;apply Exists.intro;refine ⟨fun wq hq => ?_,?_⟩;(clear hq;go_simp;first|done|rfl|exact ⟨rfl,rfl⟩);(try simp only [zs_,zl_]);go_big_quiet_on)))
 refine wpQuiet_nil ?_
 intro w' M'
 replace M:=hid M'
 clear M'
 go_wp2_with (first|((with_reducible refine zN ?_);first|(refine Mine.wp_put M.out rfl _ _ _ rfl rfl 2 _ rfl rfl _ (by (conv => lhs;whnf) <;> rfl) (by omega) (by rfl) (by kernel_rfl) ?_;intro w' M';(try simp only [zr_,zm_] at M');replace M:=hid M';clear M')))
 (refine Met.intro ?_;refine hJ9 _ ?rel)
 case rel => exact ⟨⟨s.pc + 1,s.regs,⟨s.th.cells_.set ka x,s.th.map_,s.th.count_⟩,s.ms⟩,(some ⟨gR,0,none⟩,rd),(some ⟨gC,0,none⟩,cd),(some ⟨gP,0,none⟩,pd),MA,mc,es,rfl,rfl,by go_num,HES.out,HI.out.plain HCO.out HF.out HO.out HST.out (by simp) (by simp) rfl rfl,(by first|exact Nat.lt_succ_self _|(simp only;omega)),M.out.tail⟩
set_option maxRecDepth 16000 in
theorem spec_k7 : StepOk 7:=by
 intro n c l K kn kc kids O on oc lo regs t0 F w gs gr g0 SC se SM sf s rd cd pd MA mc es gR gC gP b oo go w1 u J9 KK9 Q9 a b2 c2 HCO HRO HTH HL HF HFK HI HES HLT HS HB HREG HTHS HRG HO HOP hn24 hml hpl hpc M0 hJ9 hM9 hR9 hP9
 have M:=hid M0.out
 simp only [SRows,List.cons_append,List.nil_append] at M
 clear M0
 conv =>
  arg 2
  whnf
 obtain ⟨⟨ha0,ha1⟩,⟨hb0,hb1⟩,hc0⟩:=ok7 HOP.out rfl
 simp only at ha0 ha1 hb0 hb1 hc0
 obtain ⟨ka,rfl⟩ : ∃ u : Nat,a = (u : Int):=⟨a.toNat,by omega⟩
 have hka : ka < 4:=by omega
 have hka1 : (ka : Int) < 4:=by omega
 have hsk:=(codeOk_at HCO.out HO.out).2.1 rfl
 have hbn : 0 ≤ b2:=by omega
 have HSKM:=hid (HI.out.inv.skip HO.out rfl hsk hbn)
 have hb20 : b2.toNat ≤ 20:=by omega
 obtain ⟨kb,rfl⟩ : ∃ u : Nat,b2 = (u : Int):=⟨b2.toNat,by omega⟩
 have hkb20 : kb ≤ 20:=by omega
 clear hsk hbn hb20
 have hbx:=regs_gi HREG.out (x:=(ka : Int)) ⟨by omega,by omega⟩
 have hcx:=ints_gi (l:=s.regs) (k:=ka) (by rw [regsOk_len HREG.out];exact hka)
 obtain ⟨x,hex⟩ : ∃ x,gi s.regs (ka : Int) = x:=⟨_,rfl⟩
 rw [hex] at hbx hcx
 obtain ⟨hbx0,hbx1⟩:=hbx
 have HX:=hid hcx
 have Ex:=hid hex
 clear hcx hex
 clear ha0 ha1 hb0 hb1 hc0
 by_cases hx0 : x = 0
 ·skip
  subst hx0
  have hst : stp l F ⟨7,(ka : Int),(kb : Int),c2⟩ s = some ⟨s.pc + 1 + kb,s.regs,s.th,s.ms⟩:=by
   rw [stp7 (by first|rfl|(simp only;omega))]
   simp only [Int.toNat_natCast,Ex.out,if_true]
  have HST:=hid hst
  clear hst
  simp only [Int.toNat_natCast] at HSKM
  go_wp2_with (first|((with_reducible refine zN ?_);first|((first|refine zG M.out 0 ?_|refine Mine.wp_getr M.out rfl _ _ rfl 1 _ rfl rfl _ (by exact HX.out) _ (by first|exact Tryz.underlying3) (by rfl) ?_);(try simp only [zr_,zm_]))))
  (refine Met.intro ?_;refine hJ9 _ ?rel)
  case rel => exact ⟨⟨s.pc + 1 + kb,s.regs,s.th,s.ms⟩,(some ⟨gR,0,none⟩,rd),(some ⟨gC,0,none⟩,cd),(some ⟨gP,0,none⟩,pd),MA,mc,es,rfl,rfl,by go_num,HES.out,HI.out.step HCO.out HF.out HO.out HST.out HSKM.out,(by first|exact Nat.lt_succ_self _|(simp only;omega)),M.out.tail⟩
 ·skip
  have bx : (x == 0) = false:=by simpa using hx0
  have hst : stp l F ⟨7,(ka : Int),(kb : Int),c2⟩ s = some ⟨s.pc + 1,s.regs,s.th,s.ms⟩:=by
   rw [stp7 (by first|rfl|(simp only;omega))]
   simp only [Int.toNat_natCast,Ex.out,if_neg hx0,Nat.add_zero]
  have HST:=hid hst
  clear hst
  clear hx0
  go_wp2_with (first|((with_reducible refine zN ?_);first|((first|refine zG M.out 0 ?_|refine Mine.wp_getr M.out rfl _ _ rfl 1 _ rfl rfl _ (by exact HX.out) _ (by first|exact Tryz.underlying3) (by rfl) ?_);(try simp only [zr_,zm_]))))
  (refine Met.intro ?_;refine hJ9 _ ?rel)
  case rel => exact ⟨⟨s.pc + 1,s.regs,s.th,s.ms⟩,(some ⟨gR,0,none⟩,rd),(some ⟨gC,0,none⟩,cd),(some ⟨gP,0,none⟩,pd),MA,mc,es,rfl,rfl,by go_num,HES.out,HI.out.plain HCO.out HF.out HO.out HST.out (by simp) (by simp) rfl rfl,(by first|exact Nat.lt_succ_self _|(simp only;omega)),M.out.tail⟩

end Go.Proofs.YtoegjiigaoanbaaGreat
namespace Go.Proofs.YtoegjiigaoanbaaGreat
open Go.RowKit Go.Deep
set_option linter.unnecessarySimpa false
set_option maxHeartbeats 400000000
open Go.Lib (hid)
set_option linter.unusedSimpArgs false
set_option linter.unusedVariables false
set_option maxRecDepth 16000 in
theorem spec_k8 : StepOk 8:=by
 intro n c l K kn kc kids O on oc lo regs t0 F w gs gr g0 SC se SM sf s rd cd pd MA mc es gR gC gP b oo go w1 u J9 KK9 Q9 a b2 c2 HCO HRO HTH HL HF HFK HI HES HLT HS HB HREG HTHS HRG HO HOP hn24 hml hpl hpc M0 hJ9 hM9 hR9 hP9
 have M:=hid M0.out
 simp only [SRows,List.cons_append,List.nil_append] at M
 clear M0
 conv =>
  arg 2
  whnf
 have hst : stp l F ⟨8,a,b2,c2⟩ s = some ⟨s.pc + 1,s.regs,s.th,s.ms ++ [⟨s.pc,s.regs,s.th⟩]⟩:=stp8 rfl
 have HST:=hid hst
 clear hst
 go_wp2_with (first|((with_reducible refine zN ?_);first|(refine zG M.out 0 ?_;(try simp only [zr_,zm_]))))
 refine zRH M.out 9 ?_
 intro w' M'
 replace M:=hid M'
 clear M'
 refine HQ.takeL (i:=0) rfl (by kernel_rfl) (by kernel_rfl) (by kernel_rfl) (Nat.le_of_ble_eq_true rfl) rfl (fun _ _ _ _ h => hP9 _ _ _ _ _ h) ?_
 intro K hK
 (first|(refine zDs 42 5 3 ?_;(try simp only [zr_,zm_]);go_big_quiet_on)|(refine zX ?_;(try simp only [zs_,zl_]);go_big_quiet_on))
 refine HQ.takeL (i:=1) rfl (by kernel_rfl) (by kernel_rfl) (by kernel_rfl) (Nat.le_of_ble_eq_true rfl) rfl (fun _ _ _ _ h => hP9 _ _ _ _ _ h) ?_
 intro K hK
 (first|(refine zDs 42 5 3 ?_;(try simp only [zr_,zm_]);go_big_quiet_on)|(refine zX ?_;(try simp only [zs_,zl_]);go_big_quiet_on))
 refine HQ.takeL (i:=3) rfl (by kernel_rfl) (by kernel_rfl) (by kernel_rfl) (Nat.le_of_ble_eq_true rfl) rfl (fun _ _ _ _ h => hP9 _ _ _ _ _ h) ?_
 intro K hK
 (first|(refine zDs 42 5 3 ?_;(try simp only [zr_,zm_]);go_big_quiet_on)|(refine zX ?_;(try simp only [zs_,zl_]);go_big_quiet_on))
 refine HQ.takeL (i:=5) rfl (by kernel_rfl) (by kernel_rfl) (by kernel_rfl) (Nat.le_of_ble_eq_true rfl) rfl (fun _ _ _ _ h => hP9 _ _ _ _ _ h) ?_
 intro K hK
 (first|(refine zDs 42 5 3 ?_;(try simp only [zr_,zm_]);go_big_quiet_on)|(refine zX ?_;(try simp only [zs_,zl_]);go_big_quiet_on))
 refine zNy 2 (fun K hK => ?_)
 go_simp
 replace M:=hid (M.out.own (own_lit0 _ 3 1) ((Ext.refl' _).al _))
 refine hK.out _ _ (M.out.tail) ?_
 clear hK K
 (try simp only [zs_,zl_])
 refine zNy 4 (fun K hK => ?_)
 refine Mine.step_pour M.out rfl _ _ 22 rfl 3 _ _ _ Tryz.underlying22 Tryz.infoInt rfl (by omega) 0 rfl rfl (fun _ => True) _ 4 rd (ints s.regs) rfl (M.out.row_sl 2 rfl) (ints_one _) (by omega) (by unfold maxLen;omega) ?_
 intro A2 c2 w' M'
 (try simp only [zr_,zm_,List.nil_append,Nat.zero_add] at M')
 (try simp only [zr_,zm_,List.nil_append,Nat.zero_add])
 replace M:=hid M'
 clear M'
 refine hK.out _ _ (M.out.tail) ?_
 clear hK K
 (try simp only [zs_,zl_])
 refine zNy 6 (fun K hK => ?_)
 go_simp
 go_at_call 82
 refine (l7Copy_m _ 8 cd _ 8 pd s.th _ _ _ (M.out.row_sl 3 rfl) (by omega) (M.out.row_sl 4 rfl) (by omega)).mono ?_
 rintro e w5 ⟨C9,cd9,P9,pd9,rfl,M4⟩
 replace M:=hid (M.out.call M4)
 simp only [List.cons_append,List.nil_append] at M
 clear M4
 refine hK.out _ _ (M.out.tail.tail.tail) ?_
 clear hK K
 (try simp only [zs_,zl_])
 refine HQ.takeL (i:=7) rfl (by kernel_rfl) (by kernel_rfl) (by kernel_rfl) (Nat.le_of_ble_eq_true rfl) rfl (fun _ _ _ _ h => hP9 _ _ _ _ _ h) ?_
 intro K hK
 (first|(refine zX ?_;(try simp only [zs_,zl_]);go_big_quiet_on))
 refine zNy 8 (fun K hK => ?_)
 go_simp
 refine hK.out _ _ ((M.out.tail.tail.tail).al _) ?_
 clear hK K
 (try simp only [zs_,zl_])
 refine HQ.end_ (by kernel_rfl) ?_
 simp only [List.drop_succ_cons,List.drop_zero]
 go_wp2_with (first|(at_builtin;refine Mine.wp_push M.out rfl _ _ 266 rfl 268 _ _ _ Tryz.underlying266 Tryz.infoMarkS rfl (by omega) 7 rfl rfl _ _ rfl rfl rfl (by simp [Value.oneCell']) (by omega) (by unfold maxLen;omega) ?_;intro A7 c7 w' M';(try simp only [zr_,zm_] at M');replace M:=hid M';clear M'))
 have M9:=SRows.push (p2:=s.pc + 1) (ms:=s.ms ++ [⟨s.pc,s.regs,s.th⟩]) (R:=(some ⟨gR,0,none⟩,rd)) (C:=(some ⟨gC,0,none⟩,cd)) (P:=(some ⟨gP,0,none⟩,pd)) (r:=(_,_)) (c:=(_,_)) (m:=(_,_)) (B:=[.box g0 42 #[.slice SC 8 se,.slice SM 8 sf,.int .i64 t0.count_],.row 3 1 SC 8 se (ints t0.cells_),.row 3 1 SM 8 sf (ints t0.map_),.box gr 111 #[.int .i64 0,.slice none 0 0,.slice none 0 0,.slice none 0 0,.int .i64 0]]) (M.out.sub (sk_ (sk_ (sk_ (sd_ s1_)))))
 have MF:=hid M9
 clear M9
 skip
 (refine Met.intro ?_;refine hJ9 _ ?rel)
 case rel => exact ⟨⟨s.pc + 1,s.regs,s.th,s.ms ++ [⟨s.pc,s.regs,s.th⟩]⟩,(some ⟨gR,0,none⟩,rd),(some ⟨gC,0,none⟩,cd),(some ⟨gP,0,none⟩,pd),_,_,_,rfl,by rw [List.length_append];rfl,by go_num,by simp [HES.out],HI.out.step HCO.out HF.out HO.out HST.out (by simpa using HI.out.inv.begin HO.out rfl),(by first|exact Nat.lt_succ_self _|(simp only;omega)),MF.out⟩
set_option maxRecDepth 16000 in
theorem spec_k9 : StepOk 9:=by
 intro n c l K kn kc kids O on oc lo regs t0 F w gs gr g0 SC se SM sf s rd cd pd MA mc es gR gC gP b oo go w1 u J9 KK9 Q9 a b2 c2 HCO HRO HTH HL HF HFK HI HES HLT HS HB HREG HTHS HRG HO HOP hn24 hml hpl hpc M0 hJ9 hM9 hR9 hP9
 have M:=hid M0.out
 simp only [SRows,List.cons_append,List.nil_append] at M
 clear M0
 conv =>
  arg 2
  whnf
 have hne : es ≠ []:=fun z => HI.out.inv.some_ HCO.out HO.out rfl (by rw [← HES.out,z];rfl)
 obtain ⟨es',e,rfl⟩:=es_snoc hne
 obtain ⟨hml1,hml2⟩:=ms_last HES.out
 have hms:=ms_snoc HES.out
 have HMS:=hid hms
 have HM1:=hid hml1
 have HM2:=hid hml2
 have hinv:=HI.out.inv
 rw [hms] at hinv
 obtain ⟨hm1,⟨o8,ho8,hk8⟩,-,-⟩:=hinv.last
 have HINV:=hid hinv
 have HO8:=hid ho8
 have HK8:=hid hk8
 have HEM:=hid (HI.out.ok.ms e.x (getLast_mem hml1))
 have hm24 : e.x.at_ < n:=by omega
 clear hml1 hml2 hms hinv hne
 obtain ⟨oa,hoa,-,hcb,-,hc1⟩:=code_at HS.out hm24
 rw [HO8.out] at hoa
 injection hoa with hoa
 subst hoa
 obtain ⟨⟨hx0,hx1⟩,-,-⟩:=ok8 (codeOk_at HCO.out HO8.out).1 HK8.out
 obtain ⟨ka,hka⟩ : ∃ u : Nat,o8.a_ = (u : Int):=⟨o8.a_.toNat,by omega⟩
 rw [hka] at hc1 hx1
 have hka4 : ka < 4:=by omega
 have hka1 : (ka : Int) < 4:=by omega
 have HAC : Hid (w.cell? ⟨b,oo + e.x.at_ * 4 + 1,none⟩ = some (.int .i64 (ka : Int)) ∧ b < w.heap.size):=⟨hc1,hcb⟩
 have HOA : Hid (opA l e.x.at_ = ka):=by show _ = _;rw [opA_is HO8.out,hka];rfl
 clear hc1 hcb hx0 hx1 hka ho8 hk8
 have M8:=SRows.front (s:=s) (R:=(some ⟨gR,0,none⟩,rd)) (C:=(some ⟨gC,0,none⟩,cd)) (P:=(some ⟨gP,0,none⟩,pd)) (B:=[.box g0 42 #[.slice SC 8 se,.slice SM 8 sf,.int .i64 t0.count_],.row 3 1 SC 8 se (ints t0.cells_),.row 3 1 SM 8 sf (ints t0.map_),.box gr 111 #[.int .i64 0,.slice none 0 0,.slice none 0 0,.slice none 0 0,.int .i64 0]]) M.out.tail
 rw [show (es' ++ [e]).length = es'.length + 1 from by simp] at hml ⊢
 simp only [List.cons_append,List.nil_append] at M8
 replace M:=hid M8
 clear M8
 obtain ⟨K,hK⟩ : ∃ K,es'.length = K:=⟨_,rfl⟩
 have HLE:=hid (marks_last es' e)
 rw [hK] at M hml HLE ⊢
 have HK:=hid hK
 clear hK
 obtain ⟨gM,rfl⟩:=M.out.addr 6 rfl (by omega)
 simp only [mcell] at HLE
 have hmc:=M.out.cap 6 rfl
 have hmc1 : K ≤ mc:=by omega
 have hst : stp l F ⟨9,a,b2,c2⟩ s = some ⟨s.pc + 1,s.regs.set ka 1,s.th,es'.map MEnt.x⟩:=by rw [stp9 rfl,HM1.out,HM2.out];simp only [HOA.out]
 have HST:=hid hst
 clear hst
 go_wp2_with (first|((with_reducible refine zN ?_);first|((first|refine Mine.wp_arg M.out rfl 237 _ rfl _ _ rfl _ HRG.out HB.out _ Tryz.underlying237 (by rfl) (by kernel_rfl) ?_|refine zG M.out 0 ?_|refine Mine.wp_getrs M.out rfl 268 _ rfl 6 _ rfl rfl [.int .i64 (e.x.at_ : Int),.slice e.r.1 4 e.r.2,.slice e.c.1 8 e.c.2,.slice e.m.1 8 e.m.2,.int .i64 e.x.th.count_] (fun k hk => HLE.out k hk) _ Tryz.underlying268 (by rfl) (by kernel_rfl) ?_|refine Mine.wp_argc M.out rfl _ _ rfl _ _ HAC.out rfl _ Tryz.underlying3 (by rfl) ?_);(try simp only [zr_,zm_]))|(refine Mine.wp_alloc M.out rfl 237 rfl (.agg #[.int .i64 0,.int .i64 0,.int .i64 0,.int .i64 0]) (by kernel_rfl) ?_;intro go w' M';(try simp only [Value.cells,zr_,zm_] at M');replace M:=hid M';clear M';(try simp only [zr_,zm_]))|((first|refine zSs M.out 237 0 ?_|refine zSs M.out 268 0 ?_|refine Mine.wp_put M.out rfl _ _ _ rfl rfl 4 _ rfl rfl _ (by (conv => lhs;whnf) <;> rfl) (by omega) (by rfl) (by kernel_rfl) ?_);intro w' M';(try simp only [zr_,zm_] at M');replace M:=hid M';clear M')|(refine Mine.wp_alloc M.out rfl 268 rfl (.agg #[.int .i64 0,.slice none 0 0,.slice none 0 0,.slice none 0 0,.int .i64 0]) (by kernel_rfl) ?_;intro gm w' M';(try simp only [Value.cells,zr_,zm_] at M');replace M:=hid M';clear M';(try simp only [zr_,zm_]))))
 have hk9:=HK.out
 have M7:=M.out.sub (sd_ (sd_ (sd_ (sd_ (sk_ (sk_ (sk_ (sk_ (sk_ (sk_ (sk_ (sk_ (sk_ s1_)))))))))))))
 rw [← hk9] at M7
 have MF:=hid (SRows.cut (p2:=s.pc + 1) (ms:=es'.map MEnt.x) (R:=(some ⟨gR,0,none⟩,rd)) (C:=(some ⟨gC,0,none⟩,cd)) (P:=(some ⟨gP,0,none⟩,pd)) (B:=[.box g0 42 #[.slice SC 8 se,.slice SM 8 sf,.int .i64 t0.count_],.row 3 1 SC 8 se (ints t0.cells_),.row 3 1 SM 8 sf (ints t0.map_),.box gr 111 #[.int .i64 0,.slice none 0 0,.slice none 0 0,.slice none 0 0,.int .i64 0]]) M7)
 clear M7 hk9
 (refine Met.intro ?_;refine hJ9 _ ?rel)
 case rel => exact ⟨⟨s.pc + 1,s.regs.set ka 1,s.th,es'.map MEnt.x⟩,(some ⟨gR,0,none⟩,rd),(some ⟨gC,0,none⟩,cd),(some ⟨gP,0,none⟩,pd),_,_,es',rfl,by rw [HK.out],by go_num,rfl,HI.out.step HCO.out HF.out HO.out HST.out (HINV.out.end_ HO.out rfl),(by first|exact Nat.lt_succ_self _|(simp only;omega)),MF.out⟩

end Go.Proofs.YtoegjiigaoanbaaGreat
namespace Go.Proofs.YtoegjiigaoanbaaGreat
open Go.RowKit Go.Deep
set_option linter.unnecessarySimpa false
set_option maxHeartbeats 400000000
open Go.Lib (hid)
set_option linter.unusedSimpArgs false
set_option linter.unusedVariables false
set_option maxRecDepth 16000 in
theorem spec_k10 : StepOk 10:=by
 intro n c l K kn kc kids O on oc lo regs t0 F w gs gr g0 SC se SM sf s rd cd pd MA mc es gR gC gP b oo go w1 u J9 KK9 Q9 a b2 c2 HCO HRO HTH HL HF HFK HI HES HLT HS HB HREG HTHS HRG HO HOP hn24 hml hpl hpc M0 hJ9 hM9 hR9 hP9
 have M:=hid M0.out
 simp only [SRows,List.cons_append,List.nil_append] at M
 clear M0
 conv =>
  arg 2
  whnf
 by_cases hne : es = []
 ·subst hne
  have hms : s.ms = []:=HES.out.symm
  have hst : stp l F ⟨10,a,b2,c2⟩ s = none:=by rw [stp10 rfl,hms];rfl
  obtain ⟨hru,hok⟩:=HI.out.abort HCO.out HF.out HTH.out ⟨HRO.out,HTH.out,fun m hm => by cases hm⟩ HO.out hst
  have HRU:=hid hru
  have HOK:=hid hok
  clear hru hok hst hms
  go_wp2_with (first|((with_reducible refine zN ?_);first|((first|refine zG M.out 0 ?_|refine zGs M.out 42 6 3 ?_);(try simp only [zr_,zm_]))|(refine zSs M.out 111 9 ?_;intro w' M';(try simp only [zr_,zm_] at M');replace M:=hid M';clear M')))
  refine hR9 _ _ ?_
  refine bodyPost_ret (M.out.results_cell Tryz.results138 _ 9 rfl rfl _ Tryz.underlying111 (by rfl) (by kernel_rfl)) rfl ?_
  exact ⟨⟨2,s.regs,t0⟩,(_,_),(_,_),(_,_),rfl,HRU.out,HOK.out,M.out.sub (sd_ (sk_ (sd_ (sd_ (sd_ (sd_ (sd_ (sk_ (sk_ (sd_ s0_))))))))))⟩
 obtain ⟨es',e,rfl⟩:=es_snoc hne
 obtain ⟨hml1,hml2⟩:=ms_last HES.out
 have hms:=ms_snoc HES.out
 have HMS:=hid hms
 have HM1:=hid hml1
 have HM2:=hid hml2
 have hinv:=HI.out.inv
 rw [hms] at hinv
 obtain ⟨hm1,⟨o8,ho8,hk8⟩,-,-⟩:=hinv.last
 have HINV:=hid hinv
 have HO8:=hid ho8
 have HK8:=hid hk8
 have HEM:=hid (HI.out.ok.ms e.x (getLast_mem hml1))
 have hm24 : e.x.at_ < n:=by omega
 clear hml1 hml2 hms hinv hne
 obtain ⟨oa,hoa,-,hcb,-,hc1⟩:=code_at HS.out hm24
 rw [HO8.out] at hoa
 injection hoa with hoa
 subst hoa
 obtain ⟨⟨hx0,hx1⟩,-,-⟩:=ok8 (codeOk_at HCO.out HO8.out).1 HK8.out
 obtain ⟨ka,hka⟩ : ∃ u : Nat,o8.a_ = (u : Int):=⟨o8.a_.toNat,by omega⟩
 rw [hka] at hc1 hx1
 have hka4 : ka < 4:=by omega
 have hka1 : (ka : Int) < 4:=by omega
 have HAC : Hid (w.cell? ⟨b,oo + e.x.at_ * 4 + 1,none⟩ = some (.int .i64 (ka : Int)) ∧ b < w.heap.size):=⟨hc1,hcb⟩
 have HOA : Hid (opA l e.x.at_ = ka):=by show _ = _;rw [opA_is HO8.out,hka];rfl
 clear hc1 hcb hx0 hx1 hka ho8 hk8
 have M8:=SRows.front (s:=s) (R:=(some ⟨gR,0,none⟩,rd)) (C:=(some ⟨gC,0,none⟩,cd)) (P:=(some ⟨gP,0,none⟩,pd)) (B:=[.box g0 42 #[.slice SC 8 se,.slice SM 8 sf,.int .i64 t0.count_],.row 3 1 SC 8 se (ints t0.cells_),.row 3 1 SM 8 sf (ints t0.map_),.box gr 111 #[.int .i64 0,.slice none 0 0,.slice none 0 0,.slice none 0 0,.int .i64 0]]) M.out.tail
 rw [show (es' ++ [e]).length = es'.length + 1 from by simp] at hml ⊢
 simp only [List.cons_append,List.nil_append] at M8
 replace M:=hid M8
 clear M8
 obtain ⟨K,hK⟩ : ∃ K,es'.length = K:=⟨_,rfl⟩
 have HLE:=hid (marks_last es' e)
 rw [hK] at M hml HLE ⊢
 have HK:=hid hK
 clear hK
 obtain ⟨gM,rfl⟩:=M.out.addr 6 rfl (by omega)
 simp only [mcell] at HLE
 have hmc:=M.out.cap 6 rfl
 have hmc1 : K ≤ mc:=by omega
 obtain ⟨e1,he1⟩:=end_ex HCO.out HO8.out HK8.out
 have hgt:=HINV.out.end_gt he1 HO.out (by simp)
 have hab:=HINV.out.abort he1 HO.out (by simp)
 have HAB:=hid hab
 have HE1:=hid he1
 have heo:=endOf_is he1
 have hen : e1 < n:=by have:=he1.2.1;rw [HL.out] at this;exact this
 have HEN : Hid (s.pc < e1):=hgt
 skip
 have hst : stp l F ⟨10,a,b2,c2⟩ s = some ⟨e1 + 1,e.x.regs.set ka 0,e.x.th,es'.map MEnt.x⟩:=by rw [stp10 rfl,HM1.out,HM2.out];simp only [HOA.out,heo]
 have HST:=hid hst
 clear hst heo hab he1
 go_wp2_with (first|(at_builtin;refine Mine.wp_pour (M.out.own (own_lit0 _ _ _) ((Ext.refl' _).al _)) rfl _ _ 22 rfl 3 _ _ _ Tryz.underlying22 Tryz.infoInt rfl (by omega) 0 rfl rfl _ _ 4 e.r.2 (ints e.x.regs) rfl (Sl.ext (M.out.row_sl 1 rfl) ((Ext.refl' _).al _)) (ints_one _) (by omega) (by unfold maxLen;omega) ?_;intro A2 c2 w' M';obtain ⟨gN,rfl⟩:=Mine.addr M' 0 rfl (by omega);(try simp only [zr_,zm_,List.nil_append,Nat.zero_add,List.set_cons_zero] at M');replace M:=hid M';clear M';(try simp only [Nat.zero_add]))|(go_at_call 82;(with_reducible refine (l7Copy_m _ 8 _ _ 8 _ e.x.th _ _ _ (M.out.row_sl 3 rfl) (by omega) (M.out.row_sl 4 rfl) (by omega)).mono ?_);rintro e9 w' ⟨C9,cd9,P9,pd9,rfl,M9⟩;have M8:=M.out.call M9;replace M:=hid M8;clear M8 M9;simp only [List.cons_append,List.nil_append] at M)|(go_at_call 188;(with_reducible refine (spec_EndOf _ n c l _ _ (HS.out.ext M.out.ext) (by omega) e.x.at_ e1 o8 HO8.out HK8.out HE1.out).mono ?_);rintro e9 w' ⟨rfl,rfl⟩)|((with_reducible refine zN ?_);first|((first|refine Mine.wp_arg M.out rfl 237 _ rfl _ _ rfl _ HRG.out HB.out _ Tryz.underlying237 (by rfl) (by kernel_rfl) ?_|refine Mine.wp_getrs M.out rfl 268 _ rfl 6 _ rfl rfl [.int .i64 (e.x.at_ : Int),.slice e.r.1 4 e.r.2,.slice e.c.1 8 e.c.2,.slice e.m.1 8 e.m.2,.int .i64 e.x.th.count_] (fun k hk => HLE.out k hk) _ Tryz.underlying268 (by rfl) (by kernel_rfl) ?_|refine Mine.wp_argc M.out rfl _ _ rfl _ _ HAC.out rfl _ Tryz.underlying3 (by rfl) ?_|refine zGs M.out 42 1 3 ?_|refine zG M.out 0 ?_|refine zG M.out 3 ?_|refine zG M.out 0 ?_|refine Mine.wp_get (M.out.al _) rfl _ _ rfl 0 _ rfl rfl _ rfl _ (by first|exact Tryz.underlying22) (by rfl) ?_);(try simp only [zr_,zm_]))|(refine Mine.wp_alloc M.out rfl 237 rfl (.agg #[.int .i64 0,.int .i64 0,.int .i64 0,.int .i64 0]) (by kernel_rfl) ?_;intro go w' M';(try simp only [Value.cells,zr_,zm_] at M');replace M:=hid M';clear M';(try simp only [zr_,zm_]))|((first|refine zSs M.out 237 0 ?_|refine zSs M.out 268 0 ?_|refine zSs M.out 42 11 ?_|refine Mine.wp_put M.out rfl _ _ _ rfl rfl 2 _ rfl rfl _ (by (conv => lhs;whnf) <;> rfl) (by omega) (by rfl) (by kernel_rfl) ?_);intro w' M';(try simp only [zr_,zm_] at M');replace M:=hid M';clear M')|(refine Mine.wp_alloc M.out rfl 268 rfl (.agg #[.int .i64 0,.slice none 0 0,.slice none 0 0,.slice none 0 0,.int .i64 0]) (by kernel_rfl) ?_;intro gm w' M';(try simp only [Value.cells,zr_,zm_] at M');replace M:=hid M';clear M';(try simp only [zr_,zm_]))))
 have hk9:=HK.out
 have M7:=(M.out.perm (List.Perm.trans (List.Perm.cons _ (List.Perm.swap _ _ _)) (List.Perm.swap _ _ _))).sub (sk_ (sk_ (sk_ (sd_ (sd_ (sd_ (sd_ (sd_ (sd_ (sd_ (sk_ (sk_ (sk_ (sk_ (sk_ (sk_ s1_))))))))))))))))
 rw [← hk9] at M7
 obtain ⟨gC9,rfl⟩:=M7.addr 1 rfl (by omega)
 obtain ⟨gP9,rfl⟩:=M7.addr 2 rfl (by omega)
 have MF:=hid (SRows.cut (p2:=e1 + 1) (ms:=es'.map MEnt.x) (regs:=e.x.regs.set ka 0) (R:=(some ⟨gN,0,none⟩,_)) (C:=(some ⟨gC9,0,none⟩,cd9)) (P:=(some ⟨gP9,0,none⟩,pd9)) (B:=[.box g0 42 #[.slice SC 8 se,.slice SM 8 sf,.int .i64 t0.count_],.row 3 1 SC 8 se (ints t0.cells_),.row 3 1 SM 8 sf (ints t0.map_),.box gr 111 #[.int .i64 0,.slice none 0 0,.slice none 0 0,.slice none 0 0,.int .i64 0]]) M7)
 clear M7 hk9
 (refine Met.intro ?_;refine hJ9 _ ?rel)
 case rel => exact ⟨⟨e1 + 1,e.x.regs.set ka 0,e.x.th,es'.map MEnt.x⟩,(some ⟨gN,0,none⟩,_),(some ⟨gC9,0,none⟩,cd9),(some ⟨gP9,0,none⟩,pd9),_,_,es',rfl,by rw [HK.out],by go_num,rfl,HI.out.step HCO.out HF.out HO.out HST.out HAB.out,(by have:=HEN.out;simp only;omega),MF.out⟩

end Go.Proofs.YtoegjiigaoanbaaGreat
namespace Go.Proofs.YtoegjiigaoanbaaGreat
open Go.RowKit Go.Deep
set_option linter.unnecessarySimpa false
set_option maxHeartbeats 400000000
open Go.Lib (hid)
set_option linter.unusedSimpArgs false
set_option linter.unusedVariables false
set_option maxRecDepth 16000 in
theorem spec_k11 : StepOk 11:=by
 intro n c l K kn kc kids O on oc lo regs t0 F w gs gr g0 SC se SM sf s rd cd pd MA mc es gR gC gP b oo go w1 u J9 KK9 Q9 a b2 c2 HCO HRO HTH HL HF HFK HI HES HLT HS HB HREG HTHS HRG HO HOP hn24 hml hpl hpc M0 hJ9 hM9 hR9 hP9
 have M:=hid M0.out
 simp only [SRows,List.cons_append,List.nil_append] at M
 clear M0
 conv =>
  arg 2
  whnf
 rcases HFK.out with hnf|⟨hl0,hFF,hkids,hko,hkn3,hlo,hon,hnd,hin,hall⟩
 ·exact absurd rfl (hnf s.pc (by rw [HL.out];exact HLT.out) _ HO.out)
 have hkl : kids.length = kn:=hkids.1
 have hol : lo.length = on:=hlo.len
 have HL0:=hid hl0
 have HFF:=hid hFF
 have HKD:=hid hkids
 have HKO:=hid hko
 have HLO:=hid hlo
 have HND:=hid hnd
 have HIN:=hid hin
 have HALL:=hid hall
 have HKL:=hid hkl
 have HOL:=hid hol
 clear hl0 hFF hkids hko hlo hnd hin hall hkl hol HFK
 go_wp2_with (first|((with_reducible refine zN ?_);first|(refine zG M.out 0 ?_;(try simp only [zr_,zm_]))|(refine Mine.wp_make M.out rfl _ _ 22 rfl 3 _ _ _ Tryz.underlying22 Tryz.infoInt kn rfl rfl (by omega) (by unfold maxLen;omega) ?_;intro gq w' M';(try simp only [zr_,zm_] at M');replace M:=hid M';clear M';(try simp only [zr_,zm_]))))
 rw [made_zeros] at M
 skip
 go_loopw [19] (fun qv wx => ∃ (q : Nat) (CC PP : Option Addr × Nat) (res : List Int),q ≤ on ∧ qv = .int .i64 (q : Int) ∧ Hid (ResAt kids (lo.take q) s.regs s.th.cells_ res) ∧ Hid (Mine w wx (.row 3 1 (some ⟨gq,0,none⟩) kn kn (ints res)::.box go 237 #[.int .i64 11,.int .i64 a,.int .i64 b2,.int .i64 c2]::SRows 268 gs ⟨s.pc,s.regs,⟨(forkF kids (lo.take q) s.regs s.th.cells_).2,s.th.map_,s.th.count_⟩,s.ms⟩ (some ⟨gR,0,none⟩,rd) CC PP MA mc es [.box g0 42 #[.slice SC 8 se,.slice SM 8 sf,.int .i64 t0.count_],.row 3 1 SC 8 se (ints t0.cells_),.row 3 1 SM 8 sf (ints t0.map_),.box gr 111 #[.int .i64 0,.slice none 0 0,.slice none 0 0,.slice none 0 0,.int .i64 0]]))) (fun qv _ => on - (intOf qv).toNat)
 case atStart => exact ⟨0,(some ⟨gC,0,none⟩,cd),(some ⟨gP,0,none⟩,pd),List.replicate kn 0,Nat.zero_le _,rfl,by have h:=ResAt.nil kids s.regs s.th.cells_;rw [HKL.out] at h;exact h,M⟩
 case round =>
  clear M
  obtain ⟨q,⟨CB,cb⟩,⟨PB,pb⟩,res,hq,rfl,HRES,M1⟩:=hrel
  by_cases hqo : q < on
  rotate_left
  ·skip
   have HRE : Hid (ResAt kids lo s.regs s.th.cells_ res):=by have h:=HRES.out;rw [List.take_of_length_le (by rw [HOL.out];omega)] at h;exact h
   rw [List.take_of_length_le (by rw [HOL.out];omega)] at M1
   have hrl : s.regs.length = 4:=regsOk_len HREG.out
   have HRL:=hid hrl
   clear hrl HRES
   go_wp2
   go_loopw [21] (fun pv wy => ∃ p : Nat,p ≤ kn ∧ pv = .int .i64 (p : Int) ∧ Hid (Mine w wy (.row 3 1 (some ⟨gq,0,none⟩) kn kn (ints res)::.box go 237 #[.int .i64 11,.int .i64 a,.int .i64 b2,.int .i64 c2]::SRows 268 gs ⟨s.pc,overTo s.regs res p,⟨(forkF kids lo s.regs s.th.cells_).2,s.th.map_,s.th.count_⟩,s.ms⟩ (some ⟨gR,0,none⟩,rd) (CB,cb) (PB,pb) MA mc es [.box g0 42 #[.slice SC 8 se,.slice SM 8 sf,.int .i64 t0.count_],.row 3 1 SC 8 se (ints t0.cells_),.row 3 1 SM 8 sf (ints t0.map_),.box gr 111 #[.int .i64 0,.slice none 0 0,.slice none 0 0,.slice none 0 0,.int .i64 0]]))) (fun pv _ => kn - (intOf pv).toNat)
   case atStart => exact ⟨0,Nat.zero_le _,rfl,by rw [over_zero];exact M1⟩
   case round =>
    clear M1
    obtain ⟨p,hp,rfl,M2⟩:=hrel
    by_cases hpk : p < kn
    rotate_left
    ·skip
     have hfe : overTo s.regs res p = (F s.regs s.th.cells_).1:=by rw [HFF.out,show p = kids.length by rw [HKL.out];omega];exact over_all HRE.out (by rw [HKL.out,HRL.out];omega) HIN.out HALL.out
     have hfc : (forkF kids lo s.regs s.th.cells_).2 = (F s.regs s.th.cells_).2:=by rw [HFF.out]
     rw [hfe,hfc] at M2
     have hst : stp l F ⟨11,a,b2,c2⟩ s = some ⟨s.pc + 1,(F s.regs s.th.cells_).1,⟨(F s.regs s.th.cells_).2,s.th.map_,s.th.count_⟩,s.ms⟩:=stp11 rfl
     have HST:=hid hst
     clear hst hfe hfc
     go_wp2
     (refine Met.intro ?_;refine hJ9 _ ?rel)
     case rel => exact ⟨⟨s.pc + 1,(F s.regs s.th.cells_).1,⟨(F s.regs s.th.cells_).2,s.th.map_,s.th.count_⟩,s.ms⟩,(some ⟨gR,0,none⟩,rd),(CB,cb),(PB,pb),MA,mc,es,rfl,rfl,by go_num,HES.out,HI.out.plain HCO.out HF.out HO.out HST.out (by simp) (by simp) rfl rfl,(by first|exact Nat.lt_succ_self _|(simp only;omega)),M2.out.tail.tail⟩
    have HPK : Hid (p < kn):=hpk
    have hp4 : p < 4:=by omega
    have hp41 : (p : Int) < 4:=by omega
    have hp42 : (p : Int) < (kn : Int):=by omega
    have M:=hid M2.out
    simp only [SRows,List.cons_append,List.nil_append] at M
    obtain ⟨v,hv⟩ : ∃ v,res[p]? = some v:=⟨_,List.getElem?_eq_getElem (by rw [HRE.out.1,HKL.out];exact hpk)⟩
    skip
    have HPK : Hid (p < kn):=hpk
    have hp4 : p < 4:=by omega
    have hp41 : (p : Int) < 4:=by omega
    have hp42 : (p : Int) < (kn : Int):=by omega
    have M:=hid M2.out
    simp only [SRows,List.cons_append,List.nil_append] at M
    clear M2
    obtain ⟨v,hv⟩ : ∃ v,res[p]? = some v:=⟨_,List.getElem?_eq_getElem (by rw [HRE.out.1,HKL.out];exact hpk)⟩
    have HRV : Hid ((ints res)[p]? = some (.int .i64 v)):=by show (ints res)[p]? = _;unfold ints;rw [List.getElem?_map,hv];rfl
    have HON:=hid (over_next hv (show p < s.regs.length by rw [HRL.out];exact hp4))
    clear hv
    go_wp2_with (first|((with_reducible refine zN ?_);first|(refine Mine.wp_getr M.out rfl _ _ rfl 0 _ rfl rfl _ (by exact HRV.out) _ (by first|exact Tryz.underlying3) (by rfl) ?_;(try simp only [zr_,zm_]))|(refine Mine.wp_put M.out rfl _ _ _ rfl rfl 2 _ rfl rfl _ (by (conv => lhs;whnf) <;> rfl) (by omega) (by rfl) (by kernel_rfl) ?_;intro w' M';(try simp only [zr_,zm_] at M');replace M:=hid M';clear M')))
    go_roundw
    case rel => exact ⟨p + 1,HPK.out,by go_num,by rw [← HON.out];exact M⟩
    case measure => have:=HPK.out;simp [intOf];omega
  have HQO : Hid (q < on):=hqo
  obtain ⟨bO,oO,rfl⟩:=HLO.out.addr (by omega)
  obtain ⟨k,hk,hkb,ck⟩:=HLO.out.int_cell (k:=q) hqo
  have hkin:=HIN.out k (List.mem_of_getElem? hk)
  have HKX:=hid hk
  have HKC : Hid (w.cell? ⟨bO,oO + q,none⟩ = some (.int .i64 k) ∧ bO < w.heap.size):=⟨ck,hkb⟩
  rw [HKL.out] at hkin
  obtain ⟨kk,rfl⟩ : ∃ u : Nat,k = (u : Int):=⟨k.toNat,by omega⟩
  have hkk : kk < kn:=by omega
  have hkk1 : (kk : Int) < (kn : Int):=by omega
  have hqo1 : (q : Int) < (on : Int):=by omega
  clear hk hkb ck hkin
  obtain ⟨bK,oK,kid,D0,dn0,dc0,rfl,hkid,hbK,hck,hsl,hlen,-⟩:=kid_at HKD.out hkk
  have HKID:=hid hkid
  have HKH : Hid (w.cell? ⟨bK,oK + kk,none⟩ = some (.slice D0 dn0 dc0) ∧ bK < w.heap.size):=⟨hck,hbK⟩
  have HSL:=hid hsl
  have HKK:=hid (HKO.out kid (List.mem_of_getElem? hkid))
  clear hkid hbK hck hsl hlen
  have M:=hid M1.out
  simp only [SRows,List.cons_append,List.nil_append] at M
  clear M1
  obtain ⟨gB,rfl⟩:=M.out.addr 3 rfl (by omega)
  obtain ⟨gD,rfl⟩:=M.out.addr 4 rfl (by omega)
  have hfo:=fork_ok (lo:=lo.take q) HKO.out (fun x hx => HIN.out x (List.mem_of_mem_take hx)) s.regs s.th.cells_ HREG.out HTHS.out.1
  obtain ⟨cq,hcq⟩ : ∃ c,(forkF kids (lo.take q) s.regs s.th.cells_).2 = c:=⟨_,rfl⟩
  rw [hcq] at hfo M
  have HCQ:=hid hcq
  have HTQ : Hid (thingsOk ⟨cq,s.th.map_,s.th.count_⟩ = true):=th_mk hfo.2 HTHS.out.2.1 HTHS.out.2.2
  clear hcq hfo
  go_wp2_with fail
  refine zRH M.out 12 ?_
  intro w' M'
  replace M:=hid M'
  clear M'
  refine HQ.takeL (i:=0) rfl (by kernel_rfl) (by kernel_rfl) (by kernel_rfl) (Nat.le_of_ble_eq_true rfl) rfl (fun _ _ _ _ h => hP9 _ _ _ _ _ h) ?_
  intro K hK
  (first|((first|refine zDs 42 6 3 ?_|refine Mine.rd_arg 3 _ rfl _ _ HKC.out rfl _ Tryz.underlying3 (by rfl) ?_|refine Mine.rd_arg 81 _ rfl _ _ HKH.out rfl _ Tryz.underlying81 (by rfl) ?_);(try simp only [zr_,zm_]);go_big_quiet_on)|(refine zX ?_;(try simp only [zs_,zl_]);go_big_quiet_on))
  refine HQ.takeL (i:=1) rfl (by kernel_rfl) (by kernel_rfl) (by kernel_rfl) (Nat.le_of_ble_eq_true rfl) rfl (fun _ _ _ _ h => hP9 _ _ _ _ _ h) ?_
  intro K hK
  (first|((first|refine zDs 42 6 3 ?_|refine Mine.rd_arg 3 _ rfl _ _ HKC.out rfl _ Tryz.underlying3 (by rfl) ?_|refine Mine.rd_arg 81 _ rfl _ _ HKH.out rfl _ Tryz.underlying81 (by rfl) ?_);(try simp only [zr_,zm_]);go_big_quiet_on)|(refine zX ?_;(try simp only [zs_,zl_]);go_big_quiet_on))
  refine HQ.takeL (i:=2) rfl (by kernel_rfl) (by kernel_rfl) (by kernel_rfl) (Nat.le_of_ble_eq_true rfl) rfl (fun _ _ _ _ h => hP9 _ _ _ _ _ h) ?_
  intro K hK
  (first|((first|refine zDs 42 6 3 ?_|refine Mine.rd_arg 3 _ rfl _ _ HKC.out rfl _ Tryz.underlying3 (by rfl) ?_|refine Mine.rd_arg 81 _ rfl _ _ HKH.out rfl _ Tryz.underlying81 (by rfl) ?_);(try simp only [zr_,zm_]);go_big_quiet_on)|(refine zX ?_;(try simp only [zs_,zl_]);go_big_quiet_on))
  refine HQ.takeL (i:=3) rfl (by kernel_rfl) (by kernel_rfl) (by kernel_rfl) (Nat.le_of_ble_eq_true rfl) rfl (fun _ _ _ _ h => hP9 _ _ _ _ _ h) ?_
  intro K hK
  (first|((first|refine zDs 42 6 3 ?_|refine Mine.rd_arg 3 _ rfl _ _ HKC.out rfl _ Tryz.underlying3 (by rfl) ?_|refine Mine.rd_arg 81 _ rfl _ _ HKH.out rfl _ Tryz.underlying81 (by rfl) ?_);(try simp only [zr_,zm_]);go_big_quiet_on)|(refine zX ?_;(try simp only [zs_,zl_]);go_big_quiet_on))
  refine HQ.takeL (i:=4) rfl (by kernel_rfl) (by kernel_rfl) (by kernel_rfl) (Nat.le_of_ble_eq_true rfl) rfl (fun _ _ _ _ h => hP9 _ _ _ _ _ h) ?_
  intro K hK
  (first|((first|refine zDs 42 6 3 ?_|refine Mine.rd_arg 3 _ rfl _ _ HKC.out rfl _ Tryz.underlying3 (by rfl) ?_|refine Mine.rd_arg 81 _ rfl _ _ HKH.out rfl _ Tryz.underlying81 (by rfl) ?_);(try simp only [zr_,zm_]);go_big_quiet_on)|(refine zX ?_;(try simp only [zs_,zl_]);go_big_quiet_on))
  refine HQ.takeL (i:=5) rfl (by kernel_rfl) (by kernel_rfl) (by kernel_rfl) (Nat.le_of_ble_eq_true rfl) rfl (fun _ _ _ _ h => hP9 _ _ _ _ _ h) ?_
  intro K hK
  (first|((first|refine zDs 42 6 3 ?_|refine Mine.rd_arg 3 _ rfl _ _ HKC.out rfl _ Tryz.underlying3 (by rfl) ?_|refine Mine.rd_arg 81 _ rfl _ _ HKH.out rfl _ Tryz.underlying81 (by rfl) ?_);(try simp only [zr_,zm_]);go_big_quiet_on)|(refine zX ?_;(try simp only [zs_,zl_]);go_big_quiet_on))
  refine HQ.takeL (i:=6) rfl (by kernel_rfl) (by kernel_rfl) (by kernel_rfl) (Nat.le_of_ble_eq_true rfl) rfl (fun _ _ _ _ h => hP9 _ _ _ _ _ h) ?_
  intro K hK
  (first|((first|refine zDs 42 6 3 ?_|refine Mine.rd_arg 3 _ rfl _ _ HKC.out rfl _ Tryz.underlying3 (by rfl) ?_|refine Mine.rd_arg 81 _ rfl _ _ HKH.out rfl _ Tryz.underlying81 (by rfl) ?_);(try simp only [zr_,zm_]);go_big_quiet_on)|(refine zX ?_;(try simp only [zs_,zl_]);go_big_quiet_on))
  refine HQ.takeL (i:=7) rfl (by kernel_rfl) (by kernel_rfl) (by kernel_rfl) (Nat.le_of_ble_eq_true rfl) rfl (fun _ _ _ _ h => hP9 _ _ _ _ _ h) ?_
  intro K hK
  (first|((first|refine zDs 42 6 3 ?_|refine Mine.rd_arg 3 _ rfl _ _ HKC.out rfl _ Tryz.underlying3 (by rfl) ?_|refine Mine.rd_arg 81 _ rfl _ _ HKH.out rfl _ Tryz.underlying81 (by rfl) ?_);(try simp only [zr_,zm_]);go_big_quiet_on)|(refine zX ?_;(try simp only [zs_,zl_]);go_big_quiet_on))
  refine HQ.takeL (i:=8) rfl (by kernel_rfl) (by kernel_rfl) (by kernel_rfl) (Nat.le_of_ble_eq_true rfl) rfl (fun _ _ _ _ h => hP9 _ _ _ _ _ h) ?_
  intro K hK
  (first|((first|refine zDs 42 6 3 ?_|refine Mine.rd_arg 3 _ rfl _ _ HKC.out rfl _ Tryz.underlying3 (by rfl) ?_|refine Mine.rd_arg 81 _ rfl _ _ HKH.out rfl _ Tryz.underlying81 (by rfl) ?_);(try simp only [zr_,zm_]);go_big_quiet_on)|(refine zX ?_;(try simp only [zs_,zl_]);go_big_quiet_on))
  refine HQ.takeL (i:=9) rfl (by kernel_rfl) (by kernel_rfl) (by kernel_rfl) (Nat.le_of_ble_eq_true rfl) rfl (fun _ _ _ _ h => hP9 _ _ _ _ _ h) ?_
  intro K hK
  (first|((first|refine zDs 42 6 3 ?_|refine Mine.rd_arg 3 _ rfl _ _ HKC.out rfl _ Tryz.underlying3 (by rfl) ?_|refine Mine.rd_arg 81 _ rfl _ _ HKH.out rfl _ Tryz.underlying81 (by rfl) ?_);(try simp only [zr_,zm_]);go_big_quiet_on)|(refine zX ?_;(try simp only [zs_,zl_]);go_big_quiet_on))
  refine HQ.noisy (rs:=[10,11]) (by kernel_rfl) (by simp) (AllG.cons rfl (Nat.le_of_ble_eq_true rfl) (fun K hK => ?_) (AllG.cons rfl (Nat.le_of_ble_eq_true rfl) (fun K hK => ?_) AllG.nil))
  go_simp
  go_at_call 138
  refine (HL0.out D0 dn0 dc0 kid.code_ _ rd s.regs _ cb _ pb ⟨cq,s.th.map_,s.th.count_⟩ _ (HSL.out.ext M.out.ext) (dec_true HKK.out).1 (kid_nofk HKK.out) (M.out.row_sl 2 rfl) HREG.out (M.out.row_sl 3 rfl) (M.out.row_sl 4 rfl) HTQ.out).mono ?_
  rintro e w5 ⟨r,⟨RR,rr⟩,⟨RC,rcc⟩,⟨RP,rp⟩,rfl,hrun,hrok,M4⟩
  replace M:=hid (M.out.call M4)
  simp only [List.cons_append,List.nil_append] at M
  have HRUN:=hid hrun
  have HROK:=hid hrok
  clear M4 hrun hrok
  refine hK.out _ _ (M.out.tail.tail.tail) ?_
  clear hK K
  (try simp only [zs_,zl_])
  refine zNy 11 (fun K hK => ?_)
  go_simp
  replace M:=hid (M.out.box 111 #[.int .i64 0,.slice none 0 0,.slice none 0 0,.slice none 0 0,.int .i64 0])
  refine hK.out _ _ (M.out.tail.tail.tail.tail) ?_
  clear hK K
  (try simp only [zs_,zl_])
  refine HQ.end_ (by kernel_rfl) ?_
  simp only [List.drop_succ_cons,List.drop_zero]
  generalize w5.heap.size = gN at M ⊢
  replace M:=hid (M.out.perm (List.Perm.trans (List.Perm.trans (List.Perm.swap _ _ _) (List.Perm.cons _ (List.Perm.swap _ _ _))) (List.Perm.cons _ (List.Perm.cons _ (List.Perm.swap _ _ _)))))
  rotate_left
  go_simp
  replace M:=hid (M.out.box 111 #[.int .i64 0,.slice none 0 0,.slice none 0 0,.slice none 0 0,.int .i64 0])
  refine hK.out _ _ (M.out.tail) ?_
  clear hK K
  (try simp only [zs_,zl_])
  generalize w'.heap.size = gN at M ⊢
  refine zNy 10 (fun K hK => ?_)
  go_simp
  go_at_call 138
  refine (HL0.out D0 dn0 dc0 kid.code_ _ rd s.regs _ cb _ pb ⟨cq,s.th.map_,s.th.count_⟩ _ (HSL.out.ext M.out.ext) (dec_true HKK.out).1 (kid_nofk HKK.out) (M.out.row_sl 3 rfl) HREG.out (M.out.row_sl 4 rfl) (M.out.row_sl 5 rfl) HTQ.out).mono ?_
  rintro e w5 ⟨r,⟨RR,rr⟩,⟨RC,rcc⟩,⟨RP,rp⟩,rfl,hrun,hrok,M4⟩
  replace M:=hid (M.out.call M4)
  simp only [List.cons_append,List.nil_append] at M
  have HRUN:=hid hrun
  have HROK:=hid hrok
  clear M4 hrun hrok
  refine hK.out _ _ (M.out.tail.tail.tail.tail) ?_
  clear hK K
  (try simp only [zs_,zl_])
  refine HQ.end_ (by kernel_rfl) ?_
  simp only [List.drop_succ_cons,List.drop_zero]
  rotate_left
  all_goals (
   obtain ⟨gX,rfl⟩:=M.out.addr 0 rfl (by omega)
   obtain ⟨hkm,hkc,hkr⟩:=kid_map HKK.out HRUN.out
   simp only at hkm hkc hkr
   have hkv : kidRun kids s.regs (forkF kids (lo.take q) s.regs s.th.cells_).2 (kk : Int) = runW zeros8 0 r:=by
    unfold kidRun
    rw [Int.toNat_natCast,List.getD_eq_getElem?_getD,HKID.out,HCQ.out]
    exact hkr
   have hrn:=HRES.out.next (k:=(kk : Int)) (by omega) (by rw [HKL.out];omega) (by rw [HKL.out,regsOk_len HREG.out];omega) (nodup_take HND.out HKX.out)
   have hfs:=fork_snoc kids (lo.take q) s.regs s.th.cells_ (kk : Int)
   unfold forkStep at hfs
   rw [hkv] at hrn hfs
   rw [← take_snoc HKX.out] at hrn hfs
   have hf2:=congrArg Prod.snd hfs
   simp only [runW,thW] at hrn hf2
   rw [Int.toNat_natCast] at hrn
   have HRN:=hid hrn
   have HF2:=hid hf2
   have HKM:=hid hkm
   have HKC2:=hid hkc
   have hx:=regs_gi HROK.out.regs (x:=0) ⟨by omega,by omega⟩
   have hci:=ints_gi (l:=r.regs_) (k:=0) (by rw [regsOk_len HROK.out.regs];omega)
   rw [show ((0 : Nat) : Int) = 0 from rfl] at hci
   obtain ⟨x,hxe⟩ : ∃ x,gi r.regs_ 0 = x:=⟨_,rfl⟩
   rw [hxe] at hx hci
   have HX:=hid hci
   have HXE:=hid hxe
   clear hrn hfs hf2 hkm hkc hkr hkv hci hxe hx
   have hout:=HROK.out.out
   by_cases ho1 : r.out_ = 1
   ·skip
    have b1 : (r.out_ == 1) = true:=by simp [ho1]
    have HN:=HRN.out
    simp only [ho1,↓reduceIte] at HN
    have HNX:=hid HN
    clear HN ho1 hout
    rw [HXE.out] at HNX
    go_wp2_with (first|((with_reducible refine zN ?_);first|((first|refine zSs M.out 111 3 ?_|refine zSs M.out 42 10 ?_);intro w' M';(try simp only [zr_,zm_] at M');replace M:=hid M';clear M')|((first|refine zGs M.out 42 3 3 ?_|refine zG M.out 3 ?_);(try simp only [zr_,zm_]))))
    refine Mine.region_tail M.out 10 (by kernel_rfl) (by kernel_rfl) ?_
    simp only [List.take_succ_cons,List.take_zero,List.drop_succ_cons,List.drop_zero]
    repeat (first|go_big_quiet_skip|(go_big_quiet_want;first|((first|refine zQ 3 ?_|refine Mine.oq_arg 3 _ rfl _ _ HKC.out rfl _ Tryz.underlying3 (by rfl) ?_|refine Mine.oq_getr _ _ rfl 0 _ rfl rfl _ (by exact HX.out) _ (by first|exact Tryz.underlying3) (by rfl) ?_);(try simp only [zr_,zm_]);go_big_quiet_on)|(unfold Oper.quiet;apply Exists.intro;refine ⟨fun wq hq => ?_,?_⟩;(clear hq;go_simp;first|done|rfl|exact ⟨rfl,rfl⟩);(try simp only [zs_,zl_]);go_big_quiet_on)))
    refine wpQuiet_nil ?_
    intro w' M'
    replace M:=hid M'
    clear M'
    go_wp2_with (first|((with_reducible refine zN ?_);first|(refine Mine.wp_put M.out rfl _ _ _ rfl rfl 4 _ rfl rfl _ (by (conv => lhs;whnf) <;> rfl) (by omega) (by rfl) (by kernel_rfl) ?_;intro w' M';(try simp only [zr_,zm_] at M');replace M:=hid M';clear M')))
    have M9:=(M.out.sub (sd_ (sk_ (sk_ (sd_ (sk_ (sk_ (sk_ (sd_ (sd_ (sk_ (sk_ (sk_ (sk_ (sk_ (sk_ s1_)))))))))))))))).perm (List.Perm.trans (List.Perm.trans (List.Perm.trans (List.Perm.trans (List.Perm.trans (List.Perm.cons _ (List.Perm.swap _ _ _)) (List.Perm.swap _ _ _)) (List.Perm.cons _ (List.Perm.cons _ (List.Perm.swap _ _ _)))) (List.Perm.cons _ (List.Perm.swap _ _ _))) (List.Perm.cons _ (List.Perm.cons _ (List.Perm.cons _ (List.Perm.swap _ _ _))))) (List.Perm.cons _ (List.Perm.cons _ (List.Perm.swap _ _ _))))
    rw [← HF2.out,HKM.out,HKC2.out] at M9
    have MF:=hid M9
    clear M9
    go_roundw
    case rel => exact ⟨q + 1,(_,_),(_,_),_,HQO.out,by go_num,HNX,MF⟩
    case measure => have:=HQO.out;simp [intOf];omega
   ·skip
    have b1 : (r.out_ == 1) = false:=by simp [ho1]
    have HN:=HRN.out
    simp only [ho1,↓reduceIte] at HN
    have HNX:=hid HN
    clear HN ho1 hout
    go_wp2_with (first|((with_reducible refine zN ?_);first|((first|refine zSs M.out 111 3 ?_|refine zSs M.out 42 10 ?_);intro w' M';(try simp only [zr_,zm_] at M');replace M:=hid M';clear M')|((first|refine zGs M.out 42 3 3 ?_|refine zG M.out 3 ?_);(try simp only [zr_,zm_]))))
    have M9:=(M.out.sub (sd_ (sk_ (sk_ (sd_ (sk_ (sk_ (sk_ (sd_ (sd_ (sk_ (sk_ (sk_ (sk_ (sk_ (sk_ s1_)))))))))))))))).perm (List.Perm.trans (List.Perm.trans (List.Perm.trans (List.Perm.trans (List.Perm.trans (List.Perm.cons _ (List.Perm.swap _ _ _)) (List.Perm.swap _ _ _)) (List.Perm.cons _ (List.Perm.cons _ (List.Perm.swap _ _ _)))) (List.Perm.cons _ (List.Perm.swap _ _ _))) (List.Perm.cons _ (List.Perm.cons _ (List.Perm.cons _ (List.Perm.swap _ _ _))))) (List.Perm.cons _ (List.Perm.cons _ (List.Perm.swap _ _ _))))
    rw [← HF2.out,HKM.out,HKC2.out] at M9
    have MF:=hid M9
    clear M9
    go_roundw
    case rel => exact ⟨q + 1,(_,_),(_,_),_,HQO.out,by go_num,HNX,MF⟩
    case measure => have:=HQO.out;simp [intOf];omega
  )

end Go.Proofs.YtoegjiigaoanbaaGreat
namespace Go.Proofs.YtoegjiigaoanbaaGreat
open Go.RowKit Go.Deep
set_option linter.unnecessarySimpa false
set_option maxHeartbeats 400000000
open Go.Lib (hid)
set_option linter.unusedSimpArgs false
set_option linter.unusedVariables false
set_option maxRecDepth 16000 in
theorem spec_k12 : StepOk 12:=by
 intro n c l K kn kc kids O on oc lo regs t0 F w gs gr g0 SC se SM sf s rd cd pd MA mc es gR gC gP b oo go w1 u J9 KK9 Q9 a b2 c2 HCO HRO HTH HL HF HFK HI HES HLT HS HB HREG HTHS HRG HO HOP hn24 hml hpl hpc M0 hJ9 hM9 hR9 hP9
 have M:=hid M0.out
 simp only [SRows,List.cons_append,List.nil_append] at M
 clear M0
 conv =>
  arg 2
  whnf
 obtain ⟨⟨ha0,ha1⟩,⟨hb0,hb1⟩,⟨hc0,hc1⟩⟩:=ok12 HOP.out rfl
 simp only at ha0 ha1 hb0 hb1 hc0 hc1
 obtain ⟨ka,rfl⟩ : ∃ u : Nat,a = (u : Int):=⟨a.toNat,by omega⟩
 have hka : ka < 8:=by omega
 have hka1 : (ka : Int) < 8:=by omega
 obtain ⟨kb,rfl⟩ : ∃ u : Nat,b2 = (u : Int):=⟨b2.toNat,by omega⟩
 have hkb : kb < 4:=by omega
 have hkb1 : (kb : Int) < 4:=by omega
 obtain ⟨kc,rfl⟩ : ∃ u : Nat,c2 = (u : Int):=⟨c2.toNat,by omega⟩
 have hkc : kc < 4:=by omega
 have hkc1 : (kc : Int) < 4:=by omega
 have hby:=map_gi HTHS.out.2.1 (x:=(ka : Int)) ⟨by omega,by omega⟩
 have hcy:=ints_gi (l:=s.th.map_) (k:=ka) (by rw [(dec_true HTHS.out.2.1).1];exact hka)
 obtain ⟨y,hey⟩ : ∃ x,gi s.th.map_ (ka : Int) = x:=⟨_,rfl⟩
 rw [hey] at hby hcy
 obtain ⟨hby0,hby1⟩:=hby
 have HY:=hid hcy
 have Ey:=hid hey
 clear hcy hey
 have hbx:=regs_gi HREG.out (x:=(kb : Int)) ⟨by omega,by omega⟩
 have hcx:=ints_gi (l:=s.regs) (k:=kb) (by rw [regsOk_len HREG.out];exact hkb)
 obtain ⟨x,hex⟩ : ∃ x,gi s.regs (kb : Int) = x:=⟨_,rfl⟩
 rw [hex] at hbx hcx
 obtain ⟨hbx0,hbx1⟩:=hbx
 have HX:=hid hcx
 have Ex:=hid hex
 clear hcx hex
 have hst : stp l F ⟨12,(ka : Int),(kb : Int),(kc : Int)⟩ s = some ⟨s.pc + 1,s.regs.set kc (y % 65536),⟨s.th.cells_,s.th.map_.set ka (x + 1),s.th.count_⟩,s.ms⟩:=by
  rw [stp12 (by first|rfl|(simp only;omega))]
  simp only [Int.toNat_natCast,Ex.out,Ey.out]
 have HST:=hid hst
 clear hst
 clear ha0 ha1 hb0 hb1 hc0 hc1
 have HV1 : Hid (IntKind.i64.wrap (1 + x) = x + 1):=by show _ = _;rw [Go.IntWalk.i64_in _ (by omega)];omega
 have HV2 : Hid (y.tmod 65536 = y % 65536):=Int.tmod_eq_emod_of_nonneg (by omega)
 go_wp2_with (first|((with_reducible refine zN ?_);first|((first|refine zG M.out 0 ?_|refine zG M.out 5 ?_|refine Mine.wp_getr M.out rfl _ _ rfl 3 _ rfl rfl _ (by exact HY.out) _ (by first|exact Tryz.underlying3) (by rfl) ?_);(try simp only [zr_,zm_]))))
 refine Mine.region_tail M.out 11 (by kernel_rfl) (by kernel_rfl) ?_
 simp only [List.take_succ_cons,List.take_zero,List.drop_succ_cons,List.drop_zero]
 repeat (first|go_big_quiet_skip|(go_big_quiet_want;first|((first|refine zQ 0 ?_|refine zQ 5 ?_|refine Mine.oq_getr _ _ rfl 1 _ rfl rfl _ (by exact HX.out) _ (by first|exact Tryz.underlying3) (by rfl) ?_);(try simp only [zr_,zm_]);go_big_quiet_on)|(unfold Oper.quiet;apply Exists.intro;refine ⟨fun wq hq => ?_,?_⟩;(clear hq;go_simp;first|done|rfl|exact ⟨rfl,rfl⟩);(try simp only [zs_,zl_]);go_big_quiet_on)))
 refine wpQuiet_nil ?_
 intro w' M'
 replace M:=hid M'
 clear M'
 go_wp2_with (first|((with_reducible refine zN ?_);first|(refine zG M.out 0 ?_;(try simp only [zr_,zm_]))|((first|refine Mine.wp_put M.out rfl _ _ _ rfl rfl 3 _ rfl rfl _ (by (conv => lhs;whnf) <;> rfl) (by omega) (by rfl) (by kernel_rfl) ?_|refine Mine.wp_put M.out rfl _ _ _ rfl rfl 1 _ rfl rfl _ (by (conv => lhs;whnf) <;> rfl) (by omega) (by rfl) (by kernel_rfl) ?_);intro w' M';(try simp only [zr_,zm_] at M');replace M:=hid M';clear M')))
 (refine Met.intro ?_;refine hJ9 _ ?rel)
 case rel => exact ⟨⟨s.pc + 1,s.regs.set kc (y % 65536),⟨s.th.cells_,s.th.map_.set ka (x + 1),s.th.count_⟩,s.ms⟩,(some ⟨gR,0,none⟩,rd),(some ⟨gC,0,none⟩,cd),(some ⟨gP,0,none⟩,pd),MA,mc,es,rfl,rfl,by go_num,HES.out,HI.out.plain HCO.out HF.out HO.out HST.out (by simp) (by simp) rfl rfl,(by first|exact Nat.lt_succ_self _|(simp only;omega)),(by have M9:=M.out.tail;rw [HV1.out] at M9;exact M9)⟩
set_option maxRecDepth 16000 in
theorem spec_k13 : StepOk 13:=by
 intro n c l K kn kc kids O on oc lo regs t0 F w gs gr g0 SC se SM sf s rd cd pd MA mc es gR gC gP b oo go w1 u J9 KK9 Q9 a b2 c2 HCO HRO HTH HL HF HFK HI HES HLT HS HB HREG HTHS HRG HO HOP hn24 hml hpl hpc M0 hJ9 hM9 hR9 hP9
 have M:=hid M0.out
 simp only [SRows,List.cons_append,List.nil_append] at M
 clear M0
 conv =>
  arg 2
  whnf
 obtain ⟨⟨ha0,ha1⟩,⟨hb0,hb1⟩,hc0⟩:=ok13 HOP.out rfl
 simp only at ha0 ha1 hb0 hb1 hc0
 obtain ⟨ka,rfl⟩ : ∃ u : Nat,a = (u : Int):=⟨a.toNat,by omega⟩
 have hka : ka < 4:=by omega
 have hka1 : (ka : Int) < 4:=by omega
 obtain ⟨kb,rfl⟩ : ∃ u : Nat,b2 = (u : Int):=⟨b2.toNat,by omega⟩
 have hkb : kb < 8:=by omega
 have hkb1 : (kb : Int) < 8:=by omega
 have hby:=map_gi HTHS.out.2.1 (x:=(kb : Int)) ⟨by omega,by omega⟩
 have hcy:=ints_gi (l:=s.th.map_) (k:=kb) (by rw [(dec_true HTHS.out.2.1).1];exact hkb)
 obtain ⟨y,hey⟩ : ∃ x,gi s.th.map_ (kb : Int) = x:=⟨_,rfl⟩
 rw [hey] at hby hcy
 obtain ⟨hby0,hby1⟩:=hby
 have HY:=hid hcy
 have Ey:=hid hey
 clear hcy hey
 have hst : stp l F ⟨13,(ka : Int),(kb : Int),c2⟩ s = some ⟨s.pc + 1,s.regs.set ka (y % 65536),s.th,s.ms⟩:=by
  rw [stp13 (by first|rfl|(simp only;omega))]
  simp only [Int.toNat_natCast,Ey.out]
 have HST:=hid hst
 clear hst
 clear ha0 ha1 hb0 hb1 hc0
 have HV2 : Hid (y.tmod 65536 = y % 65536):=Int.tmod_eq_emod_of_nonneg (by omega)
 go_wp2_with (first|((with_reducible refine zN ?_);first|(refine zG M.out 0 ?_;(try simp only [zr_,zm_]))))
 refine Mine.region_tail M.out 11 (by kernel_rfl) (by kernel_rfl) ?_
 simp only [List.take_succ_cons,List.take_zero,List.drop_succ_cons,List.drop_zero]
 repeat (first|go_big_quiet_skip|(go_big_quiet_want;first|((first|refine zQ 0 ?_|refine zQ 5 ?_|refine Mine.oq_getr _ _ rfl 3 _ rfl rfl _ (by exact HY.out) _ (by first|exact Tryz.underlying3) (by rfl) ?_);(try simp only [zr_,zm_]);go_big_quiet_on)|(unfold Oper.quiet;apply Exists.intro;refine ⟨fun wq hq => ?_,?_⟩;(clear hq;go_simp;first|done|rfl|exact ⟨rfl,rfl⟩);(try simp only [zs_,zl_]);go_big_quiet_on)))
 refine wpQuiet_nil ?_
 intro w' M'
 replace M:=hid M'
 clear M'
 go_wp2_with (first|((with_reducible refine zN ?_);first|(refine Mine.wp_put M.out rfl _ _ _ rfl rfl 1 _ rfl rfl _ (by (conv => lhs;whnf) <;> rfl) (by omega) (by rfl) (by kernel_rfl) ?_;intro w' M';(try simp only [zr_,zm_] at M');replace M:=hid M';clear M')))
 (refine Met.intro ?_;refine hJ9 _ ?rel)
 case rel => exact ⟨⟨s.pc + 1,s.regs.set ka (y % 65536),s.th,s.ms⟩,(some ⟨gR,0,none⟩,rd),(some ⟨gC,0,none⟩,cd),(some ⟨gP,0,none⟩,pd),MA,mc,es,rfl,rfl,by go_num,HES.out,HI.out.plain HCO.out HF.out HO.out HST.out (by simp) (by simp) rfl rfl,(by first|exact Nat.lt_succ_self _|(simp only;omega)),(by have M9:=M.out.tail;rw [HV2.out] at M9;exact M9)⟩
set_option maxRecDepth 16000 in
theorem spec_k14 : StepOk 14:=by
 intro n c l K kn kc kids O on oc lo regs t0 F w gs gr g0 SC se SM sf s rd cd pd MA mc es gR gC gP b oo go w1 u J9 KK9 Q9 a b2 c2 HCO HRO HTH HL HF HFK HI HES HLT HS HB HREG HTHS HRG HO HOP hn24 hml hpl hpc M0 hJ9 hM9 hR9 hP9
 have M:=hid M0.out
 simp only [SRows,List.cons_append,List.nil_append] at M
 clear M0
 conv =>
  arg 2
  whnf
 obtain ⟨⟨ha0,ha1⟩,⟨hb0,hb1⟩,hc0⟩:=ok14 HOP.out rfl
 simp only at ha0 ha1 hb0 hb1 hc0
 obtain ⟨ka,rfl⟩ : ∃ u : Nat,a = (u : Int):=⟨a.toNat,by omega⟩
 have hka : ka < 8:=by omega
 have hka1 : (ka : Int) < 8:=by omega
 obtain ⟨kb,rfl⟩ : ∃ u : Nat,b2 = (u : Int):=⟨b2.toNat,by omega⟩
 have hkb : kb < 4:=by omega
 have hkb1 : (kb : Int) < 4:=by omega
 have hby:=map_gi HTHS.out.2.1 (x:=(ka : Int)) ⟨by omega,by omega⟩
 have hcy:=ints_gi (l:=s.th.map_) (k:=ka) (by rw [(dec_true HTHS.out.2.1).1];exact hka)
 obtain ⟨y,hey⟩ : ∃ x,gi s.th.map_ (ka : Int) = x:=⟨_,rfl⟩
 rw [hey] at hby hcy
 obtain ⟨hby0,hby1⟩:=hby
 have HY:=hid hcy
 have Ey:=hid hey
 clear hcy hey
 have hst : stp l F ⟨14,(ka : Int),(kb : Int),c2⟩ s = some ⟨s.pc + 1,s.regs.set kb (y % 65536),⟨s.th.cells_,s.th.map_.set ka 0,s.th.count_⟩,s.ms⟩:=by
  rw [stp14 (by first|rfl|(simp only;omega))]
  simp only [Int.toNat_natCast,Ey.out]
 have HST:=hid hst
 clear hst
 clear ha0 ha1 hb0 hb1 hc0
 have HV2 : Hid (y.tmod 65536 = y % 65536):=Int.tmod_eq_emod_of_nonneg (by omega)
 go_wp2_with (first|((with_reducible refine zN ?_);first|((first|refine zG M.out 0 ?_|refine zG M.out 5 ?_|refine Mine.wp_getr M.out rfl _ _ rfl 3 _ rfl rfl _ (by exact HY.out) _ (by first|exact Tryz.underlying3) (by rfl) ?_);(try simp only [zr_,zm_]))|((first|refine Mine.wp_put M.out rfl _ _ _ rfl rfl 3 _ rfl rfl _ (by (conv => lhs;whnf) <;> rfl) (by omega) (by rfl) (by kernel_rfl) ?_|refine Mine.wp_put M.out rfl _ _ _ rfl rfl 1 _ rfl rfl _ (by (conv => lhs;whnf) <;> rfl) (by omega) (by rfl) (by kernel_rfl) ?_);intro w' M';(try simp only [zr_,zm_] at M');replace M:=hid M';clear M')))
 (refine Met.intro ?_;refine hJ9 _ ?rel)
 case rel => exact ⟨⟨s.pc + 1,s.regs.set kb (y % 65536),⟨s.th.cells_,s.th.map_.set ka 0,s.th.count_⟩,s.ms⟩,(some ⟨gR,0,none⟩,rd),(some ⟨gC,0,none⟩,cd),(some ⟨gP,0,none⟩,pd),MA,mc,es,rfl,rfl,by go_num,HES.out,HI.out.plain HCO.out HF.out HO.out HST.out (by simp) (by simp) rfl rfl,(by first|exact Nat.lt_succ_self _|(simp only;omega)),M.out.tail⟩

end Go.Proofs.YtoegjiigaoanbaaGreat
