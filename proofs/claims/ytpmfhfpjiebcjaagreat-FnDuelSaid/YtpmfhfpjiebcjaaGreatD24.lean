/- Values, DuelOver of both, equal slices. No condition but lengths. Plain words for the law of duels: what a history says of a cell. No condition. -/
import Derived.Test.YtpmfhfpjiebcjaaGreatD00
import Derived.Test.YtpmfhfpjiebcjaaGreatD06
import Derived.Test.YtpmfhfpjiebcjaaGreatD21
namespace Go.Proofs.YtpmfhfpjiebcjaaGreat
open Go.RowKit Go.Deep
set_option linter.unnecessarySimpa false
set_option linter.unusedSimpArgs false
set_option linter.unusedVariables false

theorem wmap_take {l : List Word} {k : Nat} {r : Word} (h : l[k]? = some r) : (l.take k).map (·.val_) ++ [r.val_] = (l.take (k + 1)).map (·.val_):=by rw [List.take_add_one,h,List.map_append];rfl
def isDone (x : JobRun) : Prop:=x.phase_ = 3

set_option maxHeartbeats 4000000 in
theorem dnC_any (x : JobRun) (cs : List Value) {w0 : World} (S : Nat → Prop) (h : JobRun.R w0 S cs x) (w : World) :
  Calls Tryz.prog 71 #[.agg cs.toArray] w fun e w' => e = .returned (.bool (!dec (isDone x))) ∧ Ext w w':=by
 obtain ⟨A0,n0,c0,A1,n1,c1,A2,n2,c2,rfl⟩:=JobRun.R_cells h
 have M:=Lib.hid (Mine.refl w)
 clear h
 by_cases h3 : x.phase_ = 3
 ·have b3 : (x.phase_ != 3) = false:=by simp [h3]
  rw [dec_yes (show isDone x from h3)]
  clear h3
  go_enter Tryz.func71,Tryz.ntmps71
  go_wp2_with (first|((with_reducible show wpList _ _ _ (⟨_,_,_,_,_,none⟩::_) _ _);first|(refine Mine.wp_box M.out rfl 68 _ rfl _ rfl ?_;intro ga w' M';(try simp only [zr_,zm_] at M');replace M:=Lib.hid M';clear M';(try simp only [zr_,zm_]))|(refine zG M.out 0 ?_;(try simp only [zr_,zm_]))))
  go_ret
  exact ⟨rfl,M.out.ext⟩
 ·have b3 : (x.phase_ != 3) = true:=by simpa using h3
  rw [dec_no (show ¬ isDone x from h3)]
  clear h3
  go_enter Tryz.func71,Tryz.ntmps71
  go_wp2_with (first|((with_reducible show wpList _ _ _ (⟨_,_,_,_,_,none⟩::_) _ _);first|(refine Mine.wp_box M.out rfl 68 _ rfl _ rfl ?_;intro ga w' M';(try simp only [zr_,zm_] at M');replace M:=Lib.hid M';clear M';(try simp only [zr_,zm_]))|(refine zG M.out 0 ?_;(try simp only [zr_,zm_]))))
  go_ret
  exact ⟨rfl,M.out.ext⟩

set_option maxHeartbeats 4000000 in
theorem idxdn_any (A : Option Addr) (n c : Nat) (l : List JobRun) (w : World) (S : Nat → Prop) (hs : SlR JobRun.R 18 w S A n l) (hm : n ≤ 9223372036854775807) :
  Calls Tryz.prog 111 #[.slice A n c,.func (.func 71) #[] #[]] w fun e w' => ∃ i : Int,e = .returned (.int .i64 i) ∧ ((i = -1 ∧ AllTo (fun _ x => isDone x) l l.length) ∨ (0 ≤ i ∧ ¬ AllTo (fun _ x => isDone x) l l.length)) ∧ Ext w w':=by
 have H:=Lib.hid (hs.1)
 have HS:=Lib.hid hs
 clear hs
 go_enter Tryz.func111,Tryz.ntmps111
 go_wp2
 go_loopw [8] (fun i wr => ∃ k : Nat,k ≤ n ∧ i = .int .i64 k ∧ AllTo (fun _ x => isDone x) l k ∧ Ext w wr) (fun i _ => n - (intOf i).toNat)
 case atStart => exact ⟨0,Nat.zero_le _,rfl,AllTo.zero _ _,Ext.refl' _⟩
 case round =>
  obtain ⟨k,hk,rfl,hup,hx⟩:=hrel
  have HU:=Lib.hid hup
  have HX:=Lib.hid hx
  clear hup hx
  by_cases hlt : (k : Int) < (n : Int)
  ·
   obtain ⟨b,o,rfl⟩:=HS.out.addr (by omega)
   obtain ⟨x,row,hsk,-,hrw,hc⟩:=(HS.out.ext JobRun.R_good HX.out).at_ (k:=k) (by omega)
   have hrg:=Lib.hid (SlR.range JobRun.R_good hrw hc)
   have hln : Hid ((Tryz.prog.info? 68).map (·.size) = some row.length):=by show _ = _;rw [JobRun.R_good.len hrw];exact JobRun.size_info
   have HRW:=Lib.hid hrw
   have HSK:=Lib.hid hsk
   clear hsk hc hrw
   go_wp2_with (refine wpList_load_mid rfl 68 _ rfl b (o + k * 18) rfl row _ hrg.out Tryz.underlying68 rfl hln.out ?_)
   refine (dnC_any x _ S HRW.out _).mono ?_
   rintro e w2 ⟨rfl,x2⟩
   have X2:=Lib.hid (HX.out.tr x2)
   clear x2
   by_cases h0 : isDone x
   ·have H0:=Lib.hid h0
    rw [dec_yes h0]
    clear h0
    go_wp2
    go_roundw
    case rel => exact ⟨k + 1,by omega,by go_num,HU.out.succ HSK.out H0.out,X2.out⟩
    case measure => simp [intOf];omega
   ·have H0:=Lib.hid h0
    rw [dec_no h0]
    clear h0
    go_wp2
    go_ret
    exact ⟨k,rfl,.inr ⟨by omega,fun h => AllTo.not HSK.out (by have a:=H.out;omega) (fun q => H0.out q) h⟩,X2.out⟩
  ·have e : Hid (k = l.length):=by show k = _;have a:=H.out;omega
   go_wp2
   go_ret
   exact ⟨-1,rfl,.inl ⟨rfl,by rw [← e.out];exact HU.out⟩,HX.out⟩

theorem anydn_any (A : Option Addr) (n c : Nat) (l : List JobRun) (w : World) (S : Nat → Prop) (hs : SlR JobRun.R 18 w S A n l) (hm : n ≤ 9223372036854775807) :
  Calls Tryz.prog 70 #[.slice A n c,.func (.func 71) #[] #[]] w fun e w' => e = .returned (.bool (!dec (AllTo (fun _ x => isDone x) l l.length))) ∧ Ext w w':=by
 go_enter Tryz.func70,Tryz.ntmps70
 go_wp2_with fail
 refine (idxdn_any _ _ _ _ _ _ hs hm).mono ?_
 rintro e w1 ⟨i,rfl,hi,x1⟩
 have X1:=Lib.hid x1
 clear x1
 rcases hi with ⟨rfl,hx⟩|⟨hi,hx⟩
 ·have HX:=Lib.hid hx
  clear hx
  go_wp2
  go_ret
  exact ⟨by rw [dec_yes HX.out];rfl,X1.out⟩
 ·have HX:=Lib.hid hx
  clear hx
  go_wp2
  go_ret
  exact ⟨by rw [dec_no HX.out];rfl,X1.out⟩
set_option maxHeartbeats 400000 in
theorem sameInts_same (A B : Option Addr) (n c d : Nat) (zs : List Int) (w : World) (S T : Nat → Prop) (ha : Sl w S 1 A n (ints zs)) (hb : Sl w T 1 B n (ints zs)) (hm : n ≤ 9223372036854775807) :
  Calls Tryz.prog 24 #[.slice A n c,.slice B n d] w fun e w' => e = .returned (.bool true) ∧ Ext w w':=by
 go_enter Tryz.func24,Tryz.ntmps24
 go_wp2
 go_loopw [5] (fun i wr => ∃ (k : Nat),k ≤ n ∧ i = .int .i64 k ∧ Ext w wr) (fun i _ => n - (intOf i).toNat)
 case atStart => exact ⟨0,Nat.zero_le _,rfl,Ext.refl' _⟩
 case round =>
  obtain ⟨k,hk,rfl,hx⟩:=hrel
  by_cases hlt : k < n
  rotate_left
  ·go_wp2
   go_ret
   exact ⟨rfl,hx⟩
  obtain ⟨b1,o1,x,rfl,hb1,hxk,hc1⟩:=(ha.ext hx).int_at hlt
  obtain ⟨b2,o2,y,rfl,hb2,hyk,hc2⟩:=(hb.ext hx).int_at hlt
  rw [hxk] at hyk
  injection hyk with hyk
  subst hyk
  have HE2:=Lib.hid hx
  clear hxk hx
  go_wp2
  go_quiet (fail)
  go_wp2
  go_roundw
  case rel => exact ⟨k + 1,by omega,by go_num,HE2.out.drN _⟩
  case measure => simp [intOf];omega
set_option maxHeartbeats 400000 in
theorem l7Ints_same (A B : Option Addr) (n c d : Nat) (zs : List Int) (w : World) (S T : Nat → Prop) (ha : Sl w S 1 A n (ints zs)) (hb : Sl w T 1 B n (ints zs)) (hm : n ≤ 9223372036854775807) :
  Calls Tryz.prog 62 #[.slice A n c,.slice B n d] w fun e w' => e = .returned (.bool true) ∧ Ext w w':=by
 go_enter Tryz.func62,Tryz.ntmps62
 go_wp2
 go_loopw [5] (fun i wr => ∃ (k : Nat),k ≤ n ∧ i = .int .i64 k ∧ Ext w wr) (fun i _ => n - (intOf i).toNat)
 case atStart => exact ⟨0,Nat.zero_le _,rfl,Ext.refl' _⟩
 case round =>
  obtain ⟨k,hk,rfl,hx⟩:=hrel
  by_cases hlt : k < n
  rotate_left
  ·go_wp2
   go_ret
   exact ⟨rfl,hx⟩
  obtain ⟨b1,o1,x,rfl,hb1,hxk,hc1⟩:=(ha.ext hx).int_at hlt
  obtain ⟨b2,o2,y,rfl,hb2,hyk,hc2⟩:=(hb.ext hx).int_at hlt
  rw [hxk] at hyk
  injection hyk with hyk
  subst hyk
  have HE2:=Lib.hid hx
  clear hxk hx
  go_wp2
  go_quiet (fail)
  go_wp2
  go_roundw
  case rel => exact ⟨k + 1,by omega,by go_num,HE2.out.drN _⟩
  case measure => simp [intOf];omega
set_option maxHeartbeats 400000 in
theorem equal_same (A B : Option Addr) (n c d : Nat) (zs : List Int) (w : World) (S T : Nat → Prop) (ha : Sl w S 1 A n (ints zs)) (hb : Sl w T 1 B n (ints zs)) (hm : n ≤ 9223372036854775807) :
  Calls Tryz.prog 69 #[.slice A n c,.slice B n d] w fun e w' => e = .returned (.bool true) ∧ Ext w w':=by
 go_enter Tryz.func69,Tryz.ntmps69
 go_wp2
 go_loopw [13] (fun i wr => ∃ (k : Nat),k ≤ n ∧ i = .int .i64 k ∧ Ext w wr) (fun i _ => n - (intOf i).toNat)
 case atStart => exact ⟨0,Nat.zero_le _,rfl,Ext.refl' _⟩
 case round =>
  obtain ⟨k,hk,rfl,hx⟩:=hrel
  by_cases hlt : k < n
  rotate_left
  ·go_wp2
   go_ret
   exact ⟨rfl,hx⟩
  obtain ⟨b1,o1,x,rfl,hb1,hxk,hc1⟩:=(ha.ext hx).int_at hlt
  obtain ⟨b2,o2,y,rfl,hb2,hyk,hc2⟩:=(hb.ext hx).int_at hlt
  rw [hxk] at hyk
  injection hyk with hyk
  subst hyk
  have HE2:=Lib.hid hx
  clear hxk hx
  go_wp2
  go_quiet (fail)
  go_wp2
  go_roundw
  case rel => exact ⟨k + 1,by omega,by go_num,HE2.out.drN _⟩
  case measure => simp [intOf];omega
set_option maxRecDepth 8000 in
set_option maxHeartbeats 8000000 in
theorem impl_Values (m : Mem) (A : Option Addr) (n c : Nat) (w : World) (S : Nat → Prop) (hs : Sl w S 3 A n (m.cells_.flatMap Word.cells)) (hn : n ≤ 1048576) (hM : memOk m = true) :
  Calls Tryz.prog 25 #[.agg #[.int .i64 m.clock_,.slice A n c]] w fun e w' => ∃ B d,e = .returned (.slice B n d) ∧ w'.ownsRow w.heap.size 3 1 (.slice B n d) n (ints (m.cells_.map (·.val_))) ∧ Ext w w':=by
 have hl : m.cells_.length = n:=hs.flen Word.cells_length (by omega)
 have HS:=Lib.hid hs
 have HM:=Lib.hid hM
 clear hs hM
 have M:=Lib.hid (Mine.refl w)
 go_enter Tryz.func25,Tryz.ntmps25
 go_wp2_with (first|(go_at_call 65;(with_reducible refine (impl_MemOk m A n c _ S (by omega) (HS.out.ext M.out.ext)).mono ?_);rintro e w' ⟨rfl,x9⟩;replace M:=Lib.hid (M.out.on x9);clear x9;rw [HM.out])|((with_reducible show wpList _ _ _ (⟨_,_,_,_,_,none⟩::_) _ _);first|(refine Mine.wp_box M.out rfl 27 _ rfl _ rfl ?_;intro ga w' M';(try simp only [zr_,zm_] at M');replace M:=Lib.hid M';clear M';(try simp only [zr_,zm_]))|((first|refine zGs M.out 27 0 2 ?_|refine zGs M.out 27 1 2 ?_|refine zG M.out 0 ?_|refine zG M.out 1 ?_);(try simp only [zr_,zm_]))|(refine Mine.wp_mkI M.out rfl rfl ?_;intro gv w' M';replace M:=Lib.hid M';clear M';(try simp only [zr_,zm_]))))
 go_loopw [3,13] (fun u i wr => ∃ (k e2 f : Nat) (B2 : Option Addr),k ≤ n ∧ e2 = k ∧ u = .slice B2 e2 f ∧ i = .int .i64 k ∧ Hid (Mine w wr [.row 3 1 B2 e2 f (ints ((m.cells_.take k).map (·.val_))),.box ga 27 #[.int .i64 m.clock_,.slice A n c]])) (fun _ i _ => n - (intOf i).toNat)
 case atStart => exact ⟨0,0,_,_,Nat.zero_le _,rfl,rfl,rfl,M⟩
 case round =>
  clear M
  obtain ⟨k,e2,f,B2,hk,he2,rfl,rfl,M⟩:=hrel
  have HE2:=Lib.hid he2
  have he8 : e2 ≤ 1048576:=by omega
  by_cases hlt : (k : Int) < (n : Int)
  rotate_left
  ·have e : Hid (k = m.cells_.length):=by show _ = _;omega
   clear he2
   go_wp2_with (first|((with_reducible show wpList _ _ _ (⟨_,_,_,_,_,none⟩::_) _ _);first|(refine zG M.out 1 ?_;(try simp only [zr_,zm_]))))
   go_ret
   have M9:=M.out
   rw [e.out,List.take_length] at M9
   have e3 : e2 = n:=by have:=HE2.out;have:=e.out;omega
   rw [e3] at M9 ⊢
   exact ⟨_,_,rfl,(by have:=M9.row_at 0 rfl;exact this),M9.ext⟩
  clear he2
  have HLT : Hid (k < n):=by show _ < _;omega
  obtain ⟨b,o,rfl⟩:=HS.out.addr (by omega)
  obtain ⟨x,hx⟩ : ∃ x,m.cells_[k]? = some x:=⟨_,List.getElem?_eq_getElem (by omega)⟩
  have HX:=Lib.hid hx
  have HC : Hid (w.cell? ⟨b,o + k * 3,none⟩ = some (.int .i64 x.val_) ∧ b < w.heap.size):=word_at HS.out hx HLT.out 0 (by omega)
  have HRG : Hid (w.rangeAt b (o + k * 3) [.int .i64 x.val_,.int .i64 x.ver_,.int .i64 x.owner_]):=fun u v hu => by
   have h3 : u < 3:=by have:=(List.getElem?_eq_some_iff.1 hu).1;simpa using this
   rw [(word_at HS.out HX.out HLT.out u h3).1];exact hu
  have HRB : Hid (b < w.heap.size):=HC.out.2
  clear hx
  go_wp2_with (first|(at_builtin;refine Mine.wp_push M.out rfl _ _ 22 rfl 3 _ _ _ Tryz.underlying22 Tryz.infoInt rfl (by omega) 1 rfl rfl _ _ rfl rfl rfl (by simp [Value.oneCell']) (by omega) (by unfold maxLen;omega) ?_;intro A2 c2 w' M';(try simp only [zr_,zm_] at M');replace M:=Lib.hid M';clear M')|((with_reducible show wpList _ _ _ (⟨_,_,_,_,_,none⟩::_) _ _);first|((first|refine zG M.out 1 ?_|refine Mine.wp_arg M.out rfl 102 _ rfl _ _ rfl [.int .i64 x.val_,.int .i64 x.ver_,.int .i64 x.owner_] HRG.out HRB.out _ Tryz.underlying102 (by rfl) (by kernel_rfl) ?_|refine zG M.out 0 ?_);(try simp only [zr_,zm_]))|(refine Mine.wp_alloc M.out rfl 102 rfl (.agg #[.int .i64 0,.int .i64 0,.int .i64 0]) (by kernel_rfl) ?_;intro gx w' M';(try simp only [Value.cells,zr_,zm_] at M');replace M:=Lib.hid M';clear M';(try simp only [zr_,zm_]))|(refine zSs M.out 102 0 ?_;intro w' M';(try simp only [zr_,zm_] at M');replace M:=Lib.hid M';clear M')))
  rw [wmap_take HX.out] at M
  go_roundw
  case rel => exact ⟨k + 1,e2 + 1,_,_,HLT.out,by rw [HE2.out],rfl,by go_num,Lib.hid M.out.tail⟩
  case measure => have:=HLT.out;simp [intOf];omega
set_option maxRecDepth 8000 in
set_option maxHeartbeats 8000000 in
theorem spec_Values (m : Mem) (A : Option Addr) (n c : Nat) (w : World) (S : Nat → Prop) (hs : Sl w S 3 A n (m.cells_.flatMap Word.cells)) (hn : n ≤ 1048576) (hM : memOk m = true) :
  Calls Tryz.prog 63 #[.agg #[.int .i64 m.clock_,.slice A n c]] w fun e w' => ∃ B d,e = .returned (.slice B n d) ∧ w'.ownsRow w.heap.size 3 1 (.slice B n d) n (ints (m.cells_.map (·.val_))) ∧ Ext w w':=by
 have hl : m.cells_.length = n:=hs.flen Word.cells_length (by omega)
 have HS:=Lib.hid hs
 have HM:=Lib.hid hM
 clear hs hM
 have M:=Lib.hid (Mine.refl w)
 go_enter Tryz.func63,Tryz.ntmps63
 go_wp2_with (first|(go_at_call 58;(with_reducible refine (spec_MemOk m A n c _ S (by omega) (HS.out.ext M.out.ext)).mono ?_);rintro e w' ⟨rfl,x9⟩;replace M:=Lib.hid (M.out.on x9);clear x9;rw [HM.out])|((with_reducible show wpList _ _ _ (⟨_,_,_,_,_,none⟩::_) _ _);first|(refine Mine.wp_box M.out rfl 27 _ rfl _ rfl ?_;intro ga w' M';(try simp only [zr_,zm_] at M');replace M:=Lib.hid M';clear M';(try simp only [zr_,zm_]))|((first|refine zGs M.out 27 0 2 ?_|refine zGs M.out 27 1 2 ?_|refine zG M.out 0 ?_|refine zG M.out 1 ?_);(try simp only [zr_,zm_]))|(refine Mine.wp_mkI M.out rfl rfl ?_;intro gv w' M';replace M:=Lib.hid M';clear M';(try simp only [zr_,zm_]))))
 go_loopw [3,4] (fun u i wr => ∃ (k e2 f : Nat) (B2 : Option Addr),k ≤ n ∧ e2 = k ∧ u = .slice B2 e2 f ∧ i = .int .i64 k ∧ Hid (Mine w wr [.row 3 1 B2 e2 f (ints ((m.cells_.take k).map (·.val_))),.box ga 27 #[.int .i64 m.clock_,.slice A n c]])) (fun _ i _ => n - (intOf i).toNat)
 case atStart => exact ⟨0,0,_,_,Nat.zero_le _,rfl,rfl,rfl,M⟩
 case round =>
  clear M
  obtain ⟨k,e2,f,B2,hk,he2,rfl,rfl,M⟩:=hrel
  have HE2:=Lib.hid he2
  have he8 : e2 ≤ 1048576:=by omega
  by_cases hlt : (k : Int) < (n : Int)
  rotate_left
  ·have e : Hid (k = m.cells_.length):=by show _ = _;omega
   clear he2
   go_wp2_with (first|((with_reducible show wpList _ _ _ (⟨_,_,_,_,_,none⟩::_) _ _);first|(refine zG M.out 1 ?_;(try simp only [zr_,zm_]))))
   go_ret
   have M9:=M.out
   rw [e.out,List.take_length] at M9
   have e3 : e2 = n:=by have:=HE2.out;have:=e.out;omega
   rw [e3] at M9 ⊢
   exact ⟨_,_,rfl,(by have:=M9.row_at 0 rfl;exact this),M9.ext⟩
  clear he2
  have HLT : Hid (k < n):=by show _ < _;omega
  obtain ⟨b,o,rfl⟩:=HS.out.addr (by omega)
  obtain ⟨x,hx⟩ : ∃ x,m.cells_[k]? = some x:=⟨_,List.getElem?_eq_getElem (by omega)⟩
  have HX:=Lib.hid hx
  have HC : Hid (w.cell? ⟨b,o + k * 3,none⟩ = some (.int .i64 x.val_) ∧ b < w.heap.size):=word_at HS.out hx HLT.out 0 (by omega)
  have HRG : Hid (w.rangeAt b (o + k * 3) [.int .i64 x.val_,.int .i64 x.ver_,.int .i64 x.owner_]):=fun u v hu => by
   have h3 : u < 3:=by have:=(List.getElem?_eq_some_iff.1 hu).1;simpa using this
   rw [(word_at HS.out HX.out HLT.out u h3).1];exact hu
  have HRB : Hid (b < w.heap.size):=HC.out.2
  clear hx
  go_wp2_with (first|(at_builtin;refine Mine.wp_push M.out rfl _ _ 22 rfl 3 _ _ _ Tryz.underlying22 Tryz.infoInt rfl (by omega) 0 rfl rfl _ _ rfl rfl rfl (by simp [Value.oneCell']) (by omega) (by unfold maxLen;omega) ?_;intro A2 c2 w' M';(try simp only [zr_,zm_] at M');replace M:=Lib.hid M';clear M')|((with_reducible show wpList _ _ _ (⟨_,_,_,_,_,none⟩::_) _ _);first|((first|refine zG M.out 1 ?_|refine Mine.wp_argc M.out rfl 3 _ rfl _ _ HC.out rfl _ Tryz.underlying3 (by rfl) ?_);(try simp only [zr_,zm_]))))
  rw [wmap_take HX.out] at M
  go_roundw
  case rel => exact ⟨k + 1,e2 + 1,_,_,HLT.out,by rw [HE2.out],rfl,by go_num,Lib.hid M.out⟩
  case measure => have:=HLT.out;simp [intOf];omega
set_option maxRecDepth 8000 in
set_option maxHeartbeats 8000000 in
theorem impl_DuelOver (ck : Int) (AM : Option Addr) (nm cm : Nat) (AJ : Option Addr) (nj cj : Nat) (AH : Option Addr) (nh ch : Nat) (xs : List JobRun) (w : World) (S : Nat → Prop) (hs : SlR JobRun.R 18 w S AJ nj xs) (hn : nj ≤ 1048576) :
  Calls Tryz.prog 22 #[.agg #[.int .i64 ck,.slice AM nm cm,.slice AJ nj cj,.slice AH nh ch]] w fun e w' => e = .returned (.bool (dec (AllTo (fun _ x => isDone x) xs xs.length))) ∧ Ext w w':=by
 have hl : xs.length = nj:=hs.1
 have HS:=Lib.hid hs
 clear hs
 have M:=Lib.hid (Mine.refl w)
 cases hd : dec (AllTo (fun _ x => isDone x) xs xs.length)
 ·skip
  go_enter Tryz.func22,Tryz.ntmps22
  go_wp2_with (first|(go_at_call 70;(with_reducible refine (anydn_any AJ nj cj xs _ S (HS.out.ext JobRun.R_good M.out.ext) (by omega)).mono ?_);rintro e w' ⟨rfl,x9⟩;replace M:=Lib.hid (M.out.on x9);clear x9;rw [hd])|((with_reducible show wpList _ _ _ (⟨_,_,_,_,_,none⟩::_) _ _);first|(refine Mine.wp_box M.out rfl 31 _ rfl _ rfl ?_;intro ga w' M';(try simp only [zr_,zm_] at M');replace M:=Lib.hid M';clear M';(try simp only [zr_,zm_]))|(refine zG M.out 0 ?_;(try simp only [zr_,zm_]))))
  go_ret
  exact ⟨rfl,M.out.ext⟩
 skip
 ·skip
  go_enter Tryz.func22,Tryz.ntmps22
  go_wp2_with (first|(go_at_call 70;(with_reducible refine (anydn_any AJ nj cj xs _ S (HS.out.ext JobRun.R_good M.out.ext) (by omega)).mono ?_);rintro e w' ⟨rfl,x9⟩;replace M:=Lib.hid (M.out.on x9);clear x9;rw [hd])|((with_reducible show wpList _ _ _ (⟨_,_,_,_,_,none⟩::_) _ _);first|(refine Mine.wp_box M.out rfl 31 _ rfl _ rfl ?_;intro ga w' M';(try simp only [zr_,zm_] at M');replace M:=Lib.hid M';clear M';(try simp only [zr_,zm_]))|(refine zG M.out 0 ?_;(try simp only [zr_,zm_]))))
  go_ret
  exact ⟨rfl,M.out.ext⟩
set_option maxRecDepth 8000 in
set_option maxHeartbeats 8000000 in
theorem spec_DuelOver (ck : Int) (AM : Option Addr) (nm cm : Nat) (AJ : Option Addr) (nj cj : Nat) (AH : Option Addr) (nh ch : Nat) (xs : List JobRun) (w : World) (S : Nat → Prop) (hs : SlR JobRun.R 18 w S AJ nj xs) (hn : nj ≤ 1048576) :
  Calls Tryz.prog 61 #[.agg #[.int .i64 ck,.slice AM nm cm,.slice AJ nj cj,.slice AH nh ch]] w fun e w' => e = .returned (.bool (dec (AllTo (fun _ x => isDone x) xs xs.length))) ∧ Ext w w':=by
 have hl : xs.length = nj:=hs.1
 have HS:=Lib.hid hs
 clear hs
 have M:=Lib.hid (Mine.refl w)
 go_enter Tryz.func61,Tryz.ntmps61
 go_wp2_with (first|((with_reducible show wpList _ _ _ (⟨_,_,_,_,_,none⟩::_) _ _);first|(refine Mine.wp_box M.out rfl 31 _ rfl _ rfl ?_;intro ga w' M';(try simp only [zr_,zm_] at M');replace M:=Lib.hid M';clear M';(try simp only [zr_,zm_]))))
 go_loopw [3] (fun i wr => ∃ k : Nat,k ≤ nj ∧ i = .int .i64 k ∧ Hid (AllTo (fun _ x => isDone x) xs k) ∧ Hid (Mine w wr [.box ga 31 #[.int .i64 ck,.slice AM nm cm,.slice AJ nj cj,.slice AH nh ch]])) (fun i _ => nj - (intOf i).toNat)
 case atStart => exact ⟨0,Nat.zero_le _,rfl,AllTo.zero _ _,M⟩
 case round =>
  clear M
  obtain ⟨k,hk,rfl,HU,M⟩:=hrel
  by_cases hlt : (k : Int) < (nj : Int)
  rotate_left
  ·have e : k = xs.length:=by omega
   have HZ : Hid (dec (AllTo (fun _ x => isDone x) xs xs.length) = true):=dec_yes (by rw [← e];exact HU.out)
   clear e
   go_wp2_with (first|((with_reducible show wpList _ _ _ (⟨_,_,_,_,_,none⟩::_) _ _);first|(refine zG M.out 0 ?_;(try simp only [zr_,zm_]))))
   go_ret
   refine ⟨?_,M.out.ext⟩
   have hz:=HZ.out
   first|(rw [hz];rfl)|(rw [hl] at hz;rw [hz];rfl)
  have HLT : Hid (k < nj):=by show _ < _;omega
  obtain ⟨b,o,rfl⟩:=HS.out.addr (by omega)
  obtain ⟨x,row,hx,hb,hr,hc⟩:=HS.out.at_ (k:=k) HLT.out
  obtain ⟨A0,n0,c0,A1,n1,c1,A2,n2,c2,rfl⟩:=JobRun.R_cells hr
  have HX:=Lib.hid hx
  have HC : Hid (w.cell? ⟨b,o + k * 18,none⟩ = some (.int .i64 x.phase_) ∧ b < w.heap.size):=⟨hc 0 (by omega),hb⟩
  clear hx hr hc hb
  by_cases h3 : x.phase_ = 3
  rotate_left
  ·have b3 : (x.phase_ != 3) = true:=by simpa using h3
   have HZ : Hid (dec (AllTo (fun _ x => isDone x) xs xs.length) = false):=dec_no fun z => h3 (z k (by have:=HLT.out;omega) x HX.out)
   clear h3
   go_wp2_with (first|((with_reducible show wpList _ _ _ (⟨_,_,_,_,_,none⟩::_) _ _);first|((first|refine zG M.out 0 ?_|refine Mine.wp_argc M.out rfl 3 _ rfl _ _ HC.out rfl _ Tryz.underlying3 (by rfl) ?_);(try simp only [zr_,zm_]))))
   go_ret
   refine ⟨?_,M.out.ext⟩
   have hz:=HZ.out
   first|(rw [hz];rfl)|(rw [hl] at hz;rw [hz];rfl)
  have b3 : (x.phase_ != 3) = false:=by simp [h3]
  have H3 : Hid (isDone x):=h3
  clear h3
  go_wp2_with (first|((with_reducible show wpList _ _ _ (⟨_,_,_,_,_,none⟩::_) _ _);first|((first|refine zG M.out 0 ?_|refine Mine.wp_argc M.out rfl 3 _ rfl _ _ HC.out rfl _ Tryz.underlying3 (by rfl) ?_);(try simp only [zr_,zm_]))))
  go_roundw
  case rel => exact ⟨k + 1,HLT.out,by go_num,Lib.hid (HU.out.succ HX.out H3.out),M⟩
  case measure => have:=HLT.out;simp [intOf];omega

end Go.Proofs.YtpmfhfpjiebcjaaGreat
namespace Go.Proofs.YtpmfhfpjiebcjaaGreat
open Go.RowKit Go.Deep
set_option linter.unnecessarySimpa false
set_option linter.unusedSimpArgs false
set_option linter.unusedVariables false

theorem rising_lt {l : List Int} (h : rising l) : ∀ {i j : Nat} {x y : Int},i < j → l[i]? = some x → l[j]? = some y → x < y:=by
 intro i j x y hij hx hy
 induction j generalizing y with
 | zero => omega
 | succ j ih =>
  by_cases e : i = j
  ·subst e;exact h i x y hx hy
  ·obtain ⟨z,hz⟩ : ∃ z,l[j]? = some z:=⟨_,List.getElem?_eq_getElem (by have:=(List.getElem?_eq_some_iff.1 hy).1;omega)⟩
   have h1:=ih (by omega) hz
   have h2:=h j z y hz hy
   omega
theorem puts_uniq {ps : List Row} (h : rising (ps.map (·.cell_))) {a b : Nat} {r s : Row} (ha : ps[a]? = some r) (hb : ps[b]? = some s) (e : r.cell_ = s.cell_) : a = b:=by
 have h1 : (ps.map (·.cell_))[a]? = some r.cell_:=by rw [List.getElem?_map,ha];rfl
 have h2 : (ps.map (·.cell_))[b]? = some s.cell_:=by rw [List.getElem?_map,hb];rfl
 rcases Nat.lt_trichotomy a b with q|q|q
 ·have:=rising_lt h q h1 h2;omega
 ·exact q
 ·have:=rising_lt h q h2 h1;omega
theorem lastI_mem {l : List Row} {y v : Int} : ∀ {k : Nat},lastI l y k = some v → ∃ (a : Nat) (r : Row),a < k ∧ l[a]? = some r ∧ r.cell_ = y ∧ r.val_ = v
 | 0,h => by simp [lastI] at h
 | k + 1,h => by
  unfold lastI at h
  split at h
  ·rename_i r hr
   split at h
   ·rename_i e
    cases h
    exact ⟨k,r,by omega,hr,e,rfl⟩
   ·obtain ⟨a,r',h1,h2⟩:=lastI_mem h;exact ⟨a,r',by omega,h2⟩
  ·obtain ⟨a,r',h1,h2⟩:=lastI_mem h;exact ⟨a,r',by omega,h2⟩
theorem lastI_some {l : List Row} {y : Int} : ∀ {k a : Nat} {r : Row},a < k → l[a]? = some r → r.cell_ = y → ∃ v,lastI l y k = some v
 | 0,_,_,h,_,_ => by omega
 | k + 1,a,r,h,ha,e => by
  unfold lastI
  split
  ·rename_i s hs
   split
   ·exact ⟨_,rfl⟩
   ·rename_i ne
    have : a ≠ k:=fun q => by subst q;rw [ha] at hs;cases hs;exact ne e
    exact lastI_some (by omega) ha e
  ·rename_i hs
   have : a ≠ k:=fun q => by subst q;rw [ha] at hs;cases hs
   exact lastI_some (by omega) ha e
theorem lastV_mem {ps : List Row} {y v : Int} (h : lastV ps y = some v) : ∃ (a : Nat) (r : Row),ps[a]? = some r ∧ r.cell_ = y ∧ r.val_ = v:=by
 unfold lastV at h
 split at h
 ·obtain ⟨a,r,_,h1⟩:=lastI_mem h;exact ⟨a,r,h1⟩
 ·cases h
theorem lastV_at {ps : List Row} (hok : rowsOk ps = true) (hr : rising (ps.map (·.cell_))) {a : Nat} {r : Row} (ha : ps[a]? = some r) : lastV ps r.cell_ = some r.val_:=by
 have hl:=(List.getElem?_eq_some_iff.1 ha).1
 obtain ⟨v,hv⟩:=lastI_some hl ha rfl
 obtain ⟨b,s,_,hb,e,ev⟩:=lastI_mem hv
 have:=puts_uniq hr ha hb e.symm
 subst this
 rw [ha] at hb
 cases hb
 unfold lastV
 rw [if_pos hok,hv,ev]
/-- An entry writes a cell. -/
def wrs (y : Wrote) (i : Int) : Prop:=lastV y.puts_ i ≠ none
/-- The value of a cell,and the stamp of it,by the history up to N. -/
def AtS (cells : List Int) (h : List Wrote) (N : Int) (i : Nat) (v t : Int) : Prop :=
 (t = 0 ∧ cells[i]? = some v ∧ ∀ y ∈ h,y.stamp_ ≤ N → ¬ wrs y i) ∨ (t ≤ N ∧ ∃ y ∈ h,y.stamp_ = t ∧ lastV y.puts_ i = some v ∧ ∀ z ∈ h,z.stamp_ ≤ N → wrs z i → z.stamp_ ≤ t)
theorem AtS.more {cells : List Int} {h : List Wrote} {N : Int} {i : Nat} {v t : Int} (k : AtS cells h N i v t) {y : Wrote} (hy : N < y.stamp_ ∨ ¬ wrs y i) : AtS cells (h ++ [y]) N i v t:=by
 rcases k with ⟨h1,h2,h3⟩|⟨h0,z,hz,h1,h2,h3⟩
 ·refine .inl ⟨h1,h2,fun q hq hN => ?_⟩
  rcases List.mem_append.1 hq with hq|hq
  ·exact h3 q hq hN
  ·rw [List.mem_singleton] at hq;subst hq
   rcases hy with e|e
   ·omega
   ·exact e
 ·refine .inr ⟨h0,z,List.mem_append_left _ hz,h1,h2,fun q hq hN hw => ?_⟩
  rcases List.mem_append.1 hq with hq|hq
  ·exact h3 q hq hN hw
  ·rw [List.mem_singleton] at hq;subst hq
   rcases hy with e|e
   ·omega
   ·exact absurd hw e
/-- What is the last of all is the last up to a bound that is not below it. -/
theorem AtS.cut {cells : List Int} {h : List Wrote} {N M : Int} {i : Nat} {v t : Int} (k : AtS cells h N i v t) (hM : M ≤ N) (ht : t ≤ M) : AtS cells h M i v t:=by
 rcases k with ⟨h1,h2,h3⟩|⟨h0,z,hz,h1,h2,h3⟩
 ·exact .inl ⟨h1,h2,fun q hq hN => h3 q hq (by omega)⟩
 ·exact .inr ⟨ht,z,hz,h1,h2,fun q hq hN hw => h3 q hq (by omega) hw⟩
theorem AtS.up {cells : List Int} {h : List Wrote} {N M : Int} {i : Nat} {v t : Int} (k : AtS cells h N i v t) (hM : N ≤ M) (hs : ∀ y ∈ h,y.stamp_ ≤ N) : AtS cells h M i v t:=by
 rcases k with ⟨h1,h2,h3⟩|⟨h0,z,hz,h1,h2,h3⟩
 ·exact .inl ⟨h1,h2,fun q hq _ => h3 q hq (hs q hq)⟩
 ·exact .inr ⟨by omega,z,hz,h1,h2,fun q hq _ hw => h3 q hq (hs q hq) hw⟩
end Go.Proofs.YtpmfhfpjiebcjaaGreat
