/- HistOk, copyHist of the program. No condition but lengths. -/
import Derived.Test.YtpmfhfpjiebcjaaGreatD00
import Derived.Test.YtpmfhfpjiebcjaaGreatD21
import Derived.Test.YtpmfhfpjiebcjaaGreatD02
namespace Go.Proofs.YtpmfhfpjiebcjaaGreat
open Go.RowKit Go.Deep
set_option linter.unnecessarySimpa false
set_option linter.unusedSimpArgs false
set_option linter.unusedVariables false

theorem SlR.pre {α : Type} {R : Rd α} {size : Nat} {w : World} {S : Nat → Prop} {A : Option Addr} {n k : Nat} {l : List α} (h : SlR R size w S A n l) (hk : k ≤ n) : SlR R size w S A k (l.take k):=by
 refine ⟨by rw [List.length_take,h.1];omega,fun hn => ?_⟩
 obtain ⟨b,o,e,hS,hb,hc⟩:=h.2 (by omega)
 refine ⟨b,o,e,hS,hb,fun i x hx => hc i x ?_⟩
 rw [List.getElem?_take] at hx
 split at hx
 ·exact hx
 ·cases hx
theorem ext_co {w w' : World} (h : Ext w w') {p : Addr} {v : Value} (hc : w.cell? p = some v) (hb : p.block < w.heap.size) : w'.cell? p = some v:=(h.cell hb).trans hc
def stampNe (s : Int) (x : Wrote) : Prop:=x.stamp_ ≠ s
theorem hiC_any (x : Wrote) (A : Option Addr) (n c : Nat) (gx : Nat) (s0 : Int) (w : World) (hg : w.cell? ⟨gx,0,none⟩ = some (.int .i64 s0)) (hgb : gx < w.heap.size) :
  Calls Tryz.prog 107 #[.agg #[.int .i64 x.stamp_,.int .i64 x.who_,.slice A n c],.pointer (some ⟨gx,0,none⟩)] w fun e w' => e = .returned (.bool (!dec (stampNe s0 x))) ∧ Ext w w':=by
 by_cases h : x.stamp_ = s0
 ·have b0 : (x.stamp_ == s0) = true:=by simp [h]
  rw [dec_no (show ¬ stampNe s0 x from fun q => q h)]
  clear h
  go_enter Tryz.func107,Tryz.ntmps107
  go_wp2
  go_ret
  exact ⟨rfl,(Ext.refl' _).al _⟩
 ·have b0 : (x.stamp_ == s0) = false:=by simpa using h
  rw [dec_yes (show stampNe s0 x from h)]
  clear h
  go_enter Tryz.func107,Tryz.ntmps107
  go_wp2
  go_ret
  exact ⟨rfl,(Ext.refl' _).al _⟩

set_option maxHeartbeats 4000000 in
theorem idxhi_any (gx : Nat) (s0 : Int) (A : Option Addr) (n c : Nat) (l : List Wrote) (w : World) (hg : w.cell? ⟨gx,0,none⟩ = some (.int .i64 s0)) (hgb : gx < w.heap.size) (S : Nat → Prop) (hs : SlR Wrote.R 3 w S A n l) (hm : n ≤ 9223372036854775807) :
  Calls Tryz.prog 144 #[.slice A n c,.func (.func 107) #[] #[.pointer (some ⟨gx,0,none⟩)]] w fun e w' => ∃ i : Int,e = .returned (.int .i64 i) ∧ ((i = -1 ∧ AllTo (fun _ x => (stampNe s0) x) l l.length) ∨ (0 ≤ i ∧ ¬ AllTo (fun _ x => (stampNe s0) x) l l.length)) ∧ Ext w w':=by
 have H:=Lib.hid (hs.1)
 have HS:=Lib.hid hs
 clear hs
 go_enter Tryz.func144,Tryz.ntmps144
 go_wp2
 go_loopw [8] (fun i wr => ∃ k : Nat,k ≤ n ∧ i = .int .i64 k ∧ AllTo (fun _ x => (stampNe s0) x) l k ∧ Ext w wr) (fun i _ => n - (intOf i).toNat)
 case atStart => exact ⟨0,Nat.zero_le _,rfl,AllTo.zero _ _,Ext.refl' _⟩
 case round =>
  obtain ⟨k,hk,rfl,hup,hx⟩:=hrel
  have HU:=Lib.hid hup
  have HX:=Lib.hid hx
  clear hup hx
  by_cases hlt : (k : Int) < (n : Int)
  ·
   obtain ⟨b,o,rfl⟩:=HS.out.addr (by omega)
   obtain ⟨x,row,hsk,-,hrw,hc⟩:=(HS.out.ext Wrote.R_good HX.out).at_ (k:=k) (by omega)
   have HRW:=Lib.hid hrw
   obtain ⟨A0,n0,c0,rfl⟩:=Wrote.R_cells hrw
   have k0:=hc 0 (by omega)
   have k1:=hc 1 (by omega)
   have k2:=hc 2 (by omega)
   simp only [List.getElem?_cons_zero,List.getElem?_cons_succ,Nat.add_zero] at k0 k1 k2
   have HSK:=Lib.hid hsk
   clear hsk hc hrw
   go_wp2_with fail
   refine (hiC_any x A0 n0 c0 gx s0 _ (HX.out.co hg) (Nat.lt_of_lt_of_le hgb HX.out.size)).mono ?_
   rintro e w2 ⟨rfl,x2⟩
   have X2:=Lib.hid (HX.out.tr x2)
   clear x2
   by_cases h0 : (stampNe s0) x
   ·have H0:=Lib.hid h0
    rw [dec_yes h0]
    clear h0
    go_wp2
    go_roundw
    case rel => exact ⟨k + 1,by omega,by go_num,HU.out.succ HSK.out H0.out,X2.out⟩
    case measure => simp [intOf];omega
   ·have H0:=Lib.hid h0
    rw [dec_no h0]
    clear h0
    go_wp2
    go_ret
    exact ⟨k,rfl,.inr ⟨by omega,fun h => AllTo.not HSK.out (by have a:=H.out;omega) (fun q => H0.out q) h⟩,X2.out⟩
  ·have e : Hid (k = l.length):=by show k = _;have a:=H.out;omega
   go_wp2
   go_ret
   exact ⟨-1,rfl,.inl ⟨rfl,by rw [← e.out];exact HU.out⟩,HX.out⟩

theorem anyhi_any (gx : Nat) (s0 : Int) (A : Option Addr) (n c : Nat) (l : List Wrote) (w : World) (hg : w.cell? ⟨gx,0,none⟩ = some (.int .i64 s0)) (hgb : gx < w.heap.size) (S : Nat → Prop) (hs : SlR Wrote.R 3 w S A n l) (hm : n ≤ 9223372036854775807) :
  Calls Tryz.prog 106 #[.slice A n c,.func (.func 107) #[] #[.pointer (some ⟨gx,0,none⟩)]] w fun e w' => e = .returned (.bool (!dec (AllTo (fun _ x => (stampNe s0) x) l l.length))) ∧ Ext w w':=by
 go_enter Tryz.func106,Tryz.ntmps106
 go_wp2_with fail
 refine (idxhi_any gx s0 _ _ _ _ _ hg hgb _ hs hm).mono ?_
 rintro e w1 ⟨i,rfl,hi,x1⟩
 have X1:=Lib.hid x1
 clear x1
 rcases hi with ⟨rfl,hx⟩|⟨hi,hx⟩
 ·have HX:=Lib.hid hx
  clear hx
  go_wp2
  go_ret
  exact ⟨by rw [dec_yes HX.out];rfl,X1.out⟩
 ·have HX:=Lib.hid hx
  clear hx
  go_wp2
  go_ret
  exact ⟨by rw [dec_no HX.out];rfl,X1.out⟩
set_option maxRecDepth 8000 in
set_option maxHeartbeats 8000000 in
theorem impl_HistOk (A : Option Addr) (n c : Nat) (l : List Wrote) (w : World) (S : Nat → Prop) (hs : SlR Wrote.R 3 w S A n l) (hm : n ≤ 1048576) (hcp : n ≤ c) (hp : ∀ x ∈ l,x.puts_.length ≤ 1048576) :
  Calls Tryz.prog 66 #[.slice A n c] w fun e w' => e = .returned (.bool (histOk l)) ∧ Ext w w':=by
 have H : Hid (l.length = n):=hs.1
 have HS:=Lib.hid hs
 have HP:=Lib.hid hp
 have M : Hid (Mine w w []):=Mine.refl w
 clear hs hp
 go_enter Tryz.func66,Tryz.ntmps66
 go_wp2
 go_loopw [7] (fun i wr => ∃ k : Nat,k ≤ n ∧ i = .int .i64 k ∧ Hid (AllTo (hOne l) l k) ∧ Hid (Mine w wr [])) (fun i _ => n - (intOf i).toNat)
 case atStart => exact ⟨0,Nat.zero_le _,rfl,AllTo.zero _ _,M⟩
 case round =>
  clear M
  obtain ⟨k,hk,rfl,HU,M⟩:=hrel
  by_cases hlt : (k : Int) < (n : Int)
  rotate_left
  ·have e : k = l.length:=by rw [H.out];omega
   by_cases h2 : (n : Int) ≤ 200
   ·have HZ : Hid (histOk l = true):=dec_yes ⟨by rw [H.out];omega,by rw [← e];exact HU.out⟩
    have b2 : decide ((n : Int) ≤ 200) = true:=decide_eq_true h2
    clear h2 e
    go_wp2
    go_ret
    exact ⟨by rw [HZ.out];rfl,M.out.ext⟩
   ·have HZ : Hid (histOk l = false):=dec_no fun h => h2 (by have:=H.out;omega)
    have b2 : decide ((n : Int) ≤ 200) = false:=decide_eq_false h2
    clear h2 e
    go_wp2
    go_ret
    exact ⟨by rw [HZ.out];rfl,M.out.ext⟩
  have HLT : Hid (k < n):=by show _ < _;omega
  have hkc : (k : Int) ≤ (c : Int):=by omega
  obtain ⟨b,o,rfl⟩:=HS.out.addr (by omega)
  obtain ⟨x,A0,n0,c0,hx,hb,q0,q1,q2,hnc,hsl,hl0⟩:=hist_at (HS.out.ext Wrote.R_good M.out.ext) HLT.out
  have HX:=Lib.hid hx
  have HSL:=Lib.hid hsl
  have HN0 : Hid (n0 ≤ 1048576):=by show _ ≤ _;rw [← hl0];exact HP.out x (List.mem_of_getElem? hx)
  clear hx hsl hl0
  have NO : ∀ {p : Prop},(hOne l k x → p) → ¬ p → histOk l = false:=fun f g => dec_no fun h => AllTo.not HX.out (by rw [H.out];exact HLT.out) (fun q => g (f q)) h.2
  have HSLW : Hid (Sl w S 2 A0 n0 (x.puts_.flatMap Row.cells)):=by
   obtain ⟨x5,A5,n5,c5,hx5,hb5,r0,r1,r2,_,hsl5,_⟩:=hist_at HS.out HLT.out
   rw [HX.out] at hx5
   injection hx5 with hx5
   subst hx5
   have e2:=q2
   rw [ext_co M.out.ext r2 hb5] at e2
   injection e2 with e2
   injection e2 with e3 e4 e5
   subst e3 e4
   exact hsl5
  clear HSL
  by_cases h0 : 1 ≤ x.stamp_ ∧ x.stamp_ ≤ 1000000
  rotate_left
  ·have d0 : decide (1 ≤ x.stamp_ ∧ x.stamp_ ≤ 1000000) = false:=by simpa using h0
   have HZ : Hid (histOk l = false):=NO (fun q => q.1) h0
   clear h0 NO
   go_wp2_with (first|(go_at_call 35;(with_reducible refine (within_any _ _ _ _).mono ?_);rintro e w' ⟨rfl,rfl⟩)|(go_at_call 105;(with_reducible refine (isOwner_any _ _).mono ?_);rintro e w' ⟨rfl,rfl⟩)|(go_at_call 67;(with_reducible refine (impl_RowsOk A0 n0 c0 x.puts_ _ S (HSLW.out.ext M.out.ext) HN0.out).mono ?_);rintro e w' ⟨rfl,x9⟩;replace M:=Lib.hid (M.out.on x9);clear x9;rw [h2])|(go_at_call 106;(with_reducible refine (anyhi_any gx x.stamp_ (some ⟨b,o,none⟩) k c (l.take k) _ ((M.out.box_at 0 rfl).cell 0) (M.out.box_at 0 rfl).lt S ((SlR.pre HS.out (Nat.le_of_lt HLT.out)).ext Wrote.R_good M.out.ext) (by omega)).mono ?_);rintro e w' ⟨rfl,x9⟩;replace M:=Lib.hid (M.out.on x9);clear x9;rw [h3])|((with_reducible show wpList _ _ _ (⟨_,_,_,_,_,none⟩::_) _ _);first|(refine Mine.wp_alloc M.out rfl 53 rfl (.agg #[.int .i64 0,.int .i64 0,.slice none 0 0]) (by kernel_rfl) ?_;intro gx w' M';(try simp only [Value.cells,zr_,zm_] at M');replace M:=Lib.hid M';clear M';(try simp only [zr_,zm_]))|(refine zSs M.out 53 0 ?_;intro w' M';(try simp only [zr_,zm_] at M');replace M:=Lib.hid M';clear M')|(refine zG M.out 0 ?_;(try simp only [zr_,zm_])))|((with_reducible show wpList _ _ _ (⟨_,.load _ _,_,_,_,some _⟩::_) _ _);first|(refine zGg M.out 0 ?_;(try simp only [zr_,zm_]))))
   go_ret
   exact ⟨by rw [HZ.out];rfl,M.out.ext⟩
  have d0 : decide (1 ≤ x.stamp_ ∧ x.stamp_ ≤ 1000000) = true:=by simpa using h0
  have H0:=Lib.hid h0
  clear h0
  by_cases h1 : 1 ≤ x.who_ ∧ x.who_ ≤ 99
  rotate_left
  ·have d1 : decide (1 ≤ x.who_ ∧ x.who_ ≤ 99) = false:=by simpa using h1
   have HZ : Hid (histOk l = false):=NO (fun q => q.2.1) h1
   clear h1 NO
   go_wp2_with (first|(go_at_call 35;(with_reducible refine (within_any _ _ _ _).mono ?_);rintro e w' ⟨rfl,rfl⟩)|(go_at_call 105;(with_reducible refine (isOwner_any _ _).mono ?_);rintro e w' ⟨rfl,rfl⟩)|(go_at_call 67;(with_reducible refine (impl_RowsOk A0 n0 c0 x.puts_ _ S (HSLW.out.ext M.out.ext) HN0.out).mono ?_);rintro e w' ⟨rfl,x9⟩;replace M:=Lib.hid (M.out.on x9);clear x9;rw [h2])|(go_at_call 106;(with_reducible refine (anyhi_any gx x.stamp_ (some ⟨b,o,none⟩) k c (l.take k) _ ((M.out.box_at 0 rfl).cell 0) (M.out.box_at 0 rfl).lt S ((SlR.pre HS.out (Nat.le_of_lt HLT.out)).ext Wrote.R_good M.out.ext) (by omega)).mono ?_);rintro e w' ⟨rfl,x9⟩;replace M:=Lib.hid (M.out.on x9);clear x9;rw [h3])|((with_reducible show wpList _ _ _ (⟨_,_,_,_,_,none⟩::_) _ _);first|(refine Mine.wp_alloc M.out rfl 53 rfl (.agg #[.int .i64 0,.int .i64 0,.slice none 0 0]) (by kernel_rfl) ?_;intro gx w' M';(try simp only [Value.cells,zr_,zm_] at M');replace M:=Lib.hid M';clear M';(try simp only [zr_,zm_]))|(refine zSs M.out 53 0 ?_;intro w' M';(try simp only [zr_,zm_] at M');replace M:=Lib.hid M';clear M')|(refine zG M.out 0 ?_;(try simp only [zr_,zm_])))|((with_reducible show wpList _ _ _ (⟨_,.load _ _,_,_,_,some _⟩::_) _ _);first|(refine zGg M.out 0 ?_;(try simp only [zr_,zm_]))))
   go_ret
   exact ⟨by rw [HZ.out];rfl,M.out.ext⟩
  have d1 : decide (1 ≤ x.who_ ∧ x.who_ ≤ 99) = true:=by simpa using h1
  have H1:=Lib.hid h1
  clear h1
  cases h2 : rowsOk x.puts_
  ·have HZ : Hid (histOk l = false):=NO (fun q => q.2.2.1) (by rw [h2];simp)
   clear NO
   go_wp2_with (first|(go_at_call 35;(with_reducible refine (within_any _ _ _ _).mono ?_);rintro e w' ⟨rfl,rfl⟩)|(go_at_call 105;(with_reducible refine (isOwner_any _ _).mono ?_);rintro e w' ⟨rfl,rfl⟩)|(go_at_call 67;(with_reducible refine (impl_RowsOk A0 n0 c0 x.puts_ _ S (HSLW.out.ext M.out.ext) HN0.out).mono ?_);rintro e w' ⟨rfl,x9⟩;replace M:=Lib.hid (M.out.on x9);clear x9;rw [h2])|(go_at_call 106;(with_reducible refine (anyhi_any gx x.stamp_ (some ⟨b,o,none⟩) k c (l.take k) _ ((M.out.box_at 0 rfl).cell 0) (M.out.box_at 0 rfl).lt S ((SlR.pre HS.out (Nat.le_of_lt HLT.out)).ext Wrote.R_good M.out.ext) (by omega)).mono ?_);rintro e w' ⟨rfl,x9⟩;replace M:=Lib.hid (M.out.on x9);clear x9;rw [h3])|((with_reducible show wpList _ _ _ (⟨_,_,_,_,_,none⟩::_) _ _);first|(refine Mine.wp_alloc M.out rfl 53 rfl (.agg #[.int .i64 0,.int .i64 0,.slice none 0 0]) (by kernel_rfl) ?_;intro gx w' M';(try simp only [Value.cells,zr_,zm_] at M');replace M:=Lib.hid M';clear M';(try simp only [zr_,zm_]))|(refine zSs M.out 53 0 ?_;intro w' M';(try simp only [zr_,zm_] at M');replace M:=Lib.hid M';clear M')|(refine zG M.out 0 ?_;(try simp only [zr_,zm_])))|((with_reducible show wpList _ _ _ (⟨_,.load _ _,_,_,_,some _⟩::_) _ _);first|(refine zGg M.out 0 ?_;(try simp only [zr_,zm_]))))
   go_ret
   exact ⟨by rw [HZ.out];rfl,M.out.ext⟩
  cases h3 : dec (AllTo (fun _ y => stampNe x.stamp_ y) (l.take k) (l.take k).length)
  ·have HZ : Hid (histOk l = false):=NO (fun q => q.2.2.2) (fun q => dec_false h3 fun i hi y hy => by
    rw [List.getElem?_take] at hy
    split at hy
    ·exact q i y (by assumption) hy
    ·cases hy)
   clear NO
   go_wp2_with (first|(go_at_call 35;(with_reducible refine (within_any _ _ _ _).mono ?_);rintro e w' ⟨rfl,rfl⟩)|(go_at_call 105;(with_reducible refine (isOwner_any _ _).mono ?_);rintro e w' ⟨rfl,rfl⟩)|(go_at_call 67;(with_reducible refine (impl_RowsOk A0 n0 c0 x.puts_ _ S (HSLW.out.ext M.out.ext) HN0.out).mono ?_);rintro e w' ⟨rfl,x9⟩;replace M:=Lib.hid (M.out.on x9);clear x9;rw [h2])|(go_at_call 106;(with_reducible refine (anyhi_any gx x.stamp_ (some ⟨b,o,none⟩) k c (l.take k) _ ((M.out.box_at 0 rfl).cell 0) (M.out.box_at 0 rfl).lt S ((SlR.pre HS.out (Nat.le_of_lt HLT.out)).ext Wrote.R_good M.out.ext) (by omega)).mono ?_);rintro e w' ⟨rfl,x9⟩;replace M:=Lib.hid (M.out.on x9);clear x9;rw [h3])|((with_reducible show wpList _ _ _ (⟨_,_,_,_,_,none⟩::_) _ _);first|(refine Mine.wp_alloc M.out rfl 53 rfl (.agg #[.int .i64 0,.int .i64 0,.slice none 0 0]) (by kernel_rfl) ?_;intro gx w' M';(try simp only [Value.cells,zr_,zm_] at M');replace M:=Lib.hid M';clear M';(try simp only [zr_,zm_]))|(refine zSs M.out 53 0 ?_;intro w' M';(try simp only [zr_,zm_] at M');replace M:=Lib.hid M';clear M')|(refine zG M.out 0 ?_;(try simp only [zr_,zm_])))|((with_reducible show wpList _ _ _ (⟨_,.load _ _,_,_,_,some _⟩::_) _ _);first|(refine zGg M.out 0 ?_;(try simp only [zr_,zm_]))))
   go_ret
   exact ⟨by rw [HZ.out];rfl,M.out.ext⟩
  have HONE : Hid (hOne l k x):=⟨H0.out,H1.out,h2,fun i y hi hy => dec_true h3 i (by rw [List.length_take,H.out];omega) y (by rw [List.getElem?_take,if_pos hi];exact hy)⟩
  clear NO
  go_wp2_with (first|(go_at_call 35;(with_reducible refine (within_any _ _ _ _).mono ?_);rintro e w' ⟨rfl,rfl⟩)|(go_at_call 105;(with_reducible refine (isOwner_any _ _).mono ?_);rintro e w' ⟨rfl,rfl⟩)|(go_at_call 67;(with_reducible refine (impl_RowsOk A0 n0 c0 x.puts_ _ S (HSLW.out.ext M.out.ext) HN0.out).mono ?_);rintro e w' ⟨rfl,x9⟩;replace M:=Lib.hid (M.out.on x9);clear x9;rw [h2])|(go_at_call 106;(with_reducible refine (anyhi_any gx x.stamp_ (some ⟨b,o,none⟩) k c (l.take k) _ ((M.out.box_at 0 rfl).cell 0) (M.out.box_at 0 rfl).lt S ((SlR.pre HS.out (Nat.le_of_lt HLT.out)).ext Wrote.R_good M.out.ext) (by omega)).mono ?_);rintro e w' ⟨rfl,x9⟩;replace M:=Lib.hid (M.out.on x9);clear x9;rw [h3])|((with_reducible show wpList _ _ _ (⟨_,_,_,_,_,none⟩::_) _ _);first|(refine Mine.wp_alloc M.out rfl 53 rfl (.agg #[.int .i64 0,.int .i64 0,.slice none 0 0]) (by kernel_rfl) ?_;intro gx w' M';(try simp only [Value.cells,zr_,zm_] at M');replace M:=Lib.hid M';clear M';(try simp only [zr_,zm_]))|(refine zSs M.out 53 0 ?_;intro w' M';(try simp only [zr_,zm_] at M');replace M:=Lib.hid M';clear M')|(refine zG M.out 0 ?_;(try simp only [zr_,zm_])))|((with_reducible show wpList _ _ _ (⟨_,.load _ _,_,_,_,some _⟩::_) _ _);first|(refine zGg M.out 0 ?_;(try simp only [zr_,zm_]))))
  go_roundw
  case rel => exact ⟨k + 1,HLT.out,by go_num,Lib.hid (HU.out.succ HX.out HONE.out),Lib.hid (Mine.of M.out.ext)⟩
  case measure => have:=HLT.out;simp [intOf];omega
set_option maxRecDepth 8000 in
set_option maxHeartbeats 8000000 in
theorem copyHist_m (A : Option Addr) (n c : Nat) (l : List Wrote) (w : World) (S : Nat → Prop) (hs : SlR Wrote.R 3 w S A n l) (hm : n ≤ 1048576) (hp : ∀ x ∈ l,x.puts_.length ≤ 1048576) :
  Calls Tryz.prog 108 #[.slice A n c] w fun e w' => ∃ (B : Option Addr) (d : Nat) (es : List Ent),e = .returned (.slice B n d) ∧ es.map (·.2) = l ∧ Mine w w' (.row 53 3 B n d (es.flatMap ecell)::es.map erow):=by
 have H : Hid (l.length = n):=hs.1
 have HS:=Lib.hid hs
 have HP:=Lib.hid hp
 have M : Hid (Mine w w (.row 53 3 none 0 0 (([] : List Ent).flatMap ecell)::([] : List Ent).map erow)):=(Mine.refl w).nil 53 3
 clear hs hp
 go_enter Tryz.func108,Tryz.ntmps108
 go_wp2
 go_loopw [3,8] (fun u i wr => ∃ (k d : Nat) (B : Option Addr) (es : List Ent),k ≤ n ∧ u = .slice B k d ∧ i = .int .i64 k ∧ Hid (es.map (·.2) = l.take k) ∧ Hid (Mine w wr (.row 53 3 B k d (es.flatMap ecell)::es.map erow))) (fun _ i _ => n - (intOf i).toNat)
 case atStart => exact ⟨0,0,none,[],Nat.zero_le _,rfl,rfl,rfl,M⟩
 case round =>
  clear M
  obtain ⟨k,d,B,es,hk,rfl,rfl,HE,M⟩:=hrel
  by_cases hlt : (k : Int) < (n : Int)
  rotate_left
  ·obtain rfl : k = n:=by omega
   go_wp2
   go_ret
   exact ⟨B,d,rfl,es,by rw [HE.out,List.take_of_length_le (by rw [H.out];exact Nat.le_refl _)],M.out⟩
  have HLT : Hid (k < n):=by show _ < _;omega
  obtain ⟨b,o,rfl⟩:=HS.out.addr (by omega)
  obtain ⟨x,A0,n0,c0,hx,hb,q0,q1,q2,hnc,hsl,hl0⟩:=hist_at (HS.out.ext Wrote.R_good M.out.ext) HLT.out
  have HX:=Lib.hid hx
  have HSL:=Lib.hid hsl
  have HN0 : Hid (n0 ≤ 1048576):=by show _ ≤ _;rw [← hl0];exact HP.out x (List.mem_of_getElem? hx)
  clear hx hsl hl0
  skip
  have HEX : Hid (Ext wr wr):=Ext.refl' _
  have HSLW : Hid (Sl w S 2 A0 n0 (x.puts_.flatMap Row.cells)):=by
   obtain ⟨x5,A5,n5,c5,hx5,hb5,r0,r1,r2,_,hsl5,_⟩:=hist_at HS.out HLT.out
   rw [HX.out] at hx5
   injection hx5 with hx5
   subst hx5
   have e2:=q2
   rw [ext_co M.out.ext r2 hb5] at e2
   injection e2 with e2
   injection e2 with e3 e4 e5
   subst e3 e4
   exact hsl5
  clear HSL HEX
  go_wp2_with (first|(go_at_call 90;(with_reducible refine (copyRows_own A0 n0 c0 x.puts_ _ _ (HSLW.out.ext M.out.ext) HN0.out).mono ?_);rintro e w' ⟨Bp,dp,rfl,o9,x9⟩;replace M:=Lib.hid (M.out.own o9 x9);clear o9 x9)|(at_builtin;refine Mine.wp_push M.out rfl _ _ 29 rfl 53 _ _ _ Tryz.underlying29 Tryz.infoWrote rfl (by omega) 2 rfl rfl _ _ rfl rfl rfl (by simp [Value.oneCell']) (by omega) (by unfold maxLen;omega) ?_;intro A2 c2 w' M';(try simp only [zr_,zm_] at M');replace M:=Lib.hid M';clear M')|((with_reducible show wpList _ _ _ (⟨_,_,_,_,_,none⟩::_) _ _);first|(refine Mine.wp_alloc M.out rfl 53 rfl (.agg #[.int .i64 0,.int .i64 0,.slice none 0 0]) (by kernel_rfl) ?_;intro gx w' M';(try simp only [Value.cells,zr_,zm_] at M');replace M:=Lib.hid M';clear M';(try simp only [zr_,zm_]))|((first|refine zSs M.out 53 0 ?_|refine zS M.out 1 ?_);intro w' M';(try simp only [zr_,zm_] at M');replace M:=Lib.hid M';clear M')|((first|refine zG M.out 0 ?_|refine zGs M.out 53 1 3 ?_);(try simp only [zr_,zm_]))))
  go_roundw
  case rel =>
   refine ⟨k + 1,_,_,es ++ [((Bp,n0,dp),x)],HLT.out,rfl,by go_num,?_,Lib.hid ?_⟩
   ·show _ = _
    rw [List.map_append,HE.out,List.take_add_one,HX.out];rfl
   ·have M9:=M.out
    have e1 : (es ++ [((Bp,n0,dp),x)]).flatMap ecell = es.flatMap ecell ++ [.int .i64 x.stamp_,.int .i64 x.who_,.slice Bp n0 dp]:=by rw [List.flatMap_append];rfl
    rw [e1,List.map_append]
    refine (M9.sub (sk_ (sd_ s1_))).perm ?_
    exact (List.perm_append_comm (l₁:=[erow ((Bp,n0,dp),x)]) (l₂:=.row 53 3 _ _ _ _::es.map erow))
  case measure => have:=HLT.out;simp [intOf];omega

end Go.Proofs.YtpmfhfpjiebcjaaGreat
