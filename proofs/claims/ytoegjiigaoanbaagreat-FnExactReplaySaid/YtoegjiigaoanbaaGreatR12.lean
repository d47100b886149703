/- Replay. No condition. -/
import Derived.Test.YtoegjiigaoanbaaGreatS00
import Derived.Test.YtoegjiigaoanbaaGreatR11
import Derived.Test.YtoegjiigaoanbaaGreatR10
set_option linter.unusedSimpArgs false
set_option linter.unusedVariables false
set_option linter.unnecessarySimpa false
set_option maxHeartbeats 400000000
namespace Go.Proofs.YtoegjiigaoanbaaGreat
open Go.RowKit Go.Deep
open Go.Lib (hid)
def Mark.ct (x : Mark) : Nat:=4 + x.regs_.length
def Mark.ca (x : Mark) : Nat:=x.regs_.length
theorem Mark.ct_le (x : Mark) : Mark.ct x ≤ 64 * (Mark.wt x + 1):=by
 skip
 unfold Mark.ct Mark.wt
 omega
set_option maxRecDepth 20000 in
theorem shakeMarkS_any (A : Option Addr) (n c : Nat) (l : List Mark) (q : Int) (w : World) (S : Nat → Prop) (h : SlW Mark.W 241 5 w S A n c l) (hS : ∀ g,S g → g < w.heap.size) (hq : 0 ≤ q) (hqn : q + (ctl Mark.ct l : Nat) ≤ 9007199254740992) (hm : n ≤ 9223372036854775807) :
  Calls Tryz.prog 111 #[.slice A n c,.int .i64 q] w fun e w' => e = .returned (.int .i64 (q + (ctl Mark.ct l : Nat))) ∧ Chg S w w':=by
 obtain ⟨hl,cs0,lab,ho0,hr0⟩:=h
 have HL:=hid hl
 have HO0:=hid ho0
 have HR0:=hid hr0
 have HS:=hid hS
 clear hl ho0 hr0 hS
 go_enter Tryz.func111,Tryz.ntmps111
 go_wp2
 go_loopw [1,5] (fun r i wr => ∃ k : Nat,k ≤ n ∧ i = .int .i64 k ∧ r = .int .i64 (q + (ctl Mark.ct (l.take k) : Nat)) ∧ Hid (Chg (fun j => S j ∧ lab j ≤ k) w wr) ∧ Hid (∀ g,A = some ⟨g,0,none⟩ → 0 < n → Shake 241 5 g n c k (fun _ => True) cs0 (fun j => S j ∧ lab j ≤ k) w wr)) (fun _ i _ => n - (intOf i).toNat)
 case atStart => exact ⟨0,Nat.zero_le _,rfl,by simp [ctl],Chg.refl _ _,fun g hA hn => by subst hA;exact Shake.zero HO0.out.1 (by have h:=HO0.out.2 g rfl;exact ⟨h.1,by rw [h.2];exact Nat.le_refl _⟩)⟩
 case round =>
  obtain ⟨k,hk,rfl,rfl,HX,HM⟩:=hrel
  by_cases hlt : (k : Int) < (n : Int)
  rotate_left
  ·have e : Hid (k = n):=by show k = n;omega
   go_wp2
   go_ret
   exact ⟨by (rw [e.out,← HL.out,List.take_length]) <;> rfl,HX.out.mono fun _ h => h.1⟩
  have HLT : Hid (k < n):=by show k < n;omega
  obtain ⟨g,rfl,hgS,hgl,-⟩:=HO0.out.at_ HLT.out
  have M0:=HM.out g rfl (by have:=HLT.out;omega)
  obtain ⟨x,hxk⟩ : ∃ x,l[k]? = some x:=⟨_,List.getElem?_eq_getElem (by have h:=HL.out;omega)⟩
  obtain ⟨row,h,hrow⟩:=HR0.out k HLT.out x hxk
  obtain ⟨A0,n0,c0,lam,rfl,⟨kh0,mh0,h0⟩⟩:=h
  obtain rfl : n0 = x.regs_.length:=by have a:=h0.sl.len;omega
  have L0:=hid h0
  clear h0
  have IX4 : cs0[k * 5 + 4]? = some (.slice A0 x.regs_.length c0):=hrow 4 (by omega)
  have HCT:=hid (ctl_take (f:=Mark.ct) hxk)
  have hle:=ctl_le (f:=Mark.ct) l (k + 1)
  obtain ⟨Q,hQ⟩ : ∃ Q : Int,Q = q + (ctl Mark.ct (l.take k) : Nat):=⟨_,rfl⟩
  have hQ0 : 0 ≤ Q:=by omega
  have hQn : Q + (Mark.ct x : Nat) ≤ 9007199254740992:=by have a:=HCT.out;omega
  unfold Mark.ct at hQn
  have HQ:=hid hQ
  have hg0 : lab g = 0:=hgS.2
  have M : Hid (Shake 241 5 g n c k (fun f => f ∈ [4]) cs0 (fun j => S j ∧ (lab j ≤ k ∨ (lab j = k + 1 ∧ (lam j < 0)))) w wr):=hid ((M0.leafs fun _ _ => trivial).mono fun j h => ⟨h.1,.inl h.2⟩)
  rw [← hQ]
  clear hQ hrow hxk hle hgl hgS HX HM M0
  go_wp2_with ((with_reducible refine zN ?_);first|(refine Shake.wp_put M.out HLT.out rfl _ _ _ rfl rfl _ rfl _ (by (conv => lhs;whnf) <;> rfl) (by decide) (by decide) (by rfl) (by kernel_rfl) ?_;intro w' M';replace M:=hid M';clear M')|(refine Shake.wp_put0 M.out HLT.out rfl _ _ _ rfl rfl rfl _ (by (conv => lhs;whnf) <;> rfl) (by decide) (by decide) (by rfl) (by kernel_rfl) ?_;intro w' M';replace M:=hid M';clear M')|(refine Shake.wp_get M.out HLT.out rfl _ _ rfl _ rfl (by decide) (by decide) _ (by assumption) _ (by first|exact Tryz.underlying22) (by rfl) ?_;(try simp only [zr_,zm_])))
  refine (shk3 (markIntS_ow _ _ _ x.regs_ _ _ _ (OwS.chg L0.out M.out.chg (fun i h1 h2 => by obtain ⟨h1,e0⟩:=h1;have e9:=h1.2;obtain ⟨-,h2⟩:=h2;omega)) (by omega) (by omega))).mono ?_
  rintro e w1 ⟨Q1,rfl,E1,c1⟩
  have hq1 : 0 ≤ Q1:=by have a:=E1.out;omega
  have hr1 : Q1 + ((0 : Nat) : Int) ≤ 9007199254740992:=by have a:=E1.out;omega
  clear hQ0 hQn
  replace M : Hid (Shake 241 5 g n c k (fun f => f ∈ [4]) cs0 (fun j => S j ∧ (lab j ≤ k ∨ (lab j = k + 1 ∧ (lam j ≤ 0)))) w w1):=hid (M.out.call c1 (fun h1 => by obtain ⟨h1,e0⟩:=h1;have e9:=h1.2;omega) (fun j h1 => ⟨h1.1.1,by obtain ⟨h1,e0⟩:=h1;have e9:=h1.2;omega⟩) (fun j h => ⟨h.1,by have h2:=h.2;omega⟩))
  clear c1
  go_wp2_with ((with_reducible refine zN ?_);fail)
  go_roundw
  case rel =>
   have M9:=(M.out.next).mono (T':=fun j => S j ∧ lab j ≤ k + 1) fun j h => ⟨h.1,by have h2:=h.2;omega⟩
   refine ⟨k + 1,HLT.out,by go_num,by congr 1;have a:=HCT.out;have b:=HQ.out;have aE1:=E1.out;have cc : Mark.ct x = 4 + x.regs_.length:=rfl;omega,M9.chg,fun g2 hA _ => ?_⟩
   obtain rfl:=addr_inj hA
   exact M9
  case measure => have h:=HLT.out;simp [intOf];omega
def KidMark.ct (x : KidMark) : Nat:=2 + x.regs_.length
def KidMark.ca (x : KidMark) : Nat:=x.regs_.length
theorem KidMark.ct_le (x : KidMark) : KidMark.ct x ≤ 64 * (KidMark.wt x + 1):=by
 skip
 unfold KidMark.ct KidMark.wt
 omega
set_option maxRecDepth 20000 in
theorem shakeKidMarkS_any (A : Option Addr) (n c : Nat) (l : List KidMark) (q : Int) (w : World) (S : Nat → Prop) (h : SlW KidMark.W 297 3 w S A n c l) (hS : ∀ g,S g → g < w.heap.size) (hq : 0 ≤ q) (hqn : q + (ctl KidMark.ct l : Nat) ≤ 9007199254740992) (hm : n ≤ 9223372036854775807) :
  Calls Tryz.prog 169 #[.slice A n c,.int .i64 q] w fun e w' => e = .returned (.int .i64 (q + (ctl KidMark.ct l : Nat))) ∧ Chg S w w':=by
 obtain ⟨hl,cs0,lab,ho0,hr0⟩:=h
 have HL:=hid hl
 have HO0:=hid ho0
 have HR0:=hid hr0
 have HS:=hid hS
 clear hl ho0 hr0 hS
 go_enter Tryz.func169,Tryz.ntmps169
 go_wp2
 go_loopw [1,5] (fun r i wr => ∃ k : Nat,k ≤ n ∧ i = .int .i64 k ∧ r = .int .i64 (q + (ctl KidMark.ct (l.take k) : Nat)) ∧ Hid (Chg (fun j => S j ∧ lab j ≤ k) w wr) ∧ Hid (∀ g,A = some ⟨g,0,none⟩ → 0 < n → Shake 297 3 g n c k (fun _ => True) cs0 (fun j => S j ∧ lab j ≤ k) w wr)) (fun _ i _ => n - (intOf i).toNat)
 case atStart => exact ⟨0,Nat.zero_le _,rfl,by simp [ctl],Chg.refl _ _,fun g hA hn => by subst hA;exact Shake.zero HO0.out.1 (by have h:=HO0.out.2 g rfl;exact ⟨h.1,by rw [h.2];exact Nat.le_refl _⟩)⟩
 case round =>
  obtain ⟨k,hk,rfl,rfl,HX,HM⟩:=hrel
  by_cases hlt : (k : Int) < (n : Int)
  rotate_left
  ·have e : Hid (k = n):=by show k = n;omega
   go_wp2
   go_ret
   exact ⟨by (rw [e.out,← HL.out,List.take_length]) <;> rfl,HX.out.mono fun _ h => h.1⟩
  have HLT : Hid (k < n):=by show k < n;omega
  obtain ⟨g,rfl,hgS,hgl,-⟩:=HO0.out.at_ HLT.out
  have M0:=HM.out g rfl (by have:=HLT.out;omega)
  obtain ⟨x,hxk⟩ : ∃ x,l[k]? = some x:=⟨_,List.getElem?_eq_getElem (by have h:=HL.out;omega)⟩
  obtain ⟨row,h,hrow⟩:=HR0.out k HLT.out x hxk
  obtain ⟨A0,n0,c0,lam,rfl,⟨kh0,mh0,h0⟩⟩:=h
  obtain rfl : n0 = x.regs_.length:=by have a:=h0.sl.len;omega
  have L0:=hid h0
  clear h0
  have IX2 : cs0[k * 3 + 2]? = some (.slice A0 x.regs_.length c0):=hrow 2 (by omega)
  have HCT:=hid (ctl_take (f:=KidMark.ct) hxk)
  have hle:=ctl_le (f:=KidMark.ct) l (k + 1)
  obtain ⟨Q,hQ⟩ : ∃ Q : Int,Q = q + (ctl KidMark.ct (l.take k) : Nat):=⟨_,rfl⟩
  have hQ0 : 0 ≤ Q:=by omega
  have hQn : Q + (KidMark.ct x : Nat) ≤ 9007199254740992:=by have a:=HCT.out;omega
  unfold KidMark.ct at hQn
  have HQ:=hid hQ
  have hg0 : lab g = 0:=hgS.2
  have M : Hid (Shake 297 3 g n c k (fun f => f ∈ [2]) cs0 (fun j => S j ∧ (lab j ≤ k ∨ (lab j = k + 1 ∧ (lam j < 0)))) w wr):=hid ((M0.leafs fun _ _ => trivial).mono fun j h => ⟨h.1,.inl h.2⟩)
  rw [← hQ]
  clear hQ hrow hxk hle hgl hgS HX HM M0
  go_wp2_with ((with_reducible refine zN ?_);first|(refine Shake.wp_put M.out HLT.out rfl _ _ _ rfl rfl _ rfl _ (by (conv => lhs;whnf) <;> rfl) (by decide) (by decide) (by rfl) (by kernel_rfl) ?_;intro w' M';replace M:=hid M';clear M')|(refine Shake.wp_put0 M.out HLT.out rfl _ _ _ rfl rfl rfl _ (by (conv => lhs;whnf) <;> rfl) (by decide) (by decide) (by rfl) (by kernel_rfl) ?_;intro w' M';replace M:=hid M';clear M')|(refine Shake.wp_get M.out HLT.out rfl _ _ rfl _ rfl (by decide) (by decide) _ (by assumption) _ (by first|exact Tryz.underlying22) (by rfl) ?_;(try simp only [zr_,zm_])))
  refine (shk3 (markIntS_ow _ _ _ x.regs_ _ _ _ (OwS.chg L0.out M.out.chg (fun i h1 h2 => by obtain ⟨h1,e0⟩:=h1;have e9:=h1.2;obtain ⟨-,h2⟩:=h2;omega)) (by omega) (by omega))).mono ?_
  rintro e w1 ⟨Q1,rfl,E1,c1⟩
  have hq1 : 0 ≤ Q1:=by have a:=E1.out;omega
  have hr1 : Q1 + ((0 : Nat) : Int) ≤ 9007199254740992:=by have a:=E1.out;omega
  clear hQ0 hQn
  replace M : Hid (Shake 297 3 g n c k (fun f => f ∈ [2]) cs0 (fun j => S j ∧ (lab j ≤ k ∨ (lab j = k + 1 ∧ (lam j ≤ 0)))) w w1):=hid (M.out.call c1 (fun h1 => by obtain ⟨h1,e0⟩:=h1;have e9:=h1.2;omega) (fun j h1 => ⟨h1.1.1,by obtain ⟨h1,e0⟩:=h1;have e9:=h1.2;omega⟩) (fun j h => ⟨h.1,by have h2:=h.2;omega⟩))
  clear c1
  go_wp2_with ((with_reducible refine zN ?_);fail)
  go_roundw
  case rel =>
   have M9:=(M.out.next).mono (T':=fun j => S j ∧ lab j ≤ k + 1) fun j h => ⟨h.1,by have h2:=h.2;omega⟩
   refine ⟨k + 1,HLT.out,by go_num,by congr 1;have a:=HCT.out;have b:=HQ.out;have aE1:=E1.out;have cc : KidMark.ct x = 2 + x.regs_.length:=rfl;omega,M9.chg,fun g2 hA _ => ?_⟩
   obtain rfl:=addr_inj hA
   exact M9
  case measure => have h:=HLT.out;simp [intOf];omega
def KidRun.ct (x : KidRun) : Nat:=11 + x.regs_.length + x.seen_.length * 3 + x.writes_.length * 2 + ctl KidMark.ct x.marks_
def KidRun.ca (x : KidRun) : Nat:=x.regs_.length + x.seen_.length * 3 + x.writes_.length * 2 + ctl KidMark.ct x.marks_
theorem KidRun.ct_le (x : KidRun) : KidRun.ct x ≤ 64 * (KidRun.wt x + 1):=by
 have c0:=ctl_bound (f:=KidMark.ct) (wt:=KidMark.wt) (b:=64) KidMark.ct_le (l:=x.marks_)
 unfold KidRun.ct KidRun.wt
 omega
set_option maxRecDepth 20000 in
theorem shakeKidRunS_any (A : Option Addr) (n c : Nat) (l : List KidRun) (q : Int) (w : World) (S : Nat → Prop) (h : SlW KidRun.W 248 15 w S A n c l) (hS : ∀ g,S g → g < w.heap.size) (hq : 0 ≤ q) (hqn : q + (ctl KidRun.ct l : Nat) ≤ 9007199254740992) (hm : n ≤ 9223372036854775807) :
  Calls Tryz.prog 114 #[.slice A n c,.int .i64 q] w fun e w' => e = .returned (.int .i64 (q + (ctl KidRun.ct l : Nat))) ∧ Chg S w w':=by
 obtain ⟨hl,cs0,lab,ho0,hr0⟩:=h
 have HL:=hid hl
 have HO0:=hid ho0
 have HR0:=hid hr0
 have HS:=hid hS
 clear hl ho0 hr0 hS
 go_enter Tryz.func114,Tryz.ntmps114
 go_wp2
 go_loopw [1,5] (fun r i wr => ∃ k : Nat,k ≤ n ∧ i = .int .i64 k ∧ r = .int .i64 (q + (ctl KidRun.ct (l.take k) : Nat)) ∧ Hid (Chg (fun j => S j ∧ lab j ≤ k) w wr) ∧ Hid (∀ g,A = some ⟨g,0,none⟩ → 0 < n → Shake 248 15 g n c k (fun _ => True) cs0 (fun j => S j ∧ lab j ≤ k) w wr)) (fun _ i _ => n - (intOf i).toNat)
 case atStart => exact ⟨0,Nat.zero_le _,rfl,by simp [ctl],Chg.refl _ _,fun g hA hn => by subst hA;exact Shake.zero HO0.out.1 (by have h:=HO0.out.2 g rfl;exact ⟨h.1,by rw [h.2];exact Nat.le_refl _⟩)⟩
 case round =>
  obtain ⟨k,hk,rfl,rfl,HX,HM⟩:=hrel
  by_cases hlt : (k : Int) < (n : Int)
  rotate_left
  ·have e : Hid (k = n):=by show k = n;omega
   go_wp2
   go_ret
   exact ⟨by (rw [e.out,← HL.out,List.take_length]) <;> rfl,HX.out.mono fun _ h => h.1⟩
  have HLT : Hid (k < n):=by show k < n;omega
  obtain ⟨g,rfl,hgS,hgl,-⟩:=HO0.out.at_ HLT.out
  have M0:=HM.out g rfl (by have:=HLT.out;omega)
  obtain ⟨x,hxk⟩ : ∃ x,l[k]? = some x:=⟨_,List.getElem?_eq_getElem (by have h:=HL.out;omega)⟩
  obtain ⟨row,h,hrow⟩:=HR0.out k HLT.out x hxk
  obtain ⟨A0,n0,c0,A1,n1,c1,A2,n2,c2,A3,n3,c3,lam,rfl,⟨kh0,mh0,h0⟩,⟨kh1,mh1,h1⟩,⟨kh2,mh2,h2⟩,⟨kh3,mh3,h3⟩⟩:=h
  obtain rfl : n0 = x.regs_.length:=by have a:=h0.sl.len;omega
  have L0:=hid h0
  clear h0
  obtain rfl : n1 = x.seen_.length:=by have a:=h1.sl.flen Entry.cells_length (by omega);omega
  have L1:=hid h1
  clear h1
  obtain rfl : n2 = x.writes_.length:=by have a:=h2.sl.flen Row.cells_length (by omega);omega
  have L2:=hid h2
  clear h2
  obtain rfl : n3 = x.marks_.length:=by have a:=h3.1;omega
  have L3:=hid h3
  clear h3
  have IX6 : cs0[k * 15 + 6]? = some (.slice A0 x.regs_.length c0):=hrow 6 (by omega)
  have IX7 : cs0[k * 15 + 7]? = some (.slice A1 x.seen_.length c1):=hrow 7 (by omega)
  have IX8 : cs0[k * 15 + 8]? = some (.slice A2 x.writes_.length c2):=hrow 8 (by omega)
  have IX9 : cs0[k * 15 + 9]? = some (.slice A3 x.marks_.length c3):=hrow 9 (by omega)
  have HCT:=hid (ctl_take (f:=KidRun.ct) hxk)
  have hle:=ctl_le (f:=KidRun.ct) l (k + 1)
  obtain ⟨Q,hQ⟩ : ∃ Q : Int,Q = q + (ctl KidRun.ct (l.take k) : Nat):=⟨_,rfl⟩
  have hQ0 : 0 ≤ Q:=by omega
  have hQn : Q + (KidRun.ct x : Nat) ≤ 9007199254740992:=by have a:=HCT.out;omega
  unfold KidRun.ct at hQn
  have HQ:=hid hQ
  have hg0 : lab g = 0:=hgS.2
  have M : Hid (Shake 248 15 g n c k (fun f => f ∈ [6,7,8,9]) cs0 (fun j => S j ∧ (lab j ≤ k ∨ (lab j = k + 1 ∧ (lam j < 0)))) w wr):=hid ((M0.leafs fun _ _ => trivial).mono fun j h => ⟨h.1,.inl h.2⟩)
  rw [← hQ]
  clear hQ hrow hxk hle hgl hgS HX HM M0
  go_wp2_with ((with_reducible refine zN ?_);first|(refine Shake.wp_put M.out HLT.out rfl _ _ _ rfl rfl _ rfl _ (by (conv => lhs;whnf) <;> rfl) (by decide) (by decide) (by rfl) (by kernel_rfl) ?_;intro w' M';replace M:=hid M';clear M')|(refine Shake.wp_put0 M.out HLT.out rfl _ _ _ rfl rfl rfl _ (by (conv => lhs;whnf) <;> rfl) (by decide) (by decide) (by rfl) (by kernel_rfl) ?_;intro w' M';replace M:=hid M';clear M')|(refine Shake.wp_get M.out HLT.out rfl _ _ rfl _ rfl (by decide) (by decide) _ (by assumption) _ (by first|exact Tryz.underlying92|exact Tryz.underlying246|exact Tryz.underlying85|exact Tryz.underlying22) (by rfl) ?_;(try simp only [zr_,zm_])))
  refine (shk3 (markIntS_ow _ _ _ x.regs_ _ _ _ (OwS.chg L0.out M.out.chg (fun i h1 h2 => by obtain ⟨h1,e0⟩:=h1;have e9:=h1.2;obtain ⟨-,h2⟩:=h2;omega)) (by omega) (by omega))).mono ?_
  rintro e w1 ⟨Q1,rfl,E1,c1⟩
  have hq1 : 0 ≤ Q1:=by have a:=E1.out;omega
  have hr1 : Q1 + ((5 + x.seen_.length * 3 + x.writes_.length * 2 + ctl KidMark.ct x.marks_ : Nat) : Int) ≤ 9007199254740992:=by have a:=E1.out;omega
  clear hQ0 hQn
  replace M : Hid (Shake 248 15 g n c k (fun f => f ∈ [6,7,8,9]) cs0 (fun j => S j ∧ (lab j ≤ k ∨ (lab j = k + 1 ∧ (lam j ≤ 0)))) w w1):=hid (M.out.call c1 (fun h1 => by obtain ⟨h1,e0⟩:=h1;have e9:=h1.2;omega) (fun j h1 => ⟨h1.1.1,by obtain ⟨h1,e0⟩:=h1;have e9:=h1.2;omega⟩) (fun j h => ⟨h.1,by have h2:=h.2;omega⟩))
  clear c1
  go_wp2_with ((with_reducible refine zN ?_);(refine Shake.wp_get M.out HLT.out rfl _ _ rfl _ rfl (by decide) (by decide) _ (by assumption) _ (by first|exact Tryz.underlying92|exact Tryz.underlying246|exact Tryz.underlying85|exact Tryz.underlying22) (by rfl) ?_;(try simp only [zr_,zm_])))
  refine (shk3 (markEntryS_ow _ _ _ x.seen_ _ _ _ (OwS.chg L1.out M.out.chg (fun i h1 h2 => by obtain ⟨h1,e0⟩:=h1;have e9:=h1.2;obtain ⟨-,h2⟩:=h2;omega)) (by omega) (by omega))).mono ?_
  rintro e w1 ⟨Q2,rfl,E2,c1⟩
  have hq2 : 0 ≤ Q2:=by have a:=E2.out;omega
  have hr2 : Q2 + ((5 + x.writes_.length * 2 + ctl KidMark.ct x.marks_ : Nat) : Int) ≤ 9007199254740992:=by have a:=E2.out;omega
  clear hq1 hr1
  replace M : Hid (Shake 248 15 g n c k (fun f => f ∈ [6,7,8,9]) cs0 (fun j => S j ∧ (lab j ≤ k ∨ (lab j = k + 1 ∧ (lam j ≤ 1)))) w w1):=hid (M.out.call c1 (fun h1 => by obtain ⟨h1,e0⟩:=h1;have e9:=h1.2;omega) (fun j h1 => ⟨h1.1.1,by obtain ⟨h1,e0⟩:=h1;have e9:=h1.2;omega⟩) (fun j h => ⟨h.1,by have h2:=h.2;omega⟩))
  clear c1
  go_wp2_with ((with_reducible refine zN ?_);(refine Shake.wp_get M.out HLT.out rfl _ _ rfl _ rfl (by decide) (by decide) _ (by assumption) _ (by first|exact Tryz.underlying92|exact Tryz.underlying246|exact Tryz.underlying85|exact Tryz.underlying22) (by rfl) ?_;(try simp only [zr_,zm_])))
  refine (shk3 (markRowS_ow _ _ _ x.writes_ _ _ _ (OwS.chg L2.out M.out.chg (fun i h1 h2 => by obtain ⟨h1,e0⟩:=h1;have e9:=h1.2;obtain ⟨-,h2⟩:=h2;omega)) (by omega) (by omega))).mono ?_
  rintro e w1 ⟨Q3,rfl,E3,c1⟩
  have hq3 : 0 ≤ Q3:=by have a:=E3.out;omega
  have hr3 : Q3 + ((5 + ctl KidMark.ct x.marks_ : Nat) : Int) ≤ 9007199254740992:=by have a:=E3.out;omega
  clear hq2 hr2
  replace M : Hid (Shake 248 15 g n c k (fun f => f ∈ [6,7,8,9]) cs0 (fun j => S j ∧ (lab j ≤ k ∨ (lab j = k + 1 ∧ (lam j ≤ 2)))) w w1):=hid (M.out.call c1 (fun h1 => by obtain ⟨h1,e0⟩:=h1;have e9:=h1.2;omega) (fun j h1 => ⟨h1.1.1,by obtain ⟨h1,e0⟩:=h1;have e9:=h1.2;omega⟩) (fun j h => ⟨h.1,by have h2:=h.2;omega⟩))
  clear c1
  go_wp2_with ((with_reducible refine zN ?_);(refine Shake.wp_get M.out HLT.out rfl _ _ rfl _ rfl (by decide) (by decide) _ (by assumption) _ (by first|exact Tryz.underlying92|exact Tryz.underlying246|exact Tryz.underlying85|exact Tryz.underlying22) (by rfl) ?_;(try simp only [zr_,zm_])))
  refine (shk (shakeKidMarkS_any _ _ _ x.marks_ _ _ _ (SlW.chg KidMark.W_good L3.out M.out.chg (fun i h1 h2 => by obtain ⟨h1,e0⟩:=h1;have e9:=h1.2;obtain ⟨-,h2⟩:=h2;omega)) (fun i hi => Nat.lt_of_lt_of_le (HS.out i hi.1.1) M.out.chg.size) (by omega) (by omega) (by omega))).mono ?_
  rintro e w1 ⟨Q4,rfl,E4,c1⟩
  have hq4 : 0 ≤ Q4:=by have a:=E4.out;omega
  have hr4 : Q4 + ((5 : Nat) : Int) ≤ 9007199254740992:=by have a:=E4.out;omega
  clear hq3 hr3
  replace M : Hid (Shake 248 15 g n c k (fun f => f ∈ [6,7,8,9]) cs0 (fun j => S j ∧ (lab j ≤ k ∨ (lab j = k + 1 ∧ (lam j ≤ 3)))) w w1):=hid (M.out.call c1 (fun h1 => by obtain ⟨h1,e0⟩:=h1;have e9:=h1.2;omega) (fun j h1 => ⟨h1.1.1,by obtain ⟨h1,e0⟩:=h1;have e9:=h1.2;omega⟩) (fun j h => ⟨h.1,by have h2:=h.2;omega⟩))
  clear c1
  go_wp2_with ((with_reducible refine zN ?_);first|(refine Shake.wp_put M.out HLT.out rfl _ _ _ rfl rfl _ rfl _ (by (conv => lhs;whnf) <;> rfl) (by decide) (by decide) (by rfl) (by kernel_rfl) ?_;intro w' M';replace M:=hid M';clear M')|(refine Shake.wp_put2 M.out HLT.out rfl _ _ _ rfl rfl _ _ rfl _ (by (conv => lhs;whnf) <;> rfl) (by decide) (by decide) (by rfl) (by kernel_rfl) ?_;intro w' M';replace M:=hid M';clear M'))
  go_roundw
  case rel =>
   have M9:=(M.out.next).mono (T':=fun j => S j ∧ lab j ≤ k + 1) fun j h => ⟨h.1,by have h2:=h.2;omega⟩
   refine ⟨k + 1,HLT.out,by go_num,by congr 1;have a:=HCT.out;have b:=HQ.out;have aE1:=E1.out;have aE2:=E2.out;have aE3:=E3.out;have aE4:=E4.out;have cc : KidRun.ct x = 11 + x.regs_.length + x.seen_.length * 3 + x.writes_.length * 2 + ctl KidMark.ct x.marks_:=rfl;omega,M9.chg,fun g2 hA _ => ?_⟩
   obtain rfl:=addr_inj hA
   exact M9
  case measure => have h:=HLT.out;simp [intOf];omega
def Wrote.ct (x : Wrote) : Nat:=2 + x.puts_.length * 2
def Wrote.ca (x : Wrote) : Nat:=x.puts_.length * 2
theorem Wrote.ct_le (x : Wrote) : Wrote.ct x ≤ 64 * (Wrote.wt x + 1):=by
 skip
 unfold Wrote.ct Wrote.wt
 omega
set_option maxRecDepth 20000 in
theorem shakeWroteS_any (A : Option Addr) (n c : Nat) (l : List Wrote) (q : Int) (w : World) (S : Nat → Prop) (h : SlW Wrote.W 171 3 w S A n c l) (hS : ∀ g,S g → g < w.heap.size) (hq : 0 ≤ q) (hqn : q + (ctl Wrote.ct l : Nat) ≤ 9007199254740992) (hm : n ≤ 9223372036854775807) :
  Calls Tryz.prog 60 #[.slice A n c,.int .i64 q] w fun e w' => e = .returned (.int .i64 (q + (ctl Wrote.ct l : Nat))) ∧ Chg S w w':=by
 obtain ⟨hl,cs0,lab,ho0,hr0⟩:=h
 have HL:=hid hl
 have HO0:=hid ho0
 have HR0:=hid hr0
 have HS:=hid hS
 clear hl ho0 hr0 hS
 go_enter Tryz.func60,Tryz.ntmps60
 go_wp2
 go_loopw [1,5] (fun r i wr => ∃ k : Nat,k ≤ n ∧ i = .int .i64 k ∧ r = .int .i64 (q + (ctl Wrote.ct (l.take k) : Nat)) ∧ Hid (Chg (fun j => S j ∧ lab j ≤ k) w wr) ∧ Hid (∀ g,A = some ⟨g,0,none⟩ → 0 < n → Shake 171 3 g n c k (fun _ => True) cs0 (fun j => S j ∧ lab j ≤ k) w wr)) (fun _ i _ => n - (intOf i).toNat)
 case atStart => exact ⟨0,Nat.zero_le _,rfl,by simp [ctl],Chg.refl _ _,fun g hA hn => by subst hA;exact Shake.zero HO0.out.1 (by have h:=HO0.out.2 g rfl;exact ⟨h.1,by rw [h.2];exact Nat.le_refl _⟩)⟩
 case round =>
  obtain ⟨k,hk,rfl,rfl,HX,HM⟩:=hrel
  by_cases hlt : (k : Int) < (n : Int)
  rotate_left
  ·have e : Hid (k = n):=by show k = n;omega
   go_wp2
   go_ret
   exact ⟨by (rw [e.out,← HL.out,List.take_length]) <;> rfl,HX.out.mono fun _ h => h.1⟩
  have HLT : Hid (k < n):=by show k < n;omega
  obtain ⟨g,rfl,hgS,hgl,-⟩:=HO0.out.at_ HLT.out
  have M0:=HM.out g rfl (by have:=HLT.out;omega)
  obtain ⟨x,hxk⟩ : ∃ x,l[k]? = some x:=⟨_,List.getElem?_eq_getElem (by have h:=HL.out;omega)⟩
  obtain ⟨row,h,hrow⟩:=HR0.out k HLT.out x hxk
  obtain ⟨A0,n0,c0,lam,rfl,⟨kh0,mh0,h0⟩⟩:=h
  obtain rfl : n0 = x.puts_.length:=by have a:=h0.sl.flen Row.cells_length (by omega);omega
  have L0:=hid h0
  clear h0
  have IX2 : cs0[k * 3 + 2]? = some (.slice A0 x.puts_.length c0):=hrow 2 (by omega)
  have HCT:=hid (ctl_take (f:=Wrote.ct) hxk)
  have hle:=ctl_le (f:=Wrote.ct) l (k + 1)
  obtain ⟨Q,hQ⟩ : ∃ Q : Int,Q = q + (ctl Wrote.ct (l.take k) : Nat):=⟨_,rfl⟩
  have hQ0 : 0 ≤ Q:=by omega
  have hQn : Q + (Wrote.ct x : Nat) ≤ 9007199254740992:=by have a:=HCT.out;omega
  unfold Wrote.ct at hQn
  have HQ:=hid hQ
  have hg0 : lab g = 0:=hgS.2
  have M : Hid (Shake 171 3 g n c k (fun f => f ∈ [2]) cs0 (fun j => S j ∧ (lab j ≤ k ∨ (lab j = k + 1 ∧ (lam j < 0)))) w wr):=hid ((M0.leafs fun _ _ => trivial).mono fun j h => ⟨h.1,.inl h.2⟩)
  rw [← hQ]
  clear hQ hrow hxk hle hgl hgS HX HM M0
  go_wp2_with ((with_reducible refine zN ?_);first|(refine Shake.wp_put M.out HLT.out rfl _ _ _ rfl rfl _ rfl _ (by (conv => lhs;whnf) <;> rfl) (by decide) (by decide) (by rfl) (by kernel_rfl) ?_;intro w' M';replace M:=hid M';clear M')|(refine Shake.wp_put0 M.out HLT.out rfl _ _ _ rfl rfl rfl _ (by (conv => lhs;whnf) <;> rfl) (by decide) (by decide) (by rfl) (by kernel_rfl) ?_;intro w' M';replace M:=hid M';clear M')|(refine Shake.wp_get M.out HLT.out rfl _ _ rfl _ rfl (by decide) (by decide) _ (by assumption) _ (by first|exact Tryz.underlying85) (by rfl) ?_;(try simp only [zr_,zm_])))
  refine (shk3 (markRowS_ow _ _ _ x.puts_ _ _ _ (OwS.chg L0.out M.out.chg (fun i h1 h2 => by obtain ⟨h1,e0⟩:=h1;have e9:=h1.2;obtain ⟨-,h2⟩:=h2;omega)) (by omega) (by omega))).mono ?_
  rintro e w1 ⟨Q1,rfl,E1,c1⟩
  have hq1 : 0 ≤ Q1:=by have a:=E1.out;omega
  have hr1 : Q1 + ((0 : Nat) : Int) ≤ 9007199254740992:=by have a:=E1.out;omega
  clear hQ0 hQn
  replace M : Hid (Shake 171 3 g n c k (fun f => f ∈ [2]) cs0 (fun j => S j ∧ (lab j ≤ k ∨ (lab j = k + 1 ∧ (lam j ≤ 0)))) w w1):=hid (M.out.call c1 (fun h1 => by obtain ⟨h1,e0⟩:=h1;have e9:=h1.2;omega) (fun j h1 => ⟨h1.1.1,by obtain ⟨h1,e0⟩:=h1;have e9:=h1.2;omega⟩) (fun j h => ⟨h.1,by have h2:=h.2;omega⟩))
  clear c1
  go_wp2_with ((with_reducible refine zN ?_);fail)
  go_roundw
  case rel =>
   have M9:=(M.out.next).mono (T':=fun j => S j ∧ lab j ≤ k + 1) fun j h => ⟨h.1,by have h2:=h.2;omega⟩
   refine ⟨k + 1,HLT.out,by go_num,by congr 1;have a:=HCT.out;have b:=HQ.out;have aE1:=E1.out;have cc : Wrote.ct x = 2 + x.puts_.length * 2:=rfl;omega,M9.chg,fun g2 hA _ => ?_⟩
   obtain rfl:=addr_inj hA
   exact M9
  case measure => have h:=HLT.out;simp [intOf];omega
def Commit.ct (x : Commit) : Nat:=5 + x.puts_.length * 2 + x.reads_.length
def Commit.ca (x : Commit) : Nat:=x.puts_.length * 2 + x.reads_.length
def Family.ct (x : Family) : Nat:=4 + x.regs_.length + x.start_.length * 2 + x.buf_.length * 3 + x.order_.length + x.reads_.length * 2 + ctl KidRun.ct x.kids_
def Family.ca (x : Family) : Nat:=x.regs_.length + x.start_.length * 2 + x.buf_.length * 3 + x.order_.length + x.reads_.length * 2 + ctl KidRun.ct x.kids_
def Root.ct (x : Root) : Nat:=26 + x.regs_.length + x.reads_.length * 2 + x.writes_.length * 2 + ctl Mark.ct x.marks_ + x.undos_.length * 3 + x.order_.length + x.commit_.puts_.length * 2 + x.commit_.reads_.length + x.fam_.regs_.length + x.fam_.start_.length * 2 + x.fam_.buf_.length * 3 + x.fam_.order_.length + x.fam_.reads_.length * 2 + ctl KidRun.ct x.fam_.kids_
def Root.ca (x : Root) : Nat:=x.regs_.length + x.reads_.length * 2 + x.writes_.length * 2 + ctl Mark.ct x.marks_ + x.undos_.length * 3 + x.order_.length + x.commit_.puts_.length * 2 + x.commit_.reads_.length + x.fam_.regs_.length + x.fam_.start_.length * 2 + x.fam_.buf_.length * 3 + x.fam_.order_.length + x.fam_.reads_.length * 2 + ctl KidRun.ct x.fam_.kids_
theorem Root.ct_le (x : Root) : Root.ct x ≤ 64 * (Root.wt x + 1):=by
 have c0:=ctl_bound (f:=Mark.ct) (wt:=Mark.wt) (b:=64) Mark.ct_le (l:=x.marks_)
 have c1 : Commit.wt x.commit_ = x.commit_.puts_.length + x.commit_.reads_.length:=rfl
 have c2 : Family.wt x.fam_ = x.fam_.regs_.length + x.fam_.start_.length + x.fam_.buf_.length + x.fam_.order_.length + x.fam_.reads_.length + wtl KidRun.wt x.fam_.kids_:=rfl
 have c3:=ctl_bound (f:=KidRun.ct) (wt:=KidRun.wt) (b:=64) KidRun.ct_le (l:=x.fam_.kids_)
 unfold Root.ct Root.wt
 omega
set_option maxRecDepth 20000 in
theorem shakeRootS_any (A : Option Addr) (n c : Nat) (l : List Root) (q : Int) (w : World) (S : Nat → Prop) (h : SlW Root.W 97 40 w S A n c l) (hS : ∀ g,S g → g < w.heap.size) (hq : 0 ≤ q) (hqn : q + (ctl Root.ct l : Nat) ≤ 9007199254740992) (hm : n ≤ 9223372036854775807) :
  Calls Tryz.prog 59 #[.slice A n c,.int .i64 q] w fun e w' => e = .returned (.int .i64 (q + (ctl Root.ct l : Nat))) ∧ Chg S w w':=by
 obtain ⟨hl,cs0,lab,ho0,hr0⟩:=h
 have HL:=hid hl
 have HO0:=hid ho0
 have HR0:=hid hr0
 have HS:=hid hS
 clear hl ho0 hr0 hS
 go_enter Tryz.func59,Tryz.ntmps59
 go_wp2
 go_loopw [1,5] (fun r i wr => ∃ k : Nat,k ≤ n ∧ i = .int .i64 k ∧ r = .int .i64 (q + (ctl Root.ct (l.take k) : Nat)) ∧ Hid (Chg (fun j => S j ∧ lab j ≤ k) w wr) ∧ Hid (∀ g,A = some ⟨g,0,none⟩ → 0 < n → Shake 97 40 g n c k (fun _ => True) cs0 (fun j => S j ∧ lab j ≤ k) w wr)) (fun _ i _ => n - (intOf i).toNat)
 case atStart => exact ⟨0,Nat.zero_le _,rfl,by simp [ctl],Chg.refl _ _,fun g hA hn => by subst hA;exact Shake.zero HO0.out.1 (by have h:=HO0.out.2 g rfl;exact ⟨h.1,by rw [h.2];exact Nat.le_refl _⟩)⟩
 case round =>
  obtain ⟨k,hk,rfl,rfl,HX,HM⟩:=hrel
  by_cases hlt : (k : Int) < (n : Int)
  rotate_left
  ·have e : Hid (k = n):=by show k = n;omega
   go_wp2
   go_ret
   exact ⟨by (rw [e.out,← HL.out,List.take_length]) <;> rfl,HX.out.mono fun _ h => h.1⟩
  have HLT : Hid (k < n):=by show k < n;omega
  obtain ⟨g,rfl,hgS,hgl,-⟩:=HO0.out.at_ HLT.out
  have M0:=HM.out g rfl (by have:=HLT.out;omega)
  obtain ⟨x,hxk⟩ : ∃ x,l[k]? = some x:=⟨_,List.getElem?_eq_getElem (by have h:=HL.out;omega)⟩
  obtain ⟨row,h,hrow⟩:=HR0.out k HLT.out x hxk
  obtain ⟨A0,n0,c0,A1,n1,c1,A2,n2,c2,A3,n3,c3,A4,n4,c4,A5,n5,c5,v6,v7,lam,rfl,⟨kh0,mh0,h0⟩,⟨kh1,mh1,h1⟩,⟨kh2,mh2,h2⟩,⟨kh3,mh3,h3⟩,⟨kh4,mh4,h4⟩,⟨kh5,mh5,h5⟩,h6,h7⟩:=h
  have h6n:=h6
  clear h6
  obtain ⟨A6,n6,c6,A7,n7,c7,lam_6,rfl,⟨kh6n0,mh6n0,h6n0⟩,⟨kh6n1,mh6n1,h6n1⟩⟩:=h6n
  have h7n:=h7
  clear h7
  obtain ⟨A8,n8,c8,A9,n9,c9,A10,n10,c10,A11,n11,c11,A12,n12,c12,A13,n13,c13,lam_7,rfl,⟨kh7n0,mh7n0,h7n0⟩,⟨kh7n1,mh7n1,h7n1⟩,⟨kh7n2,mh7n2,h7n2⟩,⟨kh7n3,mh7n3,h7n3⟩,⟨kh7n4,mh7n4,h7n4⟩,⟨kh7n5,mh7n5,h7n5⟩⟩:=h7n
  obtain rfl : n0 = x.regs_.length:=by have a:=h0.sl.len;omega
  have L0:=hid h0
  clear h0
  obtain rfl : n1 = x.reads_.length:=by have a:=h1.sl.flen Row.cells_length (by omega);omega
  have L1:=hid h1
  clear h1
  obtain rfl : n2 = x.writes_.length:=by have a:=h2.sl.flen Row.cells_length (by omega);omega
  have L2:=hid h2
  clear h2
  obtain rfl : n3 = x.marks_.length:=by have a:=h3.1;omega
  have L3:=hid h3
  clear h3
  obtain rfl : n4 = x.undos_.length:=by have a:=h4.sl.flen Undo.cells_length (by omega);omega
  have L4:=hid h4
  clear h4
  obtain rfl : n5 = x.order_.length:=by have a:=h5.sl.len;omega
  have L5:=hid h5
  clear h5
  obtain rfl : n6 = x.commit_.puts_.length:=by have a:=h6n0.sl.flen Row.cells_length (by omega);omega
  have L6:=hid h6n0
  clear h6n0
  obtain rfl : n7 = x.commit_.reads_.length:=by have a:=h6n1.sl.len;omega
  have L7:=hid h6n1
  clear h6n1
  obtain rfl : n8 = x.fam_.regs_.length:=by have a:=h7n0.sl.len;omega
  have L8:=hid h7n0
  clear h7n0
  obtain rfl : n9 = x.fam_.start_.length:=by have a:=h7n1.sl.flen Row.cells_length (by omega);omega
  have L9:=hid h7n1
  clear h7n1
  obtain rfl : n10 = x.fam_.buf_.length:=by have a:=h7n2.sl.flen Entry.cells_length (by omega);omega
  have L10:=hid h7n2
  clear h7n2
  obtain rfl : n11 = x.fam_.order_.length:=by have a:=h7n3.sl.len;omega
  have L11:=hid h7n3
  clear h7n3
  obtain rfl : n12 = x.fam_.reads_.length:=by have a:=h7n4.sl.flen Row.cells_length (by omega);omega
  have L12:=hid h7n4
  clear h7n4
  obtain rfl : n13 = x.fam_.kids_.length:=by have a:=h7n5.1;omega
  have L13:=hid h7n5
  clear h7n5
  have IX12 : cs0[k * 40 + 12]? = some (.slice A0 x.regs_.length c0):=hrow 12 (by omega)
  have IX13 : cs0[k * 40 + 13]? = some (.slice A1 x.reads_.length c1):=hrow 13 (by omega)
  have IX14 : cs0[k * 40 + 14]? = some (.slice A2 x.writes_.length c2):=hrow 14 (by omega)
  have IX15 : cs0[k * 40 + 15]? = some (.slice A3 x.marks_.length c3):=hrow 15 (by omega)
  have IX16 : cs0[k * 40 + 16]? = some (.slice A4 x.undos_.length c4):=hrow 16 (by omega)
  have IX17 : cs0[k * 40 + 17]? = some (.slice A5 x.order_.length c5):=hrow 17 (by omega)
  have IX28 : cs0[k * 40 + 28]? = some (.slice A6 x.commit_.puts_.length c6):=hrow 28 (by omega)
  have IX29 : cs0[k * 40 + 29]? = some (.slice A7 x.commit_.reads_.length c7):=hrow 29 (by omega)
  have IX34 : cs0[k * 40 + 34]? = some (.slice A8 x.fam_.regs_.length c8):=hrow 34 (by omega)
  have IX35 : cs0[k * 40 + 35]? = some (.slice A9 x.fam_.start_.length c9):=hrow 35 (by omega)
  have IX36 : cs0[k * 40 + 36]? = some (.slice A10 x.fam_.buf_.length c10):=hrow 36 (by omega)
  have IX37 : cs0[k * 40 + 37]? = some (.slice A11 x.fam_.order_.length c11):=hrow 37 (by omega)
  have IX38 : cs0[k * 40 + 38]? = some (.slice A12 x.fam_.reads_.length c12):=hrow 38 (by omega)
  have IX39 : cs0[k * 40 + 39]? = some (.slice A13 x.fam_.kids_.length c13):=hrow 39 (by omega)
  have HCT:=hid (ctl_take (f:=Root.ct) hxk)
  have hle:=ctl_le (f:=Root.ct) l (k + 1)
  obtain ⟨Q,hQ⟩ : ∃ Q : Int,Q = q + (ctl Root.ct (l.take k) : Nat):=⟨_,rfl⟩
  have hQ0 : 0 ≤ Q:=by omega
  have hQn : Q + (Root.ct x : Nat) ≤ 9007199254740992:=by have a:=HCT.out;omega
  unfold Root.ct at hQn
  have HQ:=hid hQ
  have hg0 : lab g = 0:=hgS.2
  have M : Hid (Shake 97 40 g n c k (fun f => f ∈ [12,13,14,15,16,17,28,29,34,35,36,37,38,39]) cs0 (fun j => S j ∧ (lab j ≤ k ∨ (lab j = k + 1 ∧ (lam j < 0)))) w wr):=hid ((M0.leafs fun _ _ => trivial).mono fun j h => ⟨h.1,.inl h.2⟩)
  rw [← hQ]
  clear hQ hrow hxk hle hgl hgS HX HM M0
  go_wp2_with ((with_reducible refine zN ?_);first|(refine Shake.wp_put M.out HLT.out rfl _ _ _ rfl rfl _ rfl _ (by (conv => lhs;whnf) <;> rfl) (by decide) (by decide) (by rfl) (by kernel_rfl) ?_;intro w' M';replace M:=hid M';clear M')|(refine Shake.wp_put0 M.out HLT.out rfl _ _ _ rfl rfl rfl _ (by (conv => lhs;whnf) <;> rfl) (by decide) (by decide) (by rfl) (by kernel_rfl) ?_;intro w' M';replace M:=hid M';clear M')|(refine Shake.wp_get M.out HLT.out rfl _ _ rfl _ rfl (by decide) (by decide) _ (by assumption) _ (by first|exact Tryz.underlying92|exact Tryz.underlying93|exact Tryz.underlying86|exact Tryz.underlying85|exact Tryz.underlying87|exact Tryz.underlying22) (by rfl) ?_;(try simp only [zr_,zm_])))
  refine (shk3 (markIntS_ow _ _ _ x.regs_ _ _ _ (OwS.chg L0.out M.out.chg (fun i h1 h2 => by obtain ⟨h1,e0⟩:=h1;have e9:=h1.2;obtain ⟨-,h2⟩:=h2;omega)) (by omega) (by omega))).mono ?_
  rintro e w1 ⟨Q1,rfl,E1,c1⟩
  have hq1 : 0 ≤ Q1:=by have a:=E1.out;omega
  have hr1 : Q1 + ((14 + x.reads_.length * 2 + x.writes_.length * 2 + ctl Mark.ct x.marks_ + x.undos_.length * 3 + x.order_.length + x.commit_.puts_.length * 2 + x.commit_.reads_.length + x.fam_.regs_.length + x.fam_.start_.length * 2 + x.fam_.buf_.length * 3 + x.fam_.order_.length + x.fam_.reads_.length * 2 + ctl KidRun.ct x.fam_.kids_ : Nat) : Int) ≤ 9007199254740992:=by have a:=E1.out;omega
  clear hQ0 hQn
  replace M : Hid (Shake 97 40 g n c k (fun f => f ∈ [12,13,14,15,16,17,28,29,34,35,36,37,38,39]) cs0 (fun j => S j ∧ (lab j ≤ k ∨ (lab j = k + 1 ∧ (lam j ≤ 0)))) w w1):=hid (M.out.call c1 (fun h1 => by obtain ⟨h1,e0⟩:=h1;have e9:=h1.2;omega) (fun j h1 => ⟨h1.1.1,by obtain ⟨h1,e0⟩:=h1;have e9:=h1.2;omega⟩) (fun j h => ⟨h.1,by have h2:=h.2;omega⟩))
  clear c1
  go_wp2_with ((with_reducible refine zN ?_);(refine Shake.wp_get M.out HLT.out rfl _ _ rfl _ rfl (by decide) (by decide) _ (by assumption) _ (by first|exact Tryz.underlying92|exact Tryz.underlying93|exact Tryz.underlying86|exact Tryz.underlying85|exact Tryz.underlying87|exact Tryz.underlying22) (by rfl) ?_;(try simp only [zr_,zm_])))
  refine (shk3 (markRowS_ow _ _ _ x.reads_ _ _ _ (OwS.chg L1.out M.out.chg (fun i h1 h2 => by obtain ⟨h1,e0⟩:=h1;have e9:=h1.2;obtain ⟨-,h2⟩:=h2;omega)) (by omega) (by omega))).mono ?_
  rintro e w1 ⟨Q2,rfl,E2,c1⟩
  have hq2 : 0 ≤ Q2:=by have a:=E2.out;omega
  have hr2 : Q2 + ((14 + x.writes_.length * 2 + ctl Mark.ct x.marks_ + x.undos_.length * 3 + x.order_.length + x.commit_.puts_.length * 2 + x.commit_.reads_.length + x.fam_.regs_.length + x.fam_.start_.length * 2 + x.fam_.buf_.length * 3 + x.fam_.order_.length + x.fam_.reads_.length * 2 + ctl KidRun.ct x.fam_.kids_ : Nat) : Int) ≤ 9007199254740992:=by have a:=E2.out;omega
  clear hq1 hr1
  replace M : Hid (Shake 97 40 g n c k (fun f => f ∈ [12,13,14,15,16,17,28,29,34,35,36,37,38,39]) cs0 (fun j => S j ∧ (lab j ≤ k ∨ (lab j = k + 1 ∧ (lam j ≤ 1)))) w w1):=hid (M.out.call c1 (fun h1 => by obtain ⟨h1,e0⟩:=h1;have e9:=h1.2;omega) (fun j h1 => ⟨h1.1.1,by obtain ⟨h1,e0⟩:=h1;have e9:=h1.2;omega⟩) (fun j h => ⟨h.1,by have h2:=h.2;omega⟩))
  clear c1
  go_wp2_with ((with_reducible refine zN ?_);(refine Shake.wp_get M.out HLT.out rfl _ _ rfl _ rfl (by decide) (by decide) _ (by assumption) _ (by first|exact Tryz.underlying92|exact Tryz.underlying93|exact Tryz.underlying86|exact Tryz.underlying85|exact Tryz.underlying87|exact Tryz.underlying22) (by rfl) ?_;(try simp only [zr_,zm_])))
  refine (shk3 (markRowS_ow _ _ _ x.writes_ _ _ _ (OwS.chg L2.out M.out.chg (fun i h1 h2 => by obtain ⟨h1,e0⟩:=h1;have e9:=h1.2;obtain ⟨-,h2⟩:=h2;omega)) (by omega) (by omega))).mono ?_
  rintro e w1 ⟨Q3,rfl,E3,c1⟩
  have hq3 : 0 ≤ Q3:=by have a:=E3.out;omega
  have hr3 : Q3 + ((14 + ctl Mark.ct x.marks_ + x.undos_.length * 3 + x.order_.length + x.commit_.puts_.length * 2 + x.commit_.reads_.length + x.fam_.regs_.length + x.fam_.start_.length * 2 + x.fam_.buf_.length * 3 + x.fam_.order_.length + x.fam_.reads_.length * 2 + ctl KidRun.ct x.fam_.kids_ : Nat) : Int) ≤ 9007199254740992:=by have a:=E3.out;omega
  clear hq2 hr2
  replace M : Hid (Shake 97 40 g n c k (fun f => f ∈ [12,13,14,15,16,17,28,29,34,35,36,37,38,39]) cs0 (fun j => S j ∧ (lab j ≤ k ∨ (lab j = k + 1 ∧ (lam j ≤ 2)))) w w1):=hid (M.out.call c1 (fun h1 => by obtain ⟨h1,e0⟩:=h1;have e9:=h1.2;omega) (fun j h1 => ⟨h1.1.1,by obtain ⟨h1,e0⟩:=h1;have e9:=h1.2;omega⟩) (fun j h => ⟨h.1,by have h2:=h.2;omega⟩))
  clear c1
  go_wp2_with ((with_reducible refine zN ?_);(refine Shake.wp_get M.out HLT.out rfl _ _ rfl _ rfl (by decide) (by decide) _ (by assumption) _ (by first|exact Tryz.underlying92|exact Tryz.underlying93|exact Tryz.underlying86|exact Tryz.underlying85|exact Tryz.underlying87|exact Tryz.underlying22) (by rfl) ?_;(try simp only [zr_,zm_])))
  refine (shk (shakeMarkS_any _ _ _ x.marks_ _ _ _ (SlW.chg Mark.W_good L3.out M.out.chg (fun i h1 h2 => by obtain ⟨h1,e0⟩:=h1;have e9:=h1.2;obtain ⟨-,h2⟩:=h2;omega)) (fun i hi => Nat.lt_of_lt_of_le (HS.out i hi.1.1) M.out.chg.size) (by omega) (by omega) (by omega))).mono ?_
  rintro e w1 ⟨Q4,rfl,E4,c1⟩
  have hq4 : 0 ≤ Q4:=by have a:=E4.out;omega
  have hr4 : Q4 + ((14 + x.undos_.length * 3 + x.order_.length + x.commit_.puts_.length * 2 + x.commit_.reads_.length + x.fam_.regs_.length + x.fam_.start_.length * 2 + x.fam_.buf_.length * 3 + x.fam_.order_.length + x.fam_.reads_.length * 2 + ctl KidRun.ct x.fam_.kids_ : Nat) : Int) ≤ 9007199254740992:=by have a:=E4.out;omega
  clear hq3 hr3
  replace M : Hid (Shake 97 40 g n c k (fun f => f ∈ [12,13,14,15,16,17,28,29,34,35,36,37,38,39]) cs0 (fun j => S j ∧ (lab j ≤ k ∨ (lab j = k + 1 ∧ (lam j ≤ 3)))) w w1):=hid (M.out.call c1 (fun h1 => by obtain ⟨h1,e0⟩:=h1;have e9:=h1.2;omega) (fun j h1 => ⟨h1.1.1,by obtain ⟨h1,e0⟩:=h1;have e9:=h1.2;omega⟩) (fun j h => ⟨h.1,by have h2:=h.2;omega⟩))
  clear c1
  go_wp2_with ((with_reducible refine zN ?_);(refine Shake.wp_get M.out HLT.out rfl _ _ rfl _ rfl (by decide) (by decide) _ (by assumption) _ (by first|exact Tryz.underlying92|exact Tryz.underlying93|exact Tryz.underlying86|exact Tryz.underlying85|exact Tryz.underlying87|exact Tryz.underlying22) (by rfl) ?_;(try simp only [zr_,zm_])))
  refine (shk3 (markUndoS_ow _ _ _ x.undos_ _ _ _ (OwS.chg L4.out M.out.chg (fun i h1 h2 => by obtain ⟨h1,e0⟩:=h1;have e9:=h1.2;obtain ⟨-,h2⟩:=h2;omega)) (by omega) (by omega))).mono ?_
  rintro e w1 ⟨Q5,rfl,E5,c1⟩
  have hq5 : 0 ≤ Q5:=by have a:=E5.out;omega
  have hr5 : Q5 + ((14 + x.order_.length + x.commit_.puts_.length * 2 + x.commit_.reads_.length + x.fam_.regs_.length + x.fam_.start_.length * 2 + x.fam_.buf_.length * 3 + x.fam_.order_.length + x.fam_.reads_.length * 2 + ctl KidRun.ct x.fam_.kids_ : Nat) : Int) ≤ 9007199254740992:=by have a:=E5.out;omega
  clear hq4 hr4
  replace M : Hid (Shake 97 40 g n c k (fun f => f ∈ [12,13,14,15,16,17,28,29,34,35,36,37,38,39]) cs0 (fun j => S j ∧ (lab j ≤ k ∨ (lab j = k + 1 ∧ (lam j ≤ 4)))) w w1):=hid (M.out.call c1 (fun h1 => by obtain ⟨h1,e0⟩:=h1;have e9:=h1.2;omega) (fun j h1 => ⟨h1.1.1,by obtain ⟨h1,e0⟩:=h1;have e9:=h1.2;omega⟩) (fun j h => ⟨h.1,by have h2:=h.2;omega⟩))
  clear c1
  go_wp2_with ((with_reducible refine zN ?_);(refine Shake.wp_get M.out HLT.out rfl _ _ rfl _ rfl (by decide) (by decide) _ (by assumption) _ (by first|exact Tryz.underlying92|exact Tryz.underlying93|exact Tryz.underlying86|exact Tryz.underlying85|exact Tryz.underlying87|exact Tryz.underlying22) (by rfl) ?_;(try simp only [zr_,zm_])))
  refine (shk3 (markIntS_ow _ _ _ x.order_ _ _ _ (OwS.chg L5.out M.out.chg (fun i h1 h2 => by obtain ⟨h1,e0⟩:=h1;have e9:=h1.2;obtain ⟨-,h2⟩:=h2;omega)) (by omega) (by omega))).mono ?_
  rintro e w1 ⟨Q6,rfl,E6,c1⟩
  have hq6 : 0 ≤ Q6:=by have a:=E6.out;omega
  have hr6 : Q6 + ((14 + x.commit_.puts_.length * 2 + x.commit_.reads_.length + x.fam_.regs_.length + x.fam_.start_.length * 2 + x.fam_.buf_.length * 3 + x.fam_.order_.length + x.fam_.reads_.length * 2 + ctl KidRun.ct x.fam_.kids_ : Nat) : Int) ≤ 9007199254740992:=by have a:=E6.out;omega
  clear hq5 hr5
  replace M : Hid (Shake 97 40 g n c k (fun f => f ∈ [12,13,14,15,16,17,28,29,34,35,36,37,38,39]) cs0 (fun j => S j ∧ (lab j ≤ k ∨ (lab j = k + 1 ∧ (lam j ≤ 5)))) w w1):=hid (M.out.call c1 (fun h1 => by obtain ⟨h1,e0⟩:=h1;have e9:=h1.2;omega) (fun j h1 => ⟨h1.1.1,by obtain ⟨h1,e0⟩:=h1;have e9:=h1.2;omega⟩) (fun j h => ⟨h.1,by have h2:=h.2;omega⟩))
  clear c1
  go_wp2_with ((with_reducible refine zN ?_);first|(refine Shake.wp_put M.out HLT.out rfl _ _ _ rfl rfl _ rfl _ (by (conv => lhs;whnf) <;> rfl) (by decide) (by decide) (by rfl) (by kernel_rfl) ?_;intro w' M';replace M:=hid M';clear M')|(refine Shake.wp_put2 M.out HLT.out rfl _ _ _ rfl rfl _ _ rfl _ (by (conv => lhs;whnf) <;> rfl) (by decide) (by decide) (by rfl) (by kernel_rfl) ?_;intro w' M';replace M:=hid M';clear M')|(refine Shake.wp_get2 M.out HLT.out rfl _ _ rfl _ _ rfl (by decide) (by decide) _ (by assumption) _ (by first|exact Tryz.underlying92|exact Tryz.underlying93|exact Tryz.underlying86|exact Tryz.underlying85|exact Tryz.underlying87|exact Tryz.underlying22) (by rfl) ?_;(try simp only [zr_,zm_])))
  refine (shk3 (markRowS_ow _ _ _ x.commit_.puts_ _ _ _ (OwS.chg L6.out M.out.chg (fun i h1 h2 => by obtain ⟨h1,e0⟩:=h1;obtain ⟨h1,e1⟩:=h1;have e9:=h1.2;obtain ⟨-,h2⟩:=h2;omega)) (by omega) (by omega))).mono ?_
  rintro e w1 ⟨Q7,rfl,E7,c1⟩
  have hq7 : 0 ≤ Q7:=by have a:=E7.out;omega
  have hr7 : Q7 + ((4 + x.commit_.reads_.length + x.fam_.regs_.length + x.fam_.start_.length * 2 + x.fam_.buf_.length * 3 + x.fam_.order_.length + x.fam_.reads_.length * 2 + ctl KidRun.ct x.fam_.kids_ : Nat) : Int) ≤ 9007199254740992:=by have a:=E7.out;omega
  clear hq6 hr6
  replace M : Hid (Shake 97 40 g n c k (fun f => f ∈ [12,13,14,15,16,17,28,29,34,35,36,37,38,39]) cs0 (fun j => S j ∧ (lab j ≤ k ∨ (lab j = k + 1 ∧ (lam j < 6 ∨ (lam j = 6 ∧ (lam_6 j ≤ 0)))))) w w1):=hid (M.out.call c1 (fun h1 => by obtain ⟨h1,e0⟩:=h1;obtain ⟨h1,e1⟩:=h1;have e9:=h1.2;omega) (fun j h1 => ⟨h1.1.1.1,by obtain ⟨h1,e0⟩:=h1;obtain ⟨h1,e1⟩:=h1;have e9:=h1.2;omega⟩) (fun j h => ⟨h.1,by have h2:=h.2;omega⟩))
  clear c1
  go_wp2_with ((with_reducible refine zN ?_);(refine Shake.wp_get2 M.out HLT.out rfl _ _ rfl _ _ rfl (by decide) (by decide) _ (by assumption) _ (by first|exact Tryz.underlying92|exact Tryz.underlying93|exact Tryz.underlying86|exact Tryz.underlying85|exact Tryz.underlying87|exact Tryz.underlying22) (by rfl) ?_;(try simp only [zr_,zm_])))
  refine (shk3 (markIntS_ow _ _ _ x.commit_.reads_ _ _ _ (OwS.chg L7.out M.out.chg (fun i h1 h2 => by obtain ⟨h1,e0⟩:=h1;obtain ⟨h1,e1⟩:=h1;have e9:=h1.2;obtain ⟨-,h2⟩:=h2;omega)) (by omega) (by omega))).mono ?_
  rintro e w1 ⟨Q8,rfl,E8,c1⟩
  have hq8 : 0 ≤ Q8:=by have a:=E8.out;omega
  have hr8 : Q8 + ((4 + x.fam_.regs_.length + x.fam_.start_.length * 2 + x.fam_.buf_.length * 3 + x.fam_.order_.length + x.fam_.reads_.length * 2 + ctl KidRun.ct x.fam_.kids_ : Nat) : Int) ≤ 9007199254740992:=by have a:=E8.out;omega
  clear hq7 hr7
  replace M : Hid (Shake 97 40 g n c k (fun f => f ∈ [12,13,14,15,16,17,28,29,34,35,36,37,38,39]) cs0 (fun j => S j ∧ (lab j ≤ k ∨ (lab j = k + 1 ∧ (lam j < 6 ∨ (lam j = 6 ∧ (lam_6 j ≤ 1)))))) w w1):=hid (M.out.call c1 (fun h1 => by obtain ⟨h1,e0⟩:=h1;obtain ⟨h1,e1⟩:=h1;have e9:=h1.2;omega) (fun j h1 => ⟨h1.1.1.1,by obtain ⟨h1,e0⟩:=h1;obtain ⟨h1,e1⟩:=h1;have e9:=h1.2;omega⟩) (fun j h => ⟨h.1,by have h2:=h.2;omega⟩))
  clear c1
  go_wp2_with ((with_reducible refine zN ?_);first|(refine Shake.wp_put M.out HLT.out rfl _ _ _ rfl rfl _ rfl _ (by (conv => lhs;whnf) <;> rfl) (by decide) (by decide) (by rfl) (by kernel_rfl) ?_;intro w' M';replace M:=hid M';clear M')|(refine Shake.wp_put2 M.out HLT.out rfl _ _ _ rfl rfl _ _ rfl _ (by (conv => lhs;whnf) <;> rfl) (by decide) (by decide) (by rfl) (by kernel_rfl) ?_;intro w' M';replace M:=hid M';clear M')|(refine Shake.wp_get2 M.out HLT.out rfl _ _ rfl _ _ rfl (by decide) (by decide) _ (by assumption) _ (by first|exact Tryz.underlying92|exact Tryz.underlying93|exact Tryz.underlying86|exact Tryz.underlying85|exact Tryz.underlying87|exact Tryz.underlying22) (by rfl) ?_;(try simp only [zr_,zm_])))
  refine (shk3 (markIntS_ow _ _ _ x.fam_.regs_ _ _ _ (OwS.chg L8.out M.out.chg (fun i h1 h2 => by obtain ⟨h1,e0⟩:=h1;obtain ⟨h1,e1⟩:=h1;have e9:=h1.2;obtain ⟨-,h2⟩:=h2;omega)) (by omega) (by omega))).mono ?_
  rintro e w1 ⟨Q9,rfl,E9,c1⟩
  have hq9 : 0 ≤ Q9:=by have a:=E9.out;omega
  have hr9 : Q9 + ((x.fam_.start_.length * 2 + x.fam_.buf_.length * 3 + x.fam_.order_.length + x.fam_.reads_.length * 2 + ctl KidRun.ct x.fam_.kids_ : Nat) : Int) ≤ 9007199254740992:=by have a:=E9.out;omega
  clear hq8 hr8
  replace M : Hid (Shake 97 40 g n c k (fun f => f ∈ [12,13,14,15,16,17,28,29,34,35,36,37,38,39]) cs0 (fun j => S j ∧ (lab j ≤ k ∨ (lab j = k + 1 ∧ (lam j < 7 ∨ (lam j = 7 ∧ (lam_7 j ≤ 0)))))) w w1):=hid (M.out.call c1 (fun h1 => by obtain ⟨h1,e0⟩:=h1;obtain ⟨h1,e1⟩:=h1;have e9:=h1.2;omega) (fun j h1 => ⟨h1.1.1.1,by obtain ⟨h1,e0⟩:=h1;obtain ⟨h1,e1⟩:=h1;have e9:=h1.2;omega⟩) (fun j h => ⟨h.1,by have h2:=h.2;omega⟩))
  clear c1
  go_wp2_with ((with_reducible refine zN ?_);(refine Shake.wp_get2 M.out HLT.out rfl _ _ rfl _ _ rfl (by decide) (by decide) _ (by assumption) _ (by first|exact Tryz.underlying92|exact Tryz.underlying93|exact Tryz.underlying86|exact Tryz.underlying85|exact Tryz.underlying87|exact Tryz.underlying22) (by rfl) ?_;(try simp only [zr_,zm_])))
  refine (shk3 (markRowS_ow _ _ _ x.fam_.start_ _ _ _ (OwS.chg L9.out M.out.chg (fun i h1 h2 => by obtain ⟨h1,e0⟩:=h1;obtain ⟨h1,e1⟩:=h1;have e9:=h1.2;obtain ⟨-,h2⟩:=h2;omega)) (by omega) (by omega))).mono ?_
  rintro e w1 ⟨Q10,rfl,E10,c1⟩
  have hq10 : 0 ≤ Q10:=by have a:=E10.out;omega
  have hr10 : Q10 + ((x.fam_.buf_.length * 3 + x.fam_.order_.length + x.fam_.reads_.length * 2 + ctl KidRun.ct x.fam_.kids_ : Nat) : Int) ≤ 9007199254740992:=by have a:=E10.out;omega
  clear hq9 hr9
  replace M : Hid (Shake 97 40 g n c k (fun f => f ∈ [12,13,14,15,16,17,28,29,34,35,36,37,38,39]) cs0 (fun j => S j ∧ (lab j ≤ k ∨ (lab j = k + 1 ∧ (lam j < 7 ∨ (lam j = 7 ∧ (lam_7 j ≤ 1)))))) w w1):=hid (M.out.call c1 (fun h1 => by obtain ⟨h1,e0⟩:=h1;obtain ⟨h1,e1⟩:=h1;have e9:=h1.2;omega) (fun j h1 => ⟨h1.1.1.1,by obtain ⟨h1,e0⟩:=h1;obtain ⟨h1,e1⟩:=h1;have e9:=h1.2;omega⟩) (fun j h => ⟨h.1,by have h2:=h.2;omega⟩))
  clear c1
  go_wp2_with ((with_reducible refine zN ?_);(refine Shake.wp_get2 M.out HLT.out rfl _ _ rfl _ _ rfl (by decide) (by decide) _ (by assumption) _ (by first|exact Tryz.underlying92|exact Tryz.underlying93|exact Tryz.underlying86|exact Tryz.underlying85|exact Tryz.underlying87|exact Tryz.underlying22) (by rfl) ?_;(try simp only [zr_,zm_])))
  refine (shk3 (markEntryS_ow _ _ _ x.fam_.buf_ _ _ _ (OwS.chg L10.out M.out.chg (fun i h1 h2 => by obtain ⟨h1,e0⟩:=h1;obtain ⟨h1,e1⟩:=h1;have e9:=h1.2;obtain ⟨-,h2⟩:=h2;omega)) (by omega) (by omega))).mono ?_
  rintro e w1 ⟨Q11,rfl,E11,c1⟩
  have hq11 : 0 ≤ Q11:=by have a:=E11.out;omega
  have hr11 : Q11 + ((x.fam_.order_.length + x.fam_.reads_.length * 2 + ctl KidRun.ct x.fam_.kids_ : Nat) : Int) ≤ 9007199254740992:=by have a:=E11.out;omega
  clear hq10 hr10
  replace M : Hid (Shake 97 40 g n c k (fun f => f ∈ [12,13,14,15,16,17,28,29,34,35,36,37,38,39]) cs0 (fun j => S j ∧ (lab j ≤ k ∨ (lab j = k + 1 ∧ (lam j < 7 ∨ (lam j = 7 ∧ (lam_7 j ≤ 2)))))) w w1):=hid (M.out.call c1 (fun h1 => by obtain ⟨h1,e0⟩:=h1;obtain ⟨h1,e1⟩:=h1;have e9:=h1.2;omega) (fun j h1 => ⟨h1.1.1.1,by obtain ⟨h1,e0⟩:=h1;obtain ⟨h1,e1⟩:=h1;have e9:=h1.2;omega⟩) (fun j h => ⟨h.1,by have h2:=h.2;omega⟩))
  clear c1
  go_wp2_with ((with_reducible refine zN ?_);(refine Shake.wp_get2 M.out HLT.out rfl _ _ rfl _ _ rfl (by decide) (by decide) _ (by assumption) _ (by first|exact Tryz.underlying92|exact Tryz.underlying93|exact Tryz.underlying86|exact Tryz.underlying85|exact Tryz.underlying87|exact Tryz.underlying22) (by rfl) ?_;(try simp only [zr_,zm_])))
  refine (shk3 (markIntS_ow _ _ _ x.fam_.order_ _ _ _ (OwS.chg L11.out M.out.chg (fun i h1 h2 => by obtain ⟨h1,e0⟩:=h1;obtain ⟨h1,e1⟩:=h1;have e9:=h1.2;obtain ⟨-,h2⟩:=h2;omega)) (by omega) (by omega))).mono ?_
  rintro e w1 ⟨Q12,rfl,E12,c1⟩
  have hq12 : 0 ≤ Q12:=by have a:=E12.out;omega
  have hr12 : Q12 + ((x.fam_.reads_.length * 2 + ctl KidRun.ct x.fam_.kids_ : Nat) : Int) ≤ 9007199254740992:=by have a:=E12.out;omega
  clear hq11 hr11
  replace M : Hid (Shake 97 40 g n c k (fun f => f ∈ [12,13,14,15,16,17,28,29,34,35,36,37,38,39]) cs0 (fun j => S j ∧ (lab j ≤ k ∨ (lab j = k + 1 ∧ (lam j < 7 ∨ (lam j = 7 ∧ (lam_7 j ≤ 3)))))) w w1):=hid (M.out.call c1 (fun h1 => by obtain ⟨h1,e0⟩:=h1;obtain ⟨h1,e1⟩:=h1;have e9:=h1.2;omega) (fun j h1 => ⟨h1.1.1.1,by obtain ⟨h1,e0⟩:=h1;obtain ⟨h1,e1⟩:=h1;have e9:=h1.2;omega⟩) (fun j h => ⟨h.1,by have h2:=h.2;omega⟩))
  clear c1
  go_wp2_with ((with_reducible refine zN ?_);(refine Shake.wp_get2 M.out HLT.out rfl _ _ rfl _ _ rfl (by decide) (by decide) _ (by assumption) _ (by first|exact Tryz.underlying92|exact Tryz.underlying93|exact Tryz.underlying86|exact Tryz.underlying85|exact Tryz.underlying87|exact Tryz.underlying22) (by rfl) ?_;(try simp only [zr_,zm_])))
  refine (shk3 (markRowS_ow _ _ _ x.fam_.reads_ _ _ _ (OwS.chg L12.out M.out.chg (fun i h1 h2 => by obtain ⟨h1,e0⟩:=h1;obtain ⟨h1,e1⟩:=h1;have e9:=h1.2;obtain ⟨-,h2⟩:=h2;omega)) (by omega) (by omega))).mono ?_
  rintro e w1 ⟨Q13,rfl,E13,c1⟩
  have hq13 : 0 ≤ Q13:=by have a:=E13.out;omega
  have hr13 : Q13 + ((ctl KidRun.ct x.fam_.kids_ : Nat) : Int) ≤ 9007199254740992:=by have a:=E13.out;omega
  clear hq12 hr12
  replace M : Hid (Shake 97 40 g n c k (fun f => f ∈ [12,13,14,15,16,17,28,29,34,35,36,37,38,39]) cs0 (fun j => S j ∧ (lab j ≤ k ∨ (lab j = k + 1 ∧ (lam j < 7 ∨ (lam j = 7 ∧ (lam_7 j ≤ 4)))))) w w1):=hid (M.out.call c1 (fun h1 => by obtain ⟨h1,e0⟩:=h1;obtain ⟨h1,e1⟩:=h1;have e9:=h1.2;omega) (fun j h1 => ⟨h1.1.1.1,by obtain ⟨h1,e0⟩:=h1;obtain ⟨h1,e1⟩:=h1;have e9:=h1.2;omega⟩) (fun j h => ⟨h.1,by have h2:=h.2;omega⟩))
  clear c1
  go_wp2_with ((with_reducible refine zN ?_);(refine Shake.wp_get2 M.out HLT.out rfl _ _ rfl _ _ rfl (by decide) (by decide) _ (by assumption) _ (by first|exact Tryz.underlying92|exact Tryz.underlying93|exact Tryz.underlying86|exact Tryz.underlying85|exact Tryz.underlying87|exact Tryz.underlying22) (by rfl) ?_;(try simp only [zr_,zm_])))
  refine (shk (shakeKidRunS_any _ _ _ x.fam_.kids_ _ _ _ (SlW.chg KidRun.W_good L13.out M.out.chg (fun i h1 h2 => by obtain ⟨h1,e0⟩:=h1;obtain ⟨h1,e1⟩:=h1;have e9:=h1.2;obtain ⟨-,h2⟩:=h2;omega)) (fun i hi => Nat.lt_of_lt_of_le (HS.out i hi.1.1.1) M.out.chg.size) (by omega) (by omega) (by omega))).mono ?_
  rintro e w1 ⟨Q14,rfl,E14,c1⟩
  have hq14 : 0 ≤ Q14:=by have a:=E14.out;omega
  have hr14 : Q14 + ((0 : Nat) : Int) ≤ 9007199254740992:=by have a:=E14.out;omega
  clear hq13 hr13
  replace M : Hid (Shake 97 40 g n c k (fun f => f ∈ [12,13,14,15,16,17,28,29,34,35,36,37,38,39]) cs0 (fun j => S j ∧ (lab j ≤ k ∨ (lab j = k + 1 ∧ (lam j < 7 ∨ (lam j = 7 ∧ (lam_7 j ≤ 5)))))) w w1):=hid (M.out.call c1 (fun h1 => by obtain ⟨h1,e0⟩:=h1;obtain ⟨h1,e1⟩:=h1;have e9:=h1.2;omega) (fun j h1 => ⟨h1.1.1.1,by obtain ⟨h1,e0⟩:=h1;obtain ⟨h1,e1⟩:=h1;have e9:=h1.2;omega⟩) (fun j h => ⟨h.1,by have h2:=h.2;omega⟩))
  clear c1
  go_wp2_with ((with_reducible refine zN ?_);fail)
  go_roundw
  case rel =>
   have M9:=(M.out.next).mono (T':=fun j => S j ∧ lab j ≤ k + 1) fun j h => ⟨h.1,by have h2:=h.2;omega⟩
   refine ⟨k + 1,HLT.out,by go_num,by congr 1;have a:=HCT.out;have b:=HQ.out;have aE1:=E1.out;have aE2:=E2.out;have aE3:=E3.out;have aE4:=E4.out;have aE5:=E5.out;have aE6:=E6.out;have aE7:=E7.out;have aE8:=E8.out;have aE9:=E9.out;have aE10:=E10.out;have aE11:=E11.out;have aE12:=E12.out;have aE13:=E13.out;have aE14:=E14.out;have cc : Root.ct x = 26 + x.regs_.length + x.reads_.length * 2 + x.writes_.length * 2 + ctl Mark.ct x.marks_ + x.undos_.length * 3 + x.order_.length + x.commit_.puts_.length * 2 + x.commit_.reads_.length + x.fam_.regs_.length + x.fam_.start_.length * 2 + x.fam_.buf_.length * 3 + x.fam_.order_.length + x.fam_.reads_.length * 2 + ctl KidRun.ct x.fam_.kids_:=rfl;omega,M9.chg,fun g2 hA _ => ?_⟩
   obtain rfl:=addr_inj hA
   exact M9
  case measure => have h:=HLT.out;simp [intOf];omega
def Mem.ct (x : Mem) : Nat:=1 + x.cells_.length * 3
def Mem.ca (x : Mem) : Nat:=x.cells_.length * 3
set_option maxRecDepth 20000 in
theorem shakeMem_any (x : Mem) (cs : List Value) (q : Int) (w : World) (S : Nat → Prop) (h : Mem.W w S cs x) (hS : ∀ g,S g → g < w.heap.size) (hq : 0 ≤ q) (hqn : q + Mem.ca x ≤ 9007199254740992) :
  Calls Tryz.prog 56 #[.agg cs.toArray,.int .i64 q] w fun e w' => e = .returned (.int .i64 (q + Mem.ca x)) ∧ Chg S w w':=by
 have hca:=hqn
 unfold Mem.ca at hca
 obtain ⟨A0,n0,c0,lab,rfl,⟨kh0,mh0,h0⟩⟩:=h
 obtain rfl : n0 = x.cells_.length:=by have a:=h0.sl.flen Word.cells_length (by omega);omega
 have H0:=hid h0
 have HS:=hid hS
 clear hS h0
 show Calls Tryz.prog _ #[.agg #[.int .i64 x.clock_,.slice A0 x.cells_.length c0],.int .i64 q] w _
 go_enter Tryz.func56,Tryz.ntmps56
 go_wp2_with fail
 refine (markWordS_ow _ _ _ x.cells_ _ _ _ (OwS.chg H0.out ((Chg.refl (fun j => S j ∧ lab j < 0) w).al _) (fun i h1 h2 => by have e1:=h1.2;have e2:=h2.2;omega)) (by skip;omega) (by skip;omega)).mono ?_
 rintro e w1 ⟨rfl,-,cq⟩
 have B : Hid (Bx w1 w.heap.size 52 #[.int .i64 x.clock_,.slice A0 x.cells_.length c0]):=hid (Bx.chg (Bx.new' _ _ _ rfl) cq (fun z => by have a:=HS.out _ z.1;omega))
 have X : Hid (Chg (fun j => S j ∧ lab j < 1) w w1):=hid (((((Chg.refl (fun j => S j ∧ lab j < 0) w).al _)).mono fun j h => ⟨h.1,by have h2:=h.2;omega⟩).trans (cq.mono fun j h => ⟨h.1,by have h2:=h.2;omega⟩))
 clear cq
 go_wp2
 go_ret
 exact ⟨congrArg (fun z => Ending.returned (.int .i64 z)) (by have cc : Mem.ca x = x.cells_.length * 3:=rfl;omega),X.out.mono fun j h => h.1⟩
def Shelf.ct (x : Shelf) : Nat:=1 + x.slots_.length
def Shelf.ca (x : Shelf) : Nat:=x.slots_.length
set_option maxRecDepth 20000 in
theorem shakeShelf_any (x : Shelf) (cs : List Value) (q : Int) (w : World) (S : Nat → Prop) (h : Shelf.W w S cs x) (hS : ∀ g,S g → g < w.heap.size) (hq : 0 ≤ q) (hqn : q + Shelf.ca x ≤ 9007199254740992) :
  Calls Tryz.prog 57 #[.agg cs.toArray,.int .i64 q] w fun e w' => e = .returned (.int .i64 (q + Shelf.ca x)) ∧ Chg S w w':=by
 have hca:=hqn
 unfold Shelf.ca at hca
 obtain ⟨A0,n0,c0,lab,rfl,⟨kh0,mh0,h0⟩⟩:=h
 obtain rfl : n0 = x.slots_.length:=by have a:=h0.sl.len;omega
 have H0:=hid h0
 have HS:=hid hS
 clear hS h0
 show Calls Tryz.prog _ #[.agg #[.slice A0 x.slots_.length c0,.int .i64 x.count_],.int .i64 q] w _
 go_enter Tryz.func57,Tryz.ntmps57
 go_wp2_with fail
 refine (markIntS_ow _ _ _ x.slots_ _ _ _ (OwS.chg H0.out ((Chg.refl (fun j => S j ∧ lab j < 0) w).al _) (fun i h1 h2 => by have e1:=h1.2;have e2:=h2.2;omega)) (by skip;omega) (by skip;omega)).mono ?_
 rintro e w1 ⟨rfl,-,cq⟩
 have B : Hid (Bx w1 w.heap.size 53 #[.slice A0 x.slots_.length c0,.int .i64 x.count_]):=hid (Bx.chg (Bx.new' _ _ _ rfl) cq (fun z => by have a:=HS.out _ z.1;omega))
 have X : Hid (Chg (fun j => S j ∧ lab j < 1) w w1):=hid (((((Chg.refl (fun j => S j ∧ lab j < 0) w).al _)).mono fun j h => ⟨h.1,by have h2:=h.2;omega⟩).trans (cq.mono fun j h => ⟨h.1,by have h2:=h.2;omega⟩))
 clear cq
 go_wp2
 go_ret
 exact ⟨congrArg (fun z => Ending.returned (.int .i64 z)) (by have cc : Shelf.ca x = x.slots_.length:=rfl;omega),X.out.mono fun j h => h.1⟩
def GWorld.ct (x : GWorld) : Nat:=4 + x.mem_.cells_.length * 3 + x.shelf_.slots_.length + x.holds_.length * 3 + ctl Root.ct x.roots_ + ctl Wrote.ct x.hist_
def GWorld.ca (x : GWorld) : Nat:=x.mem_.cells_.length * 3 + x.shelf_.slots_.length + x.holds_.length * 3 + ctl Root.ct x.roots_ + ctl Wrote.ct x.hist_
theorem GWorld.ca_le (x : GWorld) : GWorld.ca x ≤ 64 * (GWorld.wt x + 1):=by
 have c0 : Mem.wt x.mem_ = x.mem_.cells_.length:=rfl
 have c1 : Shelf.wt x.shelf_ = x.shelf_.slots_.length:=rfl
 have c2:=ctl_bound (f:=Root.ct) (wt:=Root.wt) (b:=64) Root.ct_le (l:=x.roots_)
 have c3:=ctl_bound (f:=Wrote.ct) (wt:=Wrote.wt) (b:=64) Wrote.ct_le (l:=x.hist_)
 unfold GWorld.ca GWorld.wt
 omega
set_option maxRecDepth 20000 in
theorem shakeGWorld_any (x : GWorld) (cs : List Value) (q : Int) (w : World) (S : Nat → Prop) (h : GWorld.W w S cs x) (hS : ∀ g,S g → g < w.heap.size) (hq : 0 ≤ q) (hqn : q + GWorld.ca x ≤ 9007199254740992) :
  Calls Tryz.prog 16 #[.agg cs.toArray,.int .i64 q] w fun e w' => e = .returned (.int .i64 (q + GWorld.ca x)) ∧ Chg S w w':=by
 have hca:=hqn
 unfold GWorld.ca at hca
 obtain ⟨v0,v1,A2,n2,c2,A3,n3,c3,A4,n4,c4,lab,rfl,h0,h1,⟨kh2,mh2,h2⟩,⟨kh3,mh3,h3⟩,⟨kh4,mh4,h4⟩⟩:=h
 have H0:=hid h0
 obtain ⟨A0,n0,c0,rfl⟩:=Mem.W_cells h0
 have H1:=hid h1
 obtain ⟨A1,n1,c1,rfl⟩:=Shelf.W_cells h1
 obtain rfl : n2 = x.holds_.length:=by have a:=h2.sl.flen Hold.cells_length (by omega);omega
 have H2:=hid h2
 obtain rfl : n3 = x.roots_.length:=by have a:=h3.1;omega
 have H3:=hid h3
 obtain rfl : n4 = x.hist_.length:=by have a:=h4.1;omega
 have H4:=hid h4
 have HS:=hid hS
 clear hS h0 h1 h2 h3 h4
 simp only [List.cons_append,List.nil_append]
 go_enter Tryz.func16,Tryz.ntmps16
 go_wp2_with fail
 refine (shakeMem_any x.mem_ _ _ _ _ (Mem.W_good.chg H0.out ((Chg.refl (fun j => S j ∧ lab j < 0) w).al _) (fun i h1 h2 => by have e1:=h1.2;have e2:=h2.2;omega)) (fun g hg => Nat.lt_of_lt_of_le (HS.out g hg.1) ((Chg.refl (fun j => S j ∧ lab j < 0) w).al _).size) (by have cn2 : Mem.ca x.mem_ = x.mem_.cells_.length * 3:=rfl;have cn3 : Shelf.ca x.shelf_ = x.shelf_.slots_.length:=rfl;omega) (by have cn2 : Mem.ca x.mem_ = x.mem_.cells_.length * 3:=rfl;have cn3 : Shelf.ca x.shelf_ = x.shelf_.slots_.length:=rfl;omega)).mono ?_
 rintro e w1 ⟨rfl,cq⟩
 have B : Hid (Bx w1 w.heap.size 58 #[.int .i64 x.now_,.int .i64 x.token_,.int .i64 x.mem_.clock_,.slice A0 n0 c0,.slice A1 n1 c1,.int .i64 x.shelf_.count_,.slice A2 x.holds_.length c2,.slice A3 x.roots_.length c3,.slice A4 x.hist_.length c4]):=hid (Bx.chg (Bx.new' _ _ _ rfl) cq (fun z => by have a:=HS.out _ z.1;omega))
 have X : Hid (Chg (fun j => S j ∧ lab j < 1) w w1):=hid (((((Chg.refl (fun j => S j ∧ lab j < 0) w).al _)).mono fun j h => ⟨h.1,by have h2:=h.2;omega⟩).trans (cq.mono fun j h => ⟨h.1,by have h2:=h.2;omega⟩))
 clear cq
 have ca1_4 : w1.cell? ⟨w.heap.size,4,none⟩ = some (.slice A1 n1 c1):=B.out.cell 4
 have ca1_5 : w1.cell? ⟨w.heap.size,5,none⟩ = some (.int .i64 x.shelf_.count_):=B.out.cell 5
 go_wp2_with fail
 refine (shakeShelf_any x.shelf_ _ _ _ _ (Shelf.W_good.chg H1.out X.out (fun i h1 h2 => by have e1:=h1.2;have e2:=h2.2;omega)) (fun g hg => Nat.lt_of_lt_of_le (HS.out g hg.1) X.out.size) (by have cn2 : Mem.ca x.mem_ = x.mem_.cells_.length * 3:=rfl;have cn3 : Shelf.ca x.shelf_ = x.shelf_.slots_.length:=rfl;omega) (by have cn2 : Mem.ca x.mem_ = x.mem_.cells_.length * 3:=rfl;have cn3 : Shelf.ca x.shelf_ = x.shelf_.slots_.length:=rfl;omega)).mono ?_
 rintro e w2 ⟨rfl,cq⟩
 replace B : Hid (Bx w2 w.heap.size 58 #[.int .i64 x.now_,.int .i64 x.token_,.int .i64 x.mem_.clock_,.slice A0 n0 c0,.slice A1 n1 c1,.int .i64 x.shelf_.count_,.slice A2 x.holds_.length c2,.slice A3 x.roots_.length c3,.slice A4 x.hist_.length c4]):=hid (Bx.chg (B.out) cq (fun z => by have a:=HS.out _ z.1;omega))
 replace X : Hid (Chg (fun j => S j ∧ lab j < 2) w w2):=hid (((X.out).mono fun j h => ⟨h.1,by have h2:=h.2;omega⟩).trans (cq.mono fun j h => ⟨h.1,by have h2:=h.2;omega⟩))
 clear cq
 clear ca1_4 ca1_5
 have ca2_6 : w2.cell? ⟨w.heap.size,6,none⟩ = some (.slice A2 x.holds_.length c2):=B.out.cell 6
 go_wp2_with fail
 refine (markHoldS_ow _ _ _ x.holds_ _ _ _ (OwS.chg H2.out X.out (fun i h1 h2 => by have e1:=h1.2;have e2:=h2.2;omega)) (by have cn2 : Mem.ca x.mem_ = x.mem_.cells_.length * 3:=rfl;have cn3 : Shelf.ca x.shelf_ = x.shelf_.slots_.length:=rfl;omega) (by have cn2 : Mem.ca x.mem_ = x.mem_.cells_.length * 3:=rfl;have cn3 : Shelf.ca x.shelf_ = x.shelf_.slots_.length:=rfl;omega)).mono ?_
 rintro e w3 ⟨rfl,-,cq⟩
 replace B : Hid (Bx w3 w.heap.size 58 #[.int .i64 x.now_,.int .i64 x.token_,.int .i64 x.mem_.clock_,.slice A0 n0 c0,.slice A1 n1 c1,.int .i64 x.shelf_.count_,.slice A2 x.holds_.length c2,.slice A3 x.roots_.length c3,.slice A4 x.hist_.length c4]):=hid (Bx.chg (B.out) cq (fun z => by have a:=HS.out _ z.1;omega))
 replace X : Hid (Chg (fun j => S j ∧ lab j < 3) w w3):=hid (((X.out).mono fun j h => ⟨h.1,by have h2:=h.2;omega⟩).trans (cq.mono fun j h => ⟨h.1,by have h2:=h.2;omega⟩))
 clear cq
 clear ca2_6
 have ca3_7 : w3.cell? ⟨w.heap.size,7,none⟩ = some (.slice A3 x.roots_.length c3):=B.out.cell 7
 go_wp2_with fail
 refine (shakeRootS_any _ _ _ x.roots_ _ _ _ (SlW.chg Root.W_good H3.out X.out (fun i h1 h2 => by have e1:=h1.2;have e2:=h2.2;omega)) (fun g hg => Nat.lt_of_lt_of_le (HS.out g hg.1) X.out.size) (by have cn2 : Mem.ca x.mem_ = x.mem_.cells_.length * 3:=rfl;have cn3 : Shelf.ca x.shelf_ = x.shelf_.slots_.length:=rfl;omega) (by have cn2 : Mem.ca x.mem_ = x.mem_.cells_.length * 3:=rfl;have cn3 : Shelf.ca x.shelf_ = x.shelf_.slots_.length:=rfl;omega) (by omega)).mono ?_
 rintro e w4 ⟨rfl,cq⟩
 replace B : Hid (Bx w4 w.heap.size 58 #[.int .i64 x.now_,.int .i64 x.token_,.int .i64 x.mem_.clock_,.slice A0 n0 c0,.slice A1 n1 c1,.int .i64 x.shelf_.count_,.slice A2 x.holds_.length c2,.slice A3 x.roots_.length c3,.slice A4 x.hist_.length c4]):=hid (Bx.chg (B.out) cq (fun z => by have a:=HS.out _ z.1;omega))
 replace X : Hid (Chg (fun j => S j ∧ lab j < 4) w w4):=hid (((X.out).mono fun j h => ⟨h.1,by have h2:=h.2;omega⟩).trans (cq.mono fun j h => ⟨h.1,by have h2:=h.2;omega⟩))
 clear cq
 clear ca3_7
 have ca4_8 : w4.cell? ⟨w.heap.size,8,none⟩ = some (.slice A4 x.hist_.length c4):=B.out.cell 8
 go_wp2_with fail
 refine (shakeWroteS_any _ _ _ x.hist_ _ _ _ (SlW.chg Wrote.W_good H4.out X.out (fun i h1 h2 => by have e1:=h1.2;have e2:=h2.2;omega)) (fun g hg => Nat.lt_of_lt_of_le (HS.out g hg.1) X.out.size) (by have cn2 : Mem.ca x.mem_ = x.mem_.cells_.length * 3:=rfl;have cn3 : Shelf.ca x.shelf_ = x.shelf_.slots_.length:=rfl;omega) (by have cn2 : Mem.ca x.mem_ = x.mem_.cells_.length * 3:=rfl;have cn3 : Shelf.ca x.shelf_ = x.shelf_.slots_.length:=rfl;omega) (by omega)).mono ?_
 rintro e w5 ⟨rfl,cq⟩
 replace B : Hid (Bx w5 w.heap.size 58 #[.int .i64 x.now_,.int .i64 x.token_,.int .i64 x.mem_.clock_,.slice A0 n0 c0,.slice A1 n1 c1,.int .i64 x.shelf_.count_,.slice A2 x.holds_.length c2,.slice A3 x.roots_.length c3,.slice A4 x.hist_.length c4]):=hid (Bx.chg (B.out) cq (fun z => by have a:=HS.out _ z.1;omega))
 replace X : Hid (Chg (fun j => S j ∧ lab j < 5) w w5):=hid (((X.out).mono fun j h => ⟨h.1,by have h2:=h.2;omega⟩).trans (cq.mono fun j h => ⟨h.1,by have h2:=h.2;omega⟩))
 clear cq
 clear ca4_8
 go_wp2
 go_ret
 exact ⟨congrArg (fun z => Ending.returned (.int .i64 z)) (by have cc : GWorld.ca x = x.mem_.cells_.length * 3 + x.shelf_.slots_.length + x.holds_.length * 3 + ctl Root.ct x.roots_ + ctl Wrote.ct x.hist_:=rfl;have cn2 : Mem.ca x.mem_ = x.mem_.cells_.length * 3:=rfl;have cn3 : Shelf.ca x.shelf_ = x.shelf_.slots_.length:=rfl;omega),X.out.mono fun j h => h.1⟩
def RunsB (b w : World) (rs : List Run) (th : Things) (g : Nat) (cs : Array Value) (A : Option Addr) (m d : Nat) (C P : Option Addr × Nat × Nat) : Prop :=
 ∃ es : List REnt,es.map REnt.x = rs ∧ m = rs.length ∧ Mine b w (.box g 42 cs::.row 111 5 A m d (es.flatMap rcell)::.row 3 1 C.1 C.2.1 C.2.2 (ints th.cells_)::.row 3 1 P.1 P.2.1 P.2.2 (ints th.map_)::es.flatMap rrows)
theorem cl3 {w : World} {g : Nat} {t : TypeId} {v0 v1 v2 : Value} (h : Bx w g t #[v0,v1,v2]) : w.cell? ⟨g,0,none⟩ = some v0 ∧ w.cell? ⟨g,1,none⟩ = some v1 ∧ w.cell? ⟨g,2,none⟩ = some v2:=⟨h.cell 0,h.cell 1,h.cell 2⟩
theorem cl5 {w : World} {g : Nat} {t : TypeId} {v0 v1 v2 v3 v4 : Value} (h : Bx w g t #[v0,v1,v2,v3,v4]) : w.cell? ⟨g,0,none⟩ = some v0 ∧ w.cell? ⟨g,1,none⟩ = some v1 ∧ w.cell? ⟨g,2,none⟩ = some v2 ∧ w.cell? ⟨g,3,none⟩ = some v3 ∧ w.cell? ⟨g,4,none⟩ = some v4:=⟨h.cell 0,h.cell 1,h.cell 2,h.cell 3,h.cell 4⟩
theorem cl9 {w : World} {g : Nat} {t : TypeId} {v0 v1 v2 v3 v4 v5 v6 v7 v8 : Value} (h : Bx w g t #[v0,v1,v2,v3,v4,v5,v6,v7,v8]) : w.cell? ⟨g,0,none⟩ = some v0 ∧ w.cell? ⟨g,1,none⟩ = some v1 ∧ w.cell? ⟨g,2,none⟩ = some v2 ∧ w.cell? ⟨g,3,none⟩ = some v3 ∧ w.cell? ⟨g,4,none⟩ = some v4 ∧ w.cell? ⟨g,5,none⟩ = some v5 ∧ w.cell? ⟨g,6,none⟩ = some v6 ∧ w.cell? ⟨g,7,none⟩ = some v7 ∧ w.cell? ⟨g,8,none⟩ = some v8:=⟨h.cell 0,h.cell 1,h.cell 2,h.cell 3,h.cell 4,h.cell 5,h.cell 6,h.cell 7,h.cell 8⟩
def BxL (w : World) : List (Nat × TypeId × Array Value) → Prop
 | [] => True
 | (g,t,cs)::l => Bx w g t cs ∧ BxL w l
def FarL (S : Nat → Prop) : List (Nat × TypeId × Array Value) → Prop
 | [] => True
 | (g,_,_)::l => ¬ S g ∧ FarL S l
theorem BxL.chg {w w' : World} {S : Nat → Prop} : ∀ {l : List (Nat × TypeId × Array Value)},BxL w l → Chg S w w' → FarL S l → BxL w' l
 | [],_,_,_ => trivial
 | (_,_,_)::_,h,k,f => ⟨Bx.chg h.1 k f.1,BxL.chg h.2 k f.2⟩
theorem BxL.ext {w w' : World} {l : List (Nat × TypeId × Array Value)} (h : BxL w l) (k : Ext w w') : BxL w' l:=h.chg (k.chg fun _ => False) (by
 induction l with
 | nil => trivial
 | cons r l ih => obtain ⟨g,t,cs⟩:=r;exact ⟨fun q => q,ih h.2⟩)
theorem eb {w w' : World} {l : List (Nat × TypeId × Array Value)} (h : Hid (BxL w l)) (k : Ext w w') : Hid (BxL w' l):=hid (h.out.ext k)
theorem eR {w w' : World} {S : Nat → Prop} {e : TypeId} {A : Option Addr} {n c : Nat} {rs : List Run} (h : Hid (SlW Run.W e 5 w S A n c rs)) (k : Ext w w') : Hid (SlW Run.W e 5 w' S A n c rs):=hid (SlW.ext Run.W_good h.out k)
theorem eT {w w' : World} {S : Nat → Prop} {cs : List Value} {x : Things} (h : Hid (Things.W w S cs x)) (k : Ext w w') : Hid (Things.W w' S cs x):=hid (Things.W_good.ext h.out k)
theorem eS {w w' : World} {S : Nat → Prop} {cs : List Value} {x : Script} (h : Hid (Script.W w S cs x)) (k : Ext w w') : Hid (Script.W w' S cs x):=hid (Script.W_good.ext h.out k)
theorem eG {w w' : World} {S : Nat → Prop} {cs : List Value} {x : GWorld} (h : Hid (GWorld.W w S cs x)) (k : Ext w w') : Hid (GWorld.W w' S cs x):=hid (GWorld.W_good.ext h.out k)
section
variable {b w w' : World} {rs : List Run} {th : Things} {g : Nat} {cs : Array Value} {A : Option Addr} {m d : Nat} {C P : Option Addr × Nat × Nat}
theorem RunsB.V (h : RunsB b w rs th g cs A m d C P) : RunsV b w rs th A m d C P:=by
 obtain ⟨es,h1,h2,M⟩:=h
 exact ⟨es,h1,h2,M.sub (sd_ s1_)⟩
theorem RunsB.ext (h : RunsB b w rs th g cs A m d C P) : Ext b w:=by
 obtain ⟨es,h1,h2,M⟩:=h
 exact M.ext
theorem RunsB.bx (h : RunsB b w rs th g cs A m d C P) : Bx w g 42 cs:=by
 obtain ⟨es,h1,h2,M⟩:=h
 exact M.box_at 0 rfl
theorem RunsB.le (h : RunsB b w rs th g cs A m d C P) : b.heap.size ≤ g:=by
 obtain ⟨es,h1,h2,M⟩:=h
 exact M.box_le 0 rfl
theorem RunsV.ext' (h : RunsV b w rs th A m d C P) : Ext b w:=by
 obtain ⟨es,h1,h2,M⟩:=h
 exact M.ext
theorem RunsV.len (h : RunsV b w rs th A m d C P) : m = rs.length:=by
 obtain ⟨es,h1,h2,M⟩:=h
 exact h2
theorem RunsV.base (k : Ext b w) (h : RunsV w w' rs th A m d C P) : RunsV b w' rs th A m d C P:=by
 obtain ⟨es,h1,h2,M⟩:=h
 have h:=(Mine.of k).call M
 rw [List.append_nil] at h
 exact ⟨es,h1,h2,h⟩
theorem RunsV.last (cs : Array Value) (h : RunsV b w rs th A m d C P) : RunsB b (w.alloc (.cells cs 42)) rs th w.heap.size cs A m d C P:=by
 obtain ⟨es,h1,h2,M⟩:=h
 exact ⟨es,h1,h2,M.box _ cs⟩
theorem RunsV.first (N : Mine b w [.box g 42 cs]) (h : RunsV w w' rs th A m d C P) : RunsB b w' rs th g cs A m d C P:=by
 obtain ⟨es,h1,h2,M⟩:=h
 have h:=N.call M
 exact ⟨es,h1,h2,h.perm List.perm_append_comm⟩
end
set_option maxRecDepth 8000 in
theorem law_Replay (x0 : Script) (cs0 : List Value) (x1 : GWorld) (cs1 : List Value) (w : World) (h0 : Script.R w (fun _ => True) cs0 x0) (h1 : GWorld.R w (fun _ => True) cs1 x1) :
  Calls Tryz.prog 3 #[.agg cs0.toArray,.agg cs1.toArray] w fun e w' => e = .returned (.bool true) ∧ Ext w w':=by
 have H0:=hid h0
 obtain ⟨A0_0,n0_0,c0_0,A0_1,n0_1,c0_1,A0_2,n0_2,c0_2,A0_3,n0_3,c0_3,rfl⟩:=Script.R_cells h0
 clear h0
 have H1:=hid h1
 obtain ⟨A1_0,n1_0,c1_0,A1_1,n1_1,c1_1,A1_2,n1_2,c1_2,A1_3,n1_3,c1_3,A1_4,n1_4,c1_4,rfl⟩:=GWorld.R_cells h1
 clear h1
 show Calls Tryz.prog _ #[.agg #[.slice A0_0 n0_0 c0_0,.slice A0_1 n0_1 c0_1,.int .i64 x0.start_.count_,.slice A0_2 n0_2 c0_2,.slice A0_3 n0_3 c0_3],.agg #[.int .i64 x1.now_,.int .i64 x1.token_,.int .i64 x1.mem_.clock_,.slice A1_0 n1_0 c1_0,.slice A1_1 n1_1 c1_1,.int .i64 x1.shelf_.count_,.slice A1_2 n1_2 c1_2,.slice A1_3 n1_3 c1_3,.slice A1_4 n1_4 c1_4]] w _
 obtain ⟨rf,hF⟩ : ∃ rf,replayF x0 x1 = rf:=⟨_,rfl⟩
 have hB:=replay_len x0 x1
 rw [hF] at hB
 obtain ⟨rs,t⟩:=rf
 simp only at hB
 obtain ⟨hB0,hB1,hB2⟩:=hB
 have HF:=hid hF
 clear hF
 have hca0:=Script.ca_le x0
 have hca1:=GWorld.ca_le x1
 go_enter Tryz.func3,Tryz.ntmps3
 go_wp2_with fail
 refine (szScript_any x0 _ (1048576 : Int) _ _ (Script.R_good.ext H0.out (((Ext.refl' w).al _).al _)) (by omega) (by omega)).mono ?_
 rintro e w1 ⟨r0,rfl,Q0,xw1⟩
 replace Q0:=hid Q0
 have xt:=Ext.tr (((Ext.refl' w).al _).al _) xw1
 have bb : Hid (BxL w1 ((w.heap.size,28,#[.slice A0_0 n0_0 c0_0,.slice A0_1 n0_1 c0_1,.int .i64 x0.start_.count_,.slice A0_2 n0_2 c0_2,.slice A0_3 n0_3 c0_3])::[])):=⟨Bx.ext ((Bx.new' _ _ _ rfl).al _) xw1,trivial⟩
 replace bb : Hid (BxL w1 ((w.heap.size + 1,38,#[.int .i64 x1.now_,.int .i64 x1.token_,.int .i64 x1.mem_.clock_,.slice A1_0 n1_0 c1_0,.slice A1_1 n1_1 c1_1,.int .i64 x1.shelf_.count_,.slice A1_2 n1_2 c1_2,.slice A1_3 n1_3 c1_3,.slice A1_4 n1_4 c1_4])::(w.heap.size,28,#[.slice A0_0 n0_0 c0_0,.slice A0_1 n0_1 c0_1,.int .i64 x0.start_.count_,.slice A0_2 n0_2 c0_2,.slice A0_3 n0_3 c0_3])::[])):=⟨Bx.ext (Bx.new' _ _ _ (by simp)) xw1,bb.out⟩
 have zw1 : w.heap.size + 2 ≤ w1.heap.size:=by have h:=xw1.size;(try simp only [World.heap_alloc_size] at h);(try simp at h);omega
 have X1 : Hid (Ext w w1):=(((Ext.refl' w).al _).al _).tr xw1
 clear xw1 xt
 by_cases g0 : 0 ≤ r0
 rotate_left
 ·have e0 : r0 = -1:=by have a:=Q0.out;unfold Left at a;omega
  subst e0
  clear g0
  go_wp2
  go_ret
  exact ⟨rfl,(X1.out.tr (Ext.refl' w1))⟩
 have N0 : Script.wt x0 ≤ 1048576:=by have a:=Q0.out;unfold Left at a;omega
 have u0 : r0 ≤ 1048576:=by have a:=Q0.out;unfold Left at a;omega
 obtain ⟨ea10,ea11,ea12,ea13,ea14,ea15,ea16,ea17,ea18⟩:=cl9 (bb.out.1)
 go_wp2_with fail
 refine (szGWorld_any x1 _ r0 _ _ (GWorld.R_good.ext H1.out (X1.out.tr (Ext.refl' w1))) g0 u0).mono ?_
 rintro e w2 ⟨r1,rfl,Q1,xw2⟩
 replace Q1:=hid Q1
 clear ea10 ea11 ea12 ea13 ea14 ea15 ea16 ea17 ea18
 replace bb:=eb bb xw2
 have zw2:=xw2.size
 have X2 : Hid (Ext w w2):=X1.out.tr xw2
 clear xw2
 by_cases g1 : 0 ≤ r1
 rotate_left
 ·have e1 : r1 = -1:=by have a:=Q1.out;unfold Left at a;omega
  subst e1
  clear g1
  go_wp2
  go_ret
  exact ⟨rfl,(X2.out.tr (Ext.refl' w2))⟩
 have N1 : GWorld.wt x1 ≤ 1048576:=by have a:=Q1.out;unfold Left at a;omega
 have u1 : r1 ≤ 1048576:=by have a:=Q1.out;unfold Left at a;omega
 go_upto_region 8 with fail
 go_cut [6,7] from 27 to 34 (fun va vb w3 => ∃ (g : Nat) (B : Option Addr) (m d : Nat) (C P : Option Addr × Nat × Nat),va = .slice B m d ∧ vb = .pointer (some ⟨g,0,none⟩) ∧ Hid (RunsB w2 w3 rs t g #[.slice C.1 C.2.1 C.2.2,.slice P.1 P.2.1 P.2.2,.int .i64 t.count_] B m d C P))
 case first =>
  refine YtoegjiigaoanbaaGreat.region_head 10 (fun wq => Ext w2 wq) (by kernel_rfl) (by kernel_rfl) (Ext.refl' w2).dr ?_
  have M:=hid ((Mine.refl w2).dr)
  refine zTL 0 ?_
  intro K hK
  unfold Reads
  apply Exists.intro
  refine ⟨fun wq hq => ?_,?_⟩
  ·have bq:=Bx.ext (bb.out.2.1) hq
   obtain ⟨e0,e1,e2,e3,e4⟩:=cl5 bq
   clear hq bq
   go_simp
   first|done|rfl
  (try simp only [zs_,zl_])
  go_big_quiet_on
  refine zTL 2 ?_
  intro K hK
  unfold Reads
  apply Exists.intro
  refine ⟨fun wq hq => ?_,?_⟩
  ·have bq:=Bx.ext (bb.out.1) hq
   obtain ⟨e0,e1,e2,e3,e4,e5,e6,e7,e8⟩:=cl9 bq
   clear hq bq
   go_simp
   first|done|rfl
  (try simp only [zs_,zl_])
  go_big_quiet_on
  refine HQ.noisy (rs:=[1,8]) (by kernel_rfl) (by simp) (AllG.cons rfl (Nat.le_of_ble_eq_true rfl) (fun K hK => ?_) (AllG.cons rfl (Nat.le_of_ble_eq_true rfl) (fun K hK => ?_) AllG.nil))
  ·skip
   go_simp
   go_at_call 8
   refine (toScript_any x0 _ _ _ (Script.R_good.ext H0.out (X2.out.tr M.out.ext)) N0).mono ?_
   rintro e w3 ⟨cv,rfl,o3,x3⟩
   replace o3:=hid o3
   obtain ⟨P0_0,p0_0,d0_0,P0_1,p0_1,d0_1,P0_2,p0_2,d0_2,P0_3,p0_3,d0_3,rfl⟩:=Script.W_cells o3.out
   replace M:=hid (M.out.on x3)
   clear x3
   refine hK.out _ _ (M.out.ext) ?_
   clear hK K
   (try simp only [zs_,zl_])
   refine HQ.noisy (rs:=[3,8]) (by kernel_rfl) (by simp) (AllG.cons rfl (Nat.le_of_ble_eq_true rfl) (fun K hK => ?_) (AllG.cons rfl (Nat.le_of_ble_eq_true rfl) (fun K hK => ?_) AllG.nil))
   ·skip
    go_simp
    go_at_call 9
    refine (toGWorld_any x1 _ _ _ (GWorld.R_good.ext H1.out (X2.out.tr M.out.ext)) N1).mono ?_
    rintro e w4 ⟨cv,rfl,o4,x4⟩
    replace o4:=hid o4
    obtain ⟨P1_0,p1_0,d1_0,P1_1,p1_1,d1_1,P1_2,p1_2,d1_2,P1_3,p1_3,d1_3,P1_4,p1_4,d1_4,rfl⟩:=GWorld.W_cells o4.out
    replace M:=hid (M.out.on x4)
    replace o3:=hid (Script.W_good.ext o3.out x4)
    clear x4
    refine hK.out _ _ (M.out.ext) ?_
    clear hK K
    (try simp only [zs_,zl_])
    refine HQ.noisy (rs:=[4,8]) (by kernel_rfl) (by simp) (AllG.cons rfl (Nat.le_of_ble_eq_true rfl) (fun K hK => ?_) (AllG.cons rfl (Nat.le_of_ble_eq_true rfl) (fun K hK => ?_) AllG.nil))
    ·skip
     go_simp
     go_at_call 7
     refine (spec_Replay x0 _ x1 _ _ (Script.R_good.mono (Script.W_R o3.out) fun _ _ => trivial) N0 (GWorld.R_good.mono (GWorld.W_R o4.out) fun _ _ => trivial) N1).mono ?_
     rintro e w5 ⟨B,m,d,C,P,rfl,hv⟩
     rw [HF.out] at hv ⊢
     clear o3 o4
     replace M:=hid (RunsV.base M.out.ext hv.out)
     clear hv
     refine hK.out _ _ (M.out.ext') ?_
     clear hK K
     (try simp only [zs_,zl_])
     refine zTL 5 ?_;intro K hK;(first|(refine zX ?_;(try simp only [zs_,zl_]);go_big_quiet_on))
     refine zTL 6 ?_;intro K hK;(first|(refine zX ?_;(try simp only [zs_,zl_]);go_big_quiet_on))
     refine zTL 7 ?_;intro K hK;(first|(refine zX ?_;(try simp only [zs_,zl_]);go_big_quiet_on))
     refine zNy 8 (fun K hK => ?_)
     go_simp
     replace M:=hid (RunsV.last #[.slice none 0 0,.slice none 0 0,.int .i64 0] M.out)
     refine hK.out _ _ (M.out.ext) ?_
     clear hK K
     (try simp only [zs_,zl_])
     refine zTL 9 ?_;intro K hK;(first|(refine zX ?_;(try simp only [zs_,zl_]);go_big_quiet_on))
     refine HQ.end_ (by kernel_rfl) ?_
     simp only [List.drop_succ_cons,List.drop_zero]
     obtain ⟨es,he1,he2,M1⟩:=M.out
     clear M
     have HE1:=hid he1
     have HE2:=hid he2
     have M:=hid M1
     clear he1 he2 M1
     go_wp2_with (first|((with_reducible refine zN ?_);first|(refine zSs M.out 42 0 ?_;intro w' M';(try simp only [zr_,zm_] at M');replace M:=hid M';clear M')))
     go_meet
     case rel => exact ⟨_,_,_,_,_,_,rfl,rfl,⟨es,HE1.out,HE2.out,M.out⟩⟩
    ·skip
     go_simp
     replace o3:=eS o3 ((Ext.refl' _).al (.cells #[.slice none 0 0,.slice none 0 0,.int .i64 0] 42))
     replace o4:=eG o4 ((Ext.refl' _).al (.cells #[.slice none 0 0,.slice none 0 0,.int .i64 0] 42))
     replace M:=hid (M.out.box 42 #[.slice none 0 0,.slice none 0 0,.int .i64 0])
     refine hK.out _ _ (M.out.ext) ?_
     clear hK K
     (try simp only [zs_,zl_])
     refine zNy 4 (fun K hK => ?_)
     go_simp
     go_at_call 7
     refine (spec_Replay x0 _ x1 _ _ (Script.R_good.mono (Script.W_R o3.out) fun _ _ => trivial) N0 (GWorld.R_good.mono (GWorld.W_R o4.out) fun _ _ => trivial) N1).mono ?_
     rintro e w5 ⟨B,m,d,C,P,rfl,hv⟩
     rw [HF.out] at hv ⊢
     clear o3 o4
     replace M:=hid (RunsV.first M.out hv.out)
     clear hv
     refine hK.out _ _ (M.out.ext) ?_
     clear hK K
     (try simp only [zs_,zl_])
     refine zTL 5 ?_;intro K hK;(first|(refine zX ?_;(try simp only [zs_,zl_]);go_big_quiet_on))
     refine zTL 6 ?_;intro K hK;(first|(refine zX ?_;(try simp only [zs_,zl_]);go_big_quiet_on))
     refine zTL 7 ?_;intro K hK;(first|(refine zX ?_;(try simp only [zs_,zl_]);go_big_quiet_on))
     refine zTL 9 ?_;intro K hK;(first|(refine zX ?_;(try simp only [zs_,zl_]);go_big_quiet_on))
     refine HQ.end_ (by kernel_rfl) ?_
     simp only [List.drop_succ_cons,List.drop_zero]
     obtain ⟨es,he1,he2,M1⟩:=M.out
     clear M
     have HE1:=hid he1
     have HE2:=hid he2
     have M:=hid M1
     clear he1 he2 M1
     go_wp2_with (first|((with_reducible refine zN ?_);first|(refine zSs M.out 42 0 ?_;intro w' M';(try simp only [zr_,zm_] at M');replace M:=hid M';clear M')))
     go_meet
     case rel => exact ⟨_,_,_,_,_,_,rfl,rfl,⟨es,HE1.out,HE2.out,M.out⟩⟩
   ·skip
    go_simp
    replace o3:=eS o3 ((Ext.refl' _).al (.cells #[.slice none 0 0,.slice none 0 0,.int .i64 0] 42))
    replace M:=hid (M.out.box 42 #[.slice none 0 0,.slice none 0 0,.int .i64 0])
    refine hK.out _ _ (M.out.ext) ?_
    clear hK K
    (try simp only [zs_,zl_])
    refine zNy 3 (fun K hK => ?_)
    go_simp
    go_at_call 9
    refine (toGWorld_any x1 _ _ _ (GWorld.R_good.ext H1.out (X2.out.tr M.out.ext)) N1).mono ?_
    rintro e w4 ⟨cv,rfl,o4,x4⟩
    replace o4:=hid o4
    obtain ⟨P1_0,p1_0,d1_0,P1_1,p1_1,d1_1,P1_2,p1_2,d1_2,P1_3,p1_3,d1_3,P1_4,p1_4,d1_4,rfl⟩:=GWorld.W_cells o4.out
    replace M:=hid (M.out.on x4)
    replace o3:=hid (Script.W_good.ext o3.out x4)
    clear x4
    refine hK.out _ _ (M.out.ext) ?_
    clear hK K
    (try simp only [zs_,zl_])
    refine zNy 4 (fun K hK => ?_)
    go_simp
    go_at_call 7
    refine (spec_Replay x0 _ x1 _ _ (Script.R_good.mono (Script.W_R o3.out) fun _ _ => trivial) N0 (GWorld.R_good.mono (GWorld.W_R o4.out) fun _ _ => trivial) N1).mono ?_
    rintro e w5 ⟨B,m,d,C,P,rfl,hv⟩
    rw [HF.out] at hv ⊢
    clear o3 o4
    replace M:=hid (RunsV.first M.out hv.out)
    clear hv
    refine hK.out _ _ (M.out.ext) ?_
    clear hK K
    (try simp only [zs_,zl_])
    refine zTL 5 ?_;intro K hK;(first|(refine zX ?_;(try simp only [zs_,zl_]);go_big_quiet_on))
    refine zTL 6 ?_;intro K hK;(first|(refine zX ?_;(try simp only [zs_,zl_]);go_big_quiet_on))
    refine zTL 7 ?_;intro K hK;(first|(refine zX ?_;(try simp only [zs_,zl_]);go_big_quiet_on))
    refine zTL 9 ?_;intro K hK;(first|(refine zX ?_;(try simp only [zs_,zl_]);go_big_quiet_on))
    refine HQ.end_ (by kernel_rfl) ?_
    simp only [List.drop_succ_cons,List.drop_zero]
    obtain ⟨es,he1,he2,M1⟩:=M.out
    clear M
    have HE1:=hid he1
    have HE2:=hid he2
    have M:=hid M1
    clear he1 he2 M1
    go_wp2_with (first|((with_reducible refine zN ?_);first|(refine zSs M.out 42 0 ?_;intro w' M';(try simp only [zr_,zm_] at M');replace M:=hid M';clear M')))
    go_meet
    case rel => exact ⟨_,_,_,_,_,_,rfl,rfl,⟨es,HE1.out,HE2.out,M.out⟩⟩
  ·skip
   go_simp
   replace M:=hid (M.out.box 42 #[.slice none 0 0,.slice none 0 0,.int .i64 0])
   refine hK.out _ _ (M.out.ext) ?_
   clear hK K
   (try simp only [zs_,zl_])
   refine zNy 1 (fun K hK => ?_)
   go_simp
   go_at_call 8
   refine (toScript_any x0 _ _ _ (Script.R_good.ext H0.out (X2.out.tr M.out.ext)) N0).mono ?_
   rintro e w3 ⟨cv,rfl,o3,x3⟩
   replace o3:=hid o3
   obtain ⟨P0_0,p0_0,d0_0,P0_1,p0_1,d0_1,P0_2,p0_2,d0_2,P0_3,p0_3,d0_3,rfl⟩:=Script.W_cells o3.out
   replace M:=hid (M.out.on x3)
   clear x3
   refine hK.out _ _ (M.out.ext) ?_
   clear hK K
   (try simp only [zs_,zl_])
   refine zNy 3 (fun K hK => ?_)
   go_simp
   go_at_call 9
   refine (toGWorld_any x1 _ _ _ (GWorld.R_good.ext H1.out (X2.out.tr M.out.ext)) N1).mono ?_
   rintro e w4 ⟨cv,rfl,o4,x4⟩
   replace o4:=hid o4
   obtain ⟨P1_0,p1_0,d1_0,P1_1,p1_1,d1_1,P1_2,p1_2,d1_2,P1_3,p1_3,d1_3,P1_4,p1_4,d1_4,rfl⟩:=GWorld.W_cells o4.out
   replace M:=hid (M.out.on x4)
   replace o3:=hid (Script.W_good.ext o3.out x4)
   clear x4
   refine hK.out _ _ (M.out.ext) ?_
   clear hK K
   (try simp only [zs_,zl_])
   refine zNy 4 (fun K hK => ?_)
   go_simp
   go_at_call 7
   refine (spec_Replay x0 _ x1 _ _ (Script.R_good.mono (Script.W_R o3.out) fun _ _ => trivial) N0 (GWorld.R_good.mono (GWorld.W_R o4.out) fun _ _ => trivial) N1).mono ?_
   rintro e w5 ⟨B,m,d,C,P,rfl,hv⟩
   rw [HF.out] at hv ⊢
   clear o3 o4
   replace M:=hid (RunsV.first M.out hv.out)
   clear hv
   refine hK.out _ _ (M.out.ext) ?_
   clear hK K
   (try simp only [zs_,zl_])
   refine zTL 5 ?_;intro K hK;(first|(refine zX ?_;(try simp only [zs_,zl_]);go_big_quiet_on))
   refine zTL 6 ?_;intro K hK;(first|(refine zX ?_;(try simp only [zs_,zl_]);go_big_quiet_on))
   refine zTL 7 ?_;intro K hK;(first|(refine zX ?_;(try simp only [zs_,zl_]);go_big_quiet_on))
   refine zTL 9 ?_;intro K hK;(first|(refine zX ?_;(try simp only [zs_,zl_]);go_big_quiet_on))
   refine HQ.end_ (by kernel_rfl) ?_
   simp only [List.drop_succ_cons,List.drop_zero]
   obtain ⟨es,he1,he2,M1⟩:=M.out
   clear M
   have HE1:=hid he1
   have HE2:=hid he2
   have M:=hid M1
   clear he1 he2 M1
   go_wp2_with (first|((with_reducible refine zN ?_);first|(refine zSs M.out 42 0 ?_;intro w' M';(try simp only [zr_,zm_] at M');replace M:=hid M';clear M')))
   go_meet
   case rel => exact ⟨_,_,_,_,_,_,rfl,rfl,⟨es,HE1.out,HE2.out,M.out⟩⟩
 obtain ⟨gs,Bs,ms,ds,Cs,Ps,rfl,rfl,hb⟩:=hcut
 have x3:=hb.out.ext
 have ns:=hb.out.le
 have bs:=hb.out.bx
 obtain rfl : ms = rs.length:=hb.out.V.len
 obtain ⟨Ts,osR,osT⟩:=hb.out.V.W
 replace osR:=hid osR
 replace osT:=hid osT
 have ls:=bs.lt
 clear hb
 replace bb:=eb bb x3
 have zwc:=x3.size
 have X3 : Hid (Ext w wc):=X2.out.tr x3
 clear x3
 replace bb : Hid (BxL _ ((_,_,_)::_)):=⟨bs,bb.out⟩
 clear bs
 obtain ⟨ea00,ea01,ea02,ea03,ea04⟩:=cl5 (bb.out.2.2.1)
 go_wp2_with fail
 refine (toScript_any x0 _ _ _ (Script.R_good.ext H0.out (X3.out.tr (Ext.refl' wc))) N0).mono ?_
 rintro e w4 ⟨cv,rfl,o4,x4⟩
 replace o4:=hid o4
 obtain ⟨B4_0,p4_0,d4_0,B4_1,p4_1,d4_1,B4_2,p4_2,d4_2,B4_3,p4_3,d4_3,rfl⟩:=Script.W_cells o4.out
 clear ea00 ea01 ea02 ea03 ea04
 replace bb:=eb bb x4
 replace osR:=eR osR x4
 replace osT:=eT osT x4
 have zw4:=x4.size
 have X4 : Hid (Ext w w4):=X3.out.tr x4
 clear x4
 have y0:=World.heap_alloc_size w4 (.cells #[.slice B4_0 p4_0 d4_0,.slice B4_1 p4_1 d4_1,.int .i64 x0.start_.count_,.slice B4_2 p4_2 d4_2,.slice B4_3 p4_3 d4_3] 48)
 have la1:=(bb.out.2.1).lt
 obtain ⟨ea10,ea11,ea12,ea13,ea14,ea15,ea16,ea17,ea18⟩:=cl9 (bb.out.2.1)
 go_wp2_with fail
 refine (toGWorld_any x1 _ _ _ (GWorld.R_good.ext H1.out (X4.out.tr ((Ext.refl' w4).al _))) N1).mono ?_
 rintro e w5 ⟨cv,rfl,o5,x5⟩
 replace o5:=hid o5
 obtain ⟨B5_0,p5_0,d5_0,B5_1,p5_1,d5_1,B5_2,p5_2,d5_2,B5_3,p5_3,d5_3,B5_4,p5_4,d5_4,rfl⟩:=GWorld.W_cells o5.out
 clear la1 ea10 ea11 ea12 ea13 ea14 ea15 ea16 ea17 ea18
 have xt:=Ext.tr ((Ext.refl' w4).al _) x5
 replace bb:=eb bb xt
 replace bb : Hid (BxL w5 ((w4.heap.size,48,#[.slice B4_0 p4_0 d4_0,.slice B4_1 p4_1 d4_1,.int .i64 x0.start_.count_,.slice B4_2 p4_2 d4_2,.slice B4_3 p4_3 d4_3])::_)):=⟨Bx.ext (Bx.new' _ _ _ rfl) x5,bb.out⟩
 replace osR:=eR osR xt
 replace osT:=eT osT xt
 replace o4:=eS o4 xt
 have zw5 : w4.heap.size + 1 ≤ w5.heap.size:=by have h:=x5.size;(try simp only [World.heap_alloc_size] at h);(try simp at h);omega
 have X5 : Hid (Ext w w5):=X4.out.tr xt
 clear x5 xt
 have y1:=World.heap_alloc_size w5 (.cells #[.int .i64 x1.now_,.int .i64 x1.token_,.int .i64 x1.mem_.clock_,.slice B5_0 p5_0 d5_0,.slice B5_1 p5_1 d5_1,.int .i64 x1.shelf_.count_,.slice B5_2 p5_2 d5_2,.slice B5_3 p5_3 d5_3,.slice B5_4 p5_4 d5_4] 58)
 have lx0:=(bb.out.1).lt
 obtain ⟨ex00,ex01,ex02,ex03,ex04⟩:=cl5 (bb.out.1)
 go_wp2_with fail
 refine (impl_Replay x0 _ x1 _ _ (Script.R_good.mono (Script.W_R (Script.W_good.ext o4.out ((Ext.refl' w5).al _))) fun _ _ => trivial) N0 (GWorld.R_good.mono (GWorld.W_R (GWorld.W_good.ext o5.out ((Ext.refl' w5).al _))) fun _ _ => trivial) N1).mono ?_
 rintro e w6 ⟨Bg,mg,dg,Cg,Pg,rfl,hv⟩
 rw [HF.out] at hv ⊢
 have x6:=hv.out.ext'
 obtain rfl : mg = rs.length:=hv.out.len
 obtain ⟨Tg,ogR,ogT⟩:=hv.out.W
 replace ogR:=hid ogR
 replace ogT:=hid ogT
 clear hv
 clear lx0 ex00 ex01 ex02 ex03 ex04
 have xt:=Ext.tr ((Ext.refl' w5).al _) x6
 replace bb:=eb bb xt
 replace bb : Hid (BxL w6 ((w5.heap.size,58,#[.int .i64 x1.now_,.int .i64 x1.token_,.int .i64 x1.mem_.clock_,.slice B5_0 p5_0 d5_0,.slice B5_1 p5_1 d5_1,.int .i64 x1.shelf_.count_,.slice B5_2 p5_2 d5_2,.slice B5_3 p5_3 d5_3,.slice B5_4 p5_4 d5_4])::_)):=⟨Bx.ext (Bx.new' _ _ _ rfl) x6,bb.out⟩
 replace osR:=eR osR xt
 replace osT:=eT osT xt
 replace o4:=eS o4 xt
 replace o5:=eG o5 xt
 have zw6 : w5.heap.size + 1 ≤ w6.heap.size:=by have h:=x6.size;(try simp only [World.heap_alloc_size] at h);(try simp at h);omega
 have X6 : Hid (Ext w w6):=X5.out.tr xt
 clear x6 xt
 go_wp2_with fail
 refine (eqRunS_same _ _ _ _ _ rs _ _ _ (SlW.slr Run.R_good Run.W_R (SlW.ext Run.W_good ogR.out ((Ext.refl' w6).al _))) (SlW.slr Run.R_good Run.W_R (SlW.ext Run.W_good osR.out ((Ext.refl' w6).al _))) (by omega)).mono ?_
 rintro e w7 ⟨rfl,x7⟩
 have xt:=Ext.tr ((Ext.refl' w6).al _) x7
 replace bb:=eb bb xt
 replace bb : Hid (BxL w7 ((w6.heap.size,42,#[.slice Cg.1 Cg.2.1 Cg.2.2,.slice Pg.1 Pg.2.1 Pg.2.2,.int .i64 t.count_])::_)):=⟨Bx.ext (Bx.new' _ _ _ rfl) x7,bb.out⟩
 replace osR:=eR osR xt
 replace osT:=eT osT xt
 replace o4:=eS o4 xt
 replace o5:=eG o5 xt
 replace ogR:=eR ogR xt
 replace ogT:=eT ogT xt
 have zw7 : w6.heap.size + 1 ≤ w7.heap.size:=by have h:=x7.size;(try simp only [World.heap_alloc_size] at h);(try simp at h);omega
 have X7 : Hid (Ext w w7):=X6.out.tr xt
 clear x7 xt
 obtain ⟨eg0,eg1,eg2⟩:=cl3 (bb.out.1)
 obtain ⟨es0,es1,es2⟩:=cl3 (bb.out.2.2.2.1)
 go_wp2_with fail
 refine (eqThings_same t _ _ _ _ _ (Things.W_R ogT.out) (Things.W_R osT.out)).mono ?_
 rintro e w8 ⟨rfl,x8⟩
 clear eg0 eg1 eg2 es0 es1 es2
 replace bb:=eb bb x8
 replace osR:=eR osR x8
 replace osT:=eT osT x8
 replace o4:=eS o4 x8
 replace o5:=eG o5 x8
 replace ogR:=eR ogR x8
 replace ogT:=eT ogT x8
 have zw8:=x8.size
 have X8 : Hid (Ext w w8):=X7.out.tr x8
 clear x8
 go_wp2_with fail
 refine YtoegjiigaoanbaaGreat.region_head 4 (fun wq => Ext w8 wq) (by kernel_rfl) (by kernel_rfl) (Ext.refl' w8).dr ?_
 have M:=hid ((Mine.refl w8).dr)
 refine zTL 0 ?_
 intro K hK
 unfold Reads
 apply Exists.intro
 refine ⟨fun wq hq => ?_,?_⟩
 ·have bq:=Bx.ext (bb.out.2.2.1) hq
  obtain ⟨e0,e1,e2,e3,e4⟩:=cl5 bq
  clear hq bq
  go_simp
  first|done|rfl
 (try simp only [zs_,zl_])
 go_big_quiet_on
 refine zTL 1 ?_
 intro K hK
 unfold Reads
 apply Exists.intro
 refine ⟨fun wq hq => ?_,?_⟩
 ·have bq:=Bx.ext (bb.out.2.2.2.2.2.1) hq
  obtain ⟨e0,e1,e2,e3,e4⟩:=cl5 bq
  clear hq bq
  go_simp
  first|done|rfl
 (try simp only [zs_,zl_])
 go_big_quiet_on
 refine zNy 2 (fun K hK => ?_)
 go_simp
 go_at_call 8
 refine (toScript_any x0 _ _ _ (Script.R_good.ext H0.out (X8.out.tr M.out.ext)) N0).mono ?_
 rintro e w9 ⟨cv,rfl,oA,xA⟩
 replace oA:=hid oA
 obtain ⟨P0_0,p0_0,d0_0,P0_1,p0_1,d0_1,P0_2,p0_2,d0_2,P0_3,p0_3,d0_3,rfl⟩:=Script.W_cells oA.out
 replace M:=hid (M.out.on xA)
 clear xA
 refine hK.out _ _ (M.out.ext) ?_
 clear hK K
 (try simp only [zs_,zl_])
 refine zNy 3 (fun K hK => ?_)
 go_simp
 go_at_call 13
 refine (eqScript_same x0 _ _ _ _ _ (Script.W_R (Script.W_good.ext o4.out M.out.ext)) (Script.W_R oA.out)).mono ?_
 rintro e w10 ⟨rfl,xA⟩
 replace M:=hid (M.out.on xA)
 clear xA oA
 refine hK.out _ _ (M.out.ext) ?_
 clear hK K
 (try simp only [zs_,zl_])
 refine HQ.end_ (by kernel_rfl) ?_
 simp only [List.drop_succ_cons,List.drop_zero]
 have x10:=M.out.ext
 clear M
 replace bb:=eb bb x10
 replace osR:=eR osR x10
 replace osT:=eT osT x10
 replace o4:=eS o4 x10
 replace o5:=eG o5 x10
 replace ogR:=eR ogR x10
 replace ogT:=eT ogT x10
 have zw10:=x10.size
 have X10 : Hid (Ext w w10):=X8.out.tr x10
 clear x10
 go_wp2_with fail
 refine YtoegjiigaoanbaaGreat.region_head 4 (fun wq => Ext w10 wq) (by kernel_rfl) (by kernel_rfl) (Ext.refl' w10).dr ?_
 have M:=hid ((Mine.refl w10).dr)
 refine zTL 0 ?_
 intro K hK
 unfold Reads
 apply Exists.intro
 refine ⟨fun wq hq => ?_,?_⟩
 ·have bq:=Bx.ext (bb.out.2.1) hq
  obtain ⟨e0,e1,e2,e3,e4,e5,e6,e7,e8⟩:=cl9 bq
  clear hq bq
  go_simp
  first|done|rfl
 (try simp only [zs_,zl_])
 go_big_quiet_on
 refine zTL 1 ?_
 intro K hK
 unfold Reads
 apply Exists.intro
 refine ⟨fun wq hq => ?_,?_⟩
 ·have bq:=Bx.ext (bb.out.2.2.2.2.1) hq
  obtain ⟨e0,e1,e2,e3,e4,e5,e6,e7,e8⟩:=cl9 bq
  clear hq bq
  go_simp
  first|done|rfl
 (try simp only [zs_,zl_])
 go_big_quiet_on
 refine zNy 2 (fun K hK => ?_)
 go_simp
 go_at_call 9
 refine (toGWorld_any x1 _ _ _ (GWorld.R_good.ext H1.out (X10.out.tr M.out.ext)) N1).mono ?_
 rintro e w11 ⟨cv,rfl,oA,xA⟩
 replace oA:=hid oA
 obtain ⟨P1_0,p1_0,d1_0,P1_1,p1_1,d1_1,P1_2,p1_2,d1_2,P1_3,p1_3,d1_3,P1_4,p1_4,d1_4,rfl⟩:=GWorld.W_cells oA.out
 replace M:=hid (M.out.on xA)
 clear xA
 refine hK.out _ _ (M.out.ext) ?_
 clear hK K
 (try simp only [zs_,zl_])
 refine zNy 3 (fun K hK => ?_)
 go_simp
 go_at_call 14
 refine (eqGWorld_same x1 _ _ _ _ _ (GWorld.W_R (GWorld.W_good.ext o5.out M.out.ext)) (GWorld.W_R oA.out)).mono ?_
 rintro e w12 ⟨rfl,xA⟩
 replace M:=hid (M.out.on xA)
 clear xA oA
 refine hK.out _ _ (M.out.ext) ?_
 clear hK K
 (try simp only [zs_,zl_])
 refine HQ.end_ (by kernel_rfl) ?_
 simp only [List.drop_succ_cons,List.drop_zero]
 have x12:=M.out.ext
 clear M
 replace bb:=eb bb x12
 replace osR:=eR osR x12
 replace osT:=eT osT x12
 replace o4:=eS o4 x12
 replace o5:=eG o5 x12
 replace ogR:=eR ogR x12
 replace ogT:=eT ogT x12
 have zw12:=x12.size
 have X12 : Hid (Ext w w12):=X10.out.tr x12
 clear x12
 obtain ⟨ex00,ex01,ex02,ex03,ex04⟩:=cl5 (bb.out.2.2.1)
 go_wp2_with fail
 refine (shakeScript_any x0 _ ((1 : Int)) _ _ o4.out (fun g hg => by have hg2:=hg.2;omega) (by omega) (by omega)).mono ?_
 rintro e w13 ⟨rfl,cc⟩
 clear ex00 ex01 ex02 ex03 ex04
 replace bb:=hid (bb.out.chg cc ⟨fun h2 => by omega,fun h2 => by omega,fun h2 => by omega,fun h2 => by omega,fun h2 => by omega,fun h2 => by omega,trivial⟩)
 replace osR:=hid (SlW.chg Run.W_good osR.out cc (fun g hg qq => by have h1:=hg;have h2:=qq;omega))
 replace osT:=hid (Things.W_good.chg osT.out cc (fun g hg qq => by have h1:=hg;have h2:=qq;omega))
 replace o5:=hid (GWorld.W_good.chg o5.out cc (fun g hg qq => by have h1:=hg;have h2:=qq;omega))
 replace ogR:=hid (SlW.chg Run.W_good ogR.out cc (fun g hg qq => by have h1:=hg;have h2:=qq;omega))
 replace ogT:=hid (Things.W_good.chg ogT.out cc (fun g hg qq => by have h1:=hg;have h2:=qq;omega))
 have zw13 : w12.heap.size ≤ w13.heap.size:=cc.size
 have X13 : Hid (Ext w w13):=cc.ext (X12.out) (fun g qq => by have h2:=qq;omega)
 clear cc
 clear o4
 obtain ⟨ex10,ex11,ex12,ex13,ex14,ex15,ex16,ex17,ex18⟩:=cl9 (bb.out.2.1)
 go_wp2_with fail
 refine (shakeGWorld_any x1 _ ((1 : Int) + (Script.ca x0 : Nat)) _ _ o5.out (fun g hg => by have hg2:=hg.2;omega) (by omega) (by omega)).mono ?_
 rintro e w14 ⟨rfl,cc⟩
 clear ex10 ex11 ex12 ex13 ex14 ex15 ex16 ex17 ex18
 replace bb:=hid (bb.out.chg cc ⟨fun h2 => by omega,fun h2 => by omega,fun h2 => by omega,fun h2 => by omega,fun h2 => by omega,fun h2 => by omega,trivial⟩)
 replace osR:=hid (SlW.chg Run.W_good osR.out cc (fun g hg qq => by have h1:=hg;have h2:=qq;omega))
 replace osT:=hid (Things.W_good.chg osT.out cc (fun g hg qq => by have h1:=hg;have h2:=qq;omega))
 replace ogR:=hid (SlW.chg Run.W_good ogR.out cc (fun g hg qq => by have h1:=hg;have h2:=qq;omega))
 replace ogT:=hid (Things.W_good.chg ogT.out cc (fun g hg qq => by have h1:=hg;have h2:=qq;omega))
 have zw14 : w13.heap.size ≤ w14.heap.size:=cc.size
 have X14 : Hid (Ext w w14):=cc.ext (X13.out) (fun g qq => by have h2:=qq;omega)
 clear cc
 clear o5
 have hq1 : (0 : Int) ≤ (1 : Int) + (Script.ca x0 : Nat) + (GWorld.ca x1 : Nat):=by omega
 have hq0 : ¬ ((1 : Int) + (Script.ca x0 : Nat) + (GWorld.ca x1 : Nat) < 0):=by omega
 go_wp2_with fail
 refine (eqRunS_same _ _ _ _ _ rs _ _ _ (SlW.slr Run.R_good Run.W_R ogR.out) (SlW.slr Run.R_good Run.W_R osR.out) (by omega)).mono ?_
 rintro e w15 ⟨rfl,x15⟩
 replace bb:=eb bb x15
 replace osR:=eR osR x15
 replace osT:=eT osT x15
 replace ogR:=eR ogR x15
 replace ogT:=eT ogT x15
 have zw15:=x15.size
 have X15 : Hid (Ext w w15):=X14.out.tr x15
 clear x15
 obtain ⟨eg0,eg1,eg2⟩:=cl3 (bb.out.1)
 obtain ⟨es0,es1,es2⟩:=cl3 (bb.out.2.2.2.1)
 go_wp2_with fail
 refine (eqThings_same t _ _ _ _ _ (Things.W_R ogT.out) (Things.W_R osT.out)).mono ?_
 rintro e w16 ⟨rfl,x16⟩
 clear eg0 eg1 eg2 es0 es1 es2
 replace bb:=eb bb x16
 replace osR:=eR osR x16
 replace osT:=eT osT x16
 replace ogR:=eR ogR x16
 replace ogT:=eT ogT x16
 have zw16:=x16.size
 have X16 : Hid (Ext w w16):=X15.out.tr x16
 clear x16
 clear hq1 hq0
 go_wp2_with fail
 refine (markRunS_any _ _ _ rs ((1 : Int)) _ _ ogR.out (fun g hg => by have hg2:=hg.1.2;omega) (by omega) (by omega) (by omega)).mono ?_
 rintro e w17 ⟨rfl,oM,cc⟩
 replace oM:=hid oM
 replace bb:=hid (bb.out.chg cc ⟨fun h2 => by first|omega|exact h1.2 h2.2|exact h2.2 h1.2,fun h2 => by first|omega|exact h1.2 h2.2|exact h2.2 h1.2,fun h2 => by first|omega|exact h1.2 h2.2|exact h2.2 h1.2,fun h2 => by first|omega|exact h1.2 h2.2|exact h2.2 h1.2,fun h2 => by first|omega|exact h1.2 h2.2|exact h2.2 h1.2,fun h2 => by first|omega|exact h1.2 h2.2|exact h2.2 h1.2,trivial⟩)
 replace osR:=hid (SlW.chg Run.W_good osR.out cc (fun g hg qq => by have h1:=hg;have h2:=qq;first|omega|exact h1.2 h2.2|exact h2.2 h1.2))
 replace osT:=hid (Things.W_good.chg osT.out cc (fun g hg qq => by have h1:=hg;have h2:=qq;first|omega|exact h1.2 h2.2|exact h2.2 h1.2))
 replace ogT:=hid (Things.W_good.chg ogT.out cc (fun g hg qq => by have h1:=hg;have h2:=qq;first|omega|exact h1.2 h2.2|exact h2.2 h1.2))
 have zw17 : w16.heap.size ≤ w17.heap.size:=cc.size
 have X17 : Hid (Ext w w17):=cc.ext (X16.out) (fun g qq => by have h2:=qq;first|omega|exact h1.2 h2.2|exact h2.2 h1.2)
 clear cc
 clear ogR
 obtain ⟨eg0,eg1,eg2⟩:=cl3 (bb.out.1)
 go_wp2_with fail
 refine (markThings_any t _ (1 + (ctl Run.ct rs : Nat)) _ _ ogT.out (fun g hg => by have hg2:=hg.1.2;omega) (by omega) (by omega)).mono ?_
 rintro e w18 ⟨rfl,oN,cc⟩
 replace oN:=hid oN
 clear eg0 eg1 eg2
 replace bb:=hid (bb.out.chg cc ⟨fun h2 => by first|omega|exact h1.2 h2.2|exact h2.2 h1.2,fun h2 => by first|omega|exact h1.2 h2.2|exact h2.2 h1.2,fun h2 => by first|omega|exact h1.2 h2.2|exact h2.2 h1.2,fun h2 => by first|omega|exact h1.2 h2.2|exact h2.2 h1.2,fun h2 => by first|omega|exact h1.2 h2.2|exact h2.2 h1.2,fun h2 => by first|omega|exact h1.2 h2.2|exact h2.2 h1.2,trivial⟩)
 replace osR:=hid (SlW.chg Run.W_good osR.out cc (fun g hg qq => by have h1:=hg;have h2:=qq;first|omega|exact h1.2 h2.2|exact h2.2 h1.2))
 replace osT:=hid (Things.W_good.chg osT.out cc (fun g hg qq => by have h1:=hg;have h2:=qq;first|omega|exact h1.2 h2.2|exact h2.2 h1.2))
 replace oM:=hid (SlW.chg Run.W_good oM.out cc (fun g hg qq => by have h1:=hg;have h2:=qq;first|omega|exact h1.2 h2.2|exact h2.2 h1.2))
 have zw18 : w17.heap.size ≤ w18.heap.size:=cc.size
 have X18 : Hid (Ext w w18):=cc.ext (X17.out) (fun g qq => by have h2:=qq;first|omega|exact h1.2 h2.2|exact h2.2 h1.2)
 clear cc
 clear ogT
 have hq2 : (0 : Int) ≤ 1 + (ctl Run.ct rs : Nat):=by omega
 have hq4 : (0 : Int) ≤ 1 + (ctl Run.ct rs : Nat) + (Things.ca t : Nat):=by omega
 have hq3 : ((1 + (ctl Run.ct rs : Nat) + (Things.ca t : Nat)) != (1 + (ctl Run.ct rs : Nat) + (Things.ca t : Nat))) = false:=by simp
 go_wp2_with fail
 refine (heldRunS_any _ _ _ rs ((1 : Int)) _ _ (SlW.slr Run.R_good Run.W_R oM.out) (by omega) (by omega) (by omega)).mono ?_
 rintro e w19 ⟨rfl,x19⟩
 replace bb:=eb bb x19
 replace osR:=eR osR x19
 replace osT:=eT osT x19
 replace oM:=eR oM x19
 replace oN:=eT oN x19
 have zw19:=x19.size
 have X19 : Hid (Ext w w19):=X18.out.tr x19
 clear x19
 obtain ⟨eg0,eg1,eg2⟩:=cl3 (bb.out.1)
 go_wp2_with fail
 refine (heldThings_any t _ (1 + (ctl Run.ct rs : Nat)) _ _ (Things.W_R oN.out) (by omega) (by omega)).mono ?_
 rintro e w20 ⟨rfl,x20⟩
 clear eg0 eg1 eg2
 replace bb:=eb bb x20
 replace osR:=eR osR x20
 replace osT:=eT osT x20
 replace oM:=eR oM x20
 replace oN:=eT oN x20
 have zw20:=x20.size
 have X20 : Hid (Ext w w20):=X19.out.tr x20
 clear x20
 go_upto_region 35 with fail
 go_cut [15,16] from 104 to 111 (fun va vb w21 => ∃ (g : Nat) (B : Option Addr) (m d : Nat) (C P : Option Addr × Nat × Nat),va = .slice B m d ∧ vb = .pointer (some ⟨g,0,none⟩) ∧ Hid (RunsB w20 w21 rs t g #[.slice C.1 C.2.1 C.2.2,.slice P.1 P.2.1 P.2.2,.int .i64 t.count_] B m d C P))
 case first =>
  refine YtoegjiigaoanbaaGreat.region_head 10 (fun wq => Ext w20 wq) (by kernel_rfl) (by kernel_rfl) (Ext.refl' w20).dr ?_
  have M:=hid ((Mine.refl w20).dr)
  refine zTL 0 ?_
  intro K hK
  unfold Reads
  apply Exists.intro
  refine ⟨fun wq hq => ?_,?_⟩
  ·have bq:=Bx.ext (bb.out.2.2.2.2.2.1) hq
   obtain ⟨e0,e1,e2,e3,e4⟩:=cl5 bq
   clear hq bq
   go_simp
   first|done|rfl
  (try simp only [zs_,zl_])
  go_big_quiet_on
  refine zTL 2 ?_
  intro K hK
  unfold Reads
  apply Exists.intro
  refine ⟨fun wq hq => ?_,?_⟩
  ·have bq:=Bx.ext (bb.out.2.2.2.2.1) hq
   obtain ⟨e0,e1,e2,e3,e4,e5,e6,e7,e8⟩:=cl9 bq
   clear hq bq
   go_simp
   first|done|rfl
  (try simp only [zs_,zl_])
  go_big_quiet_on
  refine HQ.noisy (rs:=[1,8]) (by kernel_rfl) (by simp) (AllG.cons rfl (Nat.le_of_ble_eq_true rfl) (fun K hK => ?_) (AllG.cons rfl (Nat.le_of_ble_eq_true rfl) (fun K hK => ?_) AllG.nil))
  ·skip
   go_simp
   go_at_call 8
   refine (toScript_any x0 _ _ _ (Script.R_good.ext H0.out (X20.out.tr M.out.ext)) N0).mono ?_
   rintro e w3 ⟨cv,rfl,o3,x3⟩
   replace o3:=hid o3
   obtain ⟨P0_0,p0_0,d0_0,P0_1,p0_1,d0_1,P0_2,p0_2,d0_2,P0_3,p0_3,d0_3,rfl⟩:=Script.W_cells o3.out
   replace M:=hid (M.out.on x3)
   clear x3
   refine hK.out _ _ (M.out.ext) ?_
   clear hK K
   (try simp only [zs_,zl_])
   refine HQ.noisy (rs:=[3,8]) (by kernel_rfl) (by simp) (AllG.cons rfl (Nat.le_of_ble_eq_true rfl) (fun K hK => ?_) (AllG.cons rfl (Nat.le_of_ble_eq_true rfl) (fun K hK => ?_) AllG.nil))
   ·skip
    go_simp
    go_at_call 9
    refine (toGWorld_any x1 _ _ _ (GWorld.R_good.ext H1.out (X20.out.tr M.out.ext)) N1).mono ?_
    rintro e w4 ⟨cv,rfl,o4,x4⟩
    replace o4:=hid o4
    obtain ⟨P1_0,p1_0,d1_0,P1_1,p1_1,d1_1,P1_2,p1_2,d1_2,P1_3,p1_3,d1_3,P1_4,p1_4,d1_4,rfl⟩:=GWorld.W_cells o4.out
    replace M:=hid (M.out.on x4)
    replace o3:=hid (Script.W_good.ext o3.out x4)
    clear x4
    refine hK.out _ _ (M.out.ext) ?_
    clear hK K
    (try simp only [zs_,zl_])
    refine HQ.noisy (rs:=[4,8]) (by kernel_rfl) (by simp) (AllG.cons rfl (Nat.le_of_ble_eq_true rfl) (fun K hK => ?_) (AllG.cons rfl (Nat.le_of_ble_eq_true rfl) (fun K hK => ?_) AllG.nil))
    ·skip
     go_simp
     go_at_call 10
     refine (impl_Replay x0 _ x1 _ _ (Script.R_good.mono (Script.W_R o3.out) fun _ _ => trivial) N0 (GWorld.R_good.mono (GWorld.W_R o4.out) fun _ _ => trivial) N1).mono ?_
     rintro e w5 ⟨B,m,d,C,P,rfl,hv⟩
     rw [HF.out] at hv ⊢
     clear o3 o4
     replace M:=hid (RunsV.base M.out.ext hv.out)
     clear hv
     refine hK.out _ _ (M.out.ext') ?_
     clear hK K
     (try simp only [zs_,zl_])
     refine zTL 5 ?_;intro K hK;(first|(refine zX ?_;(try simp only [zs_,zl_]);go_big_quiet_on))
     refine zTL 6 ?_;intro K hK;(first|(refine zX ?_;(try simp only [zs_,zl_]);go_big_quiet_on))
     refine zTL 7 ?_;intro K hK;(first|(refine zX ?_;(try simp only [zs_,zl_]);go_big_quiet_on))
     refine zNy 8 (fun K hK => ?_)
     go_simp
     replace M:=hid (RunsV.last #[.slice none 0 0,.slice none 0 0,.int .i64 0] M.out)
     refine hK.out _ _ (M.out.ext) ?_
     clear hK K
     (try simp only [zs_,zl_])
     refine zTL 9 ?_;intro K hK;(first|(refine zX ?_;(try simp only [zs_,zl_]);go_big_quiet_on))
     refine HQ.end_ (by kernel_rfl) ?_
     simp only [List.drop_succ_cons,List.drop_zero]
     obtain ⟨es,he1,he2,M1⟩:=M.out
     clear M
     have HE1:=hid he1
     have HE2:=hid he2
     have M:=hid M1
     clear he1 he2 M1
     go_wp2_with (first|((with_reducible refine zN ?_);first|(refine zSs M.out 42 0 ?_;intro w' M';(try simp only [zr_,zm_] at M');replace M:=hid M';clear M')))
     go_meet
     case rel => exact ⟨_,_,_,_,_,_,rfl,rfl,⟨es,HE1.out,HE2.out,M.out⟩⟩
    ·skip
     go_simp
     replace o3:=eS o3 ((Ext.refl' _).al (.cells #[.slice none 0 0,.slice none 0 0,.int .i64 0] 42))
     replace o4:=eG o4 ((Ext.refl' _).al (.cells #[.slice none 0 0,.slice none 0 0,.int .i64 0] 42))
     replace M:=hid (M.out.box 42 #[.slice none 0 0,.slice none 0 0,.int .i64 0])
     refine hK.out _ _ (M.out.ext) ?_
     clear hK K
     (try simp only [zs_,zl_])
     refine zNy 4 (fun K hK => ?_)
     go_simp
     go_at_call 10
     refine (impl_Replay x0 _ x1 _ _ (Script.R_good.mono (Script.W_R o3.out) fun _ _ => trivial) N0 (GWorld.R_good.mono (GWorld.W_R o4.out) fun _ _ => trivial) N1).mono ?_
     rintro e w5 ⟨B,m,d,C,P,rfl,hv⟩
     rw [HF.out] at hv ⊢
     clear o3 o4
     replace M:=hid (RunsV.first M.out hv.out)
     clear hv
     refine hK.out _ _ (M.out.ext) ?_
     clear hK K
     (try simp only [zs_,zl_])
     refine zTL 5 ?_;intro K hK;(first|(refine zX ?_;(try simp only [zs_,zl_]);go_big_quiet_on))
     refine zTL 6 ?_;intro K hK;(first|(refine zX ?_;(try simp only [zs_,zl_]);go_big_quiet_on))
     refine zTL 7 ?_;intro K hK;(first|(refine zX ?_;(try simp only [zs_,zl_]);go_big_quiet_on))
     refine zTL 9 ?_;intro K hK;(first|(refine zX ?_;(try simp only [zs_,zl_]);go_big_quiet_on))
     refine HQ.end_ (by kernel_rfl) ?_
     simp only [List.drop_succ_cons,List.drop_zero]
     obtain ⟨es,he1,he2,M1⟩:=M.out
     clear M
     have HE1:=hid he1
     have HE2:=hid he2
     have M:=hid M1
     clear he1 he2 M1
     go_wp2_with (first|((with_reducible refine zN ?_);first|(refine zSs M.out 42 0 ?_;intro w' M';(try simp only [zr_,zm_] at M');replace M:=hid M';clear M')))
     go_meet
     case rel => exact ⟨_,_,_,_,_,_,rfl,rfl,⟨es,HE1.out,HE2.out,M.out⟩⟩
   ·skip
    go_simp
    replace o3:=eS o3 ((Ext.refl' _).al (.cells #[.slice none 0 0,.slice none 0 0,.int .i64 0] 42))
    replace M:=hid (M.out.box 42 #[.slice none 0 0,.slice none 0 0,.int .i64 0])
    refine hK.out _ _ (M.out.ext) ?_
    clear hK K
    (try simp only [zs_,zl_])
    refine zNy 3 (fun K hK => ?_)
    go_simp
    go_at_call 9
    refine (toGWorld_any x1 _ _ _ (GWorld.R_good.ext H1.out (X20.out.tr M.out.ext)) N1).mono ?_
    rintro e w4 ⟨cv,rfl,o4,x4⟩
    replace o4:=hid o4
    obtain ⟨P1_0,p1_0,d1_0,P1_1,p1_1,d1_1,P1_2,p1_2,d1_2,P1_3,p1_3,d1_3,P1_4,p1_4,d1_4,rfl⟩:=GWorld.W_cells o4.out
    replace M:=hid (M.out.on x4)
    replace o3:=hid (Script.W_good.ext o3.out x4)
    clear x4
    refine hK.out _ _ (M.out.ext) ?_
    clear hK K
    (try simp only [zs_,zl_])
    refine zNy 4 (fun K hK => ?_)
    go_simp
    go_at_call 10
    refine (impl_Replay x0 _ x1 _ _ (Script.R_good.mono (Script.W_R o3.out) fun _ _ => trivial) N0 (GWorld.R_good.mono (GWorld.W_R o4.out) fun _ _ => trivial) N1).mono ?_
    rintro e w5 ⟨B,m,d,C,P,rfl,hv⟩
    rw [HF.out] at hv ⊢
    clear o3 o4
    replace M:=hid (RunsV.first M.out hv.out)
    clear hv
    refine hK.out _ _ (M.out.ext) ?_
    clear hK K
    (try simp only [zs_,zl_])
    refine zTL 5 ?_;intro K hK;(first|(refine zX ?_;(try simp only [zs_,zl_]);go_big_quiet_on))
    refine zTL 6 ?_;intro K hK;(first|(refine zX ?_;(try simp only [zs_,zl_]);go_big_quiet_on))
    refine zTL 7 ?_;intro K hK;(first|(refine zX ?_;(try simp only [zs_,zl_]);go_big_quiet_on))
    refine zTL 9 ?_;intro K hK;(first|(refine zX ?_;(try simp only [zs_,zl_]);go_big_quiet_on))
    refine HQ.end_ (by kernel_rfl) ?_
    simp only [List.drop_succ_cons,List.drop_zero]
    obtain ⟨es,he1,he2,M1⟩:=M.out
    clear M
    have HE1:=hid he1
    have HE2:=hid he2
    have M:=hid M1
    clear he1 he2 M1
    go_wp2_with (first|((with_reducible refine zN ?_);first|(refine zSs M.out 42 0 ?_;intro w' M';(try simp only [zr_,zm_] at M');replace M:=hid M';clear M')))
    go_meet
    case rel => exact ⟨_,_,_,_,_,_,rfl,rfl,⟨es,HE1.out,HE2.out,M.out⟩⟩
  ·skip
   go_simp
   replace M:=hid (M.out.box 42 #[.slice none 0 0,.slice none 0 0,.int .i64 0])
   refine hK.out _ _ (M.out.ext) ?_
   clear hK K
   (try simp only [zs_,zl_])
   refine zNy 1 (fun K hK => ?_)
   go_simp
   go_at_call 8
   refine (toScript_any x0 _ _ _ (Script.R_good.ext H0.out (X20.out.tr M.out.ext)) N0).mono ?_
   rintro e w3 ⟨cv,rfl,o3,x3⟩
   replace o3:=hid o3
   obtain ⟨P0_0,p0_0,d0_0,P0_1,p0_1,d0_1,P0_2,p0_2,d0_2,P0_3,p0_3,d0_3,rfl⟩:=Script.W_cells o3.out
   replace M:=hid (M.out.on x3)
   clear x3
   refine hK.out _ _ (M.out.ext) ?_
   clear hK K
   (try simp only [zs_,zl_])
   refine zNy 3 (fun K hK => ?_)
   go_simp
   go_at_call 9
   refine (toGWorld_any x1 _ _ _ (GWorld.R_good.ext H1.out (X20.out.tr M.out.ext)) N1).mono ?_
   rintro e w4 ⟨cv,rfl,o4,x4⟩
   replace o4:=hid o4
   obtain ⟨P1_0,p1_0,d1_0,P1_1,p1_1,d1_1,P1_2,p1_2,d1_2,P1_3,p1_3,d1_3,P1_4,p1_4,d1_4,rfl⟩:=GWorld.W_cells o4.out
   replace M:=hid (M.out.on x4)
   replace o3:=hid (Script.W_good.ext o3.out x4)
   clear x4
   refine hK.out _ _ (M.out.ext) ?_
   clear hK K
   (try simp only [zs_,zl_])
   refine zNy 4 (fun K hK => ?_)
   go_simp
   go_at_call 10
   refine (impl_Replay x0 _ x1 _ _ (Script.R_good.mono (Script.W_R o3.out) fun _ _ => trivial) N0 (GWorld.R_good.mono (GWorld.W_R o4.out) fun _ _ => trivial) N1).mono ?_
   rintro e w5 ⟨B,m,d,C,P,rfl,hv⟩
   rw [HF.out] at hv ⊢
   clear o3 o4
   replace M:=hid (RunsV.first M.out hv.out)
   clear hv
   refine hK.out _ _ (M.out.ext) ?_
   clear hK K
   (try simp only [zs_,zl_])
   refine zTL 5 ?_;intro K hK;(first|(refine zX ?_;(try simp only [zs_,zl_]);go_big_quiet_on))
   refine zTL 6 ?_;intro K hK;(first|(refine zX ?_;(try simp only [zs_,zl_]);go_big_quiet_on))
   refine zTL 7 ?_;intro K hK;(first|(refine zX ?_;(try simp only [zs_,zl_]);go_big_quiet_on))
   refine zTL 9 ?_;intro K hK;(first|(refine zX ?_;(try simp only [zs_,zl_]);go_big_quiet_on))
   refine HQ.end_ (by kernel_rfl) ?_
   simp only [List.drop_succ_cons,List.drop_zero]
   obtain ⟨es,he1,he2,M1⟩:=M.out
   clear M
   have HE1:=hid he1
   have HE2:=hid he2
   have M:=hid M1
   clear he1 he2 M1
   go_wp2_with (first|((with_reducible refine zN ?_);first|(refine zSs M.out 42 0 ?_;intro w' M';(try simp only [zr_,zm_] at M');replace M:=hid M';clear M')))
   go_meet
   case rel => exact ⟨_,_,_,_,_,_,rfl,rfl,⟨es,HE1.out,HE2.out,M.out⟩⟩
 obtain ⟨gh,Bh,mh,dh,Ch,Ph,rfl,rfl,hb⟩:=hcut
 have x21:=hb.out.ext
 have nh:=hb.out.le
 have bh:=hb.out.bx
 obtain rfl : mh = rs.length:=hb.out.V.len
 obtain ⟨Th,ohR,ohT⟩:=hb.out.V.W
 replace ohR:=hid ohR
 replace ohT:=hid ohT
 have lh:=bh.lt
 clear hb
 replace bb:=eb bb x21
 replace osR:=eR osR x21
 replace osT:=eT osT x21
 replace oM:=eR oM x21
 replace oN:=eT oN x21
 have zwc:=x21.size
 have X21 : Hid (Ext w wc):=X20.out.tr x21
 clear x21
 replace bb : Hid (BxL _ ((_,_,_)::_)):=⟨bh,bb.out⟩
 clear bh
 go_wp2_with fail
 refine (eqRunS_same _ _ _ _ _ rs _ _ _ (SlW.slr Run.R_good Run.W_R ohR.out) (SlW.slr Run.R_good Run.W_R osR.out) (by omega)).mono ?_
 rintro e w22 ⟨rfl,x22⟩
 replace bb:=eb bb x22
 replace osR:=eR osR x22
 replace osT:=eT osT x22
 replace oM:=eR oM x22
 replace oN:=eT oN x22
 replace ohR:=eR ohR x22
 replace ohT:=eT ohT x22
 have zw22:=x22.size
 have X22 : Hid (Ext w w22):=X21.out.tr x22
 clear x22
 obtain ⟨eh0,eh1,eh2⟩:=cl3 (bb.out.1)
 obtain ⟨es0,es1,es2⟩:=cl3 (bb.out.2.2.2.2.1)
 go_wp2_with fail
 refine (eqThings_same t _ _ _ _ _ (Things.W_R ohT.out) (Things.W_R osT.out)).mono ?_
 rintro e w23 ⟨rfl,x23⟩
 clear eh0 eh1 eh2 es0 es1 es2
 replace bb:=eb bb x23
 replace osR:=eR osR x23
 replace osT:=eT osT x23
 replace oM:=eR oM x23
 replace oN:=eT oN x23
 replace ohR:=eR ohR x23
 replace ohT:=eT ohT x23
 have zw23:=x23.size
 have X23 : Hid (Ext w w23):=X22.out.tr x23
 clear x23
 go_wp2_with fail
 refine (heldRunS_any _ _ _ rs ((1 : Int)) _ _ (SlW.slr Run.R_good Run.W_R oM.out) (by omega) (by omega) (by omega)).mono ?_
 rintro e w24 ⟨rfl,x24⟩
 replace bb:=eb bb x24
 replace osR:=eR osR x24
 replace osT:=eT osT x24
 replace oM:=eR oM x24
 replace oN:=eT oN x24
 replace ohR:=eR ohR x24
 replace ohT:=eT ohT x24
 have zw24:=x24.size
 have X24 : Hid (Ext w w24):=X23.out.tr x24
 clear x24
 obtain ⟨eg0,eg1,eg2⟩:=cl3 (bb.out.2.1)
 go_wp2_with fail
 refine (heldThings_any t _ (1 + (ctl Run.ct rs : Nat)) _ _ (Things.W_R oN.out) (by omega) (by omega)).mono ?_
 rintro e w25 ⟨rfl,x25⟩
 clear eg0 eg1 eg2
 replace bb:=eb bb x25
 replace osR:=eR osR x25
 replace osT:=eT osT x25
 replace oM:=eR oM x25
 replace oN:=eT oN x25
 replace ohR:=eR ohR x25
 replace ohT:=eT ohT x25
 have zw25:=x25.size
 have X25 : Hid (Ext w w25):=X24.out.tr x25
 clear x25
 go_wp2
 go_ret
 exact ⟨rfl,(X25.out.tr (Ext.refl' w25))⟩
end Go.Proofs.YtoegjiigaoanbaaGreat
