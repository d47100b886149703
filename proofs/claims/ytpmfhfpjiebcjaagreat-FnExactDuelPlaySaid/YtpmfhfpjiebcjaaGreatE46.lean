/- Marks of Job, JobRun, Wrote, Mem, Duel. No condition but sizes. -/
import Derived.Test.YtpmfhfpjiebcjaaGreatE03
import Derived.Test.YtpmfhfpjiebcjaaGreatE01
import Derived.Test.YtpmfhfpjiebcjaaGreatE05
namespace Go.Proofs.YtpmfhfpjiebcjaaGreat
open Go.RowKit Go.Deep
set_option linter.unusedSimpArgs false
set_option linter.unusedVariables false

def Row.mark (q : Int) : Row:=⟨q,q + 1⟩
def Row.marks (q : Int) (n : Nat) : List Row:=(List.range n).map fun i : Nat => Row.mark (q + i * 2)
theorem Row.marks_length (q : Int) (n : Nat) : (Row.marks q n).length = n:=by simp [Row.marks]
theorem Row.marks_get (q : Int) (n i : Nat) (h : i < n) : (Row.marks q n)[i]? = some (Row.mark (q + i * 2)):=by simp [Row.marks,h]

set_option maxHeartbeats 2000000 in
theorem markRowS_any (A : Option Addr) (n c : Nat) (base : Nat) (cs0 : List Value) (q : Int) (w : World) (ho0 : w.ownsRow base 97 2 (.slice A n c) n cs0) (hq : 0 ≤ q) (hqn : q + n * 2 ≤ 9007199254740992) :
  Calls Tryz.prog 41 #[.slice A n c,.int .i64 q] w fun e w' => e = .returned (.int .i64 (q + n * 2)) ∧ w'.ownsRow base 97 2 (.slice A n c) n ((Row.marks q n).flatMap Row.cells) ∧ Chg (fun k => (Value.slice A n c).ownBlock = some k) w w':=by
 have HO:=Lib.hid ho0
 clear ho0
 go_enter Tryz.func41,Tryz.ntmps41
 go_wp2
 go_loopw [1,5] (fun r i wr => ∃ (k : Nat) (cs : List Value),k ≤ n ∧ i = .int .i64 k ∧ r = .int .i64 (q + k * 2) ∧ wr.ownsRow base 97 2 (.slice A n c) n cs ∧ Upto cs ((Row.marks q n).flatMap Row.cells) (k * 2) ∧ Chg (fun k => (Value.slice A n c).ownBlock = some k) w wr) (fun _ i _ => n - (intOf i).toNat)
 case atStart => exact ⟨0,_,Nat.zero_le _,rfl,by simp,HO.out,by rw [Nat.zero_mul];exact Upto.zero _ _,Chg.refl _ _⟩
 case round =>
  obtain ⟨k,cs,hk,rfl,rfl,ho,hu,hx⟩:=hrel
  by_cases hlt : k < n
  ·obtain ⟨g,rfl,-,-,hg⟩:=own_flat ho hlt
   obtain ⟨v0,g0,e0⟩:=hg 0 (by omega)
   obtain ⟨v1,g1,e1⟩:=hg 1 (by omega)
   rw [Nat.add_zero] at g0 e0
   have HO2:=Lib.hid ho
   have HE2:=Lib.hid hx
   clear ho hx hg
   go_wp2
   go_roundw
   case rel =>
    have t0:=HO2.out.stored (k * 2) (.int .i64 (q + k * 2))
    have t1:=t0.1.stored (k * 2 + 1) (.int .i64 (q + k * 2 + 1))
    have hl3 : cs.length = n * 2:=HO2.out.1
    have hmk:=Row.marks_get q n k hlt
    have q0:=flat_get Row.cells_length _ k 0 _ hmk (by omega)
    have q1:=flat_get Row.cells_length _ k 1 _ hmk (by omega)
    refine ⟨k + 1,_,by omega,by go_num,by go_num,t1.1,?_,?_⟩
    ·rw [show (k + 1) * 2 = k * 2 + 1 + 1 by omega]
     refine Upto.set1 (Upto.set1 hu (by omega) ?_) (by simp;omega) ?_
     ·exact q0
     ·exact q1
    ·exact ((HE2.out).grown t0.2 (fun j hj => .inl hj)).grown t1.2 (fun j hj => .inl hj)
   case measure => simp [intOf];omega
  ·go_wp2
   go_ret
   have : k = n:=by omega
   subst this
   refine ⟨rfl,?_,hx⟩
   rw [← hu.all ho.1 (by rw [flat_length Row.cells_length,Row.marks_length])]
   exact ho

set_option maxHeartbeats 2000000 in
theorem heldRowS_any (A : Option Addr) (n c : Nat) (q : Int) (w : World) (S : Nat → Prop) (hs : Sl w S 2 A n ((Row.marks q n).flatMap Row.cells)) (hq : 0 ≤ q) (hqn : q + n * 2 ≤ 9007199254740992) :
  Calls Tryz.prog 97 #[.slice A n c,.int .i64 q] w fun e w' => e = .returned (.int .i64 (q + n * 2)) ∧ Ext w w':=by
 go_enter Tryz.func97,Tryz.ntmps97
 go_wp2
 go_loopw [1,5] (fun r i wr => ∃ (k : Nat),k ≤ n ∧ i = .int .i64 k ∧ r = .int .i64 (q + k * 2) ∧ Ext w wr) (fun _ i _ => n - (intOf i).toNat)
 case atStart => exact ⟨0,Nat.zero_le _,rfl,by simp,Ext.refl' _⟩
 case round =>
  obtain ⟨k,hk,rfl,rfl,hx⟩:=hrel
  by_cases hlt : k < n
  ·obtain ⟨b,o,s,rfl,hb,hxk,hc⟩:=(hs.ext hx).flat_at Row.cells_length (by omega) hlt
   rw [Row.marks_get _ _ _ hlt] at hxk
   injection hxk with hxk
   subst hxk
   have c0:=hc 0 (by omega)
   have c1:=hc 1 (by omega)
   simp only [Row.cells,Row.mark,List.getElem?_cons_zero,List.getElem?_cons_succ,Nat.add_zero] at c0 c1

   have HE2:=Lib.hid hx
   clear hx hc
   go_wp2
   go_roundw
   case rel => exact ⟨k + 1,by omega,by go_num,by go_num,HE2.out⟩
   case measure => simp [intOf];omega
  ·go_wp2
   go_ret
   have : k = n:=by omega
   subst this
   exact ⟨rfl,hx⟩

def Word.mark (q : Int) : Word:=⟨q,q + 1,q + 1 + 1⟩
def Word.marks (q : Int) (n : Nat) : List Word:=(List.range n).map fun i : Nat => Word.mark (q + i * 3)
theorem Word.marks_length (q : Int) (n : Nat) : (Word.marks q n).length = n:=by simp [Word.marks]
theorem Word.marks_get (q : Int) (n i : Nat) (h : i < n) : (Word.marks q n)[i]? = some (Word.mark (q + i * 3)):=by simp [Word.marks,h]

set_option maxHeartbeats 2000000 in
theorem markWordS_any (A : Option Addr) (n c : Nat) (base : Nat) (cs0 : List Value) (q : Int) (w : World) (ho0 : w.ownsRow base 102 3 (.slice A n c) n cs0) (hq : 0 ≤ q) (hqn : q + n * 3 ≤ 9007199254740992) :
  Calls Tryz.prog 95 #[.slice A n c,.int .i64 q] w fun e w' => e = .returned (.int .i64 (q + n * 3)) ∧ w'.ownsRow base 102 3 (.slice A n c) n ((Word.marks q n).flatMap Word.cells) ∧ Chg (fun k => (Value.slice A n c).ownBlock = some k) w w':=by
 have HO:=Lib.hid ho0
 clear ho0
 go_enter Tryz.func95,Tryz.ntmps95
 go_wp2
 go_loopw [1,5] (fun r i wr => ∃ (k : Nat) (cs : List Value),k ≤ n ∧ i = .int .i64 k ∧ r = .int .i64 (q + k * 3) ∧ wr.ownsRow base 102 3 (.slice A n c) n cs ∧ Upto cs ((Word.marks q n).flatMap Word.cells) (k * 3) ∧ Chg (fun k => (Value.slice A n c).ownBlock = some k) w wr) (fun _ i _ => n - (intOf i).toNat)
 case atStart => exact ⟨0,_,Nat.zero_le _,rfl,by simp,HO.out,by rw [Nat.zero_mul];exact Upto.zero _ _,Chg.refl _ _⟩
 case round =>
  obtain ⟨k,cs,hk,rfl,rfl,ho,hu,hx⟩:=hrel
  by_cases hlt : k < n
  ·obtain ⟨g,rfl,-,-,hg⟩:=own_flat ho hlt
   obtain ⟨v0,g0,e0⟩:=hg 0 (by omega)
   obtain ⟨v1,g1,e1⟩:=hg 1 (by omega)
   obtain ⟨v2,g2,e2⟩:=hg 2 (by omega)
   rw [Nat.add_zero] at g0 e0
   have HO2:=Lib.hid ho
   have HE2:=Lib.hid hx
   clear ho hx hg
   go_wp2
   go_roundw
   case rel =>
    have t0:=HO2.out.stored (k * 3) (.int .i64 (q + k * 3))
    have t1:=t0.1.stored (k * 3 + 1) (.int .i64 (q + k * 3 + 1))
    have t2:=t1.1.stored (k * 3 + 2) (.int .i64 (q + k * 3 + 1 + 1))
    have hl3 : cs.length = n * 3:=HO2.out.1
    have hmk:=Word.marks_get q n k hlt
    have q0:=flat_get Word.cells_length _ k 0 _ hmk (by omega)
    have q1:=flat_get Word.cells_length _ k 1 _ hmk (by omega)
    have q2:=flat_get Word.cells_length _ k 2 _ hmk (by omega)
    refine ⟨k + 1,_,by omega,by go_num,by go_num,t2.1,?_,?_⟩
    ·rw [show (k + 1) * 3 = k * 3 + 2 + 1 by omega]
     refine Upto.set1 (Upto.set1 (Upto.set1 hu (by omega) ?_) (by simp;omega) ?_) (by simp;omega) ?_
     ·exact q0
     ·exact q1
     ·exact q2
    ·exact (((HE2.out).grown t0.2 (fun j hj => .inl hj)).grown t1.2 (fun j hj => .inl hj)).grown t2.2 (fun j hj => .inl hj)
   case measure => simp [intOf];omega
  ·go_wp2
   go_ret
   have : k = n:=by omega
   subst this
   refine ⟨rfl,?_,hx⟩
   rw [← hu.all ho.1 (by rw [flat_length Word.cells_length,Word.marks_length])]
   exact ho

set_option maxHeartbeats 2000000 in
theorem heldWordS_any (A : Option Addr) (n c : Nat) (q : Int) (w : World) (S : Nat → Prop) (hs : Sl w S 3 A n ((Word.marks q n).flatMap Word.cells)) (hq : 0 ≤ q) (hqn : q + n * 3 ≤ 9007199254740992) :
  Calls Tryz.prog 96 #[.slice A n c,.int .i64 q] w fun e w' => e = .returned (.int .i64 (q + n * 3)) ∧ Ext w w':=by
 go_enter Tryz.func96,Tryz.ntmps96
 go_wp2
 go_loopw [1,5] (fun r i wr => ∃ (k : Nat),k ≤ n ∧ i = .int .i64 k ∧ r = .int .i64 (q + k * 3) ∧ Ext w wr) (fun _ i _ => n - (intOf i).toNat)
 case atStart => exact ⟨0,Nat.zero_le _,rfl,by simp,Ext.refl' _⟩
 case round =>
  obtain ⟨k,hk,rfl,rfl,hx⟩:=hrel
  by_cases hlt : k < n
  ·obtain ⟨b,o,s,rfl,hb,hxk,hc⟩:=(hs.ext hx).flat_at Word.cells_length (by omega) hlt
   rw [Word.marks_get _ _ _ hlt] at hxk
   injection hxk with hxk
   subst hxk
   have c0:=hc 0 (by omega)
   have c1:=hc 1 (by omega)
   have c2:=hc 2 (by omega)
   simp only [Word.cells,Word.mark,List.getElem?_cons_zero,List.getElem?_cons_succ,Nat.add_zero] at c0 c1 c2

   have HE2:=Lib.hid hx
   clear hx hc
   go_wp2
   go_roundw
   case rel => exact ⟨k + 1,by omega,by go_num,by go_num,HE2.out⟩
   case measure => simp [intOf];omega
  ·go_wp2
   go_ret
   have : k = n:=by omega
   subst this
   exact ⟨rfl,hx⟩

theorem markIntS_ow (A : Option Addr) (n c : Nat) (zs : List Int) (q : Int) (w : World) (S : Nat → Prop) (h : OwS w S 3 1 A n c (ints zs)) (hq : 0 ≤ q) (hqn : q + n ≤ 9007199254740992) :
  Calls Tryz.prog 13 #[.slice A n c,.int .i64 q] w fun e w' => e = .returned (.int .i64 (q + n)) ∧ OwS w' S 3 1 A n c (ints (marks q n)) ∧ Chg S w w' :=
 (markIntS_any A n c 0 _ q w h.1 hq hqn).mono fun _ _ ⟨h1,h2,h3⟩ => ⟨h1,⟨h2,h.2⟩,h3.mono fun k hk => h.2 k hk⟩
theorem markRowS_ow (A : Option Addr) (n c : Nat) (l : List Row) (q : Int) (w : World) (S : Nat → Prop) (h : OwS w S 97 2 A n c (l.flatMap Row.cells)) (hq : 0 ≤ q) (hqn : q + n * 2 ≤ 9007199254740992) :
  Calls Tryz.prog 41 #[.slice A n c,.int .i64 q] w fun e w' => e = .returned (.int .i64 (q + n * 2)) ∧ OwS w' S 97 2 A n c ((Row.marks q n).flatMap Row.cells) ∧ Chg S w w' :=
 (markRowS_any A n c 0 _ q w h.1 hq hqn).mono fun _ _ ⟨h1,h2,h3⟩ => ⟨h1,⟨h2,h.2⟩,h3.mono fun k hk => h.2 k hk⟩
theorem markWordS_ow (A : Option Addr) (n c : Nat) (l : List Word) (q : Int) (w : World) (S : Nat → Prop) (h : OwS w S 102 3 A n c (l.flatMap Word.cells)) (hq : 0 ≤ q) (hqn : q + n * 3 ≤ 9007199254740992) :
  Calls Tryz.prog 95 #[.slice A n c,.int .i64 q] w fun e w' => e = .returned (.int .i64 (q + n * 3)) ∧ OwS w' S 102 3 A n c ((Word.marks q n).flatMap Word.cells) ∧ Chg S w w' :=
 (markWordS_any A n c 0 _ q w h.1 hq hqn).mono fun _ _ ⟨h1,h2,h3⟩ => ⟨h1,⟨h2,h.2⟩,h3.mono fun k hk => h.2 k hk⟩
def Job.mkE (q : Int) (x : Job) : Job:=⟨marks (q) x.reads_.length,Row.marks (q + (x.reads_.length : Int)) x.puts_.length⟩
def Job.mkA (q : Int) (x : Job) : Job:=⟨marks (q) x.reads_.length,Row.marks (q + (x.reads_.length : Int)) x.puts_.length⟩
def Job.ct (x : Job) : Nat:=x.reads_.length + x.puts_.length * 2
def Job.ca (x : Job) : Nat:=x.reads_.length + x.puts_.length * 2
set_option maxRecDepth 8000 in
set_option maxHeartbeats 16000000 in
theorem markJobS_any (A : Option Addr) (n c : Nat) (l : List Job) (q : Int) (w : World) (S : Nat → Prop) (h : SlW Job.W 72 2 w S A n c l) (hS : ∀ g,S g → g < w.heap.size) (hq : 0 ≤ q) (hqn : q + (ctl Job.ct l : Nat) ≤ 9007199254740992) (hm : n ≤ 9223372036854775807) :
  Calls Tryz.prog 14 #[.slice A n c,.int .i64 q] w fun e w' => e = .returned (.int .i64 (q + (ctl Job.ct l : Nat))) ∧ SlW Job.W 72 2 w' S A n c (mkl Job.mkE Job.ct q l) ∧ Chg S w w':=by
 obtain ⟨hl,cs0,lab,ho0,hr0⟩:=h
 have HL:=Lib.hid hl
 have HO0:=Lib.hid ho0
 have HR0:=Lib.hid hr0
 have HS:=Lib.hid hS
 clear hl ho0 hr0 hS
 go_enter Tryz.func14,Tryz.ntmps14
 go_wp2
 go_loopw [1,5] (fun r i wr => ∃ (k : Nat) (cs : List Value),k ≤ n ∧ i = .int .i64 k ∧ r = .int .i64 (q + (ctl Job.ct (l.take k) : Nat)) ∧ Hid (OwS wr (fun g => S g ∧ lab g = 0) 72 2 A n c cs) ∧ Hid (WRows Job.W 2 wr S lab cs (mixl Job.mkE Job.ct q l k) n) ∧ Chg S w wr) (fun _ i _ => n - (intOf i).toNat)
 case atStart => exact ⟨0,_,Nat.zero_le _,rfl,by simp [ctl],HO0,by rw [mixl_zero];exact HR0,Chg.refl _ _⟩
 case round =>
  obtain ⟨k,cs,hk,rfl,rfl,HO,HR,hx⟩:=hrel
  have HX:=Lib.hid hx
  clear hx
  by_cases hlt : (k : Int) < (n : Int)
  rotate_left
  ·have e : Hid (k = n):=by show k = n;omega
   go_wp2
   go_ret
   refine ⟨by (rw [e.out,← HL.out,List.take_length]) <;> rfl,⟨by rw [mkl_len];exact HL.out,cs,lab,HO.out,?_⟩,HX.out⟩
   have h:=HR.out
   rw [e.out,mixl_all HL.out] at h
   exact h
  have HLT : Hid (k < n):=by show k < n;omega
  obtain ⟨g,rfl,hgS,hgl,hg⟩:=HO.out.at_ HLT.out
  obtain ⟨x,hxk⟩ : ∃ x,l[k]? = some x:=⟨_,List.getElem?_eq_getElem (by have h:=HL.out;omega)⟩
  obtain ⟨row,h,hrow⟩:=HR.out k HLT.out x (mixl_at hxk)
  obtain ⟨A0,n0,c0,A1,n1,c1,lam,rfl,⟨kh0,mh0,h0⟩,⟨kh1,mh1,h1⟩⟩:=h
  obtain rfl : n0 = x.reads_.length:=by have a:=h0.sl.len;omega
  have L0:=Lib.hid h0
  clear h0
  obtain rfl : n1 = x.puts_.length:=by have a:=h1.sl.flen Row.cells_length (by omega);omega
  have L1:=Lib.hid h1
  clear h1
  obtain ⟨v0,i0,g0,e0⟩:=hg 0 (by omega)
  obtain ⟨v1,i1,g1,e1⟩:=hg 1 (by omega)
  obtain rfl : v0 = .slice A0 x.reads_.length c0:=by have a:=hrow 0 (by omega);rw [i0] at a;injection a
  have IX0:=Lib.hid i0
  obtain rfl : v1 = .slice A1 x.puts_.length c1:=by have a:=hrow 1 (by omega);rw [i1] at a;injection a
  have IX1:=Lib.hid i1
  rw [Nat.add_zero] at g0 e0
  have HXK:=Lib.hid hxk
  have HCT:=Lib.hid (ctl_take (f:=Job.ct) hxk)
  have HNX:=Lib.hid (mixl_next (g:=Job.mkE) (f:=Job.ct) (q:=q) hxk)
  have hle:=ctl_le (f:=Job.ct) l (k + 1)
  obtain ⟨Q,hQ⟩ : ∃ Q : Int,Q = q + (ctl Job.ct (l.take k) : Nat):=⟨_,rfl⟩
  have hQ0 : 0 ≤ Q:=by omega
  have hQn : Q + (Job.ct x : Nat) ≤ 9007199254740992:=by have a:=HCT.out;omega
  unfold Job.ct at hQn
  have HQ:=Lib.hid hQ
  have HG0:=Lib.hid hgS
  have HCL : Hid (cs.length = n * 2):=HO.out.1.1
  rw [← hQ]
  clear hQ hg hrow hxk hle hgl hgS i0 i1
  have HS1:=Lib.hid (Chg.refl (fun j => j = g) wr)
  have HP1:=Lib.hid HO.out.1
  go_wp2_with fail
  refine (markIntS_ow _ _ _ x.reads_ _ _ _ L0.out (by omega) (by omega)).mono ?_
  rintro e w1 ⟨rfl,m_0,c_0⟩
  have HC1:=Lib.hid c_0
  replace L1:=Lib.hid (OwS.chg L1.out HC1.out (fun i h1 h2 => by have e1:=h1.2;have e2:=h2.2;omega))
  replace L0:=Lib.hid m_0
  clear m_0 c_0
  have HO1 : Hid (OwS w1 (fun g => S g ∧ lab g = 0) 72 2 (some ⟨g,0,none⟩) n c _):=OwS.chg ⟨HP1.out,HO.out.2⟩ HC1.out (fun i h1 h2 => by have e1:=h1.2;have e2:=h2.1.2;omega)
  have X1 : Hid (Chg (fun j => S j ∧ (lab j = 0 ∨ lab j = k + 1)) wr w1):=Chg.trans (Chg.trans (Chg.refl (fun j => S j ∧ (lab j = 0 ∨ lab j = k + 1)) wr) (HS1.out.mono fun i e => by rw [show i = g from e];exact ⟨HG0.out.1,.inl HG0.out.2⟩)) (HC1.out.mono fun i e => ⟨e.1.1,.inr e.1.2⟩)
  obtain ⟨gq,hgq,-,-,hg⟩:=HO1.out.at_ HLT.out
  obtain rfl : g = gq:=addr_inj hgq
  clear hgq
  obtain ⟨y1_1,i1_1,g1_1,e1_1⟩:=hg 1 (by omega)
  obtain rfl : y1_1 = .slice A1 x.puts_.length c1:=by rw [IX1.out] at i1_1;injection i1_1 with a;exact a.symm
  clear i1_1
  clear hg
  have HS2:=Lib.hid (Chg.refl (fun j => j = g) w1)
  have HP2:=Lib.hid HO1.out.1
  go_wp2_with fail
  refine (markRowS_ow _ _ _ x.puts_ _ _ _ L1.out (by omega) (by omega)).mono ?_
  rintro e w2 ⟨rfl,m_1,c_1⟩
  have HC2:=Lib.hid c_1
  replace L0:=Lib.hid (OwS.chg L0.out HC2.out (fun i h1 h2 => by have e1:=h1.2;have e2:=h2.2;omega))
  replace L1:=Lib.hid m_1
  clear m_1 c_1
  have HO2 : Hid (OwS w2 (fun g => S g ∧ lab g = 0) 72 2 (some ⟨g,0,none⟩) n c _):=OwS.chg ⟨HP2.out,HO1.out.2⟩ HC2.out (fun i h1 h2 => by have e1:=h1.2;have e2:=h2.1.2;omega)
  have X2 : Hid (Chg (fun j => S j ∧ (lab j = 0 ∨ lab j = k + 1)) wr w2):=Chg.trans (Chg.trans (X1.out) (HS2.out.mono fun i e => by rw [show i = g from e];exact ⟨HG0.out.1,.inl HG0.out.2⟩)) (HC2.out.mono fun i e => ⟨e.1.1,.inr e.1.2⟩)
  go_wp2
  go_roundw
  case rel =>
   have hlt:=HLT.out
   have tot:=X2.out
   have hcl:=HCL.out
   have f0 : cs[k * 2]? = some (.slice A0 x.reads_.length c0):=by exact IX0.out
   have f1 : cs[k * 2 + 1]? = some (.slice A1 x.puts_.length c1):=by exact IX1.out
   refine ⟨k + 1,cs,by omega,by go_num,by congr 1;have a:=HCT.out;have b:=HQ.out;have cc : Job.ct x = x.reads_.length + x.puts_.length * 2:=rfl;omega,Lib.hid ⟨HO2.out.1,HO.out.2⟩,?_,HX.out.trans (tot.mono fun _ e => e.1)⟩
   rw [HNX.out,← HQ.out]
   refine WRows.set_ Job.W_good HR.out (by rw [mixl_len];exact HL.out) hlt tot (fun _ h1 _ => h1.2) ?_ (row':=[.slice A0 x.reads_.length c0,.slice A1 x.puts_.length c1]) ⟨_,_,_,_,_,_,lam,rfl,⟨kh0,mh0,L0.out⟩,⟨kh1,mh1,L1.out⟩⟩ ?_
   ·intro j hj
    rfl
   ·intro j hj
    have hj2 : j = 0 ∨ j = 1:=by omega
    rcases hj2 with rfl|rfl
    ·exact f0
    ·exact f1
  case measure => have h:=HLT.out;simp [intOf];omega
def Wrote.mkE (q : Int) (x : Wrote) : Wrote:=⟨q,q + 1,Row.marks (q + 1 + 1) x.puts_.length⟩
def Wrote.mkA (q : Int) (x : Wrote) : Wrote:=⟨x.stamp_,x.who_,Row.marks (q) x.puts_.length⟩
def Wrote.ct (x : Wrote) : Nat:=2 + x.puts_.length * 2
def Wrote.ca (x : Wrote) : Nat:=x.puts_.length * 2
set_option maxRecDepth 8000 in
set_option maxHeartbeats 16000000 in
theorem markWroteS_any (A : Option Addr) (n c : Nat) (l : List Wrote) (q : Int) (w : World) (S : Nat → Prop) (h : SlW Wrote.W 53 3 w S A n c l) (hS : ∀ g,S g → g < w.heap.size) (hq : 0 ≤ q) (hqn : q + (ctl Wrote.ct l : Nat) ≤ 9007199254740992) (hm : n ≤ 9223372036854775807) :
  Calls Tryz.prog 44 #[.slice A n c,.int .i64 q] w fun e w' => e = .returned (.int .i64 (q + (ctl Wrote.ct l : Nat))) ∧ SlW Wrote.W 53 3 w' S A n c (mkl Wrote.mkE Wrote.ct q l) ∧ Chg S w w':=by
 obtain ⟨hl,cs0,lab,ho0,hr0⟩:=h
 have HL:=Lib.hid hl
 have HO0:=Lib.hid ho0
 have HR0:=Lib.hid hr0
 have HS:=Lib.hid hS
 clear hl ho0 hr0 hS
 go_enter Tryz.func44,Tryz.ntmps44
 go_wp2
 go_loopw [1,5] (fun r i wr => ∃ (k : Nat) (cs : List Value),k ≤ n ∧ i = .int .i64 k ∧ r = .int .i64 (q + (ctl Wrote.ct (l.take k) : Nat)) ∧ Hid (OwS wr (fun g => S g ∧ lab g = 0) 53 3 A n c cs) ∧ Hid (WRows Wrote.W 3 wr S lab cs (mixl Wrote.mkE Wrote.ct q l k) n) ∧ Chg S w wr) (fun _ i _ => n - (intOf i).toNat)
 case atStart => exact ⟨0,_,Nat.zero_le _,rfl,by simp [ctl],HO0,by rw [mixl_zero];exact HR0,Chg.refl _ _⟩
 case round =>
  obtain ⟨k,cs,hk,rfl,rfl,HO,HR,hx⟩:=hrel
  have HX:=Lib.hid hx
  clear hx
  by_cases hlt : (k : Int) < (n : Int)
  rotate_left
  ·have e : Hid (k = n):=by show k = n;omega
   go_wp2
   go_ret
   refine ⟨by (rw [e.out,← HL.out,List.take_length]) <;> rfl,⟨by rw [mkl_len];exact HL.out,cs,lab,HO.out,?_⟩,HX.out⟩
   have h:=HR.out
   rw [e.out,mixl_all HL.out] at h
   exact h
  have HLT : Hid (k < n):=by show k < n;omega
  obtain ⟨g,rfl,hgS,hgl,hg⟩:=HO.out.at_ HLT.out
  obtain ⟨x,hxk⟩ : ∃ x,l[k]? = some x:=⟨_,List.getElem?_eq_getElem (by have h:=HL.out;omega)⟩
  obtain ⟨row,h,hrow⟩:=HR.out k HLT.out x (mixl_at hxk)
  obtain ⟨A0,n0,c0,lam,rfl,⟨kh0,mh0,h0⟩⟩:=h
  obtain rfl : n0 = x.puts_.length:=by have a:=h0.sl.flen Row.cells_length (by omega);omega
  have L0:=Lib.hid h0
  clear h0
  obtain ⟨v0,i0,g0,e0⟩:=hg 0 (by omega)
  obtain ⟨v1,i1,g1,e1⟩:=hg 1 (by omega)
  obtain ⟨v2,i2,g2,e2⟩:=hg 2 (by omega)
  obtain rfl : v2 = .slice A0 x.puts_.length c0:=by have a:=hrow 2 (by omega);rw [i2] at a;injection a
  have IX2:=Lib.hid i2
  rw [Nat.add_zero] at g0 e0
  have HXK:=Lib.hid hxk
  have HCT:=Lib.hid (ctl_take (f:=Wrote.ct) hxk)
  have HNX:=Lib.hid (mixl_next (g:=Wrote.mkE) (f:=Wrote.ct) (q:=q) hxk)
  have hle:=ctl_le (f:=Wrote.ct) l (k + 1)
  obtain ⟨Q,hQ⟩ : ∃ Q : Int,Q = q + (ctl Wrote.ct (l.take k) : Nat):=⟨_,rfl⟩
  have hQ0 : 0 ≤ Q:=by omega
  have hQn : Q + (Wrote.ct x : Nat) ≤ 9007199254740992:=by have a:=HCT.out;omega
  unfold Wrote.ct at hQn
  have HQ:=Lib.hid hQ
  have HG0:=Lib.hid hgS
  have HCL : Hid (cs.length = n * 3):=HO.out.1.1
  rw [← hQ]
  clear hQ hg hrow hxk hle hgl hgS i0 i1 i2
  have HS1:=Lib.hid (((Chg.refl (fun j => j = g) wr).sc (p:=⟨g,k * 3,none⟩) rfl (.int .i64 (Q))).sc (p:=⟨g,k * 3 + 1,none⟩) rfl (.int .i64 (Q + 1)))
  replace L0:=Lib.hid (OwS.chg L0.out HS1.out (fun i h1 h2 => by have e1:=HG0.out.2;have e2 : i = g:=h2;subst e2;have e3:=h1.1.2;omega))
  have t0:=HO.out.1.stored (k * 3) (.int .i64 (Q))
  have t1:=t0.1.stored (k * 3 + 1) (.int .i64 (Q + 1))
  have HP1:=Lib.hid t1.1
  clear t0 t1
  go_wp2_with fail
  refine (markRowS_ow _ _ _ x.puts_ _ _ _ L0.out (by omega) (by omega)).mono ?_
  rintro e w1 ⟨rfl,m_0,c_0⟩
  have HC1:=Lib.hid c_0
  replace L0:=Lib.hid m_0
  clear m_0 c_0
  have HO1 : Hid (OwS w1 (fun g => S g ∧ lab g = 0) 53 3 (some ⟨g,0,none⟩) n c _):=OwS.chg ⟨HP1.out,HO.out.2⟩ HC1.out (fun i h1 h2 => by have e1:=h1.2;have e2:=h2.1.2;omega)
  have X1 : Hid (Chg (fun j => S j ∧ (lab j = 0 ∨ lab j = k + 1)) wr w1):=Chg.trans (Chg.trans (Chg.refl (fun j => S j ∧ (lab j = 0 ∨ lab j = k + 1)) wr) (HS1.out.mono fun i e => by rw [show i = g from e];exact ⟨HG0.out.1,.inl HG0.out.2⟩)) (HC1.out.mono fun i e => ⟨e.1.1,.inr e.1.2⟩)
  go_wp2
  go_roundw
  case rel =>
   have hlt:=HLT.out
   have tot:=X1.out
   have hcl:=HCL.out
   have f0 : ((cs.set (k * 3) (.int .i64 (Q))).set (k * 3 + 1) (.int .i64 (Q + 1)))[k * 3]? = some (.int .i64 (Q)):=by rw [List.getElem?_set_ne (by omega),List.getElem?_set_self (by (try simp only [List.length_set]);omega)]
   have f1 : ((cs.set (k * 3) (.int .i64 (Q))).set (k * 3 + 1) (.int .i64 (Q + 1)))[k * 3 + 1]? = some (.int .i64 (Q + 1)):=by rw [List.getElem?_set_self (by (try simp only [List.length_set]);omega)]
   have f2 : ((cs.set (k * 3) (.int .i64 (Q))).set (k * 3 + 1) (.int .i64 (Q + 1)))[k * 3 + 2]? = some (.slice A0 x.puts_.length c0):=by rw [List.getElem?_set_ne (by omega),List.getElem?_set_ne (by omega)];exact IX2.out
   refine ⟨k + 1,((cs.set (k * 3) (.int .i64 (Q))).set (k * 3 + 1) (.int .i64 (Q + 1))),by omega,by go_num,by congr 1;have a:=HCT.out;have b:=HQ.out;have cc : Wrote.ct x = 2 + x.puts_.length * 2:=rfl;omega,Lib.hid ⟨HO1.out.1,HO.out.2⟩,?_,HX.out.trans (tot.mono fun _ e => e.1)⟩
   rw [HNX.out,← HQ.out]
   refine WRows.set_ Wrote.W_good HR.out (by rw [mixl_len];exact HL.out) hlt tot (fun _ h1 _ => h1.2) ?_ (row':=[.int .i64 (Q),.int .i64 (Q + 1),.slice A0 x.puts_.length c0]) ⟨_,_,_,lam,rfl,⟨kh0,mh0,L0.out⟩⟩ ?_
   ·intro j hj
    rw [List.getElem?_set_ne (by omega),List.getElem?_set_ne (by omega)]
   ·intro j hj
    have hj2 : j = 0 ∨ j = 1 ∨ j = 2:=by omega
    rcases hj2 with rfl|rfl|rfl
    ·exact f0
    ·exact f1
    ·exact f2
  case measure => have h:=HLT.out;simp [intOf];omega
def Mem.mkE (q : Int) (x : Mem) : Mem:=⟨q,Word.marks (q + 1) x.cells_.length⟩
def Mem.mkA (q : Int) (x : Mem) : Mem:=⟨x.clock_,Word.marks (q) x.cells_.length⟩
def Mem.ct (x : Mem) : Nat:=1 + x.cells_.length * 3
def Mem.ca (x : Mem) : Nat:=x.cells_.length * 3
set_option maxRecDepth 8000 in
set_option maxHeartbeats 8000000 in
theorem markMem_any (x : Mem) (cs : List Value) (q : Int) (w : World) (S : Nat → Prop) (h : Mem.W w S cs x) (hS : ∀ g,S g → g < w.heap.size) (hq : 0 ≤ q) (hqn : q + Mem.ca x ≤ 9007199254740992) :
  Calls Tryz.prog 42 #[.agg cs.toArray,.int .i64 q] w fun e w' => e = .returned (.int .i64 (q + Mem.ca x)) ∧ Mem.W w' S cs (Mem.mkA q x) ∧ Chg S w w':=by
 have hca:=hqn
 unfold Mem.ca at hca
 obtain ⟨A0,n0,c0,lab,rfl,⟨kh0,mh0,h0⟩⟩:=h
 obtain rfl : n0 = x.cells_.length:=by have a:=h0.sl.flen Word.cells_length (by omega);omega
 have H0:=Lib.hid h0
 have HS:=Lib.hid hS
 clear hS h0
 show Calls Tryz.prog _ #[.agg #[.int .i64 x.clock_,.slice A0 x.cells_.length c0],.int .i64 q] w _
 go_enter Tryz.func42,Tryz.ntmps42
 go_wp2_with fail
 refine (markWordS_ow _ _ _ x.cells_ _ _ _ (H0.out.chg ((Chg.refl (fun _ => False) w).al _) (fun _ _ z => z)) (by omega) (by omega)).mono ?_
 rintro e w1 ⟨rfl,m0,c_0⟩
 have C0:=Lib.hid c_0
 have M0:=Lib.hid m0
 have Z1 : Hid (w.heap.size ≤ w1.heap.size):=by have a:=c_0.size;(try simp at a);show w.heap.size ≤ _;omega
 have b1 : Hid (Bx w1 w.heap.size 27 #[.int .i64 x.clock_,.slice A0 x.cells_.length c0]):=Bx.chg (Bx.new' _ _ _ rfl) c_0 (fun z => by have a:=HS.out _ z.1;omega)
 clear m0 c_0
 go_wp2
 go_ret
 exact ⟨congrArg (fun z => Ending.returned (.int .i64 z)) (by have cc : Mem.ca x = x.cells_.length * 3:=rfl;omega),⟨_,_,_,lab,rfl,⟨kh0,mh0,M0.out⟩⟩,Chg.trans (((Chg.refl S w).al (.cells #[.int .i64 x.clock_,.slice A0 x.cells_.length c0] 27))) (C0.out.mono fun _ z => z.1)⟩

end Go.Proofs.YtpmfhfpjiebcjaaGreat
