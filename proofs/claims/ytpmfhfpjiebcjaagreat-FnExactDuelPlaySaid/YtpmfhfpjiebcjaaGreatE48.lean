/- Held of JobRun, Wrote, Mem, Duel. No condition but sizes. -/
import Derived.Test.YtpmfhfpjiebcjaaGreatE00
import Derived.Test.YtpmfhfpjiebcjaaGreatE47
namespace Go.Proofs.YtpmfhfpjiebcjaaGreat
open Go.RowKit Go.Deep
set_option linter.unusedSimpArgs false
set_option linter.unusedVariables false

set_option maxRecDepth 8000 in
set_option maxHeartbeats 16000000 in
theorem heldWroteS_any (A : Option Addr) (n c : Nat) (l : List Wrote) (q : Int) (w : World) (S : Nat → Prop) (h : SlR Wrote.R 3 w S A n (mkl Wrote.mkE Wrote.ct q l)) (hq : 0 ≤ q) (hqn : q + (ctl Wrote.ct l : Nat) ≤ 9007199254740992) (hm : n ≤ 9223372036854775807) :
  Calls Tryz.prog 47 #[.slice A n c,.int .i64 q] w fun e w' => e = .returned (.int .i64 (q + (ctl Wrote.ct l : Nat))) ∧ Ext w w':=by
 have hl : l.length = n:=by rw [← h.1,mkl_len]
 have H:=Lib.hid h
 clear h
 have M:=Lib.hid (Mine.refl w)
 go_enter Tryz.func47,Tryz.ntmps47
 go_wp2
 go_loopw [1,5] (fun r i wr => ∃ k : Nat,k ≤ n ∧ i = .int .i64 k ∧ r = .int .i64 (q + (ctl Wrote.ct (l.take k) : Nat)) ∧ Hid (Mine w wr [])) (fun _ i _ => n - (intOf i).toNat)
 case atStart => exact ⟨0,Nat.zero_le _,rfl,by simp [ctl],M⟩
 case round =>
  clear M
  obtain ⟨k,hk,rfl,rfl,M⟩:=hrel
  by_cases hlt : (k : Int) < (n : Int)
  rotate_left
  ·have e : k = n:=by omega
   have e2 : l.take n = l:=by rw [← hl,List.take_length]
   subst e
   have E2:=Lib.hid e2
   clear e2 hl
   go_wp2
   go_ret
   exact ⟨by rw [E2.out];rfl,M.out.ext⟩
  obtain ⟨b,o,rfl⟩:=H.out.addr (by omega)
  obtain ⟨x,hx⟩ : ∃ x,l[k]? = some x:=⟨_,List.getElem?_eq_getElem (by omega)⟩
  obtain ⟨y,row,hy,hb,hr,hc⟩:=H.out.at_ (k:=k) (by omega)
  rw [mkl_get hx] at hy
  injection hy with hy
  subst hy
  have hct:=ctl_take (f:=Wrote.ct) hx
  have hle:=ctl_le (f:=Wrote.ct) l (k + 1)
  obtain ⟨Q,hQ⟩ : ∃ Q : Int,Q = q + (ctl Wrote.ct (l.take k) : Nat):=⟨_,rfl⟩
  have hQ0 : 0 ≤ Q:=by omega
  have hQn : Q + (Wrote.ct x : Nat) ≤ 9007199254740992:=by omega
  have HX:=Lib.hid hct
  have HQ:=Lib.hid hQ
  have HLT : Hid (k < n):=by show _ < _;omega
  rw [← hQ] at hr
  rw [← hQ]
  clear hct hle hQ hx hqn hq
  obtain ⟨A0,n0,c0,rfl,⟨-,m0,s0⟩⟩:=hr
  simp only [Wrote.mkE] at s0
  obtain rfl : n0 = x.puts_.length:=by have:=s0.flen Row.cells_length (by omega);rw [Row.marks_length] at this;exact this.symm
  have hcx : Wrote.ct x = 2 + x.puts_.length * 2:=rfl
  have c_0:=hc 0 (by omega)
  simp only [Wrote.mkE,List.cons_append,List.nil_append,List.getElem?_cons_succ,List.getElem?_cons_zero,Nat.add_zero] at c_0
  have c_1:=hc 1 (by omega)
  simp only [Wrote.mkE,List.cons_append,List.nil_append,List.getElem?_cons_succ,List.getElem?_cons_zero,Nat.add_zero] at c_1
  have c_2:=hc 2 (by omega)
  simp only [Wrote.mkE,List.cons_append,List.nil_append,List.getElem?_cons_succ,List.getElem?_cons_zero,Nat.add_zero] at c_2
  obtain ⟨Q1,hQ1⟩ : ∃ Q1 : Int,Q1 = Q + 1 + 1 + (x.puts_.length : Int) * 2:=⟨_,rfl⟩
  have i1 : 0 ≤ Q + 1 + 1 ∧ Q + 1 + 1 + (x.puts_.length : Int) * 2 ≤ 9007199254740992:=by omega
  have p1 : 0 ≤ Q1:=by omega
  have u1 : Q1 ≤ 9007199254740992:=by omega
  have b1 : decide (Q1 < 0) = false:=decide_eq_false (by omega)
  have hfin : Q1 = Q + (Wrote.ct x : Nat):=by omega
  have HF:=Lib.hid hfin
  clear hfin hcx
  have HE1:=Lib.hid hQ1
  clear hQ1
  have HL0:=Lib.hid s0
  clear s0
  have HC0 : Hid (w.cell? _ = some _ ∧ b < w.heap.size):=⟨c_0,hb⟩
  have HC1 : Hid (w.cell? _ = some _ ∧ b < w.heap.size):=⟨c_1,hb⟩
  have HC2 : Hid (w.cell? _ = some _ ∧ b < w.heap.size):=⟨c_2,hb⟩
  clear hb hc c_0 c_1 c_2
  go_wp2_with (first|(go_at_call 97;(with_reducible refine (heldRowS_any _ _ _ (Q + 1 + 1) _ S (HL0.out.ext M.out.ext) (by omega) (by omega)).mono ?_);rintro e w' ⟨rfl,x9⟩;replace M:=Lib.hid (M.out.on x9);clear x9;rw [← HE1.out])|((with_reducible show wpList _ _ _ (⟨_,_,_,_,_,none⟩::_) _ _);first|((first|refine Mine.wp_argc M.out rfl 3 _ rfl _ _ HC0.out rfl _ Tryz.underlying3 (by rfl) ?_|refine Mine.wp_argc M.out rfl 3 _ rfl _ _ HC1.out rfl _ Tryz.underlying3 (by rfl) ?_|refine Mine.wp_argc M.out rfl 51 _ rfl _ _ HC2.out rfl _ Tryz.underlying51 (by rfl) ?_);(try simp only [zr_,zm_]))))
  go_roundw
  case rel => exact ⟨k + 1,HLT.out,by go_num,by congr 1;have a:=HX.out;have b2:=HQ.out;have c2:=HF.out;omega,M⟩
  case measure => have h:=HLT.out;simp [intOf];omega
set_option maxRecDepth 8000 in
set_option maxHeartbeats 8000000 in
theorem heldMem_any (x : Mem) (cs : List Value) (q : Int) (w : World) (S : Nat → Prop) (h : Mem.R w S cs (Mem.mkA q x)) (hq : 0 ≤ q) (hqn : q + (Mem.ca x : Nat) ≤ 9007199254740992) :
  Calls Tryz.prog 45 #[.agg cs.toArray,.int .i64 q] w fun e w' => e = .returned (.int .i64 (q + (Mem.ca x : Nat))) ∧ Ext w w':=by
 have hca : Mem.ca x = x.cells_.length * 3:=rfl
 obtain ⟨A0,n0,c0,rfl,⟨-,m0,s0⟩⟩:=h
 simp only [Mem.mkA] at s0
 obtain rfl : n0 = x.cells_.length:=by have:=s0.flen Word.cells_length (by omega);rw [Word.marks_length] at this;exact this.symm
 obtain ⟨Q1,hQ1⟩ : ∃ Q1 : Int,Q1 = q + (x.cells_.length : Int) * 3:=⟨_,rfl⟩
 have p1 : 0 ≤ Q1:=by omega
 have u1 : Q1 ≤ 9007199254740992:=by omega
 have b1 : decide (Q1 < 0) = false:=decide_eq_false (by omega)
 have r0 : q + (x.cells_.length * 3 : Nat) ≤ 9007199254740992:=by omega
 have hfin : q + (Mem.ca x : Nat) = Q1:=by omega
 have HF:=Lib.hid hfin
 have HE1:=Lib.hid hQ1
 have HL0:=Lib.hid s0
 clear s0
 clear hca hqn hfin hQ1
 have M:=Lib.hid (Mine.refl w)
 show Calls Tryz.prog _ #[.agg #[.int .i64 x.clock_,.slice A0 x.cells_.length c0],.int .i64 q] w _
 go_enter Tryz.func45,Tryz.ntmps45
 go_wp2_with (first|(go_at_call 96;(with_reducible refine (heldWordS_any _ _ _ (q) _ S (HL0.out.ext M.out.ext) (by omega) (by omega)).mono ?_);rintro e w' ⟨rfl,x9⟩;replace M:=Lib.hid (M.out.on x9);clear x9;rw [← HE1.out])|((with_reducible show wpList _ _ _ (⟨_,_,_,_,_,none⟩::_) _ _);first|(refine Mine.wp_box M.out rfl 27 _ rfl _ rfl ?_;intro ga w' M';(try simp only [zr_,zm_] at M');replace M:=Lib.hid M';clear M';(try simp only [zr_,zm_]))|(refine zG M.out 0 ?_;(try simp only [zr_,zm_]))))
 go_ret
 exact ⟨by rw [HF.out];rfl,M.out.ext⟩
set_option maxRecDepth 8000 in
set_option maxHeartbeats 16000000 in
theorem heldJobRunS_any (A : Option Addr) (n c : Nat) (l : List JobRun) (q : Int) (w : World) (S : Nat → Prop) (h : SlR JobRun.R 18 w S A n (mkl JobRun.mkE JobRun.ct q l)) (hq : 0 ≤ q) (hqn : q + (ctl JobRun.ct l : Nat) ≤ 9007199254740992) (hm : n ≤ 9223372036854775807) :
  Calls Tryz.prog 46 #[.slice A n c,.int .i64 q] w fun e w' => e = .returned (.int .i64 (q + (ctl JobRun.ct l : Nat))) ∧ Ext w w':=by
 have hl : l.length = n:=by rw [← h.1,mkl_len]
 have H:=Lib.hid h
 clear h
 have M:=Lib.hid (Mine.refl w)
 go_enter Tryz.func46,Tryz.ntmps46
 go_wp2
 go_loopw [1,5] (fun r i wr => ∃ k : Nat,k ≤ n ∧ i = .int .i64 k ∧ r = .int .i64 (q + (ctl JobRun.ct (l.take k) : Nat)) ∧ Hid (Mine w wr [])) (fun _ i _ => n - (intOf i).toNat)
 case atStart => exact ⟨0,Nat.zero_le _,rfl,by simp [ctl],M⟩
 case round =>
  clear M
  obtain ⟨k,hk,rfl,rfl,M⟩:=hrel
  by_cases hlt : (k : Int) < (n : Int)
  rotate_left
  ·have e : k = n:=by omega
   have e2 : l.take n = l:=by rw [← hl,List.take_length]
   subst e
   have E2:=Lib.hid e2
   clear e2 hl
   go_wp2
   go_ret
   exact ⟨by rw [E2.out];rfl,M.out.ext⟩
  obtain ⟨b,o,rfl⟩:=H.out.addr (by omega)
  obtain ⟨x,hx⟩ : ∃ x,l[k]? = some x:=⟨_,List.getElem?_eq_getElem (by omega)⟩
  obtain ⟨y,row,hy,hb,hr,hc⟩:=H.out.at_ (k:=k) (by omega)
  rw [mkl_get hx] at hy
  injection hy with hy
  subst hy
  have hct:=ctl_take (f:=JobRun.ct) hx
  have hle:=ctl_le (f:=JobRun.ct) l (k + 1)
  obtain ⟨Q,hQ⟩ : ∃ Q : Int,Q = q + (ctl JobRun.ct (l.take k) : Nat):=⟨_,rfl⟩
  have hQ0 : 0 ≤ Q:=by omega
  have hQn : Q + (JobRun.ct x : Nat) ≤ 9007199254740992:=by omega
  have HX:=Lib.hid hct
  have HQ:=Lib.hid hQ
  have HLT : Hid (k < n):=by show _ < _;omega
  rw [← hQ] at hr
  rw [← hQ]
  clear hct hle hQ hx hqn hq
  obtain ⟨A0,n0,c0,v1,rfl,⟨-,m0,s0⟩,h1⟩:=hr
  obtain ⟨A1,n1,c1,A2,n2,c2,rfl,⟨-,m1,s1⟩,⟨-,m2,s2⟩⟩:=h1
  simp only [JobRun.mkE] at s0 s1 s2
  obtain rfl : n0 = x.seen_.length:=by have:=s0.flen Row.cells_length (by omega);rw [Row.marks_length] at this;exact this.symm
  obtain rfl : n1 = x.commit_.puts_.length:=by have:=s1.flen Row.cells_length (by omega);rw [Row.marks_length] at this;exact this.symm
  obtain rfl : x.commit_.reads_.length = n2:=by have:=s2.len;rw [marks_length] at this;exact this
  have hcx : JobRun.ct x = 15 + x.seen_.length * 2 + x.commit_.puts_.length * 2 + x.commit_.reads_.length:=rfl
  have c_0:=hc 0 (by omega)
  simp only [JobRun.mkE,List.cons_append,List.nil_append,List.getElem?_cons_succ,List.getElem?_cons_zero,Nat.add_zero] at c_0
  have c_1:=hc 1 (by omega)
  simp only [JobRun.mkE,List.cons_append,List.nil_append,List.getElem?_cons_succ,List.getElem?_cons_zero,Nat.add_zero] at c_1
  have c_2:=hc 2 (by omega)
  simp only [JobRun.mkE,List.cons_append,List.nil_append,List.getElem?_cons_succ,List.getElem?_cons_zero,Nat.add_zero] at c_2
  have c_3:=hc 3 (by omega)
  simp only [JobRun.mkE,List.cons_append,List.nil_append,List.getElem?_cons_succ,List.getElem?_cons_zero,Nat.add_zero] at c_3
  have c_4:=hc 4 (by omega)
  simp only [JobRun.mkE,List.cons_append,List.nil_append,List.getElem?_cons_succ,List.getElem?_cons_zero,Nat.add_zero] at c_4
  have c_5:=hc 5 (by omega)
  simp only [JobRun.mkE,List.cons_append,List.nil_append,List.getElem?_cons_succ,List.getElem?_cons_zero,Nat.add_zero] at c_5
  have c_6:=hc 6 (by omega)
  simp only [JobRun.mkE,List.cons_append,List.nil_append,List.getElem?_cons_succ,List.getElem?_cons_zero,Nat.add_zero] at c_6
  have c_7:=hc 7 (by omega)
  simp only [JobRun.mkE,List.cons_append,List.nil_append,List.getElem?_cons_succ,List.getElem?_cons_zero,Nat.add_zero] at c_7
  have c_8:=hc 8 (by omega)
  simp only [JobRun.mkE,List.cons_append,List.nil_append,List.getElem?_cons_succ,List.getElem?_cons_zero,Nat.add_zero] at c_8
  have c_9:=hc 9 (by omega)
  simp only [JobRun.mkE,List.cons_append,List.nil_append,List.getElem?_cons_succ,List.getElem?_cons_zero,Nat.add_zero] at c_9
  have c_10:=hc 10 (by omega)
  simp only [JobRun.mkE,List.cons_append,List.nil_append,List.getElem?_cons_succ,List.getElem?_cons_zero,Nat.add_zero] at c_10
  have c_11:=hc 11 (by omega)
  simp only [JobRun.mkE,List.cons_append,List.nil_append,List.getElem?_cons_succ,List.getElem?_cons_zero,Nat.add_zero] at c_11
  have c_12:=hc 12 (by omega)
  simp only [JobRun.mkE,List.cons_append,List.nil_append,List.getElem?_cons_succ,List.getElem?_cons_zero,Nat.add_zero] at c_12
  have c_13:=hc 13 (by omega)
  simp only [JobRun.mkE,List.cons_append,List.nil_append,List.getElem?_cons_succ,List.getElem?_cons_zero,Nat.add_zero] at c_13
  have c_14:=hc 14 (by omega)
  simp only [JobRun.mkE,List.cons_append,List.nil_append,List.getElem?_cons_succ,List.getElem?_cons_zero,Nat.add_zero] at c_14
  have c_15:=hc 15 (by omega)
  simp only [JobRun.mkE,List.cons_append,List.nil_append,List.getElem?_cons_succ,List.getElem?_cons_zero,Nat.add_zero] at c_15
  have c_16:=hc 16 (by omega)
  simp only [JobRun.mkE,List.cons_append,List.nil_append,List.getElem?_cons_succ,List.getElem?_cons_zero,Nat.add_zero] at c_16
  have c_17:=hc 17 (by omega)
  simp only [JobRun.mkE,List.cons_append,List.nil_append,List.getElem?_cons_succ,List.getElem?_cons_zero,Nat.add_zero] at c_17
  obtain ⟨Q1,hQ1⟩ : ∃ Q1 : Int,Q1 = Q + 1 + 1 + 1 + 1 + 1 + (x.seen_.length : Int) * 2:=⟨_,rfl⟩
  rw [← hQ1] at s1 s2 c_6 c_7 c_8 c_9 c_10 c_11 c_12 c_13 c_14 c_15
  obtain ⟨Q2,hQ2⟩ : ∃ Q2 : Int,Q2 = Q1 + 1 + 1 + 1 + 1 + 1 + 1 + 1 + 1 + 1 + 1 + (x.commit_.puts_.length : Int) * 2:=⟨_,rfl⟩
  rw [← hQ2] at s2
  obtain ⟨Q3,hQ3⟩ : ∃ Q3 : Int,Q3 = Q2 + (x.commit_.reads_.length : Int):=⟨_,rfl⟩
  have i1 : 0 ≤ Q + 1 + 1 + 1 + 1 + 1 ∧ Q + 1 + 1 + 1 + 1 + 1 + (x.seen_.length : Int) * 2 ≤ 9007199254740992:=by omega
  have i2 : 0 ≤ Q1 + 1 + 1 + 1 + 1 + 1 + 1 + 1 + 1 + 1 + 1 ∧ Q1 + 1 + 1 + 1 + 1 + 1 + 1 + 1 + 1 + 1 + 1 + (x.commit_.puts_.length : Int) * 2 ≤ 9007199254740992:=by omega
  have i3 : 0 ≤ Q2 ∧ Q2 + (x.commit_.reads_.length : Int) ≤ 9007199254740992:=by omega
  have p1 : 0 ≤ Q1:=by omega
  have u1 : Q1 ≤ 9007199254740992:=by omega
  have b1 : decide (Q1 < 0) = false:=decide_eq_false (by omega)
  have p2 : 0 ≤ Q2:=by omega
  have u2 : Q2 ≤ 9007199254740992:=by omega
  have b2 : decide (Q2 < 0) = false:=decide_eq_false (by omega)
  have p3 : 0 ≤ Q3:=by omega
  have u3 : Q3 ≤ 9007199254740992:=by omega
  have b3 : decide (Q3 < 0) = false:=decide_eq_false (by omega)
  have r2 : Q2 + ((x.commit_.reads_.length : Nat)) ≤ 9007199254740992:=by omega
  have r1 : Q1 + ((x.commit_.reads_.length : Nat) + (x.commit_.puts_.length * 2 : Nat) + 1 + 1 + 1 + 1 + 1 + 1 + 1 + 1 + 1 + 1) ≤ 9007199254740992:=by omega
  have bb_0 : (((Q1) % 3 == 0) != ((Q1) % 3 == 0)) = false:=by simp
  have hfin : Q3 = Q + (JobRun.ct x : Nat):=by omega
  have HF:=Lib.hid hfin
  clear hfin hcx
  have HE1:=Lib.hid hQ1
  have HE2:=Lib.hid hQ2
  have HE3:=Lib.hid hQ3
  clear hQ1 hQ2 hQ3
  have HL0:=Lib.hid s0
  have HL1:=Lib.hid s1
  have HL2:=Lib.hid s2
  clear s0 s1 s2
  have HC0 : Hid (w.cell? _ = some _ ∧ b < w.heap.size):=⟨c_0,hb⟩
  have HC1 : Hid (w.cell? _ = some _ ∧ b < w.heap.size):=⟨c_1,hb⟩
  have HC2 : Hid (w.cell? _ = some _ ∧ b < w.heap.size):=⟨c_2,hb⟩
  have HC3 : Hid (w.cell? _ = some _ ∧ b < w.heap.size):=⟨c_3,hb⟩
  have HC4 : Hid (w.cell? _ = some _ ∧ b < w.heap.size):=⟨c_4,hb⟩
  have HC5 : Hid (w.cell? _ = some _ ∧ b < w.heap.size):=⟨c_5,hb⟩
  have HC6 : Hid (w.cell? _ = some _ ∧ b < w.heap.size):=⟨c_6,hb⟩
  have HC7 : Hid (w.cell? _ = some _ ∧ b < w.heap.size):=⟨c_7,hb⟩
  have HC8 : Hid (w.cell? _ = some _ ∧ b < w.heap.size):=⟨c_8,hb⟩
  have HC9 : Hid (w.cell? _ = some _ ∧ b < w.heap.size):=⟨c_9,hb⟩
  have HC10 : Hid (w.cell? _ = some _ ∧ b < w.heap.size):=⟨c_10,hb⟩
  have HC11 : Hid (w.cell? _ = some _ ∧ b < w.heap.size):=⟨c_11,hb⟩
  have HC12 : Hid (w.cell? _ = some _ ∧ b < w.heap.size):=⟨c_12,hb⟩
  have HC13 : Hid (w.cell? _ = some _ ∧ b < w.heap.size):=⟨c_13,hb⟩
  have HC14 : Hid (w.cell? _ = some _ ∧ b < w.heap.size):=⟨c_14,hb⟩
  have HC15 : Hid (w.cell? _ = some _ ∧ b < w.heap.size):=⟨c_15,hb⟩
  have HC16 : Hid (w.cell? _ = some _ ∧ b < w.heap.size):=⟨c_16,hb⟩
  have HC17 : Hid (w.cell? _ = some _ ∧ b < w.heap.size):=⟨c_17,hb⟩
  clear hb hc c_0 c_1 c_2 c_3 c_4 c_5 c_6 c_7 c_8 c_9 c_10 c_11 c_12 c_13 c_14 c_15 c_16 c_17
  go_wp2_with (first|(go_at_call 97;(with_reducible refine (heldRowS_any _ _ _ (Q + 1 + 1 + 1 + 1 + 1) _ S (HL0.out.ext M.out.ext) (by omega) (by omega)).mono ?_);rintro e w' ⟨rfl,x9⟩;replace M:=Lib.hid (M.out.on x9);clear x9;rw [← HE1.out])|(go_at_call 97;(with_reducible refine (heldRowS_any _ _ _ (Q1 + 1 + 1 + 1 + 1 + 1 + 1 + 1 + 1 + 1 + 1) _ S (HL1.out.ext M.out.ext) (by omega) (by omega)).mono ?_);rintro e w' ⟨rfl,x9⟩;replace M:=Lib.hid (M.out.on x9);clear x9;rw [← HE2.out])|(go_at_call 98;(with_reducible refine (heldIntS_any _ _ _ (Q2) _ S (HL2.out.ext M.out.ext) (by omega) (by omega)).mono ?_);rintro e w' ⟨rfl,rfl⟩;rw [← HE3.out])|((with_reducible show wpList _ _ _ (⟨_,_,_,_,_,none⟩::_) _ _);first|((first|refine Mine.wp_argc M.out rfl 3 _ rfl _ _ HC0.out rfl _ Tryz.underlying3 (by rfl) ?_|refine Mine.wp_argc M.out rfl 3 _ rfl _ _ HC1.out rfl _ Tryz.underlying3 (by rfl) ?_|refine Mine.wp_argc M.out rfl 3 _ rfl _ _ HC2.out rfl _ Tryz.underlying3 (by rfl) ?_|refine Mine.wp_argc M.out rfl 3 _ rfl _ _ HC3.out rfl _ Tryz.underlying3 (by rfl) ?_|refine Mine.wp_argc M.out rfl 3 _ rfl _ _ HC4.out rfl _ Tryz.underlying3 (by rfl) ?_|refine Mine.wp_argc M.out rfl 51 _ rfl _ _ HC5.out rfl _ Tryz.underlying51 (by rfl) ?_|refine Mine.wp_argc M.out rfl 4 _ rfl _ _ HC6.out rfl _ Tryz.underlying4 (by rfl) ?_|refine Mine.wp_argc M.out rfl 3 _ rfl _ _ HC7.out rfl _ Tryz.underlying3 (by rfl) ?_|refine Mine.wp_argc M.out rfl 3 _ rfl _ _ HC8.out rfl _ Tryz.underlying3 (by rfl) ?_|refine Mine.wp_argc M.out rfl 3 _ rfl _ _ HC9.out rfl _ Tryz.underlying3 (by rfl) ?_|refine Mine.wp_argc M.out rfl 3 _ rfl _ _ HC10.out rfl _ Tryz.underlying3 (by rfl) ?_|refine Mine.wp_argc M.out rfl 3 _ rfl _ _ HC11.out rfl _ Tryz.underlying3 (by rfl) ?_|refine Mine.wp_argc M.out rfl 3 _ rfl _ _ HC12.out rfl _ Tryz.underlying3 (by rfl) ?_|refine Mine.wp_argc M.out rfl 3 _ rfl _ _ HC13.out rfl _ Tryz.underlying3 (by rfl) ?_|refine Mine.wp_argc M.out rfl 3 _ rfl _ _ HC14.out rfl _ Tryz.underlying3 (by rfl) ?_|refine Mine.wp_argc M.out rfl 3 _ rfl _ _ HC15.out rfl _ Tryz.underlying3 (by rfl) ?_|refine Mine.wp_argc M.out rfl 51 _ rfl _ _ HC16.out rfl _ Tryz.underlying51 (by rfl) ?_|refine Mine.wp_argc M.out rfl 22 _ rfl _ _ HC17.out rfl _ Tryz.underlying22 (by rfl) ?_);(try simp only [zr_,zm_]))))
  go_roundw
  case rel => exact ⟨k + 1,HLT.out,by go_num,by congr 1;have a:=HX.out;have b2:=HQ.out;have c2:=HF.out;omega,M⟩
  case measure => have h:=HLT.out;simp [intOf];omega
set_option maxRecDepth 8000 in
set_option maxHeartbeats 8000000 in
theorem heldDuel_any (x : Duel) (cs : List Value) (q : Int) (w : World) (S : Nat → Prop) (h : Duel.R w S cs (Duel.mkA q x)) (hq : 0 ≤ q) (hqn : q + (Duel.ca x : Nat) ≤ 9007199254740992) :
  Calls Tryz.prog 16 #[.agg cs.toArray,.int .i64 q] w fun e w' => e = .returned (.int .i64 (q + (Duel.ca x : Nat))) ∧ Ext w w':=by
 have hca : Duel.ca x = x.mem_.cells_.length * 3 + ctl JobRun.ct x.jobs_ + ctl Wrote.ct x.hist_:=rfl
 obtain ⟨v0,A1,n1,c1,A2,n2,c2,rfl,h0,⟨-,m1,s1⟩,⟨-,m2,s2⟩⟩:=h
 have h0m : Mem.R w S v0 (Mem.mkA q x.mem_):=h0
 have HL0:=Lib.hid h0m
 obtain ⟨A0,n0,c0,rfl⟩:=Mem.R_cells h0
 clear h0 h0m
 replace HL0 : Hid (Mem.R w S [.int .i64 x.mem_.clock_,.slice A0 n0 c0] (Mem.mkA q x.mem_)):=HL0
 simp only [Duel.mkA] at s1
 simp only [Duel.mkA] at s2
 obtain rfl : n1 = x.jobs_.length:=by have:=s1.1;rw [mkl_len] at this;exact this.symm
 obtain rfl : n2 = x.hist_.length:=by have:=s2.1;rw [mkl_len] at this;exact this.symm
 obtain ⟨Q1,hQ1⟩ : ∃ Q1 : Int,Q1 = q + (x.mem_.cells_.length : Int) * 3:=⟨_,rfl⟩
 rw [← hQ1] at s1 s2
 have hcn1 : Mem.ca x.mem_ = x.mem_.cells_.length * 3:=rfl
 have hQn1 : Hid (q + (Mem.ca x.mem_ : Nat) = Q1):=by show _ = _;omega
 obtain ⟨Q2,hQ2⟩ : ∃ Q2 : Int,Q2 = Q1 + (ctl JobRun.ct x.jobs_ : Nat):=⟨_,rfl⟩
 rw [← hQ2] at s2
 obtain ⟨Q3,hQ3⟩ : ∃ Q3 : Int,Q3 = Q2 + (ctl Wrote.ct x.hist_ : Nat):=⟨_,rfl⟩
 have p1 : 0 ≤ Q1:=by omega
 have u1 : Q1 ≤ 9007199254740992:=by omega
 have b1 : decide (Q1 < 0) = false:=decide_eq_false (by omega)
 have p2 : 0 ≤ Q2:=by omega
 have u2 : Q2 ≤ 9007199254740992:=by omega
 have b2 : decide (Q2 < 0) = false:=decide_eq_false (by omega)
 have p3 : 0 ≤ Q3:=by omega
 have u3 : Q3 ≤ 9007199254740992:=by omega
 have b3 : decide (Q3 < 0) = false:=decide_eq_false (by omega)
 have r0 : q + (Mem.ca x.mem_ : Nat) ≤ 9007199254740992:=by omega
 have r1 : Q1 + (ctl JobRun.ct x.jobs_ : Nat) ≤ 9007199254740992:=by omega
 have r2 : Q2 + (ctl Wrote.ct x.hist_ : Nat) ≤ 9007199254740992:=by omega
 have hfin : q + (Duel.ca x : Nat) = Q3:=by omega
 have HF:=Lib.hid hfin
 have HE1:=Lib.hid hQ1
 have HE2:=Lib.hid hQ2
 have HE3:=Lib.hid hQ3
 have HL1:=Lib.hid s1
 clear s1
 have HL2:=Lib.hid s2
 clear s2
 clear hca hqn hfin hQ1 hQ2 hQ3 hcn1
 have M:=Lib.hid (Mine.refl w)
 show Calls Tryz.prog _ #[.agg #[.int .i64 x.mem_.clock_,.slice A0 n0 c0,.slice A1 x.jobs_.length c1,.slice A2 x.hist_.length c2],.int .i64 q] w _
 go_enter Tryz.func16,Tryz.ntmps16
 go_wp2_with (first|(go_at_call 45;(with_reducible refine (heldMem_any x.mem_ _ (q) _ S (Mem.R_good.ext HL0.out M.out.ext) (by omega) (by omega)).mono ?_);rintro e w' ⟨rfl,x9⟩;replace M:=Lib.hid (M.out.on x9);clear x9;rw [hQn1.out])|(go_at_call 46;(with_reducible refine (heldJobRunS_any _ _ _ x.jobs_ (Q1) _ S (HL1.out.ext JobRun.R_good M.out.ext) (by omega) (by omega) (by omega)).mono ?_);rintro e w' ⟨rfl,x9⟩;replace M:=Lib.hid (M.out.on x9);clear x9;rw [← HE2.out])|(go_at_call 47;(with_reducible refine (heldWroteS_any _ _ _ x.hist_ (Q2) _ S (HL2.out.ext Wrote.R_good M.out.ext) (by omega) (by omega) (by omega)).mono ?_);rintro e w' ⟨rfl,x9⟩;replace M:=Lib.hid (M.out.on x9);clear x9;rw [← HE3.out])|((with_reducible show wpList _ _ _ (⟨_,_,_,_,_,none⟩::_) _ _);first|(refine Mine.wp_box M.out rfl 31 _ rfl _ rfl ?_;intro ga w' M';(try simp only [zr_,zm_] at M');replace M:=Lib.hid M';clear M';(try simp only [zr_,zm_]))|((first|refine zGs M.out 27 0 2 ?_|refine zG M.out 0 ?_);(try simp only [zr_,zm_]))))
 go_ret
 exact ⟨by rw [HF.out];rfl,M.out.ext⟩

end Go.Proofs.YtpmfhfpjiebcjaaGreat
