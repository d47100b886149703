/- Draws of duels: whose step it is. No condition but lengths. MemOk of program and reference. No condition. -/
import Derived.Test.YtpmfhfpjiebcjaaGreatD00
import Derived.Test.YtpmfhfpjiebcjaaGreatD04
import Derived.Test.YtpmfhfpjiebcjaaGreatD02
namespace Go.Proofs.YtpmfhfpjiebcjaaGreat
open Go.RowKit Go.Deep
set_option linter.unnecessarySimpa false
set_option linter.unusedSimpArgs false
set_option linter.unusedVariables false

set_option maxHeartbeats 4000000 in
theorem l1BelowB_any (g : Nat) (S : Nat → Prop) (A : Option Addr) (n c : Nat) (bs : List UInt8) (i h : Int) (q : Int) (w : World) (k : Cur w g S A n c bs i h) (hn : n ≤ 1048576) (hq : q ≤ 2097152) :
  Calls Tryz.prog 54 #[.pointer (some ⟨g,0,none⟩),.int .i64 q] w fun e w' => ∃ x i' h' : Int,e = .returned (.int .i64 x) ∧ (0 ≤ x ∧ (x < q ∨ x = 0)) ∧ Cur w' g S A n c bs i' h' ∧ Chg (fun j => j = g) w w':=by
 by_cases hq2 : q ≤ 256
 ·exact l1Below_any g S A n c bs i h q w k hn hq2
 have K:=Lib.hid k
 clear k
 go_enter Tryz.func54,Tryz.ntmps54
 go_wp2_with fail
 refine (l1Byte_any g S A n c bs i h w K.out hn).mono ?_
 rintro e w1 ⟨x,i1,h1,rfl,⟨x0,x1⟩,k1,c1⟩
 have K1:=Lib.hid k1
 have C1:=Lib.hid c1
 clear k1 c1
 go_wp2_with fail
 refine (l1Byte_any g S A n c bs i1 h1 w1 K1.out hn).mono ?_
 rintro e w2 ⟨y,i2,h2,rfl,⟨y0,y1⟩,k1,c1⟩
 have K2:=Lib.hid k1
 have C2:=Lib.hid (Chg.trans C1.out c1)
 clear k1 c1
 go_wp2_with fail
 refine (l1Byte_any g S A n c bs i2 h2 w2 K2.out hn).mono ?_
 rintro e w3 ⟨z,i3,h3,rfl,⟨z0,z1⟩,k1,c1⟩
 have K3:=Lib.hid k1
 have C3:=Lib.hid (Chg.trans C2.out c1)
 clear k1 c1
 go_wp2_with fail
 refine (l1Byte_any g S A n c bs i3 h3 w3 K3.out hn).mono ?_
 rintro e w4 ⟨u,i4,h4,rfl,⟨u0,u1⟩,k1,c1⟩
 have K4:=Lib.hid k1
 have C4:=Lib.hid (Chg.trans C3.out c1)
 clear k1 c1
 have e0 : 0 ≤ x * 16777216 + y * 65536 + z * 256 + u:=by omega
 have hm : Int.tmod (x * 16777216 + y * 65536 + z * 256 + u) q = (x * 16777216 + y * 65536 + z * 256 + u) % q:=Int.tmod_eq_emod_of_nonneg e0
 have hr:=Int.emod_nonneg (x * 16777216 + y * 65536 + z * 256 + u) (show q ≠ 0 by omega)
 have hr2:=Int.emod_lt_of_pos (x * 16777216 + y * 65536 + z * 256 + u) (show 0 < q by omega)
 have HR:=Lib.hid (And.intro hr hr2)
 have hq0 : ¬ q = 0:=by omega
 clear hr hr2 hm
 go_wp2
 go_ret
 exact ⟨(x * 16777216 + y * 65536 + z * 256 + u) % q,i4,h4,rfl,⟨HR.out.1,.inl HR.out.2⟩,K4.out,C4.out⟩
theorem belowB_m {b w : World} {g : Nat} {A : Option Addr} {n c : Nat} {bs : List UInt8} {fr : List Res} (h : CurM b w g A n c bs fr) (hn : n ≤ 1048576) (q : Int) (hq : q ≤ 2097152) :
  Calls Tryz.prog 54 #[.pointer (some ⟨g,0,none⟩),.int .i64 q] w fun e w' => (∃ x : Int,e = .returned (.int .i64 x) ∧ (0 ≤ x ∧ (x < q ∨ x = 0))) ∧ CurM b w' g A n c bs fr :=
 h.lift fun i q' k => (l1BelowB_any g _ A n c bs i q' q w k hn hq).mono fun e w' ⟨x,i',h',he,hx,k',c'⟩ => ⟨i',h',⟨x,he,hx⟩,k',c'⟩
/-- A job and where its two slices lie. -/
structure GEnt where
 r : Option Addr × Nat × Nat
 p : Option Addr × Nat × Nat
 j : Job
def gcell (e : GEnt) : List Value:=[.slice e.r.1 e.r.2.1 e.r.2.2,.slice e.p.1 e.p.2.1 e.p.2.2]
def grows (e : GEnt) : List Res:=[.row 3 1 e.r.1 e.r.2.1 e.r.2.2 (ints e.j.reads_),.row 97 2 e.p.1 e.p.2.1 e.p.2.2 (e.j.puts_.flatMap Row.cells)]
theorem gcell_length (e : GEnt) : (gcell e).length = 2:=rfl
theorem grows_length (e : GEnt) : (grows e).length = 2:=rfl
theorem CurM.op {b w : World} {g : Nat} {A : Option Addr} {n c : Nat} {bs : List UInt8} {fr : List Res} (h : CurM b w g A n c bs fr) : ∃ i q : Int,(0 ≤ i ∧ i ≤ n) ∧ Mine b w (.box g 123 #[.slice A n c,.int .i64 i,.int .i64 q]::fr):=by
 obtain ⟨i,q,h0,h1,M⟩:=h.st
 exact ⟨i,q,⟨h0,h1⟩,M⟩
theorem CurM.cl {b w w' : World} {g : Nat} {A : Option Addr} {n c : Nat} {bs : List UInt8} {fr fr' : List Res} (h : CurM b w g A n c bs fr) {i q : Int} (hi : 0 ≤ i ∧ i ≤ n) (M : Mine b w' (.box g 123 #[.slice A n c,.int .i64 i,.int .i64 q]::fr')) : CurM b w' g A n c bs fr':=⟨⟨i,q,hi.1,hi.2,M⟩,h.sl⟩
theorem own_emptyG (w : World) : (w.alloc (.cells #[] 72)).ownsRow w.heap.size 72 2 (.slice (some ⟨w.heap.size,0,none⟩) 0 0) 0 (([] : List GEnt).flatMap gcell) :=
 World.ownsRow_lit w #[] 0 (Nat.le_refl _) (Nat.zero_le _) (by simp)
theorem Tryz.infoJob2 : (Tryz.prog.info? 72).map (fun i => (i.zero,i.size,i.bytes)) = some (some (.agg #[.slice none 0 0,.slice none 0 0]),2,48):=by kernel_rfl

set_option maxRecDepth 8000 in
set_option maxHeartbeats 8000000 in
theorem l12Picks_m {b w : World} {g : Nat} {A : Option Addr} {n c : Nat} {bs : List UInt8} {fr : List Res} (C0 : CurM b w g A n c bs fr) (hn : n ≤ 1048576) (N : Int) (hN : 0 ≤ N ∧ N ≤ 256) (most : Int) (hmost : most ≤ 1100000) :
  Calls Tryz.prog 53 #[.pointer (some ⟨g,0,none⟩),.int .i64 N,.int .i64 most] w fun e w' => ∃ (B : Option Addr) (m d : Nat) (zs : List Int),e = .returned (.slice B m d) ∧ m ≤ 1100002 ∧ CurM b w' g A n c bs (.row 3 1 B m d (ints zs)::fr):=by
 have C:=Lib.hid (C0.row ((Ext.refl' _).al _) (own_emptySt w))
 clear C0
 go_enter Tryz.func53,Tryz.ntmps53
 go_wp2
 go_loopw [7,8,9] (fun u la i wr => ∃ (m d : Nat) (B : Option Addr) (zs : List Int) (l9 : Int),m ≤ 1100000 ∧ u = .slice B m d ∧ la = .int .i64 l9 ∧ i = .int .i64 m ∧ Hid (CurM b wr g A n c bs (.row 3 1 B m d (ints zs)::fr))) (fun _ _ i _ => (most - intOf i).toNat)
 case atStart => exact ⟨0,_,_,[],0,by omega,rfl,rfl,rfl,C⟩
 case round =>
  clear C
  obtain ⟨m,d,B,zs,l9,hm,rfl,rfl,rfl,C⟩:=hrel
  by_cases hlt : (m : Int) < most
  rotate_left
  ·skip
   go_wp2_with fail
   refine (once_m C.out hn 12 (by omega)).mono ?_
   rintro e w9 ⟨⟨x,rfl⟩,C1⟩
   replace C:=Lib.hid C1
   clear C1
   cases x
   ·go_wp2
    go_ret
    first|exact ⟨_,_,_,zs,rfl,by omega,C.out⟩|exact ⟨_,_,_,rfl,by omega,zs,C.out⟩
   obtain ⟨i9,q9,hi9,M9⟩:=C.out.op
   have M:=Lib.hid M9
   clear M9
   go_wp2_with (first|(at_builtin;refine Mine.wp_pushq M.out rfl _ _ 22 rfl 3 _ _ _ Tryz.underlying22 Tryz.infoInt rfl (by omega) 1 rfl rfl 2 (by omega) [.int .i64 (-1),.int .i64 N] _ rfl rfl rfl (by simp [Value.oneCell']) (by omega) (by unfold maxLen;omega) ?_;intro A2 c2 w' M';replace M:=Lib.hid M';clear M'))
   have M8:=M.out
   simp only [List.set_cons_succ,List.set_cons_zero] at M8
   rw [show ints zs ++ [Value.int .i64 (-1),.int .i64 N] = ints (zs ++ [-1,N]) from by simp [ints]] at M8
   have C8:=C.out.cl hi9 M8
   go_ret
   first|exact ⟨_,_,_,zs ++ [-1,N],rfl,by omega,C8⟩|exact ⟨_,_,_,rfl,by omega,zs ++ [-1,N],C8⟩
  have HLT : Hid ((m : Int) < most):=hlt
  go_wp2_with fail
  refine (once_m C.out hn 3 (by omega)).mono ?_
  rintro e w9 ⟨⟨x,rfl⟩,C1⟩
  replace C:=Lib.hid C1
  clear C1
  cases x
  ·skip
   go_wp2_with fail
   refine (below_m C.out hn N (by omega)).mono ?_
   rintro e w9 ⟨⟨l8,rfl,hl8⟩,C1⟩
   replace C:=Lib.hid C1
   clear C1
   obtain ⟨i9,q9,hi9,M9⟩:=C.out.op
   have M:=Lib.hid M9
   clear M9
   go_wp2_with (first|(at_builtin;refine Mine.wp_push M.out rfl _ _ 22 rfl 3 _ _ _ Tryz.underlying22 Tryz.infoInt rfl (by omega) 1 rfl rfl _ _ rfl rfl rfl (by simp [Value.oneCell']) (by omega) (by unfold maxLen;omega) ?_;intro A2 c2 w' M';(try simp only [zr_,zm_] at M');replace M:=Lib.hid M';clear M'))
   go_roundw
   case rel => exact ⟨m + 1,_,_,_,_,by have:=HLT.out;omega,rfl,rfl,by go_num,Lib.hid (C.out.cl hi9 M.out)⟩
   case measure => have:=HLT.out;simp [intOf];omega
  ·skip
   obtain ⟨i9,q9,hi9,M9⟩:=C.out.op
   have M:=Lib.hid M9
   clear M9
   go_wp2_with (first|(at_builtin;refine Mine.wp_push M.out rfl _ _ 22 rfl 3 _ _ _ Tryz.underlying22 Tryz.infoInt rfl (by omega) 1 rfl rfl _ _ rfl rfl rfl (by simp [Value.oneCell']) (by omega) (by unfold maxLen;omega) ?_;intro A2 c2 w' M';(try simp only [zr_,zm_] at M');replace M:=Lib.hid M';clear M'))
   go_roundw
   case rel => exact ⟨m + 1,_,_,_,_,by have:=HLT.out;omega,rfl,rfl,by go_num,Lib.hid (C.out.cl hi9 M.out)⟩
   case measure => have:=HLT.out;simp [intOf];omega

end Go.Proofs.YtpmfhfpjiebcjaaGreat
namespace Go.Proofs.YtpmfhfpjiebcjaaGreat
open Go.RowKit Go.Deep
set_option linter.unnecessarySimpa false

def Word.fine (clock : Int) (x : Word) : Prop:=(0 ≤ x.val_ ∧ x.val_ ≤ 65535) ∧ (0 ≤ x.ver_ ∧ x.ver_ ≤ clock) ∧ (0 ≤ x.owner_ ∧ x.owner_ ≤ 99)
def memP (m : Mem) : Prop:=AllTo (fun _ x => Word.fine m.clock_ x) m.cells_ m.cells_.length ∧ m.cells_.length = 8 ∧ (0 ≤ m.clock_ ∧ m.clock_ ≤ 1000000)
noncomputable def memOk (m : Mem) : Bool:=dec (memP m)
set_option maxHeartbeats 8000000 in
theorem impl_MemOk (m : Mem) (A : Option Addr) (n c : Nat) (w : World) (S : Nat → Prop) (hm : n ≤ 9223372036854775807) (h : Sl w S 3 A n (m.cells_.flatMap Word.cells)) :
  Calls Tryz.prog 65 #[.agg #[.int .i64 m.clock_,.slice A n c]] w fun e w' => e = .returned (.bool (memOk m)) ∧ Ext w w':=by
 have H:=Lib.hid (h.flen Word.cells_length (by omega))
 have HX0:=Lib.hid ((Ext.refl' w).al (.cells #[.int .i64 m.clock_,.slice A n c] 27))
 have HB0 : Hid (Bx (w.alloc (.cells #[.int .i64 m.clock_,.slice A n c] 27)) w.heap.size 27 #[.int .i64 m.clock_,.slice A n c]):=Bx.new' _ _ _ rfl
 have HS:=Lib.hid h
 clear h
 go_enter Tryz.func65,Tryz.ntmps65
 go_wp2_with (first|(go_at_call 104;refine (isValue_any _ _).mono ?_;rintro e w' ⟨rfl,rfl⟩)|(go_at_call 35;refine (within_any _ _ _ _).mono ?_;rintro e w' ⟨rfl,rfl⟩))
 go_loopw [8] (fun i wr => ∃ k : Nat,k ≤ n ∧ i = .int .i64 k ∧ AllTo (fun _ x => Word.fine m.clock_ x) m.cells_ k ∧ Hid (Bx wr w.heap.size 27 #[.int .i64 m.clock_,.slice A n c]) ∧ Ext w wr) (fun i _ => n - (intOf i).toNat)
 case atStart => exact ⟨0,Nat.zero_le _,rfl,AllTo.zero _ _,HB0,HX0.out⟩
 case round =>
  obtain ⟨k,hk,rfl,hup,HB,hx⟩:=hrel
  have HU:=Lib.hid hup
  have HX:=Lib.hid hx
  have mlt : w.heap.size < wr.heap.size:=HB.out.lt
  have m0 : wr.cell? ⟨w.heap.size,0,none⟩ = some (.int .i64 m.clock_):=HB.out.cell 0
  have m1 : wr.cell? ⟨w.heap.size,1,none⟩ = some (.slice A n c):=HB.out.cell 1
  clear hup hx
  by_cases hlt : (k : Int) < (n : Int)
  rotate_left
  ·have e : Hid (k = m.cells_.length):=by show k = _;have a:=H.out;omega
   by_cases h8 : n = 8
   rotate_left
   ·have HY:=Lib.hid (dec_no (p:=memP m) (fun z => h8 (by have a:=H.out;have b:=z.2.1;omega)))
    have b8 : ((n : Int) == 8) = false:=by simp;omega
    clear h8
    go_wp2
    go_ret
    exact ⟨by unfold memOk;rw [HY.out];try rfl,HX.out⟩
   have b8 : ((n : Int) == 8) = true:=by simp;omega
   have H8:=Lib.hid h8
   clear h8
   by_cases hc : 0 ≤ m.clock_ ∧ m.clock_ ≤ 1000000
   ·have HY:=Lib.hid (dec_yes (p:=memP m) ⟨by rw [← e.out];exact HU.out,by have a:=H.out;have b:=H8.out;omega,hc⟩)
    have dk : decide (0 ≤ m.clock_ ∧ m.clock_ ≤ 1000000) = true:=by simpa using hc
    clear hc
    go_wp2_with (first|(go_at_call 104;refine (isValue_any _ _).mono ?_;rintro e w' ⟨rfl,rfl⟩)|(go_at_call 35;refine (within_any _ _ _ _).mono ?_;rintro e w' ⟨rfl,rfl⟩))
    go_ret
    exact ⟨by unfold memOk;rw [HY.out];try rfl,HX.out⟩
   ·have HY:=Lib.hid (dec_no (p:=memP m) (fun z => hc z.2.2))
    have dk : decide (0 ≤ m.clock_ ∧ m.clock_ ≤ 1000000) = false:=by simpa using hc
    clear hc
    go_wp2_with (first|(go_at_call 104;refine (isValue_any _ _).mono ?_;rintro e w' ⟨rfl,rfl⟩)|(go_at_call 35;refine (within_any _ _ _ _).mono ?_;rintro e w' ⟨rfl,rfl⟩))
    go_ret
    exact ⟨by unfold memOk;rw [HY.out];try rfl,HX.out⟩
  obtain ⟨b,o,rfl⟩:=HS.out.addr (by omega)
  obtain ⟨s,hsk,-,hc⟩:=(HS.out.ext HX.out).flat_cell (k:=k) Word.cells_length (by omega) (by omega)
  obtain ⟨f0,f1,f2⟩:=s
  have k0:=hc 0 (by omega)
  have k1:=hc 1 (by omega)
  have k2:=hc 2 (by omega)
  simp only [Word.cells,List.getElem?_cons_zero,List.getElem?_cons_succ,Nat.add_zero] at k0 k1 k2
  have HSK:=Lib.hid hsk
  have hkl : Hid (k < m.cells_.length):=by show k < _;have a:=H.out;omega
  clear hsk hc
  by_cases t0 : 0 ≤ f0 ∧ f0 ≤ 65535
  rotate_left
  ·have HY:=Lib.hid (dec_no (p:=memP m) (fun z => AllTo.not HSK.out hkl.out (fun q => t0 q.1) z.1))
   have d0 : decide (0 ≤ f0 ∧ f0 ≤ 65535) = false:=by simpa using t0
   clear t0
   go_wp2_with (first|(go_at_call 104;refine (isValue_any _ _).mono ?_;rintro e w' ⟨rfl,rfl⟩)|(go_at_call 35;refine (within_any _ _ _ _).mono ?_;rintro e w' ⟨rfl,rfl⟩))
   go_ret
   exact ⟨by unfold memOk;rw [HY.out];try rfl,HX.out.al _⟩
  have d0 : decide (0 ≤ f0 ∧ f0 ≤ 65535) = true:=by simpa using t0
  by_cases t1 : 0 ≤ f1 ∧ f1 ≤ m.clock_
  rotate_left
  ·have HY:=Lib.hid (dec_no (p:=memP m) (fun z => AllTo.not HSK.out hkl.out (fun q => t1 q.2.1) z.1))
   have d1 : decide (0 ≤ f1 ∧ f1 ≤ m.clock_) = false:=by simpa using t1
   clear t0 t1
   go_wp2_with (first|(go_at_call 104;refine (isValue_any _ _).mono ?_;rintro e w' ⟨rfl,rfl⟩)|(go_at_call 35;refine (within_any _ _ _ _).mono ?_;rintro e w' ⟨rfl,rfl⟩))
   go_ret
   exact ⟨by unfold memOk;rw [HY.out];try rfl,HX.out.al _⟩
  have d1 : decide (0 ≤ f1 ∧ f1 ≤ m.clock_) = true:=by simpa using t1
  by_cases t2 : 0 ≤ f2 ∧ f2 ≤ 99
  rotate_left
  ·have HY:=Lib.hid (dec_no (p:=memP m) (fun z => AllTo.not HSK.out hkl.out (fun q => t2 q.2.2) z.1))
   have d2 : decide (0 ≤ f2 ∧ f2 ≤ 99) = false:=by simpa using t2
   clear t0 t1 t2
   go_wp2_with (first|(go_at_call 104;refine (isValue_any _ _).mono ?_;rintro e w' ⟨rfl,rfl⟩)|(go_at_call 35;refine (within_any _ _ _ _).mono ?_;rintro e w' ⟨rfl,rfl⟩))
   go_ret
   exact ⟨by unfold memOk;rw [HY.out];try rfl,HX.out.al _⟩
  have d2 : decide (0 ≤ f2 ∧ f2 ≤ 99) = true:=by simpa using t2
  have HT:=Lib.hid (show Word.fine m.clock_ ⟨f0,f1,f2⟩ from ⟨t0,t1,t2⟩)
  clear t0 t1 t2
  go_wp2_with (first|(go_at_call 104;refine (isValue_any _ _).mono ?_;rintro e w' ⟨rfl,rfl⟩)|(go_at_call 35;refine (within_any _ _ _ _).mono ?_;rintro e w' ⟨rfl,rfl⟩))
  go_roundw
  case rel => exact ⟨k + 1,by omega,by go_num,HU.out.succ HSK.out HT.out,HB.out.al _,HX.out.al _⟩
  case measure => simp [intOf];omega
set_option maxHeartbeats 8000000 in
theorem spec_MemOk (m : Mem) (A : Option Addr) (n c : Nat) (w : World) (S : Nat → Prop) (hm : n ≤ 9223372036854775807) (h : Sl w S 3 A n (m.cells_.flatMap Word.cells)) :
  Calls Tryz.prog 58 #[.agg #[.int .i64 m.clock_,.slice A n c]] w fun e w' => e = .returned (.bool (memOk m)) ∧ Ext w w':=by
 have H:=Lib.hid (h.flen Word.cells_length (by omega))
 have HX0:=Lib.hid ((Ext.refl' w).al (.cells #[.int .i64 m.clock_,.slice A n c] 27))
 have HB0 : Hid (Bx (w.alloc (.cells #[.int .i64 m.clock_,.slice A n c] 27)) w.heap.size 27 #[.int .i64 m.clock_,.slice A n c]):=Bx.new' _ _ _ rfl
 have HS:=Lib.hid h
 clear h
 by_cases h8 : n = 8
 rotate_left
 ·have HY:=Lib.hid (dec_no (p:=memP m) (fun z => h8 (by have a:=H.out;have b:=z.2.1;omega)))
  have b8 : ((n : Int) != 8) = true:=by simp;omega
  clear h8
  go_enter Tryz.func58,Tryz.ntmps58
  go_wp2
  go_ret
  exact ⟨by unfold memOk;rw [HY.out];try rfl,HX0.out⟩
 have b8 : ((n : Int) != 8) = false:=by simp;omega
 have H8:=Lib.hid h8
 clear h8
 by_cases hk : 0 ≤ m.clock_ ∧ m.clock_ ≤ 1000000
 rotate_left
 ·have HY:=Lib.hid (dec_no (p:=memP m) (fun z => hk z.2.2))
  have dk : decide (0 ≤ m.clock_ ∧ m.clock_ ≤ 1000000) = false:=by simpa using hk
  clear hk
  go_enter Tryz.func58,Tryz.ntmps58
  go_wp2_with (first|(go_at_call 103;refine (l3Val_any _ _).mono ?_;rintro e w' ⟨rfl,rfl⟩)|(go_at_call 30;refine (l1In_any _ _ _ _).mono ?_;rintro e w' ⟨rfl,rfl⟩))
  go_ret
  exact ⟨by unfold memOk;rw [HY.out];try rfl,HX0.out⟩
 have dk : decide (0 ≤ m.clock_ ∧ m.clock_ ≤ 1000000) = true:=by simpa using hk
 have HK:=Lib.hid hk
 clear hk
 go_enter Tryz.func58,Tryz.ntmps58
 go_wp2_with (first|(go_at_call 103;refine (l3Val_any _ _).mono ?_;rintro e w' ⟨rfl,rfl⟩)|(go_at_call 30;refine (l1In_any _ _ _ _).mono ?_;rintro e w' ⟨rfl,rfl⟩))
 go_loopw [3] (fun i wr => ∃ k : Nat,k ≤ n ∧ i = .int .i64 k ∧ AllTo (fun _ x => Word.fine m.clock_ x) m.cells_ k ∧ Hid (Bx wr w.heap.size 27 #[.int .i64 m.clock_,.slice A n c]) ∧ Ext w wr) (fun i _ => n - (intOf i).toNat)
 case atStart => exact ⟨0,Nat.zero_le _,rfl,AllTo.zero _ _,HB0,HX0.out⟩
 case round =>
  obtain ⟨k,hk,rfl,hup,HB,hx⟩:=hrel
  have HU:=Lib.hid hup
  have HX:=Lib.hid hx
  have mlt : w.heap.size < wr.heap.size:=HB.out.lt
  have m0 : wr.cell? ⟨w.heap.size,0,none⟩ = some (.int .i64 m.clock_):=HB.out.cell 0
  have m1 : wr.cell? ⟨w.heap.size,1,none⟩ = some (.slice A n c):=HB.out.cell 1
  clear hup hx
  by_cases hlt : (k : Int) < (n : Int)
  rotate_left
  ·have e : Hid (k = m.cells_.length):=by show k = _;have a:=H.out;omega
   have HY:=Lib.hid (dec_yes (p:=memP m) ⟨by rw [← e.out];exact HU.out,by have a:=H.out;have b:=H8.out;omega,HK.out⟩)
   go_wp2
   go_ret
   exact ⟨by unfold memOk;rw [HY.out];try rfl,HX.out⟩
  obtain ⟨b,o,rfl⟩:=HS.out.addr (by omega)
  obtain ⟨s,hsk,-,hc⟩:=(HS.out.ext HX.out).flat_cell (k:=k) Word.cells_length (by omega) (by omega)
  obtain ⟨f0,f1,f2⟩:=s
  have k0:=hc 0 (by omega)
  have k1:=hc 1 (by omega)
  have k2:=hc 2 (by omega)
  simp only [Word.cells,List.getElem?_cons_zero,List.getElem?_cons_succ,Nat.add_zero] at k0 k1 k2
  have HSK:=Lib.hid hsk
  have hkl : Hid (k < m.cells_.length):=by show k < _;have a:=H.out;omega
  clear hsk hc
  by_cases t0 : 0 ≤ f0 ∧ f0 ≤ 65535
  rotate_left
  ·have HY:=Lib.hid (dec_no (p:=memP m) (fun z => AllTo.not HSK.out hkl.out (fun q => t0 q.1) z.1))
   have d0 : decide (0 ≤ f0 ∧ f0 ≤ 65535) = false:=by simpa using t0
   clear t0
   go_wp2_with (first|(go_at_call 103;refine (l3Val_any _ _).mono ?_;rintro e w' ⟨rfl,rfl⟩)|(go_at_call 30;refine (l1In_any _ _ _ _).mono ?_;rintro e w' ⟨rfl,rfl⟩))
   go_ret
   exact ⟨by unfold memOk;rw [HY.out];try rfl,HX.out.al _⟩
  have d0 : decide (0 ≤ f0 ∧ f0 ≤ 65535) = true:=by simpa using t0
  by_cases t1 : 0 ≤ f1 ∧ f1 ≤ m.clock_
  rotate_left
  ·have HY:=Lib.hid (dec_no (p:=memP m) (fun z => AllTo.not HSK.out hkl.out (fun q => t1 q.2.1) z.1))
   have d1 : decide (0 ≤ f1 ∧ f1 ≤ m.clock_) = false:=by simpa using t1
   clear t0 t1
   go_wp2_with (first|(go_at_call 103;refine (l3Val_any _ _).mono ?_;rintro e w' ⟨rfl,rfl⟩)|(go_at_call 30;refine (l1In_any _ _ _ _).mono ?_;rintro e w' ⟨rfl,rfl⟩))
   go_ret
   exact ⟨by unfold memOk;rw [HY.out];try rfl,HX.out.al _⟩
  have d1 : decide (0 ≤ f1 ∧ f1 ≤ m.clock_) = true:=by simpa using t1
  by_cases t2 : 0 ≤ f2 ∧ f2 ≤ 99
  rotate_left
  ·have HY:=Lib.hid (dec_no (p:=memP m) (fun z => AllTo.not HSK.out hkl.out (fun q => t2 q.2.2) z.1))
   have d2 : decide (0 ≤ f2 ∧ f2 ≤ 99) = false:=by simpa using t2
   clear t0 t1 t2
   go_wp2_with (first|(go_at_call 103;refine (l3Val_any _ _).mono ?_;rintro e w' ⟨rfl,rfl⟩)|(go_at_call 30;refine (l1In_any _ _ _ _).mono ?_;rintro e w' ⟨rfl,rfl⟩))
   go_ret
   exact ⟨by unfold memOk;rw [HY.out];try rfl,HX.out.al _⟩
  have d2 : decide (0 ≤ f2 ∧ f2 ≤ 99) = true:=by simpa using t2
  have HT:=Lib.hid (show Word.fine m.clock_ ⟨f0,f1,f2⟩ from ⟨t0,t1,t2⟩)
  clear t0 t1 t2
  go_wp2_with (first|(go_at_call 103;refine (l3Val_any _ _).mono ?_;rintro e w' ⟨rfl,rfl⟩)|(go_at_call 30;refine (l1In_any _ _ _ _).mono ?_;rintro e w' ⟨rfl,rfl⟩))
  go_roundw
  case rel => exact ⟨k + 1,by omega,by go_num,HU.out.succ HSK.out HT.out,HB.out.al _,HX.out.al _⟩
  case measure => simp [intOf];omega

end Go.Proofs.YtpmfhfpjiebcjaaGreat
