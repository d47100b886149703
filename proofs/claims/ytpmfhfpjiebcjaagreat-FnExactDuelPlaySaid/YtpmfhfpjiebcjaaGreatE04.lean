/- MemOk of program and reference. No condition. -/
import Derived.Test.YtpmfhfpjiebcjaaGreatE01
import Derived.Test.YtpmfhfpjiebcjaaGreatE03
namespace Go.Proofs.YtpmfhfpjiebcjaaGreat
open Go.RowKit Go.Deep

def Word.fine (clock : Int) (x : Word) : Prop:=(0 ≤ x.val_ ∧ x.val_ ≤ 65535) ∧ (0 ≤ x.ver_ ∧ x.ver_ ≤ clock) ∧ (0 ≤ x.owner_ ∧ x.owner_ ≤ 99)
def memP (m : Mem) : Prop:=AllTo (fun _ x => Word.fine m.clock_ x) m.cells_ m.cells_.length ∧ m.cells_.length = 8 ∧ (0 ≤ m.clock_ ∧ m.clock_ ≤ 1000000)
noncomputable def memOk (m : Mem) : Bool:=dec (memP m)
theorem Mem.R_open {w : World} {S : Nat → Prop} {m : Mem} {A : Option Addr} {n c : Nat} (h : Mem.R w S [.int .i64 m.clock_,.slice A n c] m) : n ≤ 9223372036854775807 ∧ Sl w S 3 A n (m.cells_.flatMap Word.cells):=by
 obtain ⟨A',n',c',e,⟨_,m',h'⟩⟩:=h
 simp only [List.cons.injEq,Value.slice.injEq,and_true,true_and] at e
 obtain ⟨rfl,rfl,rfl⟩:=e
 exact ⟨m',h'⟩

set_option maxHeartbeats 8000000 in
theorem impl_MemOk (m : Mem) (A : Option Addr) (n c : Nat) (w : World) (S : Nat → Prop) (hm : n ≤ 9223372036854775807) (h : Sl w S 3 A n (m.cells_.flatMap Word.cells)) :
  Calls Tryz.prog 65 #[.agg #[.int .i64 m.clock_,.slice A n c]] w fun e w' => e = .returned (.bool (memOk m)) ∧ Ext w w':=by
 have H:=Lib.hid (h.flen Word.cells_length (by omega))
 have HX0:=Lib.hid ((Ext.refl' w).al (.cells #[.int .i64 m.clock_,.slice A n c] 27))
 have HB0 : Hid (Bx (w.alloc (.cells #[.int .i64 m.clock_,.slice A n c] 27)) w.heap.size 27 #[.int .i64 m.clock_,.slice A n c]):=Bx.new' _ _ _ rfl
 have HS:=Lib.hid h
 clear h
 go_enter Tryz.func65,Tryz.ntmps65
 go_wp2_with (first|(go_at_call 104;refine (isValue_any _ _).mono ?_;rintro e w' ⟨rfl,rfl⟩)|(go_at_call 35;refine (within_any _ _ _ _).mono ?_;rintro e w' ⟨rfl,rfl⟩))
 go_loopw [8] (fun i wr => ∃ k : Nat,k ≤ n ∧ i = .int .i64 k ∧ AllTo (fun _ x => Word.fine m.clock_ x) m.cells_ k ∧ Hid (Bx wr w.heap.size 27 #[.int .i64 m.clock_,.slice A n c]) ∧ Ext w wr) (fun i _ => n - (intOf i).toNat)
 case atStart => exact ⟨0,Nat.zero_le _,rfl,AllTo.zero _ _,HB0,HX0.out⟩
 case round =>
  obtain ⟨k,hk,rfl,hup,HB,hx⟩:=hrel
  have HU:=Lib.hid hup
  have HX:=Lib.hid hx
  have mlt : w.heap.size < wr.heap.size:=HB.out.lt
  have m0 : wr.cell? ⟨w.heap.size,0,none⟩ = some (.int .i64 m.clock_):=HB.out.cell 0
  have m1 : wr.cell? ⟨w.heap.size,1,none⟩ = some (.slice A n c):=HB.out.cell 1
  clear hup hx
  by_cases hlt : (k : Int) < (n : Int)
  rotate_left
  ·have e : Hid (k = m.cells_.length):=by show k = _;have a:=H.out;omega
   by_cases h8 : n = 8
   rotate_left
   ·have HY:=Lib.hid (dec_no (p:=memP m) (fun z => h8 (by have a:=H.out;have b:=z.2.1;omega)))
    have b8 : ((n : Int) == 8) = false:=by simp;omega
    clear h8
    go_wp2
    go_ret
    exact ⟨by unfold memOk;rw [HY.out];try rfl,HX.out⟩
   have b8 : ((n : Int) == 8) = true:=by simp;omega
   have H8:=Lib.hid h8
   clear h8
   by_cases hc : 0 ≤ m.clock_ ∧ m.clock_ ≤ 1000000
   ·have HY:=Lib.hid (dec_yes (p:=memP m) ⟨by rw [← e.out];exact HU.out,by have a:=H.out;have b:=H8.out;omega,hc⟩)
    have dk : decide (0 ≤ m.clock_ ∧ m.clock_ ≤ 1000000) = true:=by simpa using hc
    clear hc
    go_wp2_with (first|(go_at_call 104;refine (isValue_any _ _).mono ?_;rintro e w' ⟨rfl,rfl⟩)|(go_at_call 35;refine (within_any _ _ _ _).mono ?_;rintro e w' ⟨rfl,rfl⟩))
    go_ret
    exact ⟨by unfold memOk;rw [HY.out];try rfl,HX.out⟩
   ·have HY:=Lib.hid (dec_no (p:=memP m) (fun z => hc z.2.2))
    have dk : decide (0 ≤ m.clock_ ∧ m.clock_ ≤ 1000000) = false:=by simpa using hc
    clear hc
    go_wp2_with (first|(go_at_call 104;refine (isValue_any _ _).mono ?_;rintro e w' ⟨rfl,rfl⟩)|(go_at_call 35;refine (within_any _ _ _ _).mono ?_;rintro e w' ⟨rfl,rfl⟩))
    go_ret
    exact ⟨by unfold memOk;rw [HY.out];try rfl,HX.out⟩
  obtain ⟨b,o,rfl⟩:=HS.out.addr (by omega)
  obtain ⟨s,hsk,-,hc⟩:=(HS.out.ext HX.out).flat_cell (k:=k) Word.cells_length (by omega) (by omega)
  obtain ⟨f0,f1,f2⟩:=s
  have k0:=hc 0 (by omega)
  have k1:=hc 1 (by omega)
  have k2:=hc 2 (by omega)
  simp only [Word.cells,List.getElem?_cons_zero,List.getElem?_cons_succ,Nat.add_zero] at k0 k1 k2
  have HSK:=Lib.hid hsk
  have hkl : Hid (k < m.cells_.length):=by show k < _;have a:=H.out;omega
  clear hsk hc
  by_cases t0 : 0 ≤ f0 ∧ f0 ≤ 65535
  rotate_left
  ·have HY:=Lib.hid (dec_no (p:=memP m) (fun z => AllTo.not HSK.out hkl.out (fun q => t0 q.1) z.1))
   have d0 : decide (0 ≤ f0 ∧ f0 ≤ 65535) = false:=by simpa using t0
   clear t0
   go_wp2_with (first|(go_at_call 104;refine (isValue_any _ _).mono ?_;rintro e w' ⟨rfl,rfl⟩)|(go_at_call 35;refine (within_any _ _ _ _).mono ?_;rintro e w' ⟨rfl,rfl⟩))
   go_ret
   exact ⟨by unfold memOk;rw [HY.out];try rfl,HX.out.al _⟩
  have d0 : decide (0 ≤ f0 ∧ f0 ≤ 65535) = true:=by simpa using t0
  by_cases t1 : 0 ≤ f1 ∧ f1 ≤ m.clock_
  rotate_left
  ·have HY:=Lib.hid (dec_no (p:=memP m) (fun z => AllTo.not HSK.out hkl.out (fun q => t1 q.2.1) z.1))
   have d1 : decide (0 ≤ f1 ∧ f1 ≤ m.clock_) = false:=by simpa using t1
   clear t0 t1
   go_wp2_with (first|(go_at_call 104;refine (isValue_any _ _).mono ?_;rintro e w' ⟨rfl,rfl⟩)|(go_at_call 35;refine (within_any _ _ _ _).mono ?_;rintro e w' ⟨rfl,rfl⟩))
   go_ret
   exact ⟨by unfold memOk;rw [HY.out];try rfl,HX.out.al _⟩
  have d1 : decide (0 ≤ f1 ∧ f1 ≤ m.clock_) = true:=by simpa using t1
  by_cases t2 : 0 ≤ f2 ∧ f2 ≤ 99
  rotate_left
  ·have HY:=Lib.hid (dec_no (p:=memP m) (fun z => AllTo.not HSK.out hkl.out (fun q => t2 q.2.2) z.1))
   have d2 : decide (0 ≤ f2 ∧ f2 ≤ 99) = false:=by simpa using t2
   clear t0 t1 t2
   go_wp2_with (first|(go_at_call 104;refine (isValue_any _ _).mono ?_;rintro e w' ⟨rfl,rfl⟩)|(go_at_call 35;refine (within_any _ _ _ _).mono ?_;rintro e w' ⟨rfl,rfl⟩))
   go_ret
   exact ⟨by unfold memOk;rw [HY.out];try rfl,HX.out.al _⟩
  have d2 : decide (0 ≤ f2 ∧ f2 ≤ 99) = true:=by simpa using t2
  have HT:=Lib.hid (show Word.fine m.clock_ ⟨f0,f1,f2⟩ from ⟨t0,t1,t2⟩)
  clear t0 t1 t2
  go_wp2_with (first|(go_at_call 104;refine (isValue_any _ _).mono ?_;rintro e w' ⟨rfl,rfl⟩)|(go_at_call 35;refine (within_any _ _ _ _).mono ?_;rintro e w' ⟨rfl,rfl⟩))
  go_roundw
  case rel => exact ⟨k + 1,by omega,by go_num,HU.out.succ HSK.out HT.out,HB.out.al _,HX.out.al _⟩
  case measure => simp [intOf];omega
set_option maxHeartbeats 8000000 in
theorem spec_MemOk (m : Mem) (A : Option Addr) (n c : Nat) (w : World) (S : Nat → Prop) (hm : n ≤ 9223372036854775807) (h : Sl w S 3 A n (m.cells_.flatMap Word.cells)) :
  Calls Tryz.prog 58 #[.agg #[.int .i64 m.clock_,.slice A n c]] w fun e w' => e = .returned (.bool (memOk m)) ∧ Ext w w':=by
 have H:=Lib.hid (h.flen Word.cells_length (by omega))
 have HX0:=Lib.hid ((Ext.refl' w).al (.cells #[.int .i64 m.clock_,.slice A n c] 27))
 have HB0 : Hid (Bx (w.alloc (.cells #[.int .i64 m.clock_,.slice A n c] 27)) w.heap.size 27 #[.int .i64 m.clock_,.slice A n c]):=Bx.new' _ _ _ rfl
 have HS:=Lib.hid h
 clear h
 by_cases h8 : n = 8
 rotate_left
 ·have HY:=Lib.hid (dec_no (p:=memP m) (fun z => h8 (by have a:=H.out;have b:=z.2.1;omega)))
  have b8 : ((n : Int) != 8) = true:=by simp;omega
  clear h8
  go_enter Tryz.func58,Tryz.ntmps58
  go_wp2
  go_ret
  exact ⟨by unfold memOk;rw [HY.out];try rfl,HX0.out⟩
 have b8 : ((n : Int) != 8) = false:=by simp;omega
 have H8:=Lib.hid h8
 clear h8
 by_cases hk : 0 ≤ m.clock_ ∧ m.clock_ ≤ 1000000
 rotate_left
 ·have HY:=Lib.hid (dec_no (p:=memP m) (fun z => hk z.2.2))
  have dk : decide (0 ≤ m.clock_ ∧ m.clock_ ≤ 1000000) = false:=by simpa using hk
  clear hk
  go_enter Tryz.func58,Tryz.ntmps58
  go_wp2_with (first|(go_at_call 103;refine (l3Val_any _ _).mono ?_;rintro e w' ⟨rfl,rfl⟩)|(go_at_call 30;refine (l1In_any _ _ _ _).mono ?_;rintro e w' ⟨rfl,rfl⟩))
  go_ret
  exact ⟨by unfold memOk;rw [HY.out];try rfl,HX0.out⟩
 have dk : decide (0 ≤ m.clock_ ∧ m.clock_ ≤ 1000000) = true:=by simpa using hk
 have HK:=Lib.hid hk
 clear hk
 go_enter Tryz.func58,Tryz.ntmps58
 go_wp2_with (first|(go_at_call 103;refine (l3Val_any _ _).mono ?_;rintro e w' ⟨rfl,rfl⟩)|(go_at_call 30;refine (l1In_any _ _ _ _).mono ?_;rintro e w' ⟨rfl,rfl⟩))
 go_loopw [3] (fun i wr => ∃ k : Nat,k ≤ n ∧ i = .int .i64 k ∧ AllTo (fun _ x => Word.fine m.clock_ x) m.cells_ k ∧ Hid (Bx wr w.heap.size 27 #[.int .i64 m.clock_,.slice A n c]) ∧ Ext w wr) (fun i _ => n - (intOf i).toNat)
 case atStart => exact ⟨0,Nat.zero_le _,rfl,AllTo.zero _ _,HB0,HX0.out⟩
 case round =>
  obtain ⟨k,hk,rfl,hup,HB,hx⟩:=hrel
  have HU:=Lib.hid hup
  have HX:=Lib.hid hx
  have mlt : w.heap.size < wr.heap.size:=HB.out.lt
  have m0 : wr.cell? ⟨w.heap.size,0,none⟩ = some (.int .i64 m.clock_):=HB.out.cell 0
  have m1 : wr.cell? ⟨w.heap.size,1,none⟩ = some (.slice A n c):=HB.out.cell 1
  clear hup hx
  by_cases hlt : (k : Int) < (n : Int)
  rotate_left
  ·have e : Hid (k = m.cells_.length):=by show k = _;have a:=H.out;omega
   have HY:=Lib.hid (dec_yes (p:=memP m) ⟨by rw [← e.out];exact HU.out,by have a:=H.out;have b:=H8.out;omega,HK.out⟩)
   go_wp2
   go_ret
   exact ⟨by unfold memOk;rw [HY.out];try rfl,HX.out⟩
  obtain ⟨b,o,rfl⟩:=HS.out.addr (by omega)
  obtain ⟨s,hsk,-,hc⟩:=(HS.out.ext HX.out).flat_cell (k:=k) Word.cells_length (by omega) (by omega)
  obtain ⟨f0,f1,f2⟩:=s
  have k0:=hc 0 (by omega)
  have k1:=hc 1 (by omega)
  have k2:=hc 2 (by omega)
  simp only [Word.cells,List.getElem?_cons_zero,List.getElem?_cons_succ,Nat.add_zero] at k0 k1 k2
  have HSK:=Lib.hid hsk
  have hkl : Hid (k < m.cells_.length):=by show k < _;have a:=H.out;omega
  clear hsk hc
  by_cases t0 : 0 ≤ f0 ∧ f0 ≤ 65535
  rotate_left
  ·have HY:=Lib.hid (dec_no (p:=memP m) (fun z => AllTo.not HSK.out hkl.out (fun q => t0 q.1) z.1))
   have d0 : decide (0 ≤ f0 ∧ f0 ≤ 65535) = false:=by simpa using t0
   clear t0
   go_wp2_with (first|(go_at_call 103;refine (l3Val_any _ _).mono ?_;rintro e w' ⟨rfl,rfl⟩)|(go_at_call 30;refine (l1In_any _ _ _ _).mono ?_;rintro e w' ⟨rfl,rfl⟩))
   go_ret
   exact ⟨by unfold memOk;rw [HY.out];try rfl,HX.out.al _⟩
  have d0 : decide (0 ≤ f0 ∧ f0 ≤ 65535) = true:=by simpa using t0
  by_cases t1 : 0 ≤ f1 ∧ f1 ≤ m.clock_
  rotate_left
  ·have HY:=Lib.hid (dec_no (p:=memP m) (fun z => AllTo.not HSK.out hkl.out (fun q => t1 q.2.1) z.1))
   have d1 : decide (0 ≤ f1 ∧ f1 ≤ m.clock_) = false:=by simpa using t1
   clear t0 t1
   go_wp2_with (first|(go_at_call 103;refine (l3Val_any _ _).mono ?_;rintro e w' ⟨rfl,rfl⟩)|(go_at_call 30;refine (l1In_any _ _ _ _).mono ?_;rintro e w' ⟨rfl,rfl⟩))
   go_ret
   exact ⟨by unfold memOk;rw [HY.out];try rfl,HX.out.al _⟩
  have d1 : decide (0 ≤ f1 ∧ f1 ≤ m.clock_) = true:=by simpa using t1
  by_cases t2 : 0 ≤ f2 ∧ f2 ≤ 99
  rotate_left
  ·have HY:=Lib.hid (dec_no (p:=memP m) (fun z => AllTo.not HSK.out hkl.out (fun q => t2 q.2.2) z.1))
   have d2 : decide (0 ≤ f2 ∧ f2 ≤ 99) = false:=by simpa using t2
   clear t0 t1 t2
   go_wp2_with (first|(go_at_call 103;refine (l3Val_any _ _).mono ?_;rintro e w' ⟨rfl,rfl⟩)|(go_at_call 30;refine (l1In_any _ _ _ _).mono ?_;rintro e w' ⟨rfl,rfl⟩))
   go_ret
   exact ⟨by unfold memOk;rw [HY.out];try rfl,HX.out.al _⟩
  have d2 : decide (0 ≤ f2 ∧ f2 ≤ 99) = true:=by simpa using t2
  have HT:=Lib.hid (show Word.fine m.clock_ ⟨f0,f1,f2⟩ from ⟨t0,t1,t2⟩)
  clear t0 t1 t2
  go_wp2_with (first|(go_at_call 103;refine (l3Val_any _ _).mono ?_;rintro e w' ⟨rfl,rfl⟩)|(go_at_call 30;refine (l1In_any _ _ _ _).mono ?_;rintro e w' ⟨rfl,rfl⟩))
  go_roundw
  case rel => exact ⟨k + 1,by omega,by go_num,HU.out.succ HSK.out HT.out,HB.out.al _,HX.out.al _⟩
  case measure => simp [intOf];omega

end Go.Proofs.YtpmfhfpjiebcjaaGreat
