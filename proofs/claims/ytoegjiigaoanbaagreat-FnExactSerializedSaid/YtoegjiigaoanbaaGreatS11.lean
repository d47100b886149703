/- MemOk and Values of both. No condition but lengths. Over of both. No condition but sizes. Words of Serialized. No condition. Ranks of the reference. No condition. Replay of the reference. No condition but sizes. Serialized of the reference. No condition but sizes. slices.stableCmpFunc on at most nineteen elements. No condition but lengths. -/
import Derived.Test.YtoegjiigaoanbaaGreatS00
import Derived.Test.YtoegjiigaoanbaaGreatS10
import Derived.Test.YtoegjiigaoanbaaGreatS04
namespace Go.Proofs.YtoegjiigaoanbaaGreat
open Go.RowKit Go.Deep
set_option linter.unnecessarySimpa false
set_option maxHeartbeats 400000000
open Go.Lib (hid)
set_option linter.unusedSimpArgs false
set_option linter.unusedVariables false
set_option linter.unnecessarySimpa false
set_option maxHeartbeats 400000000
def Word.fine (clock : Int) (x : Word) : Prop:=(0 ≤ x.val_ ∧ x.val_ ≤ 65535) ∧ (0 ≤ x.ver_ ∧ x.ver_ ≤ clock) ∧ (0 ≤ x.owner_ ∧ x.owner_ ≤ 99)
def memP (m : Mem) : Prop:=AllTo (fun _ x => Word.fine m.clock_ x) m.cells_ m.cells_.length ∧ m.cells_.length = 8 ∧ (0 ≤ m.clock_ ∧ m.clock_ ≤ 1000000)
noncomputable def memOk (m : Mem) : Bool:=dec (memP m)
theorem Mem.R_open {w : World} {S : Nat → Prop} {m : Mem} {A : Option Addr} {n c : Nat} (h : Mem.R w S [.int .i64 m.clock_,.slice A n c] m) : n ≤ 9223372036854775807 ∧ Sl w S 3 A n (m.cells_.flatMap Word.cells):=by
 obtain ⟨A',n',c',e,⟨_,m',h'⟩⟩:=h
 simp only [List.cons.injEq,Value.slice.injEq,and_true,true_and] at e
 obtain ⟨rfl,rfl,rfl⟩:=e
 exact ⟨m',h'⟩

theorem impl_MemOk (m : Mem) (A : Option Addr) (n c : Nat) (w : World) (S : Nat → Prop) (hm : n ≤ 9223372036854775807) (h : Sl w S 3 A n (m.cells_.flatMap Word.cells)) :
  Calls Tryz.prog 120 #[.agg #[.int .i64 m.clock_,.slice A n c]] w fun e w' => e = .returned (.bool (memOk m)) ∧ Ext w w':=by
 have H:=hid (h.flen Word.cells_length (by omega))
 have HX0:=hid ((Ext.refl' w).al (.cells #[.int .i64 m.clock_,.slice A n c] 52))
 have HB0 : Hid (Bx (w.alloc (.cells #[.int .i64 m.clock_,.slice A n c] 52)) w.heap.size 52 #[.int .i64 m.clock_,.slice A n c]):=Bx.new' _ _ _ rfl
 have HS:=hid h
 clear h
 go_enter Tryz.func120,Tryz.ntmps120
 go_wp2_with (fail)
 go_loopw [8] (fun i wr => ∃ k : Nat,k ≤ n ∧ i = .int .i64 k ∧ AllTo (fun _ x => Word.fine m.clock_ x) m.cells_ k ∧ Hid (Bx wr w.heap.size 52 #[.int .i64 m.clock_,.slice A n c]) ∧ Ext w wr) (fun i _ => n - (intOf i).toNat)
 case atStart => exact ⟨0,Nat.zero_le _,rfl,AllTo.zero _ _,HB0,HX0.out⟩
 case round =>
  obtain ⟨k,hk,rfl,hup,HB,hx⟩:=hrel
  have HU:=hid hup
  have HX:=hid hx
  have mlt : w.heap.size < wr.heap.size:=HB.out.lt
  have m0 : wr.cell? ⟨w.heap.size,0,none⟩ = some (.int .i64 m.clock_):=HB.out.cell 0
  have m1 : wr.cell? ⟨w.heap.size,1,none⟩ = some (.slice A n c):=HB.out.cell 1
  clear hup hx
  by_cases hlt : (k : Int) < (n : Int)
  rotate_left
  ·have e : Hid (k = m.cells_.length):=by show k = _;have a:=H.out;omega
   by_cases h8 : n = 8
   rotate_left
   ·have HY:=hid (dec_no (p:=memP m) (fun z => h8 (by have a:=H.out;have b:=z.2.1;omega)))
    have b8 : ((n : Int) == 8) = false:=by simp;omega
    clear h8
    go_wp2
    go_ret
    exact ⟨by unfold memOk;rw [HY.out];try rfl,HX.out⟩
   have b8 : ((n : Int) == 8) = true:=by simp;omega
   have H8:=hid h8
   clear h8
   by_cases hc : 0 ≤ m.clock_ ∧ m.clock_ ≤ 1000000
   ·have HY:=hid (dec_yes (p:=memP m) ⟨by rw [← e.out];exact HU.out,by have a:=H.out;have b:=H8.out;omega,hc⟩)
    have dk : decide (0 ≤ m.clock_ ∧ m.clock_ ≤ 1000000) = true:=by simpa using hc
    clear hc
    go_wp2_with ((go_at_call 175;refine (within_any _ _ _ _).mono ?_;rintro e w' ⟨rfl,rfl⟩))
    go_ret
    exact ⟨by unfold memOk;rw [HY.out];try rfl,HX.out⟩
   ·have HY:=hid (dec_no (p:=memP m) (fun z => hc z.2.2))
    have dk : decide (0 ≤ m.clock_ ∧ m.clock_ ≤ 1000000) = false:=by simpa using hc
    clear hc
    go_wp2_with ((go_at_call 175;refine (within_any _ _ _ _).mono ?_;rintro e w' ⟨rfl,rfl⟩))
    go_ret
    exact ⟨by unfold memOk;rw [HY.out];try rfl,HX.out⟩
  obtain ⟨b,o,rfl⟩:=HS.out.addr (by omega)
  obtain ⟨s,hsk,-,hc⟩:=(HS.out.ext HX.out).flat_cell (k:=k) Word.cells_length (by omega) (by omega)
  obtain ⟨f0,f1,f2⟩:=s
  have k0:=hc 0 (by omega)
  have k1:=hc 1 (by omega)
  have k2:=hc 2 (by omega)
  simp only [Word.cells,List.getElem?_cons_zero,List.getElem?_cons_succ,Nat.add_zero] at k0 k1 k2
  have HSK:=hid hsk
  have hkl : Hid (k < m.cells_.length):=by show k < _;have a:=H.out;omega
  clear hsk hc
  by_cases t0 : 0 ≤ f0 ∧ f0 ≤ 65535
  rotate_left
  ·have HY:=hid (dec_no (p:=memP m) (fun z => AllTo.not HSK.out hkl.out (fun q => t0 q.1) z.1))
   have d0 : decide (0 ≤ f0 ∧ f0 ≤ 65535) = false:=by simpa using t0
   clear t0
   go_wp2_with ((go_at_call 150;refine (isValue_any _ _).mono ?_;rintro e w' ⟨rfl,rfl⟩))
   go_ret
   exact ⟨by unfold memOk;rw [HY.out];try rfl,HX.out.al _⟩
  have d0 : decide (0 ≤ f0 ∧ f0 ≤ 65535) = true:=by simpa using t0
  by_cases t1 : 0 ≤ f1 ∧ f1 ≤ m.clock_
  rotate_left
  ·have HY:=hid (dec_no (p:=memP m) (fun z => AllTo.not HSK.out hkl.out (fun q => t1 q.2.1) z.1))
   have d1 : decide (0 ≤ f1 ∧ f1 ≤ m.clock_) = false:=by simpa using t1
   clear t0 t1
   go_wp2_with (first|(go_at_call 150;refine (isValue_any _ _).mono ?_;rintro e w' ⟨rfl,rfl⟩)|(go_at_call 175;refine (within_any _ _ _ _).mono ?_;rintro e w' ⟨rfl,rfl⟩))
   go_ret
   exact ⟨by unfold memOk;rw [HY.out];try rfl,HX.out.al _⟩
  have d1 : decide (0 ≤ f1 ∧ f1 ≤ m.clock_) = true:=by simpa using t1
  by_cases t2 : 0 ≤ f2 ∧ f2 ≤ 99
  rotate_left
  ·have HY:=hid (dec_no (p:=memP m) (fun z => AllTo.not HSK.out hkl.out (fun q => t2 q.2.2) z.1))
   have d2 : decide (0 ≤ f2 ∧ f2 ≤ 99) = false:=by simpa using t2
   clear t0 t1 t2
   go_wp2_with (first|(go_at_call 150;refine (isValue_any _ _).mono ?_;rintro e w' ⟨rfl,rfl⟩)|(go_at_call 175;refine (within_any _ _ _ _).mono ?_;rintro e w' ⟨rfl,rfl⟩))
   go_ret
   exact ⟨by unfold memOk;rw [HY.out];try rfl,HX.out.al _⟩
  have d2 : decide (0 ≤ f2 ∧ f2 ≤ 99) = true:=by simpa using t2
  have HT:=hid (show Word.fine m.clock_ ⟨f0,f1,f2⟩ from ⟨t0,t1,t2⟩)
  clear t0 t1 t2
  go_wp2_with (first|(go_at_call 150;refine (isValue_any _ _).mono ?_;rintro e w' ⟨rfl,rfl⟩)|(go_at_call 175;refine (within_any _ _ _ _).mono ?_;rintro e w' ⟨rfl,rfl⟩))
  go_roundw
  case rel => exact ⟨k + 1,by omega,by go_num,HU.out.succ HSK.out HT.out,HB.out.al _,HX.out.al _⟩
  case measure => simp [intOf];omega
theorem spec_MemOk (m : Mem) (A : Option Addr) (n c : Nat) (w : World) (S : Nat → Prop) (hm : n ≤ 9223372036854775807) (h : Sl w S 3 A n (m.cells_.flatMap Word.cells)) :
  Calls Tryz.prog 115 #[.agg #[.int .i64 m.clock_,.slice A n c]] w fun e w' => e = .returned (.bool (memOk m)) ∧ Ext w w':=by
 have H:=hid (h.flen Word.cells_length (by omega))
 have HX0:=hid ((Ext.refl' w).al (.cells #[.int .i64 m.clock_,.slice A n c] 52))
 have HB0 : Hid (Bx (w.alloc (.cells #[.int .i64 m.clock_,.slice A n c] 52)) w.heap.size 52 #[.int .i64 m.clock_,.slice A n c]):=Bx.new' _ _ _ rfl
 have HS:=hid h
 clear h
 by_cases h8 : n = 8
 rotate_left
 ·have HY:=hid (dec_no (p:=memP m) (fun z => h8 (by have a:=H.out;have b:=z.2.1;omega)))
  have b8 : ((n : Int) != 8) = true:=by simp;omega
  clear h8
  go_enter Tryz.func115,Tryz.ntmps115
  go_wp2
  go_ret
  exact ⟨by unfold memOk;rw [HY.out];try rfl,HX0.out⟩
 have b8 : ((n : Int) != 8) = false:=by simp;omega
 have H8:=hid h8
 clear h8
 by_cases hk : 0 ≤ m.clock_ ∧ m.clock_ ≤ 1000000
 rotate_left
 ·have HY:=hid (dec_no (p:=memP m) (fun z => hk z.2.2))
  have dk : decide (0 ≤ m.clock_ ∧ m.clock_ ≤ 1000000) = false:=by simpa using hk
  clear hk
  go_enter Tryz.func115,Tryz.ntmps115
  go_wp2_with ((go_at_call 132;refine (l1In_any _ _ _ _).mono ?_;rintro e w' ⟨rfl,rfl⟩))
  go_ret
  exact ⟨by unfold memOk;rw [HY.out];try rfl,HX0.out⟩
 have dk : decide (0 ≤ m.clock_ ∧ m.clock_ ≤ 1000000) = true:=by simpa using hk
 have HK:=hid hk
 clear hk
 go_enter Tryz.func115,Tryz.ntmps115
 go_wp2_with ((go_at_call 132;refine (l1In_any _ _ _ _).mono ?_;rintro e w' ⟨rfl,rfl⟩))
 go_loopw [3] (fun i wr => ∃ k : Nat,k ≤ n ∧ i = .int .i64 k ∧ AllTo (fun _ x => Word.fine m.clock_ x) m.cells_ k ∧ Hid (Bx wr w.heap.size 52 #[.int .i64 m.clock_,.slice A n c]) ∧ Ext w wr) (fun i _ => n - (intOf i).toNat)
 case atStart => exact ⟨0,Nat.zero_le _,rfl,AllTo.zero _ _,HB0,HX0.out⟩
 case round =>
  obtain ⟨k,hk,rfl,hup,HB,hx⟩:=hrel
  have HU:=hid hup
  have HX:=hid hx
  have mlt : w.heap.size < wr.heap.size:=HB.out.lt
  have m0 : wr.cell? ⟨w.heap.size,0,none⟩ = some (.int .i64 m.clock_):=HB.out.cell 0
  have m1 : wr.cell? ⟨w.heap.size,1,none⟩ = some (.slice A n c):=HB.out.cell 1
  clear hup hx
  by_cases hlt : (k : Int) < (n : Int)
  rotate_left
  ·have e : Hid (k = m.cells_.length):=by show k = _;have a:=H.out;omega
   have HY:=hid (dec_yes (p:=memP m) ⟨by rw [← e.out];exact HU.out,by have a:=H.out;have b:=H8.out;omega,HK.out⟩)
   go_wp2
   go_ret
   exact ⟨by unfold memOk;rw [HY.out];try rfl,HX.out⟩
  obtain ⟨b,o,rfl⟩:=HS.out.addr (by omega)
  obtain ⟨s,hsk,-,hc⟩:=(HS.out.ext HX.out).flat_cell (k:=k) Word.cells_length (by omega) (by omega)
  obtain ⟨f0,f1,f2⟩:=s
  have k0:=hc 0 (by omega)
  have k1:=hc 1 (by omega)
  have k2:=hc 2 (by omega)
  simp only [Word.cells,List.getElem?_cons_zero,List.getElem?_cons_succ,Nat.add_zero] at k0 k1 k2
  have HSK:=hid hsk
  have hkl : Hid (k < m.cells_.length):=by show k < _;have a:=H.out;omega
  clear hsk hc
  by_cases t0 : 0 ≤ f0 ∧ f0 ≤ 65535
  rotate_left
  ·have HY:=hid (dec_no (p:=memP m) (fun z => AllTo.not HSK.out hkl.out (fun q => t0 q.1) z.1))
   have d0 : decide (0 ≤ f0 ∧ f0 ≤ 65535) = false:=by simpa using t0
   clear t0
   go_wp2_with ((go_at_call 131;refine (l3Val_any _ _).mono ?_;rintro e w' ⟨rfl,rfl⟩))
   go_ret
   exact ⟨by unfold memOk;rw [HY.out];try rfl,HX.out.al _⟩
  have d0 : decide (0 ≤ f0 ∧ f0 ≤ 65535) = true:=by simpa using t0
  by_cases t1 : 0 ≤ f1 ∧ f1 ≤ m.clock_
  rotate_left
  ·have HY:=hid (dec_no (p:=memP m) (fun z => AllTo.not HSK.out hkl.out (fun q => t1 q.2.1) z.1))
   have d1 : decide (0 ≤ f1 ∧ f1 ≤ m.clock_) = false:=by simpa using t1
   clear t0 t1
   go_wp2_with (first|(go_at_call 131;refine (l3Val_any _ _).mono ?_;rintro e w' ⟨rfl,rfl⟩)|(go_at_call 132;refine (l1In_any _ _ _ _).mono ?_;rintro e w' ⟨rfl,rfl⟩))
   go_ret
   exact ⟨by unfold memOk;rw [HY.out];try rfl,HX.out.al _⟩
  have d1 : decide (0 ≤ f1 ∧ f1 ≤ m.clock_) = true:=by simpa using t1
  by_cases t2 : 0 ≤ f2 ∧ f2 ≤ 99
  rotate_left
  ·have HY:=hid (dec_no (p:=memP m) (fun z => AllTo.not HSK.out hkl.out (fun q => t2 q.2.2) z.1))
   have d2 : decide (0 ≤ f2 ∧ f2 ≤ 99) = false:=by simpa using t2
   clear t0 t1 t2
   go_wp2_with (first|(go_at_call 131;refine (l3Val_any _ _).mono ?_;rintro e w' ⟨rfl,rfl⟩)|(go_at_call 132;refine (l1In_any _ _ _ _).mono ?_;rintro e w' ⟨rfl,rfl⟩))
   go_ret
   exact ⟨by unfold memOk;rw [HY.out];try rfl,HX.out.al _⟩
  have d2 : decide (0 ≤ f2 ∧ f2 ≤ 99) = true:=by simpa using t2
  have HT:=hid (show Word.fine m.clock_ ⟨f0,f1,f2⟩ from ⟨t0,t1,t2⟩)
  clear t0 t1 t2
  go_wp2_with (first|(go_at_call 131;refine (l3Val_any _ _).mono ?_;rintro e w' ⟨rfl,rfl⟩)|(go_at_call 132;refine (l1In_any _ _ _ _).mono ?_;rintro e w' ⟨rfl,rfl⟩))
  go_roundw
  case rel => exact ⟨k + 1,by omega,by go_num,HU.out.succ HSK.out HT.out,HB.out.al _,HX.out.al _⟩
  case measure => simp [intOf];omega



noncomputable def valuesF (m : Mem) : List Int:=if memOk m = true then m.cells_.map (·.val_) else []
theorem wmap_take {l : List Word} {k : Nat} {r : Word} (h : l[k]? = some r) : (l.take k).map (·.val_) ++ [r.val_] = (l.take (k + 1)).map (·.val_):=by rw [List.take_add_one,h,List.map_append];rfl
theorem word_at {w : World} {S : Nat → Prop} {b o n k : Nat} {l : List Word} {x : Word} (h : Sl w S 3 (some ⟨b,o,none⟩) n (l.flatMap Word.cells)) (hx : l[k]? = some x) (hk : k < n) (j : Nat) (hj : j < 3) :
  w.cell? ⟨b,o + k * 3 + j,none⟩ = [Value.int .i64 x.val_,.int .i64 x.ver_,.int .i64 x.owner_][j]? ∧ b < w.heap.size:=by
 obtain ⟨s,hs,hb,hc⟩:=h.flat_cell (k:=k) Word.cells_length (by omega) hk
 rw [hx] at hs
 injection hs with hs
 subst hs
 exact ⟨hc j hj,hb⟩

set_option maxRecDepth 8000 in
theorem spec_Values (m : Mem) (A : Option Addr) (n c : Nat) (w : World) (S : Nat → Prop) (hs : Sl w S 3 A n (m.cells_.flatMap Word.cells)) (hn : n ≤ 1048576) :
  Calls Tryz.prog 66 #[.agg #[.int .i64 m.clock_,.slice A n c]] w fun e w' => ∃ B m2 d,e = .returned (.slice B m2 d) ∧ Mine w w' [.row 3 1 B m2 d (ints (valuesF m))]:=by
 have hl : m.cells_.length = n:=hs.flen Word.cells_length (by omega)
 have HS:=hid hs
 clear hs
 have M:=hid (Mine.refl w)
 cases hM : memOk m
 ·skip
  have HM:=hid hM
  have HZ : Hid (valuesF m = []):=by show _ = _;unfold valuesF;rw [hM];rfl
  clear hM
  go_enter Tryz.func66,Tryz.ntmps66
  go_wp2_with (first|(go_at_call 115;refine zC M (spec_MemOk m A n c _ S (by omega) (HS.out.ext M.out.ext)) ?_;clear M;intro w' M;rw [HM.out])|(refine Mine.wp_mkI M.out rfl rfl ?_;intro gv w' M';replace M:=hid M';clear M';(try simp only [zr_,zm_]))|(first|((with_reducible refine zN ?_);first|(refine Mine.wp_box M.out rfl 52 _ rfl _ rfl ?_;intro ga w' M';(try simp only [zr_,zm_] at M');replace M:=hid M';clear M';(try simp only [zr_,zm_]))|((first|refine zG M.out 0 ?_|refine zG M.out 1 ?_|refine zGs M.out 52 0 2 ?_|refine zGs M.out 52 1 2 ?_);(try simp only [zr_,zm_])))))
  go_ret
  refine ⟨_,_,_,rfl,?_⟩
  rw [HZ.out]
  exact M.out.sub (sk_ (sd_ s0_))
 have HM:=hid hM
 have HZ : Hid (valuesF m = m.cells_.map (·.val_)):=by show _ = _;unfold valuesF;rw [hM];rfl
 clear hM
 go_enter Tryz.func66,Tryz.ntmps66
 go_wp2_with (first|(go_at_call 115;refine zC M (spec_MemOk m A n c _ S (by omega) (HS.out.ext M.out.ext)) ?_;clear M;intro w' M;rw [HM.out])|(refine Mine.wp_mkI M.out rfl rfl ?_;intro gv w' M';replace M:=hid M';clear M';(try simp only [zr_,zm_]))|(first|((with_reducible refine zN ?_);first|(refine Mine.wp_box M.out rfl 52 _ rfl _ rfl ?_;intro ga w' M';(try simp only [zr_,zm_] at M');replace M:=hid M';clear M';(try simp only [zr_,zm_]))|((first|refine zG M.out 0 ?_|refine zG M.out 1 ?_|refine zGs M.out 52 0 2 ?_|refine zGs M.out 52 1 2 ?_);(try simp only [zr_,zm_])))))
 go_loopw [3,4] (fun u i wr => ∃ (k e2 f : Nat) (B2 : Option Addr),k ≤ n ∧ e2 = k ∧ u = .slice B2 e2 f ∧ i = .int .i64 k ∧ Hid (Mine w wr [.row 3 1 B2 e2 f (ints ((m.cells_.take k).map (·.val_))),.box ga 52 #[.int .i64 m.clock_,.slice A n c]])) (fun _ i _ => n - (intOf i).toNat)
 case atStart => exact ⟨0,0,_,_,Nat.zero_le _,rfl,rfl,rfl,M⟩
 case round =>
  clear M
  obtain ⟨k,e2,f,B2,hk,he2,rfl,rfl,M⟩:=hrel
  have HE2:=hid he2
  have he8 : e2 ≤ 1048576:=by omega
  by_cases hlt : (k : Int) < (n : Int)
  rotate_left
  ·have e : Hid (k = m.cells_.length):=by show _ = _;omega
   clear he2
   go_wp2_with (((with_reducible refine zN ?_);first|(refine zG M.out 1 ?_;(try simp only [zr_,zm_]))))
   go_ret
   have M9:=M.out
   rw [e.out,List.take_length] at M9
   refine ⟨_,_,_,rfl,?_⟩
   rw [HZ.out]
   exact M9.sub (sk_ (sd_ s0_))
  clear he2
  have HLT : Hid (k < n):=by show _ < _;omega
  obtain ⟨b,o,rfl⟩:=HS.out.addr (by omega)
  obtain ⟨x,hx⟩ : ∃ x,m.cells_[k]? = some x:=⟨_,List.getElem?_eq_getElem (by omega)⟩
  have HX:=hid hx
  have HC : Hid (w.cell? ⟨b,o + k * 3,none⟩ = some (.int .i64 x.val_) ∧ b < w.heap.size):=word_at HS.out hx HLT.out 0 (by omega)
  have HRG : Hid (w.rangeAt b (o + k * 3) [.int .i64 x.val_,.int .i64 x.ver_,.int .i64 x.owner_]):=fun u v hu => by
   have h3 : u < 3:=by have:=(List.getElem?_eq_some_iff.1 hu).1;simpa using this
   rw [(word_at HS.out HX.out HLT.out u h3).1];exact hu
  have HRB : Hid (b < w.heap.size):=HC.out.2
  clear hx
  go_wp2_with (first|(at_builtin;refine Mine.wp_push M.out rfl _ _ 22 rfl 3 _ _ _ Tryz.underlying22 Tryz.infoInt rfl (by omega) 0 rfl rfl _ _ rfl rfl rfl (by simp [Value.oneCell']) (by omega) (by unfold maxLen;omega) ?_;intro A2 c2 w' M';(try simp only [zr_,zm_] at M');replace M:=hid M';clear M')|((with_reducible refine zN ?_);first|((first|refine zG M.out 1 ?_|refine Mine.wp_argc M.out rfl 3 _ rfl _ _ HC.out rfl _ Tryz.underlying3 (by rfl) ?_);(try simp only [zr_,zm_]))))
  rw [wmap_take HX.out] at M
  go_roundw
  case rel => exact ⟨k + 1,e2 + 1,_,_,HLT.out,by rw [HE2.out],rfl,by go_num,hid M.out⟩
  case measure => have:=HLT.out;simp [intOf];omega
set_option maxRecDepth 8000 in
theorem impl_Values (m : Mem) (A : Option Addr) (n c : Nat) (w : World) (S : Nat → Prop) (hs : Sl w S 3 A n (m.cells_.flatMap Word.cells)) (hn : n ≤ 1048576) :
  Calls Tryz.prog 71 #[.agg #[.int .i64 m.clock_,.slice A n c]] w fun e w' => ∃ B m2 d,e = .returned (.slice B m2 d) ∧ Mine w w' [.row 3 1 B m2 d (ints (valuesF m))]:=by
 have hl : m.cells_.length = n:=hs.flen Word.cells_length (by omega)
 have HS:=hid hs
 clear hs
 have M:=hid (Mine.refl w)
 cases hM : memOk m
 ·skip
  have HM:=hid hM
  have HZ : Hid (valuesF m = []):=by show _ = _;unfold valuesF;rw [hM];rfl
  clear hM
  go_enter Tryz.func71,Tryz.ntmps71
  go_wp2_with (first|(go_at_call 120;refine zC M (impl_MemOk m A n c _ S (by omega) (HS.out.ext M.out.ext)) ?_;clear M;intro w' M;rw [HM.out])|(first|((with_reducible refine zN ?_);first|(refine Mine.wp_box M.out rfl 52 _ rfl _ rfl ?_;intro ga w' M';(try simp only [zr_,zm_] at M');replace M:=hid M';clear M';(try simp only [zr_,zm_]))|((first|refine zG M.out 0 ?_|refine zG M.out 1 ?_|refine zGs M.out 52 0 2 ?_|refine zGs M.out 52 1 2 ?_);(try simp only [zr_,zm_])))))
  go_ret
  refine ⟨none,0,0,rfl,?_⟩
  rw [HZ.out]
  exact (M.out.sub (sd_ s0_)).nil 3 1
 have HM:=hid hM
 have HZ : Hid (valuesF m = m.cells_.map (·.val_)):=by show _ = _;unfold valuesF;rw [hM];rfl
 clear hM
 go_enter Tryz.func71,Tryz.ntmps71
 go_wp2_with (first|(go_at_call 120;refine zC M (impl_MemOk m A n c _ S (by omega) (HS.out.ext M.out.ext)) ?_;clear M;intro w' M;rw [HM.out])|(refine Mine.wp_mkI M.out rfl rfl ?_;intro gv w' M';replace M:=hid M';clear M';(try simp only [zr_,zm_]))|(first|((with_reducible refine zN ?_);first|(refine Mine.wp_box M.out rfl 52 _ rfl _ rfl ?_;intro ga w' M';(try simp only [zr_,zm_] at M');replace M:=hid M';clear M';(try simp only [zr_,zm_]))|((first|refine zG M.out 0 ?_|refine zG M.out 1 ?_|refine zGs M.out 52 0 2 ?_|refine zGs M.out 52 1 2 ?_);(try simp only [zr_,zm_])))))
 go_loopw [3,13] (fun u i wr => ∃ (k e2 f : Nat) (B2 : Option Addr),k ≤ n ∧ e2 = k ∧ u = .slice B2 e2 f ∧ i = .int .i64 k ∧ Hid (Mine w wr [.row 3 1 B2 e2 f (ints ((m.cells_.take k).map (·.val_))),.box ga 52 #[.int .i64 m.clock_,.slice A n c]])) (fun _ i _ => n - (intOf i).toNat)
 case atStart => exact ⟨0,0,_,_,Nat.zero_le _,rfl,rfl,rfl,M⟩
 case round =>
  clear M
  obtain ⟨k,e2,f,B2,hk,he2,rfl,rfl,M⟩:=hrel
  have HE2:=hid he2
  have he8 : e2 ≤ 1048576:=by omega
  by_cases hlt : (k : Int) < (n : Int)
  rotate_left
  ·have e : Hid (k = m.cells_.length):=by show _ = _;omega
   clear he2
   go_wp2_with (fail)
   go_ret
   have M9:=M.out
   rw [e.out,List.take_length] at M9
   refine ⟨_,_,_,rfl,?_⟩
   rw [HZ.out]
   exact M9.sub (sk_ (sd_ s0_))
  clear he2
  have HLT : Hid (k < n):=by show _ < _;omega
  obtain ⟨b,o,rfl⟩:=HS.out.addr (by omega)
  obtain ⟨x,hx⟩ : ∃ x,m.cells_[k]? = some x:=⟨_,List.getElem?_eq_getElem (by omega)⟩
  have HX:=hid hx
  have HC : Hid (w.cell? ⟨b,o + k * 3,none⟩ = some (.int .i64 x.val_) ∧ b < w.heap.size):=word_at HS.out hx HLT.out 0 (by omega)
  have HRG : Hid (w.rangeAt b (o + k * 3) [.int .i64 x.val_,.int .i64 x.ver_,.int .i64 x.owner_]):=fun u v hu => by
   have h3 : u < 3:=by have:=(List.getElem?_eq_some_iff.1 hu).1;simpa using this
   rw [(word_at HS.out HX.out HLT.out u h3).1];exact hu
  have HRB : Hid (b < w.heap.size):=HC.out.2
  clear hx
  go_wp2_with (first|(at_builtin;refine Mine.wp_push M.out rfl _ _ 22 rfl 3 _ _ _ Tryz.underlying22 Tryz.infoInt rfl (by omega) 1 rfl rfl _ _ rfl rfl rfl (by simp [Value.oneCell']) (by omega) (by unfold maxLen;omega) ?_;intro A2 c2 w' M';(try simp only [zr_,zm_] at M');replace M:=hid M';clear M')|((with_reducible refine zN ?_);first|((first|refine Mine.wp_arg M.out rfl 193 _ rfl _ _ rfl [.int .i64 x.val_,.int .i64 x.ver_,.int .i64 x.owner_] HRG.out HRB.out _ Tryz.underlying193 (by rfl) (by kernel_rfl) ?_|refine zG M.out 0 ?_);(try simp only [zr_,zm_]))|(refine Mine.wp_alloc M.out rfl 193 rfl (.agg #[.int .i64 0,.int .i64 0,.int .i64 0]) (by kernel_rfl) ?_;intro gx w' M';(try simp only [Value.cells,zr_,zm_] at M');replace M:=hid M';clear M';(try simp only [zr_,zm_]))|(refine zSs M.out 193 0 ?_;intro w' M';(try simp only [zr_,zm_] at M');replace M:=hid M';clear M')))
  rw [wmap_take HX.out] at M
  go_roundw
  case rel => exact ⟨k + 1,e2 + 1,_,_,HLT.out,by rw [HE2.out],rfl,by go_num,hid M.out.tail⟩
  case measure => have:=HLT.out;simp [intOf];omega

end Go.Proofs.YtoegjiigaoanbaaGreat
namespace Go.Proofs.YtoegjiigaoanbaaGreat
open Go.RowKit Go.Deep
set_option linter.unnecessarySimpa false
set_option maxHeartbeats 400000000
open Go.Lib (hid)
set_option linter.unusedSimpArgs false
set_option linter.unusedVariables false
set_option linter.unnecessarySimpa false
set_option maxHeartbeats 400000000

def isOver (x : Root) : Prop:=x.phase_ = 8
noncomputable def overW (x : GWorld) : Bool:=dec (AllTo (fun _ x => isOver x) x.roots_ x.roots_.length)

theorem ovC_any (x : Root) (cs : List Value) (S : Nat → Prop) (w : World) (h : Root.R w S cs x) :
  Calls Tryz.prog 119 #[.agg cs.toArray] w fun e w' => e = .returned (.bool (!dec (isOver x))) ∧ Ext w w':=by
 obtain ⟨A0,n0,c0,A1,n1,c1,A2,n2,c2,A3,n3,c3,A4,n4,c4,A5,n5,c5,A6,n6,c6,A7,n7,c7,A8,n8,c8,A9,n9,c9,A10,n10,c10,A11,n11,c11,A12,n12,c12,A13,n13,c13,rfl⟩:=Root.R_cells h
 clear h
 show Calls Tryz.prog _ #[.agg (List.toArray ((.int .i64 x.phase_)::(.int .i64 x.tries_)::(.int .i64 x.spare_)::(.int .i64 x.pc_)::(.int .i64 x.rv_)::(.int .i64 x.newRv_)::(.int .i64 x.at_)::(.int .i64 x.fate_)::(.int .i64 x.stamp_)::(.int .i64 x.began_)::(.int .i64 x.ended_)::(.bool x.doomed_)::(.slice A0 n0 c0)::(.slice A1 n1 c1)::(.slice A2 n2 c2)::(.slice A3 n3 c3)::(.slice A4 n4 c4)::(.slice A5 n5 c5)::(.bool x.busy_)::(.int .i64 x.probe_.cell_)::(.int .i64 x.probe_.phase_)::(.int .i64 x.probe_.ver_)::(.int .i64 x.probe_.val_)::(.int .i64 x.commit_.who_)::(.int .i64 x.commit_.rv_)::(.int .i64 x.commit_.phase_)::(.int .i64 x.commit_.at_)::(.int .i64 x.commit_.wv_)::(.slice A6 n6 c6)::(.slice A7 n7 c7)::(.int .i64 x.fam_.rv_)::(.int .i64 x.fam_.clock_)::(.int .i64 x.fam_.owner_)::(.bool x.fam_.lost_)::(.slice A8 n8 c8)::(.slice A9 n9 c9)::(.slice A10 n10 c10)::(.slice A11 n11 c11)::(.slice A12 n12 c12)::(.slice A13 n13 c13)::[]))] w _
 by_cases h : x.phase_ = 8
 ·have b0 : (x.phase_ != 8) = false:=by simp [h]
  rw [dec_yes (show isOver x from h)]
  clear h
  go_enter Tryz.func119,Tryz.ntmps119
  go_wp2
  go_ret
  exact ⟨by first|rfl|(simp;omega)|simp,(Ext.refl' _).al _⟩
 ·have b0 : (x.phase_ != 8) = true:=by simp [h]
  rw [dec_no (show ¬ isOver x from h)]
  clear h
  go_enter Tryz.func119,Tryz.ntmps119
  go_wp2
  go_ret
  exact ⟨by first|rfl|(simp;omega)|simp,(Ext.refl' _).al _⟩

theorem idxov_any (A : Option Addr) (n c : Nat) (l : List Root) (w : World) (S : Nat → Prop) (hs : SlR Root.R 40 w S A n l) (hm : n ≤ 9223372036854775807) :
  Calls Tryz.prog 174 #[.slice A n c,.func (.func 119) #[] #[]] w fun e w' => ∃ i : Int,e = .returned (.int .i64 i) ∧ ((i = -1 ∧ AllTo (fun _ x => isOver x) l l.length) ∨ (0 ≤ i ∧ ¬ AllTo (fun _ x => isOver x) l l.length)) ∧ Ext w w':=by
 have H:=hid (hs.1)
 have HS:=hid hs
 clear hs
 go_enter Tryz.func174,Tryz.ntmps174
 go_wp2
 go_loopw [8] (fun i wr => ∃ k : Nat,k ≤ n ∧ i = .int .i64 k ∧ AllTo (fun _ x => isOver x) l k ∧ Ext w wr) (fun i _ => n - (intOf i).toNat)
 case atStart => exact ⟨0,Nat.zero_le _,rfl,AllTo.zero _ _,Ext.refl' _⟩
 case round =>
  obtain ⟨k,hk,rfl,hup,hx⟩:=hrel
  have HU:=hid hup
  have HX:=hid hx
  clear hup hx
  by_cases hlt : (k : Int) < (n : Int)
  ·
   obtain ⟨b,o,rfl⟩:=HS.out.addr (by omega)
   obtain ⟨x,row,hsk,-,hrw,hc⟩:=(HS.out.ext Root.R_good HX.out).at_ (k:=k) (by omega)
   have hrg:=hid (SlR.range Root.R_good hrw hc)
   have hln : Hid ((Tryz.prog.info? 97).map (·.size) = some row.length):=by show _ = _;rw [Root.R_good.len hrw];exact Root.size_info
   have HRW:=hid hrw
   have HSK:=hid hsk
   clear hsk hc hrw
   go_wp2_with (refine wpList_load_mid rfl 97 _ rfl b (o + k * 40) rfl row _ hrg.out Tryz.underlying97 rfl hln.out ?_)
   refine (ovC_any x _ S _ HRW.out).mono ?_
   rintro e w2 ⟨rfl,x2⟩
   have X2:=hid (HX.out.tr x2)
   clear x2
   by_cases h0 : isOver x
   ·have H0:=hid h0
    rw [dec_yes h0]
    clear h0
    go_wp2
    go_roundw
    case rel => exact ⟨k + 1,by omega,by go_num,HU.out.succ HSK.out H0.out,X2.out⟩
    case measure => simp [intOf];omega
   ·have H0:=hid h0
    rw [dec_no h0]
    clear h0
    go_wp2
    go_ret
    exact ⟨k,rfl,.inr ⟨by omega,fun h => AllTo.not HSK.out (by have a:=H.out;omega) (fun q => H0.out q) h⟩,X2.out⟩
  ·have e : Hid (k = l.length):=by show k = _;have a:=H.out;omega
   go_wp2
   go_ret
   exact ⟨-1,rfl,.inl ⟨rfl,by rw [← e.out];exact HU.out⟩,HX.out⟩

theorem anyov_any (A : Option Addr) (n c : Nat) (l : List Root) (w : World) (S : Nat → Prop) (hs : SlR Root.R 40 w S A n l) (hm : n ≤ 9223372036854775807) :
  Calls Tryz.prog 118 #[.slice A n c,.func (.func 119) #[] #[]] w fun e w' => e = .returned (.bool (!dec (AllTo (fun _ x => isOver x) l l.length))) ∧ Ext w w':=by
 go_enter Tryz.func118,Tryz.ntmps118
 go_wp2_with fail
 refine (idxov_any _ _ _ _ _ _ hs hm).mono ?_
 rintro e w1 ⟨i,rfl,hi,x1⟩
 have X1:=hid x1
 clear x1
 rcases hi with ⟨rfl,hx⟩|⟨hi,hx⟩
 ·have HX:=hid hx
  clear hx
  go_wp2
  go_ret
  exact ⟨by rw [dec_yes HX.out];rfl,X1.out⟩
 ·have HX:=hid hx
  clear hx
  go_wp2
  go_ret
  exact ⟨by rw [dec_no HX.out];rfl,X1.out⟩
set_option maxRecDepth 8000 in
theorem spec_Over (x : GWorld) (cs : List Value) (w : World) (S : Nat → Prop) (h : GWorld.R w S cs x) (_hw : GWorld.wt x ≤ 1048576) :
  Calls Tryz.prog 64 #[.agg cs.toArray] w fun e w' => e = .returned (.bool (overW x)) ∧ Ext w w':=by
 obtain ⟨v0,v1,A2,n2,c2,A3,n3,c3,A4,n4,c4,rfl,h0,h1,⟨kh2,mh2,h2⟩,⟨kh3,mh3,h3⟩,⟨kh4,mh4,h4⟩⟩:=h
 obtain ⟨A0,n0,c0,rfl⟩:=Mem.R_cells h0
 obtain ⟨A1,n1,c1,rfl⟩:=Shelf.R_cells h1
 have HR:=hid h3
 have hl:=h3.1
 have hn3 : n3 ≤ 1048576:=by have a:=wtl_len Root.wt x.roots_;unfold GWorld.wt at _hw;omega
 clear h0 h1 h2 h3 h4
 show Calls Tryz.prog _ #[.agg #[.int .i64 x.now_,.int .i64 x.token_,.int .i64 x.mem_.clock_,.slice A0 n0 c0,.slice A1 n1 c1,.int .i64 x.shelf_.count_,.slice A2 n2 c2,.slice A3 n3 c3,.slice A4 n4 c4]] w _
 have M:=hid (Mine.refl w)
 go_enter Tryz.func64,Tryz.ntmps64
 go_wp2_with (((with_reducible refine zN ?_);first|(refine Mine.wp_box M.out rfl 58 _ rfl _ rfl ?_;intro ga w' M';(try simp only [zr_,zm_] at M');replace M:=hid M';clear M';(try simp only [zr_,zm_]))))
 go_loopw [3] (fun i wr => ∃ k : Nat,k ≤ n3 ∧ i = .int .i64 k ∧ Hid (AllTo (fun _ x => isOver x) x.roots_ k) ∧ Hid (Mine w wr [.box ga 58 #[.int .i64 x.now_,.int .i64 x.token_,.int .i64 x.mem_.clock_,.slice A0 n0 c0,.slice A1 n1 c1,.int .i64 x.shelf_.count_,.slice A2 n2 c2,.slice A3 n3 c3,.slice A4 n4 c4]])) (fun i _ => n3 - (intOf i).toNat)
 case atStart => exact ⟨0,Nat.zero_le _,rfl,AllTo.zero _ _,M⟩
 case round =>
  clear M
  obtain ⟨k,hk,rfl,HU,M⟩:=hrel
  by_cases hlt : (k : Int) < (n3 : Int)
  rotate_left
  ·have e : k = x.roots_.length:=by omega
   have HZ : Hid (overW x = true):=dec_yes (by rw [← e];exact HU.out)
   clear e
   go_wp2_with (((with_reducible refine zN ?_);first|(refine zG M.out 0 ?_;(try simp only [zr_,zm_]))))
   go_ret
   exact ⟨by rw [HZ.out];rfl,M.out.ext⟩
  have HLT : Hid (k < n3):=by show _ < _;omega
  obtain ⟨b,o,rfl⟩:=HR.out.addr (by omega)
  obtain ⟨r,row,hx,hb,hr,hc⟩:=HR.out.at_ (k:=k) HLT.out
  have hr0:=hr
  obtain ⟨B0,m0,d0,B1,m1,d1,B2,m2,d2,B3,m3,d3,B4,m4,d4,B5,m5,d5,B6,m6,d6,B7,m7,d7,B8,m8,d8,B9,m9,d9,B10,m10,d10,B11,m11,d11,B12,m12,d12,B13,m13,d13,rfl⟩:=Root.R_cells hr0
  have HX:=hid hx
  have HC : Hid (w.cell? ⟨b,o + k * 40,none⟩ = some (.int .i64 r.phase_) ∧ b < w.heap.size):=⟨hc 0 (by omega),hb⟩
  clear hx hr hc hb
  by_cases h3 : r.phase_ = 8
  rotate_left
  ·have b3 : (r.phase_ != 8) = true:=by simpa using h3
   have HZ : Hid (overW x = false):=dec_no fun z => h3 (z k (by have:=HLT.out;omega) r HX.out)
   clear h3
   go_wp2_with (((with_reducible refine zN ?_);first|((first|refine zG M.out 0 ?_|refine Mine.wp_argc M.out rfl 3 _ rfl _ _ HC.out rfl _ Tryz.underlying3 (by rfl) ?_);(try simp only [zr_,zm_]))))
   go_ret
   exact ⟨by rw [HZ.out];rfl,M.out.ext⟩
  have b3 : (r.phase_ != 8) = false:=by simp [h3]
  have H3 : Hid (isOver r):=h3
  clear h3
  go_wp2_with (((with_reducible refine zN ?_);first|((first|refine zG M.out 0 ?_|refine Mine.wp_argc M.out rfl 3 _ rfl _ _ HC.out rfl _ Tryz.underlying3 (by rfl) ?_);(try simp only [zr_,zm_]))))
  go_roundw
  case rel => exact ⟨k + 1,HLT.out,by go_num,hid (HU.out.succ HX.out H3.out),M⟩
  case measure => have:=HLT.out;simp [intOf];omega
set_option maxRecDepth 8000 in
theorem impl_Over (x : GWorld) (cs : List Value) (w : World) (S : Nat → Prop) (h : GWorld.R w S cs x) (_hw : GWorld.wt x ≤ 1048576) :
  Calls Tryz.prog 69 #[.agg cs.toArray] w fun e w' => e = .returned (.bool (overW x)) ∧ Ext w w':=by
 obtain ⟨v0,v1,A2,n2,c2,A3,n3,c3,A4,n4,c4,rfl,h0,h1,⟨kh2,mh2,h2⟩,⟨kh3,mh3,h3⟩,⟨kh4,mh4,h4⟩⟩:=h
 obtain ⟨A0,n0,c0,rfl⟩:=Mem.R_cells h0
 obtain ⟨A1,n1,c1,rfl⟩:=Shelf.R_cells h1
 have HR:=hid h3
 have hl:=h3.1
 have hn3 : n3 ≤ 1048576:=by have a:=wtl_len Root.wt x.roots_;unfold GWorld.wt at _hw;omega
 clear h0 h1 h2 h3 h4
 show Calls Tryz.prog _ #[.agg #[.int .i64 x.now_,.int .i64 x.token_,.int .i64 x.mem_.clock_,.slice A0 n0 c0,.slice A1 n1 c1,.int .i64 x.shelf_.count_,.slice A2 n2 c2,.slice A3 n3 c3,.slice A4 n4 c4]] w _
 have M:=hid (Mine.refl w)
 cases hd : dec (AllTo (fun _ x => isOver x) x.roots_ x.roots_.length)
 ·have HZ : Hid (overW x = false):=hd
  go_enter Tryz.func69,Tryz.ntmps69
  go_wp2_with (first|(go_at_call 118;refine zC M (anyov_any _ n3 _ x.roots_ _ S (HR.out.ext Root.R_good M.out.ext) (by omega)) ?_;clear M;intro w' M;rw [hd])|((with_reducible refine zN ?_);first|(refine Mine.wp_box M.out rfl 58 _ rfl _ rfl ?_;intro ga w' M';(try simp only [zr_,zm_] at M');replace M:=hid M';clear M';(try simp only [zr_,zm_]))|(refine zG M.out 0 ?_;(try simp only [zr_,zm_]))))
  go_ret
  exact ⟨by rw [HZ.out];rfl,M.out.ext⟩
 ·have HZ : Hid (overW x = true):=hd
  go_enter Tryz.func69,Tryz.ntmps69
  go_wp2_with (first|(go_at_call 118;refine zC M (anyov_any _ n3 _ x.roots_ _ S (HR.out.ext Root.R_good M.out.ext) (by omega)) ?_;clear M;intro w' M;rw [hd])|((with_reducible refine zN ?_);first|(refine Mine.wp_box M.out rfl 58 _ rfl _ rfl ?_;intro ga w' M';(try simp only [zr_,zm_] at M');replace M:=hid M';clear M';(try simp only [zr_,zm_]))|(refine zG M.out 0 ?_;(try simp only [zr_,zm_]))))
  go_ret
  exact ⟨by rw [HZ.out];rfl,M.out.ext⟩

end Go.Proofs.YtoegjiigaoanbaaGreat
namespace Go.Proofs.YtoegjiigaoanbaaGreat
open Go.RowKit Go.Deep
set_option linter.unnecessarySimpa false
set_option maxHeartbeats 400000000
open Go.Lib (hid)
set_option linter.unusedSimpArgs false
set_option linter.unusedVariables false
set_option linter.unnecessarySimpa false
set_option maxHeartbeats 400000000

def sdTo (x : GWorld) (rs : List Run) (L : List Int) (k : Nat) : Prop:=∀ (i : Nat) (a : Int) (r : Run),i < k → L[i]? = some a → rs[i]? = some r → r.out_ = (rootAt x a).fate_ ∧ r.regs_ = (rootAt x a).regs_
noncomputable def endT (x : GWorld) : Things:=⟨valuesF x.mem_,mapOfF x.shelf_.slots_,x.shelf_.count_⟩
def serP (x0 : Script) (x1 : GWorld) : Prop:=replayOk x0 x1 ∧ (replayF x0 x1).1.length = (ranksOf x1).length ∧ sdTo x1 (replayF x0 x1).1 (ranksOf x1) (ranksOf x1).length ∧ (overW x1 = true → sameT (replayF x0 x1).2 (endT x1) = true)
noncomputable def serOf (x0 : Script) (x1 : GWorld) : Bool:=dec (serP x0 x1)
theorem sdTo.zero (x : GWorld) (rs : List Run) (L : List Int) : sdTo x rs L 0:=fun i a r h => absurd h (Nat.not_lt_zero _)
theorem sdTo.next {x : GWorld} {rs : List Run} {L : List Int} {k : Nat} {a : Int} {r : Run} {y : Root} (h : sdTo x rs L k) (ha : L[k]? = some a) (hr : rs[k]? = some r) (hy : rootAt x a = y) (h1 : r.out_ = y.fate_) (h2 : r.regs_ = y.regs_) : sdTo x rs L (k + 1):=by
 intro i c s hi hc hs
 by_cases e : i = k
 ·subst e;rw [ha] at hc;injection hc with hc;subst hc;rw [hr] at hs;injection hs with hs;subst hs;rw [hy];exact ⟨h1,h2⟩
 ·exact h i c s (by omega) hc hs
theorem ser_not {x0 : Script} {x1 : GWorld} {rs : List Run} {L : List Int} {k : Nat} {a : Int} {r : Run} {y : Root} (hrs : (replayF x0 x1).1 = rs) (hL : ranksOf x1 = L) (hk : k < L.length) (ha : L[k]? = some a) (hr : rs[k]? = some r) (hy : rootAt x1 a = y) (h : ¬ (r.out_ = y.fate_ ∧ r.regs_ = y.regs_)) : serOf x0 x1 = false:=by
 subst hrs hL hy
 exact dec_no fun z => h (z.2.2.1 k a r hk ha hr)
theorem ser_end {x0 : Script} {x1 : GWorld} {rs : List Run} {L : List Int} (h0 : replayOk x0 x1) (hrs : (replayF x0 x1).1 = rs) (hL : ranksOf x1 = L) (hl : rs.length = L.length) (hs : sdTo x1 rs L L.length) (b : Bool) (hb : (overW x1 = true → sameT (replayF x0 x1).2 (endT x1) = true) ↔ b = true) : serOf x0 x1 = b:=by
 subst hrs hL
 cases b
 ·exact dec_no fun z => by have:=hb.1 z.2.2.2;cases this
 ·exact dec_yes ⟨h0,hl,hs,hb.2 rfl⟩
theorem Root.at12 {w : World} {S : Nat → Prop} {row : List Value} {x : Root} (h : Root.R w S row x) : ∃ (A : Option Addr) (n c : Nat),row[12]? = some (.slice A n c) ∧ n ≤ c ∧ Sl w S 1 A n (ints x.regs_) ∧ row[7]? = some (.int .i64 x.fate_):=by
 obtain ⟨A0,n0,c0,A1,n1,c1,A2,n2,c2,A3,n3,c3,A4,n4,c4,A5,n5,c5,v6,v7,rfl,⟨kh0,mh0,h0⟩,⟨kh1,mh1,h1⟩,⟨kh2,mh2,h2⟩,⟨kh3,mh3,h3⟩,⟨kh4,mh4,h4⟩,⟨kh5,mh5,h5⟩,h6,h7⟩:=h
 obtain ⟨A6,n6,c6,A7,n7,c7,rfl⟩:=Commit.R_cells h6
 obtain ⟨A8,n8,c8,A9,n9,c9,A10,n10,c10,A11,n11,c11,A12,n12,c12,A13,n13,c13,rfl⟩:=Family.R_cells h7
 exact ⟨_,_,_,rfl,kh0,h0,rfl⟩
theorem Shelf.R_open {w : World} {S : Nat → Prop} {m : Shelf} {A : Option Addr} {n c : Nat} (h : Shelf.R w S [.slice A n c,.int .i64 m.count_] m) : n ≤ 9223372036854775807 ∧ Sl w S 1 A n (ints m.slots_):=by
 obtain ⟨A',n',c',e,⟨_,m',h'⟩⟩:=h
 simp only [List.cons.injEq,Value.slice.injEq,and_true,true_and] at e
 obtain ⟨rfl,rfl,rfl⟩:=e
 exact ⟨by omega,h'⟩
theorem own_le {w : World} {b : Nat} {e : TypeId} {size n c : Nat} {A : Option Addr} {xs : List Value} (h : w.ownsRow b e size (.slice A n c) n xs) : n ≤ 9223372036854775807:=by
 rcases h.2 with ⟨-,h0⟩|⟨g,cap,cur,hv,_,_,hnc,hcm,_⟩
 ·omega
 ·unfold maxLen at hcm;omega
theorem Mine.row_le {b w : World} {rs : List Res} {e : TypeId} {size n c : Nat} {A : Option Addr} {xs : List Value} (M : Mine b w rs) (i : Nat) (hi : rs[i]? = some (.row e size A n c xs)) : n ≤ 9223372036854775807:=own_le (M.row_at i hi)
theorem RunsV.back {b w : World} {r1 r2 r3 a1 a2 a3 : Res} {es : List REnt} (M : Mine b w (r1::r2::r3::(es.flatMap rrows ++ [a1,a2,a3]))) : Mine b w (r1::r2::r3::a1::a2::a3::es.flatMap rrows) :=
 M.perm (List.Perm.cons _ (List.Perm.cons _ (List.Perm.cons _ List.perm_append_comm)))
theorem run_regs {b w : World} {rs : List Res} {es : List REnt} {e : REnt} {k : Nat} (M : Mine b w rs) (hs : ∀ r ∈ es.flatMap rrows,r ∈ rs) (he : es[k]? = some e) : Sl w (fun _ => True) 1 e.r.1 e.r.2.1 (ints e.x.regs_):=by
 have h:=M.all (.row 3 1 e.r.1 e.r.2.1 e.r.2.2 (ints e.x.regs_)) (hs _ (List.mem_flatMap.2 ⟨e,List.mem_of_getElem? he,by simp [rrows]⟩))
 exact ownSl h
theorem run_rle {b w : World} {rs : List Res} {es : List REnt} {e : REnt} {k : Nat} (M : Mine b w rs) (hs : ∀ r ∈ es.flatMap rrows,r ∈ rs) (he : es[k]? = some e) : e.r.2.1 ≤ 9223372036854775807:=by
 have h:=M.all (.row 3 1 e.r.1 e.r.2.1 e.r.2.2 (ints e.x.regs_)) (hs _ (List.mem_flatMap.2 ⟨e,List.mem_of_getElem? he,by simp [rrows]⟩))
 exact own_le h
theorem run_cell {es : List REnt} {e : REnt} {k : Nat} (he : es[k]? = some e) : (es.flatMap rcell)[k * 5]? = some (.int .i64 e.x.out_) ∧ (es.flatMap rcell)[k * 5 + 1]? = some (.slice e.r.1 e.r.2.1 e.r.2.2) :=
 ⟨flat_get rcell_length es k 0 e he (by omega),flat_get rcell_length es k 1 e he (by omega)⟩
theorem Mine.step_allocany {P : Program} {ops : Array Oper} {o : Oper} {a : Act} {Q : Exit → Act → World → Prop} {b w : World} {rs : List Res} {K : Act → World → Prop} {E : Prop} (M : Mine b w rs) (hgd : o.guard = none) (ty : TypeId) (ho : o.op = .alloc ty) (dst : Option Nat) (hd : o.dst = dst) (n : Nat) (hz : (P.info? ty).map (fun i => i.zero.map (fun z => z.cells.size)) = some (some n))
  (h : ∀ g w' cs,cs.size = n → Mine b w' (.box g ty cs::rs) → K (a.put dst (.pointer (some ⟨g,0,none⟩))) w') : if Region.wanted o (yielded ops a.tmps) = true then Oper.wp P o a w K Q else E:=by
 have hw : Region.wanted o (yielded ops a.tmps) = true:=by simp [Region.wanted,hgd]
 subst hd
 rw [if_pos hw]
 cases hq : P.info? ty with
 | none => rw [hq] at hz;cases hz
 | some i =>
  cases hz2 : i.zero with
  | none => simp [hq,hz2] at hz
  | some z =>
   have hn : z.cells.size = n:=by simpa [hq,hz2] using hz
   have:=h _ _ _ hn (M.box ty z.cells)
   unfold Oper.wp execOp
   simp [ho,Instr.alloc,zeroValue,typeInfo,hq,hz2,newVar,newRow]
   exact this


section
variable {P : Program} {md : Region.Mode} {l : List Oper} {Q : Exit → Act → World → Prop} {S : World → Prop} {n f : Nat} {listed : Array Bool} {a : Act} {w : World}
theorem HQ.takeg {i : Nat} {oi : Oper} (hi : l[i]? = some oi) (hB : headB md l n = true) (hf : Region.free md l.toArray listed i = true) (hr : (Region.ready md l.toArray listed).contains i = true) (hin : i < n) (hw : Region.wanted oi (yielded l.toArray a.tmps) = true)
  (hQ : ∀ v c a w,Q (.panic c) (a.put oi.dst v) w → Q (.panic c) a w) (h : ∀ K : Act → Prop,(∀ a',HQ P md l Q S n f (listed.setIfInBounds i true) a' w → K a') → Reads P oi a S K) : HQ P md l Q S n (f + 1) listed a w:=by
 intro inv hS
 simp only [headB,Bool.and_eq_true,decide_eq_true_eq] at hB
 obtain ⟨⟨⟨hsel,hn⟩,hs⟩,hc⟩:=hB
 obtain ⟨v,hv,hK⟩:=h (fun a' => HQ P md l Q S n f (listed.setIfInBounds i true) a' w) fun _ h => h
 have hi' : l.toArray[i]? = some oi:=by simpa using hi
 have hr' : i ∈ Region.ready md l.toArray listed:=by simpa using hr
 exact wpHead_first hi' (Region.noSelect_spec hsel) hs hc hn hin (fun listed' a' w' hL => seqB_ready hL.1) (fun c a w => hQ v c a w) f listed a w inv (Region.free_spec hi' hf) hr' (.inl ⟨hw,hv⟩) hS (hK (inv.set hr' hin) hS)
theorem HQ.skip {i : Nat} {oi : Oper} (hi : l[i]? = some oi) (hB : headB md l n = true) (hf : Region.free md l.toArray listed i = true) (hr : (Region.ready md l.toArray listed).contains i = true) (hin : i < n) (hw : Region.wanted oi (yielded l.toArray a.tmps) = false)
  (hQ : ∀ v c a w,Q (.panic c) (a.put oi.dst v) w → Q (.panic c) a w) (h : HQ P md l Q S n f (listed.setIfInBounds i true) (a.put oi.dst undef) w) : HQ P md l Q S n (f + 1) listed a w:=by
 intro inv hS
 simp only [headB,Bool.and_eq_true,decide_eq_true_eq] at hB
 obtain ⟨⟨⟨hsel,hn⟩,hs⟩,hc⟩:=hB
 have hi' : l.toArray[i]? = some oi:=by simpa using hi
 have hr' : i ∈ Region.ready md l.toArray listed:=by simpa using hr
 exact wpHead_first hi' (Region.noSelect_spec hsel) hs hc hn hin (fun listed' a' w' hL => seqB_ready hL.1) (fun c a w => hQ undef c a w) f listed a w inv (Region.free_spec hi' hf) hr' (.inr ⟨hw,rfl⟩) hS (h (inv.set hr' hin) hS)
end


end Go.Proofs.YtoegjiigaoanbaaGreat
namespace Go.Proofs.YtoegjiigaoanbaaGreat
open Go.RowKit Go.Deep
set_option linter.unnecessarySimpa false
set_option maxHeartbeats 400000000
open Go.Lib (hid)
set_option linter.unusedSimpArgs false
set_option linter.unusedVariables false

theorem dec_is {p q : Prop} [Decidable q] (h : p ↔ q) : dec p = decide q:=by
 unfold dec
 by_cases hq : q
 ·rw [decide_eq_true hq];exact @decide_eq_true _ (Classical.propDecidable p) (h.2 hq)
 ·rw [decide_eq_false hq];exact @decide_eq_false _ (Classical.propDecidable p) (fun k => hq (h.1 k))
noncomputable def cntTo (K : Keys) (l : List Int) (x : Int) (k : Nat) : Nat:=ahead K (l.take k) x
theorem cnt_all (K : Keys) (l : List Int) (x : Int) {k : Nat} (h : k = l.length) : cntTo K l x k = ahead K l x:=by unfold cntTo;rw [h,List.take_length]
theorem cnt_yes {K : Keys} {l : List Int} {x y : Int} {k : Nat} (h : l[k]? = some y) (ht : dec (K.T y x) = true) : cntTo K l x (k + 1) = cntTo K l x k + 1:=by
 obtain ⟨h1,h2⟩:=List.getElem?_eq_some_iff.1 h
 have ht':=dec_true ht
 unfold cntTo ahead
 rw [List.take_succ_eq_append_getElem h1,h2,List.filter_append,List.length_append]
 simp [ht']
theorem cnt_no {K : Keys} {l : List Int} {x y : Int} {k : Nat} (h : l[k]? = some y) (ht : dec (K.T y x) = false) : cntTo K l x (k + 1) = cntTo K l x k:=by
 obtain ⟨h1,h2⟩:=List.getElem?_eq_some_iff.1 h
 have ht':=dec_false ht
 unfold cntTo ahead
 rw [List.take_succ_eq_append_getElem h1,h2,List.filter_append,List.length_append]
 simp [ht']
theorem cnt_le (K : Keys) (l : List Int) (x : Int) (k : Nat) : cntTo K l x k ≤ k:=by
 unfold cntTo ahead
 refine Nat.le_trans (List.length_filter_le _ _) ?_
 rw [List.length_take];omega
theorem ahead_lt {K : Keys} {l : List Int} (hn : l.Nodup) {x : Int} (hx : x ∈ l) : ahead K l x < l.length:=by
 have h:=rank_at (K:=K) hn hx
 obtain ⟨h1,_⟩:=List.getElem?_eq_some_iff.1 h
 rw [(rank_perm K l).length_eq] at h1
 exact h1
theorem placed_step {K : Keys} {l O : List Int} {i : Nat} {x : Int} (hn : l.Nodup) (hO : O.length = l.length) (hx : l[i]? = some x) (h : ∀ (q : Nat) (y : Int),q < i → l[q]? = some y → O[ahead K l y]? = some y) :
  ∀ (q : Nat) (y : Int),q < i + 1 → l[q]? = some y → (O.set (ahead K l x) x)[ahead K l y]? = some y:=by
 intro q y hq hy
 have hxm:=List.mem_of_getElem? hx
 have hym:=List.mem_of_getElem? hy
 by_cases e : ahead K l x = ahead K l y
 ·have h1:=rank_at (K:=K) hn hxm
  have h2:=rank_at (K:=K) hn hym
  rw [e,h2] at h1
  injection h1 with h1
  subst h1
  rw [List.getElem?_set_self (by rw [hO];exact ahead_lt hn hym)]
 ·rw [List.getElem?_set_ne e]
  refine h q y ?_ hy
  have : q ≠ i:=by intro e2;subst e2;rw [hx] at hy;injection hy with hy;subst hy;exact e rfl
  omega
theorem placed_all {K : Keys} {l O : List Int} (hn : l.Nodup) (hO : O.length = l.length) (h : ∀ (q : Nat) (y : Int),q < l.length → l[q]? = some y → O[ahead K l y]? = some y) : O = rankList K l:=by
 have hp:=rank_perm K l
 refine List.ext_getElem? fun q => ?_
 by_cases hq : q < l.length
 ·have hq2 : q < (rankList K l).length:=by rw [hp.length_eq];exact hq
  have h1:=List.getElem?_eq_getElem hq2
  obtain ⟨p,hp1,hp2⟩:=List.getElem_of_mem (hp.subset (List.getElem_mem hq2))
  have h2:=ahead_at (rank_sorted hn) h1
  rw [ahead_perm hp] at h2
  have h3:=h p _ hp1 (by rw [List.getElem?_eq_getElem hp1,hp2])
  rw [h2] at h3
  rw [h3,h1]
 ·rw [List.getElem?_eq_none (by omega),List.getElem?_eq_none (by rw [hp.length_eq];omega)]

set_option maxRecDepth 8000 in
theorem ahead_any {b w : World} (x : GWorld) (A0 : Option Addr) (n0 c0 : Nat) (A1 : Option Addr) (n1 c1 : Nat) (A2 : Option Addr) (n2 c2 : Nat) (A3 : Option Addr) (n3 c3 : Nat) (A4 : Option Addr) (n4 c4 : Nat) (S : Nat → Prop) (hr : SlR Root.R 40 b S A3 n3 x.roots_) (hn : n3 ≤ 1048576) (hx : Ext b w) (i j : Nat) (hi : i < n3) (hj : j < n3) :
  Calls Tryz.prog 81 #[.agg #[.int .i64 x.now_,.int .i64 x.token_,.int .i64 x.mem_.clock_,.slice A0 n0 c0,.slice A1 n1 c1,.int .i64 x.shelf_.count_,.slice A2 n2 c2,.slice A3 n3 c3,.slice A4 n4 c4],.int .i64 i,.int .i64 j] w fun e w' => e = .returned (.bool (dec ((rkeys x).T i j))) ∧ Ext w w':=by
 have M : Hid (Mine w (w.alloc (.cells #[.int .i64 x.now_,.int .i64 x.token_,.int .i64 x.mem_.clock_,.slice A0 n0 c0,.slice A1 n1 c1,.int .i64 x.shelf_.count_,.slice A2 n2 c2,.slice A3 n3 c3,.slice A4 n4 c4] 58)) [.box w.heap.size 58 #[.int .i64 x.now_,.int .i64 x.token_,.int .i64 x.mem_.clock_,.slice A0 n0 c0,.slice A1 n1 c1,.int .i64 x.shelf_.count_,.slice A2 n2 c2,.slice A3 n3 c3,.slice A4 n4 c4]]):=(Mine.refl w).box 58 #[.int .i64 x.now_,.int .i64 x.token_,.int .i64 x.mem_.clock_,.slice A0 n0 c0,.slice A1 n1 c1,.int .i64 x.shelf_.count_,.slice A2 n2 c2,.slice A3 n3 c3,.slice A4 n4 c4]
 obtain ⟨bb,o,rfl⟩:=hr.addr (by omega)
 obtain ⟨r,row1,hk1,hrb,hw1,hl1,hg1⟩:=root_at hr hi
 obtain ⟨s,row2,hk2,-,hw2,hl2,hg2⟩:=root_at hr hj
 have HT : Hid ((rkeys x).T i j ↔ ltR r s ∨ (¬ ltR s r ∧ (i : Int) < j)):=by show _ ↔ _;unfold Keys.T;rw [rkeys_lt,rkeys_lt,rootAt_is hk1,rootAt_is hk2]
 have HW1:=hid (Root.R_good.ext hw1 hx)
 have HL1:=hid hl1
 have HG1:=hid (fun q v hv => (hx.cell (p:=⟨bb,_,none⟩) hrb).trans (hg1 q v hv))
 have HW2:=hid (Root.R_good.ext hw2 hx)
 have HL2:=hid hl2
 have HG2:=hid (fun q v hv => (hx.cell (p:=⟨bb,_,none⟩) hrb).trans (hg2 q v hv))
 have a4:=Root.at4 hw1
 have a10:=Root.at10 hw1
 have b4:=Root.at4 hw2
 have b10:=Root.at10 hw2
 have HRB:=hid (Nat.lt_of_lt_of_le hrb hx.size)
 have hi2 : (i : Int) < (n3 : Int):=by omega
 have hj2 : (j : Int) < (n3 : Int):=by omega
 obtain ⟨X,hX⟩ : ∃ X,X = stampOf r:=⟨_,rfl⟩
 obtain ⟨Y,hY⟩ : ∃ Y,Y = stampOf s:=⟨_,rfl⟩
 have HX:=hid hX
 have HY:=hid hY
 clear hr hk1 hk2 hw1 hw2 hl1 hl2 hg1 hg2 hrb hi hj hX hY hx
 go_enter Tryz.func81,Tryz.ntmps81
 go_wp2_with (((with_reducible refine zN ?_);first|((first|refine zG M.out 0 ?_|refine zG M.out 1 ?_|refine Mine.wp_arg M.out rfl 97 _ rfl _ _ rfl row1 HG1.out HRB.out _ Tryz.underlying97 (by rfl) (by rw [HL1.out];kernel_rfl) ?_|refine Mine.wp_arg M.out rfl 97 _ rfl _ _ rfl row2 HG2.out HRB.out _ Tryz.underlying97 (by rfl) (by rw [HL2.out];kernel_rfl) ?_);(try simp only [zr_,zm_]))|(refine Mine.wp_allocany M.out rfl 97 rfl 40 (by kernel_rfl) ?_;intro gx w' zx hzx M';replace M:=hid M';clear M';(try simp only [zr_,zm_]))|((first|refine Mine.wp_setall M.out rfl 97 _ _ rfl rfl 0 rfl rfl _ rfl (by rw [hzx,HL1.out]) (Root.R_one HW1.out) (by rw [HL1.out];kernel_rfl) ?_|refine Mine.wp_setall M.out rfl 97 _ _ rfl rfl 0 rfl rfl _ rfl (by rw [hzx,HL2.out]) (Root.R_one HW2.out) (by rw [HL2.out];kernel_rfl) ?_);intro w' M';(try simp only [zr_,zm_] at M');replace M:=hid M';clear M')))
 by_cases c1 : X = Y
 rotate_left
 ·have b1 : (X != Y) = true:=by simp [c1]
  have HZ : Hid (dec ((rkeys x).T i j) = decide (X < Y)):=dec_is (by rw [HT.out];unfold ltR;rw [← HX.out,← HY.out];omega)
  clear c1
  refine zRQ M.out ?_
  repeat (first|go_big_quiet_skip|(go_big_quiet_want;first|((first|refine Mine.oq_getall 97 _ rfl 1 rfl rfl _ Tryz.underlying97 (by rfl) (by rw [List.size_toArray,HL1.out];kernel_rfl) ?_|refine Mine.oq_getall 97 _ rfl 0 rfl rfl _ Tryz.underlying97 (by rfl) (by rw [List.size_toArray,HL2.out];kernel_rfl) ?_);(try simp only [zr_,zm_]);go_big_quiet_on)|(unfold Oper.quiet;apply Exists.intro;refine ⟨fun wq hq => ?_,?_⟩;(go_simp;go_at_call 136;(with_reducible refine (spec_StampOf r row1 _ _ (Root.R_good.ext HW1.out hq.ext)).mono ?_);rintro e w2 ⟨rfl,x2⟩;exact ⟨rfl,hq.on x2⟩);(try simp only [zs_,zl_]);go_big_quiet_on)|(unfold Oper.quiet;apply Exists.intro;refine ⟨fun wq hq => ?_,?_⟩;(go_simp;go_at_call 136;(with_reducible refine (spec_StampOf s row2 _ _ (Root.R_good.ext HW2.out hq.ext)).mono ?_);rintro e w2 ⟨rfl,x2⟩;exact ⟨rfl,hq.on x2⟩);(try simp only [zs_,zl_]);go_big_quiet_on)|(unfold Oper.quiet;apply Exists.intro;refine ⟨fun wq hq => ?_,?_⟩;(clear hq;go_simp;first|done|rfl|exact ⟨rfl,rfl⟩);(try simp only [zs_,zl_]);go_big_quiet_on)))
  refine wpQuiet_nil ?_
  intro w' M'
  replace M:=hid M'
  clear M'
  try rw [← HX.out]
  try rw [← HY.out]
  try rw [bp]
  try rw [bq]
  go_wp2
  refine zRQ M.out ?_
  repeat (first|go_big_quiet_skip|(go_big_quiet_want;first|((first|refine Mine.oq_getall 97 _ rfl 1 rfl rfl _ Tryz.underlying97 (by rfl) (by rw [List.size_toArray,HL1.out];kernel_rfl) ?_|refine Mine.oq_getall 97 _ rfl 0 rfl rfl _ Tryz.underlying97 (by rfl) (by rw [List.size_toArray,HL2.out];kernel_rfl) ?_);(try simp only [zr_,zm_]);go_big_quiet_on)|(unfold Oper.quiet;apply Exists.intro;refine ⟨fun wq hq => ?_,?_⟩;(go_simp;go_at_call 136;(with_reducible refine (spec_StampOf r row1 _ _ (Root.R_good.ext HW1.out hq.ext)).mono ?_);rintro e w2 ⟨rfl,x2⟩;exact ⟨rfl,hq.on x2⟩);(try simp only [zs_,zl_]);go_big_quiet_on)|(unfold Oper.quiet;apply Exists.intro;refine ⟨fun wq hq => ?_,?_⟩;(go_simp;go_at_call 136;(with_reducible refine (spec_StampOf s row2 _ _ (Root.R_good.ext HW2.out hq.ext)).mono ?_);rintro e w2 ⟨rfl,x2⟩;exact ⟨rfl,hq.on x2⟩);(try simp only [zs_,zl_]);go_big_quiet_on)|(unfold Oper.quiet;apply Exists.intro;refine ⟨fun wq hq => ?_,?_⟩;(clear hq;go_simp;first|done|rfl|exact ⟨rfl,rfl⟩);(try simp only [zs_,zl_]);go_big_quiet_on)))
  refine wpQuiet_nil ?_
  intro w' M'
  replace M:=hid M'
  clear M'
  try rw [← HX.out]
  try rw [← HY.out]
  try rw [bp]
  try rw [bq]
  go_wp2
  go_ret
  exact ⟨by rw [HZ.out];rfl,M.out.ext⟩
 have b1 : (X != Y) = false:=by simp [c1]
 have HXY:=hid c1
 refine zRQ M.out ?_
 repeat (first|go_big_quiet_skip|(go_big_quiet_want;first|((first|refine Mine.oq_getall 97 _ rfl 1 rfl rfl _ Tryz.underlying97 (by rfl) (by rw [List.size_toArray,HL1.out];kernel_rfl) ?_|refine Mine.oq_getall 97 _ rfl 0 rfl rfl _ Tryz.underlying97 (by rfl) (by rw [List.size_toArray,HL2.out];kernel_rfl) ?_);(try simp only [zr_,zm_]);go_big_quiet_on)|(unfold Oper.quiet;apply Exists.intro;refine ⟨fun wq hq => ?_,?_⟩;(go_simp;go_at_call 136;(with_reducible refine (spec_StampOf r row1 _ _ (Root.R_good.ext HW1.out hq.ext)).mono ?_);rintro e w2 ⟨rfl,x2⟩;exact ⟨rfl,hq.on x2⟩);(try simp only [zs_,zl_]);go_big_quiet_on)|(unfold Oper.quiet;apply Exists.intro;refine ⟨fun wq hq => ?_,?_⟩;(go_simp;go_at_call 136;(with_reducible refine (spec_StampOf s row2 _ _ (Root.R_good.ext HW2.out hq.ext)).mono ?_);rintro e w2 ⟨rfl,x2⟩;exact ⟨rfl,hq.on x2⟩);(try simp only [zs_,zl_]);go_big_quiet_on)|(unfold Oper.quiet;apply Exists.intro;refine ⟨fun wq hq => ?_,?_⟩;(clear hq;go_simp;first|done|rfl|exact ⟨rfl,rfl⟩);(try simp only [zs_,zl_]);go_big_quiet_on)))
 refine wpQuiet_nil ?_
 intro w' M'
 replace M:=hid M'
 clear M'
 try rw [← HX.out]
 try rw [← HY.out]
 try rw [bp]
 try rw [bq]
 go_wp2
 by_cases p : X = r.rv_
 ·by_cases q : Y = s.rv_
  ·skip
   have bp : (X == r.rv_) = true:=by simp [p]
   have bq : (Y == s.rv_) = true:=by simp [q]
   have bpq : (!((X == r.rv_) == (Y == s.rv_))) = false:=by rw [bp,bq];rfl
   have bpq2 : ((X == r.rv_) != (Y == s.rv_)) = false:=by rw [bp,bq];rfl
   have HPQ : Hid (X = r.rv_ ↔ Y = s.rv_):=by show _ ↔ _;exact ⟨fun h => by first|exact q|exact absurd h p,fun h => by first|exact p|exact absurd h q⟩
   by_cases e1 : r.ended_ = s.ended_
   rotate_left
   ·have be : (r.ended_ != s.ended_) = true:=by simp [e1]
    have HZ : Hid (dec ((rkeys x).T i j) = decide (r.ended_ < s.ended_)):=dec_is (by rw [HT.out];unfold ltR;rw [← HX.out,← HY.out];have h1:=HPQ.out;have h2:=HXY.out;omega)
    refine zRQ M.out ?_
    repeat (first|go_big_quiet_skip|(go_big_quiet_want;first|((first|refine Mine.oq_getall 97 _ rfl 1 rfl rfl _ Tryz.underlying97 (by rfl) (by rw [List.size_toArray,HL1.out];kernel_rfl) ?_|refine Mine.oq_getall 97 _ rfl 0 rfl rfl _ Tryz.underlying97 (by rfl) (by rw [List.size_toArray,HL2.out];kernel_rfl) ?_|refine Mine.oq_get _ _ rfl 1 _ rfl rfl _ (by assumption) _ (by first|exact Tryz.underlying3) (by rfl) ?_|refine Mine.oq_get _ _ rfl 0 _ rfl rfl _ (by assumption) _ (by first|exact Tryz.underlying3) (by rfl) ?_);(try simp only [zr_,zm_]);go_big_quiet_on)|(unfold Oper.quiet;apply Exists.intro;refine ⟨fun wq hq => ?_,?_⟩;(go_simp;go_at_call 136;(with_reducible refine (spec_StampOf r row1 _ _ (Root.R_good.ext HW1.out hq.ext)).mono ?_);rintro e w2 ⟨rfl,x2⟩;exact ⟨rfl,hq.on x2⟩);(try simp only [zs_,zl_]);go_big_quiet_on)|(unfold Oper.quiet;apply Exists.intro;refine ⟨fun wq hq => ?_,?_⟩;(go_simp;go_at_call 136;(with_reducible refine (spec_StampOf s row2 _ _ (Root.R_good.ext HW2.out hq.ext)).mono ?_);rintro e w2 ⟨rfl,x2⟩;exact ⟨rfl,hq.on x2⟩);(try simp only [zs_,zl_]);go_big_quiet_on)|(unfold Oper.quiet;apply Exists.intro;refine ⟨fun wq hq => ?_,?_⟩;(clear hq;go_simp;first|done|rfl|exact ⟨rfl,rfl⟩);(try simp only [zs_,zl_]);go_big_quiet_on)))
    refine wpQuiet_nil ?_
    intro w' M'
    replace M:=hid M'
    clear M'
    try rw [← HX.out]
    try rw [← HY.out]
    try rw [bp]
    try rw [bq]
    clear p q c1 e1
    go_wp2_with (((with_reducible refine zN ?_);first|((first|refine Mine.wp_get M.out rfl _ _ rfl 1 _ rfl rfl _ (by assumption) _ (by first|exact Tryz.underlying3) (by rfl) ?_|refine Mine.wp_get M.out rfl _ _ rfl 0 _ rfl rfl _ (by assumption) _ (by first|exact Tryz.underlying3) (by rfl) ?_);(try simp only [zr_,zm_]))))
    go_ret
    exact ⟨by rw [HZ.out];rfl,M.out.ext⟩
   have be : (r.ended_ != s.ended_) = false:=by simp [e1]
   have HZ : Hid (dec ((rkeys x).T i j) = decide ((i : Int) < j)):=dec_is (by rw [HT.out];unfold ltR;rw [← HX.out,← HY.out];have h1:=HPQ.out;have h2:=HXY.out;omega)
   refine zRQ M.out ?_
   repeat (first|go_big_quiet_skip|(go_big_quiet_want;first|((first|refine Mine.oq_getall 97 _ rfl 1 rfl rfl _ Tryz.underlying97 (by rfl) (by rw [List.size_toArray,HL1.out];kernel_rfl) ?_|refine Mine.oq_getall 97 _ rfl 0 rfl rfl _ Tryz.underlying97 (by rfl) (by rw [List.size_toArray,HL2.out];kernel_rfl) ?_|refine Mine.oq_get _ _ rfl 1 _ rfl rfl _ (by assumption) _ (by first|exact Tryz.underlying3) (by rfl) ?_|refine Mine.oq_get _ _ rfl 0 _ rfl rfl _ (by assumption) _ (by first|exact Tryz.underlying3) (by rfl) ?_);(try simp only [zr_,zm_]);go_big_quiet_on)|(unfold Oper.quiet;apply Exists.intro;refine ⟨fun wq hq => ?_,?_⟩;(go_simp;go_at_call 136;(with_reducible refine (spec_StampOf r row1 _ _ (Root.R_good.ext HW1.out hq.ext)).mono ?_);rintro e w2 ⟨rfl,x2⟩;exact ⟨rfl,hq.on x2⟩);(try simp only [zs_,zl_]);go_big_quiet_on)|(unfold Oper.quiet;apply Exists.intro;refine ⟨fun wq hq => ?_,?_⟩;(go_simp;go_at_call 136;(with_reducible refine (spec_StampOf s row2 _ _ (Root.R_good.ext HW2.out hq.ext)).mono ?_);rintro e w2 ⟨rfl,x2⟩;exact ⟨rfl,hq.on x2⟩);(try simp only [zs_,zl_]);go_big_quiet_on)|(unfold Oper.quiet;apply Exists.intro;refine ⟨fun wq hq => ?_,?_⟩;(clear hq;go_simp;first|done|rfl|exact ⟨rfl,rfl⟩);(try simp only [zs_,zl_]);go_big_quiet_on)))
   refine wpQuiet_nil ?_
   intro w' M'
   replace M:=hid M'
   clear M'
   try rw [← HX.out]
   try rw [← HY.out]
   try rw [bp]
   try rw [bq]
   clear p q c1 e1
   go_wp2_with (((with_reducible refine zN ?_);first|((first|refine Mine.wp_get M.out rfl _ _ rfl 1 _ rfl rfl _ (by assumption) _ (by first|exact Tryz.underlying3) (by rfl) ?_|refine Mine.wp_get M.out rfl _ _ rfl 0 _ rfl rfl _ (by assumption) _ (by first|exact Tryz.underlying3) (by rfl) ?_);(try simp only [zr_,zm_]))))
   go_ret
   exact ⟨by rw [HZ.out];first|rfl|simp,M.out.ext⟩
  have bp : (X == r.rv_) = true:=by simp [p]
  have bq : (Y == s.rv_) = false:=by simp [q]
  have bpq : (!((X == r.rv_) == (Y == s.rv_))) = true:=by rw [bp,bq];rfl
  have bpq2 : ((X == r.rv_) != (Y == s.rv_)) = true:=by rw [bp,bq];rfl
  have HZ : Hid (dec ((rkeys x).T i j) = false):=by show _ = _;exact dec_no (by rw [HT.out];unfold ltR;rw [← HX.out,← HY.out];omega)
  refine zRQ M.out ?_
  repeat (first|go_big_quiet_skip|(go_big_quiet_want;first|((first|refine Mine.oq_getall 97 _ rfl 1 rfl rfl _ Tryz.underlying97 (by rfl) (by rw [List.size_toArray,HL1.out];kernel_rfl) ?_|refine Mine.oq_getall 97 _ rfl 0 rfl rfl _ Tryz.underlying97 (by rfl) (by rw [List.size_toArray,HL2.out];kernel_rfl) ?_|refine Mine.oq_get _ _ rfl 1 _ rfl rfl _ (by assumption) _ (by first|exact Tryz.underlying3) (by rfl) ?_|refine Mine.oq_get _ _ rfl 0 _ rfl rfl _ (by assumption) _ (by first|exact Tryz.underlying3) (by rfl) ?_);(try simp only [zr_,zm_]);go_big_quiet_on)|(unfold Oper.quiet;apply Exists.intro;refine ⟨fun wq hq => ?_,?_⟩;(go_simp;go_at_call 136;(with_reducible refine (spec_StampOf r row1 _ _ (Root.R_good.ext HW1.out hq.ext)).mono ?_);rintro e w2 ⟨rfl,x2⟩;exact ⟨rfl,hq.on x2⟩);(try simp only [zs_,zl_]);go_big_quiet_on)|(unfold Oper.quiet;apply Exists.intro;refine ⟨fun wq hq => ?_,?_⟩;(go_simp;go_at_call 136;(with_reducible refine (spec_StampOf s row2 _ _ (Root.R_good.ext HW2.out hq.ext)).mono ?_);rintro e w2 ⟨rfl,x2⟩;exact ⟨rfl,hq.on x2⟩);(try simp only [zs_,zl_]);go_big_quiet_on)|(unfold Oper.quiet;apply Exists.intro;refine ⟨fun wq hq => ?_,?_⟩;(clear hq;go_simp;first|done|rfl|exact ⟨rfl,rfl⟩);(try simp only [zs_,zl_]);go_big_quiet_on)))
  refine wpQuiet_nil ?_
  intro w' M'
  replace M:=hid M'
  clear M'
  try rw [← HX.out]
  try rw [← HY.out]
  try rw [bp]
  try rw [bq]
  clear p q c1
  go_wp2
  refine zRQ M.out ?_
  repeat (first|go_big_quiet_skip|(go_big_quiet_want;first|((first|refine Mine.oq_getall 97 _ rfl 0 rfl rfl _ Tryz.underlying97 (by rfl) (by rw [List.size_toArray,HL2.out];kernel_rfl) ?_|refine Mine.oq_get _ _ rfl 0 _ rfl rfl _ (by assumption) _ (by first|exact Tryz.underlying3) (by rfl) ?_);(try simp only [zr_,zm_]);go_big_quiet_on)|(unfold Oper.quiet;apply Exists.intro;refine ⟨fun wq hq => ?_,?_⟩;(go_simp;go_at_call 136;(with_reducible refine (spec_StampOf s row2 _ _ (Root.R_good.ext HW2.out hq.ext)).mono ?_);rintro e w2 ⟨rfl,x2⟩;exact ⟨rfl,hq.on x2⟩);(try simp only [zs_,zl_]);go_big_quiet_on)|(unfold Oper.quiet;apply Exists.intro;refine ⟨fun wq hq => ?_,?_⟩;(clear hq;go_simp;first|done|rfl|exact ⟨rfl,rfl⟩);(try simp only [zs_,zl_]);go_big_quiet_on)))
  refine wpQuiet_nil ?_
  intro w' M'
  replace M:=hid M'
  clear M'
  try rw [← HX.out]
  try rw [← HY.out]
  try rw [bp]
  try rw [bq]
  go_wp2
  go_ret
  exact ⟨by rw [HZ.out];first|rfl|rw [bq],M.out.ext⟩
 by_cases q : Y = s.rv_
 ·skip
  have bp : (X == r.rv_) = false:=by simp [p]
  have bq : (Y == s.rv_) = true:=by simp [q]
  have bpq : (!((X == r.rv_) == (Y == s.rv_))) = true:=by rw [bp,bq];rfl
  have bpq2 : ((X == r.rv_) != (Y == s.rv_)) = true:=by rw [bp,bq];rfl
  have HZ : Hid (dec ((rkeys x).T i j) = true):=by show _ = _;exact dec_yes (by rw [HT.out];unfold ltR;rw [← HX.out,← HY.out];omega)
  refine zRQ M.out ?_
  repeat (first|go_big_quiet_skip|(go_big_quiet_want;first|((first|refine Mine.oq_getall 97 _ rfl 1 rfl rfl _ Tryz.underlying97 (by rfl) (by rw [List.size_toArray,HL1.out];kernel_rfl) ?_|refine Mine.oq_getall 97 _ rfl 0 rfl rfl _ Tryz.underlying97 (by rfl) (by rw [List.size_toArray,HL2.out];kernel_rfl) ?_|refine Mine.oq_get _ _ rfl 1 _ rfl rfl _ (by assumption) _ (by first|exact Tryz.underlying3) (by rfl) ?_|refine Mine.oq_get _ _ rfl 0 _ rfl rfl _ (by assumption) _ (by first|exact Tryz.underlying3) (by rfl) ?_);(try simp only [zr_,zm_]);go_big_quiet_on)|(unfold Oper.quiet;apply Exists.intro;refine ⟨fun wq hq => ?_,?_⟩;(go_simp;go_at_call 136;(with_reducible refine (spec_StampOf r row1 _ _ (Root.R_good.ext HW1.out hq.ext)).mono ?_);rintro e w2 ⟨rfl,x2⟩;exact ⟨rfl,hq.on x2⟩);(try simp only [zs_,zl_]);go_big_quiet_on)|(unfold Oper.quiet;apply Exists.intro;refine ⟨fun wq hq => ?_,?_⟩;(go_simp;go_at_call 136;(with_reducible refine (spec_StampOf s row2 _ _ (Root.R_good.ext HW2.out hq.ext)).mono ?_);rintro e w2 ⟨rfl,x2⟩;exact ⟨rfl,hq.on x2⟩);(try simp only [zs_,zl_]);go_big_quiet_on)|(unfold Oper.quiet;apply Exists.intro;refine ⟨fun wq hq => ?_,?_⟩;(clear hq;go_simp;first|done|rfl|exact ⟨rfl,rfl⟩);(try simp only [zs_,zl_]);go_big_quiet_on)))
  refine wpQuiet_nil ?_
  intro w' M'
  replace M:=hid M'
  clear M'
  try rw [← HX.out]
  try rw [← HY.out]
  try rw [bp]
  try rw [bq]
  clear p q c1
  go_wp2
  refine zRQ M.out ?_
  repeat (first|go_big_quiet_skip|(go_big_quiet_want;first|((first|refine Mine.oq_getall 97 _ rfl 0 rfl rfl _ Tryz.underlying97 (by rfl) (by rw [List.size_toArray,HL2.out];kernel_rfl) ?_|refine Mine.oq_get _ _ rfl 0 _ rfl rfl _ (by assumption) _ (by first|exact Tryz.underlying3) (by rfl) ?_);(try simp only [zr_,zm_]);go_big_quiet_on)|(unfold Oper.quiet;apply Exists.intro;refine ⟨fun wq hq => ?_,?_⟩;(go_simp;go_at_call 136;(with_reducible refine (spec_StampOf s row2 _ _ (Root.R_good.ext HW2.out hq.ext)).mono ?_);rintro e w2 ⟨rfl,x2⟩;exact ⟨rfl,hq.on x2⟩);(try simp only [zs_,zl_]);go_big_quiet_on)|(unfold Oper.quiet;apply Exists.intro;refine ⟨fun wq hq => ?_,?_⟩;(clear hq;go_simp;first|done|rfl|exact ⟨rfl,rfl⟩);(try simp only [zs_,zl_]);go_big_quiet_on)))
  refine wpQuiet_nil ?_
  intro w' M'
  replace M:=hid M'
  clear M'
  try rw [← HX.out]
  try rw [← HY.out]
  try rw [bp]
  try rw [bq]
  go_wp2
  go_ret
  exact ⟨by rw [HZ.out];first|rfl|rw [bq],M.out.ext⟩
 have bp : (X == r.rv_) = false:=by simp [p]
 have bq : (Y == s.rv_) = false:=by simp [q]
 have bpq : (!((X == r.rv_) == (Y == s.rv_))) = false:=by rw [bp,bq];rfl
 have bpq2 : ((X == r.rv_) != (Y == s.rv_)) = false:=by rw [bp,bq];rfl
 have HPQ : Hid (X = r.rv_ ↔ Y = s.rv_):=by show _ ↔ _;exact ⟨fun h => by first|exact q|exact absurd h p,fun h => by first|exact p|exact absurd h q⟩
 by_cases e1 : r.ended_ = s.ended_
 rotate_left
 ·have be : (r.ended_ != s.ended_) = true:=by simp [e1]
  have HZ : Hid (dec ((rkeys x).T i j) = decide (r.ended_ < s.ended_)):=dec_is (by rw [HT.out];unfold ltR;rw [← HX.out,← HY.out];have h1:=HPQ.out;have h2:=HXY.out;omega)
  refine zRQ M.out ?_
  repeat (first|go_big_quiet_skip|(go_big_quiet_want;first|((first|refine Mine.oq_getall 97 _ rfl 1 rfl rfl _ Tryz.underlying97 (by rfl) (by rw [List.size_toArray,HL1.out];kernel_rfl) ?_|refine Mine.oq_getall 97 _ rfl 0 rfl rfl _ Tryz.underlying97 (by rfl) (by rw [List.size_toArray,HL2.out];kernel_rfl) ?_|refine Mine.oq_get _ _ rfl 1 _ rfl rfl _ (by assumption) _ (by first|exact Tryz.underlying3) (by rfl) ?_|refine Mine.oq_get _ _ rfl 0 _ rfl rfl _ (by assumption) _ (by first|exact Tryz.underlying3) (by rfl) ?_);(try simp only [zr_,zm_]);go_big_quiet_on)|(unfold Oper.quiet;apply Exists.intro;refine ⟨fun wq hq => ?_,?_⟩;(go_simp;go_at_call 136;(with_reducible refine (spec_StampOf r row1 _ _ (Root.R_good.ext HW1.out hq.ext)).mono ?_);rintro e w2 ⟨rfl,x2⟩;exact ⟨rfl,hq.on x2⟩);(try simp only [zs_,zl_]);go_big_quiet_on)|(unfold Oper.quiet;apply Exists.intro;refine ⟨fun wq hq => ?_,?_⟩;(go_simp;go_at_call 136;(with_reducible refine (spec_StampOf s row2 _ _ (Root.R_good.ext HW2.out hq.ext)).mono ?_);rintro e w2 ⟨rfl,x2⟩;exact ⟨rfl,hq.on x2⟩);(try simp only [zs_,zl_]);go_big_quiet_on)|(unfold Oper.quiet;apply Exists.intro;refine ⟨fun wq hq => ?_,?_⟩;(clear hq;go_simp;first|done|rfl|exact ⟨rfl,rfl⟩);(try simp only [zs_,zl_]);go_big_quiet_on)))
  refine wpQuiet_nil ?_
  intro w' M'
  replace M:=hid M'
  clear M'
  try rw [← HX.out]
  try rw [← HY.out]
  try rw [bp]
  try rw [bq]
  clear p q c1 e1
  go_wp2_with (((with_reducible refine zN ?_);first|((first|refine Mine.wp_get M.out rfl _ _ rfl 1 _ rfl rfl _ (by assumption) _ (by first|exact Tryz.underlying3) (by rfl) ?_|refine Mine.wp_get M.out rfl _ _ rfl 0 _ rfl rfl _ (by assumption) _ (by first|exact Tryz.underlying3) (by rfl) ?_);(try simp only [zr_,zm_]))))
  go_ret
  exact ⟨by rw [HZ.out];rfl,M.out.ext⟩
 have be : (r.ended_ != s.ended_) = false:=by simp [e1]
 have HZ : Hid (dec ((rkeys x).T i j) = decide ((i : Int) < j)):=dec_is (by rw [HT.out];unfold ltR;rw [← HX.out,← HY.out];have h1:=HPQ.out;have h2:=HXY.out;omega)
 refine zRQ M.out ?_
 repeat (first|go_big_quiet_skip|(go_big_quiet_want;first|((first|refine Mine.oq_getall 97 _ rfl 1 rfl rfl _ Tryz.underlying97 (by rfl) (by rw [List.size_toArray,HL1.out];kernel_rfl) ?_|refine Mine.oq_getall 97 _ rfl 0 rfl rfl _ Tryz.underlying97 (by rfl) (by rw [List.size_toArray,HL2.out];kernel_rfl) ?_|refine Mine.oq_get _ _ rfl 1 _ rfl rfl _ (by assumption) _ (by first|exact Tryz.underlying3) (by rfl) ?_|refine Mine.oq_get _ _ rfl 0 _ rfl rfl _ (by assumption) _ (by first|exact Tryz.underlying3) (by rfl) ?_);(try simp only [zr_,zm_]);go_big_quiet_on)|(unfold Oper.quiet;apply Exists.intro;refine ⟨fun wq hq => ?_,?_⟩;(go_simp;go_at_call 136;(with_reducible refine (spec_StampOf r row1 _ _ (Root.R_good.ext HW1.out hq.ext)).mono ?_);rintro e w2 ⟨rfl,x2⟩;exact ⟨rfl,hq.on x2⟩);(try simp only [zs_,zl_]);go_big_quiet_on)|(unfold Oper.quiet;apply Exists.intro;refine ⟨fun wq hq => ?_,?_⟩;(go_simp;go_at_call 136;(with_reducible refine (spec_StampOf s row2 _ _ (Root.R_good.ext HW2.out hq.ext)).mono ?_);rintro e w2 ⟨rfl,x2⟩;exact ⟨rfl,hq.on x2⟩);(try simp only [zs_,zl_]);go_big_quiet_on)|(unfold Oper.quiet;apply Exists.intro;refine ⟨fun wq hq => ?_,?_⟩;(clear hq;go_simp;first|done|rfl|exact ⟨rfl,rfl⟩);(try simp only [zs_,zl_]);go_big_quiet_on)))
 refine wpQuiet_nil ?_
 intro w' M'
 replace M:=hid M'
 clear M'
 try rw [← HX.out]
 try rw [← HY.out]
 try rw [bp]
 try rw [bq]
 clear p q c1 e1
 go_wp2_with (((with_reducible refine zN ?_);first|((first|refine Mine.wp_get M.out rfl _ _ rfl 1 _ rfl rfl _ (by assumption) _ (by first|exact Tryz.underlying3) (by rfl) ?_|refine Mine.wp_get M.out rfl _ _ rfl 0 _ rfl rfl _ (by assumption) _ (by first|exact Tryz.underlying3) (by rfl) ?_);(try simp only [zr_,zm_]))))
 go_ret
 exact ⟨by rw [HZ.out];first|rfl|simp,M.out.ext⟩
set_option maxRecDepth 8000 in
theorem spec_Ranks2 (x : GWorld) (cs : List Value) (w : World) (S : Nat → Prop) (h : GWorld.R w S cs x) (_hw : GWorld.wt x ≤ 1048576) :
  Calls Tryz.prog 32 #[.agg cs.toArray] w fun e w' => ∃ g m d,e = .returned (.slice (some ⟨g,0,none⟩) m d) ∧ w'.ownsRow w.heap.size 3 1 (.slice (some ⟨g,0,none⟩) m d) m (ints (ranksOf x)) ∧ Ext w w':=by
 obtain ⟨v0,v1,A2,n2,c2,A3,n3,c3,A4,n4,c4,rfl,h0,h1,⟨kh2,mh2,h2⟩,⟨kh3,mh3,h3⟩,⟨kh4,mh4,h4⟩⟩:=h
 obtain ⟨A0,n0,c0,rfl⟩:=Mem.R_cells h0
 obtain ⟨A1,n1,c1,rfl⟩:=Shelf.R_cells h1
 have HR:=hid h3
 have HRN:=hid h3.1
 have hn3 : n3 ≤ 1048576:=by have a:=roots_le x _hw;have b:=HRN.out;omega
 clear h0 h1 h2 h3 h4
 have M : Hid (Mine w (w.alloc (.cells #[.int .i64 x.now_,.int .i64 x.token_,.int .i64 x.mem_.clock_,.slice A0 n0 c0,.slice A1 n1 c1,.int .i64 x.shelf_.count_,.slice A2 n2 c2,.slice A3 n3 c3,.slice A4 n4 c4] 58)) [.box w.heap.size 58 #[.int .i64 x.now_,.int .i64 x.token_,.int .i64 x.mem_.clock_,.slice A0 n0 c0,.slice A1 n1 c1,.int .i64 x.shelf_.count_,.slice A2 n2 c2,.slice A3 n3 c3,.slice A4 n4 c4]]):=(Mine.refl w).box 58 #[.int .i64 x.now_,.int .i64 x.token_,.int .i64 x.mem_.clock_,.slice A0 n0 c0,.slice A1 n1 c1,.int .i64 x.shelf_.count_,.slice A2 n2 c2,.slice A3 n3 c3,.slice A4 n4 c4]
 skip
 show Calls Tryz.prog _ #[.agg #[.int .i64 x.now_,.int .i64 x.token_,.int .i64 x.mem_.clock_,.slice A0 n0 c0,.slice A1 n1 c1,.int .i64 x.shelf_.count_,.slice A2 n2 c2,.slice A3 n3 c3,.slice A4 n4 c4]] w _
 go_enter Tryz.func32,Tryz.ntmps32
 replace M:=hid (M.out.own (own_emptyI _) ((Ext.refl' _).al _))
 simp only [World.heap_alloc_size] at M
 go_wp2_with (fail)
 go_loopw [3,4] (fun u i wr => ∃ (k m d g : Nat),k ≤ n3 ∧ u = .slice (some ⟨g,0,none⟩) m d ∧ i = .int .i64 k ∧ Hid (Mine w wr [.row 3 1 (some ⟨g,0,none⟩) m d (ints (pickTo settledOf x.roots_ k)),.box w.heap.size 58 #[.int .i64 x.now_,.int .i64 x.token_,.int .i64 x.mem_.clock_,.slice A0 n0 c0,.slice A1 n1 c1,.int .i64 x.shelf_.count_,.slice A2 n2 c2,.slice A3 n3 c3,.slice A4 n4 c4]])) (fun _ i _ => n3 - (intOf i).toNat)
 case atStart => exact ⟨0,_,_,_,Nat.zero_le _,rfl,rfl,M⟩
 case round =>
  clear M
  obtain ⟨k,m,d,g,hk,rfl,rfl,M⟩:=hrel
  have hm : m ≤ 1048576:=by have h1:=M.out.len1 0 rfl;rw [ints_length] at h1;have h2:=pick_len settledOf x.roots_ k;omega
  by_cases hlt : (k : Int) < (n3 : Int)
  ·have HLT : Hid (k < n3):=by show _ < _;omega
   obtain ⟨b,o,rfl⟩:=HR.out.addr (by omega)
   obtain ⟨r,row,hsk,hrb,hrw,hrl,hrg⟩:=root_at HR.out (k:=k) (by omega)
   have HSK:=hid hsk
   have HRW:=hid hrw
   have HRL:=hid hrl
   have HRG:=hid hrg
   have HRB:=hid hrb
   have hf0:=Root.first hrw
   clear hsk hrw hrl hrg hrb
   clear hf0
   go_wp2_with (((with_reducible refine zN ?_);first|((first|refine zG M.out 1 ?_|refine Mine.wp_arg M.out rfl 97 _ rfl _ _ rfl row HRG.out HRB.out _ Tryz.underlying97 (by rfl) (by rw [HRL.out];kernel_rfl) ?_);(try simp only [zr_,zm_]))))
   refine (spec_Settled r row _ _ (Root.R_good.ext HRW.out M.out.ext)).mono ?_
   rintro e w1 ⟨rfl,x1⟩
   replace M:=hid (M.out.on x1)
   clear x1
   cases hv : settledOf r
   ·have HN:=hid hv
    clear hv
    go_wp2
    go_roundw
    case rel => exact ⟨k + 1,m,d,g,HLT.out,rfl,by go_num,hid (by rw [pick_no HSK.out HN.out];exact M.out)⟩
    case measure => have:=HLT.out;simp [intOf];omega
   have HY:=hid hv
   clear hv
   go_wp2_with ((at_builtin;refine Mine.wp_push M.out rfl _ _ 22 rfl 3 _ _ _ Tryz.underlying22 Tryz.infoInt rfl (by omega) 0 rfl rfl _ _ rfl rfl rfl (by simp [Value.oneCell']) (by omega) (by unfold maxLen;omega) ?_;intro A2 c2 w' M';obtain ⟨gp,rfl⟩:=Mine.addr M' 0 rfl (Nat.succ_pos _);(try simp only [zr_,zm_] at M');replace M:=hid M';clear M'))
   go_roundw
   case rel => exact ⟨k + 1,_,_,_,HLT.out,rfl,by go_num,hid (by rw [pick_yes HSK.out HY.out];exact M.out)⟩
   case measure => have:=HLT.out;simp [intOf];omega
  have e : Hid (k = x.roots_.length):=by show k = _;have a:=HRN.out;omega
  obtain ⟨L,hL⟩ : ∃ L,L = pickTo settledOf x.roots_ x.roots_.length:=⟨_,rfl⟩
  rw [e.out,← hL] at M
  have HL : Hid (ranksOf x = rankList (rkeys x) L):=by show _ = _;rw [hL];rfl
  have HND : Hid L.Nodup:=by show L.Nodup;rw [hL];exact (pick_asc _ _ _).imp fun h => by omega
  have HM : Hid (L.length = m):=by show _ = _;have h1:=M.out.len1 0 rfl;rwa [ints_length] at h1
  have HIX : Hid (∀ (q : Nat) (y : Int),L[q]? = some y → ∃ i : Nat,i < n3 ∧ y = (i : Int)):=fun q y h => by obtain ⟨i,r,h1,h2,_⟩:=pick_mem.1 (hL ▸ List.mem_of_getElem? h);exact ⟨i,by have a:=HRN.out;omega,h2⟩
  obtain ⟨K,hK⟩ : ∃ K,K = rkeys x:=⟨_,rfl⟩
  rw [← hK] at HL
  have HK:=hid hK
  clear hL hK hk e
  go_wp2_with (((with_reducible refine zN ?_);first|(refine zG M.out 1 ?_;(try simp only [zr_,zm_]))|(refine Mine.wp_make M.out rfl _ _ 22 rfl 3 _ _ _ Tryz.underlying22 Tryz.infoInt m rfl rfl (by omega) (by unfold maxLen;omega) ?_;intro gv w' M';(try simp only [zr_,zm_] at M');replace M:=hid M';clear M';(try simp only [zr_,zm_]))))
  rw [show (madeCells (Value.int .i64 0).cells (m * 1)).toList = ints (List.replicate m 0) from by rw [show (madeCells (Value.int .i64 0).cells (m * 1)).toList = List.replicate m (.int .i64 0) from by rw [Nat.mul_one];exact toList_madeCells_one _ _];unfold ints;rw [List.map_replicate]] at M
  go_loopw [6] (fun iv wr => ∃ (i : Nat) (O : List Int),i ≤ m ∧ iv = .int .i64 i ∧ Hid (O.length = m) ∧ Hid (∀ (q : Nat) (y : Int),q < i → L[q]? = some y → O[ahead K L y]? = some y) ∧ Hid (Mine w wr [.row 3 1 (some ⟨gv,0,none⟩) m m (ints O),.row 3 1 (some ⟨g,0,none⟩) m d (ints L),.box w.heap.size 58 #[.int .i64 x.now_,.int .i64 x.token_,.int .i64 x.mem_.clock_,.slice A0 n0 c0,.slice A1 n1 c1,.int .i64 x.shelf_.count_,.slice A2 n2 c2,.slice A3 n3 c3,.slice A4 n4 c4]])) (fun iv _ => m - (intOf iv).toNat)
  case atStart => exact ⟨0,_,Nat.zero_le _,rfl,List.length_replicate,fun q y hq => absurd hq (Nat.not_lt_zero _),M⟩
  case round =>
   clear M
   obtain ⟨i,O,hi,rfl,HO,HP,M⟩:=hrel
   by_cases hlt : (i : Int) < (m : Int)
   rotate_left
   ·have H9 : Hid (O = rankList K L):=placed_all HND.out (by rw [HO.out,HM.out]) (fun q y hq hy => HP.out q y (by have a:=HM.out;omega) hy)
    go_wp2
    go_ret
    exact ⟨_,_,_,rfl,by rw [HL.out,← H9.out];exact M.out.row_at 0 rfl,M.out.ext⟩
   have HLT : Hid (i < m):=by show _ < _;omega
   obtain ⟨xi,hxi⟩ : ∃ y,L[i]? = some y:=⟨_,List.getElem?_eq_getElem (by have:=HLT.out;have:=HM.out;omega)⟩
   obtain ⟨i0,hi0,rfl⟩:=HIX.out _ _ hxi
   have HXI:=hid hxi
   have HI0:=hid hi0
   have gxi : (ints L)[i]? = some (.int .i64 (i0 : Int)):=ints_at hxi
   clear hxi hi0 hlt
   go_wp2
   go_loopw [7,8] (fun cv kv wr => ∃ (k c : Nat),k ≤ m ∧ cv = .int .i64 c ∧ kv = .int .i64 k ∧ Hid (c = cntTo K L i0 k) ∧ Hid (Mine w wr [.row 3 1 (some ⟨gv,0,none⟩) m m (ints O),.row 3 1 (some ⟨g,0,none⟩) m d (ints L),.box w.heap.size 58 #[.int .i64 x.now_,.int .i64 x.token_,.int .i64 x.mem_.clock_,.slice A0 n0 c0,.slice A1 n1 c1,.int .i64 x.shelf_.count_,.slice A2 n2 c2,.slice A3 n3 c3,.slice A4 n4 c4]])) (fun _ kv _ => m - (intOf kv).toNat)
   case atStart => exact ⟨0,0,Nat.zero_le _,rfl,rfl,rfl,M⟩
   case round =>
    clear M
    obtain ⟨k,c,hk,rfl,rfl,HC,M⟩:=hrel
    have hcm : c ≤ 1048576:=by have h1:=HC.out;have h2:=cnt_le K L i0 k;omega
    by_cases hkl : (k : Int) < (m : Int)
    rotate_left
    ·have HA : Hid (c = ahead K L i0):=by show _ = _;rw [HC.out];exact cnt_all _ _ _ (by have:=HM.out;omega)
     have hcl : c < m:=by rw [HA.out,← HM.out];exact ahead_lt HND.out (List.mem_of_getElem? HXI.out)
     have hcl2 : (c : Int) < (m : Int):=by omega
     have hil : (i : Int) < (m : Int):=by have:=HLT.out;omega
     clear hcm
     go_wp2_with (((with_reducible refine zN ?_);first|(refine Mine.wp_getr M.out rfl _ _ rfl 1 _ rfl rfl _ (by assumption) _ (by first|exact Tryz.underlying3) (by rfl) ?_;(try simp only [zr_,zm_]))|(refine Mine.wp_put M.out rfl _ _ _ rfl rfl 0 _ rfl rfl _ (by (conv => lhs;whnf) <;> rfl) (by omega) (by rfl) (by kernel_rfl) ?_;intro w' M';(try simp only [zr_,zm_] at M');replace M:=hid M';clear M')))
     go_roundw
     case rel => exact ⟨i + 1,O.set c i0,HLT.out,by go_num,by show _ = _;rw [List.length_set];exact HO.out,by have a:=HA.out;subst a;exact placed_step HND.out (by rw [HO.out,HM.out]) HXI.out HP.out,M⟩
     case measure => have:=HLT.out;simp [intOf];omega
    have HKL : Hid (k < m):=by show _ < _;omega
    have hil : (i : Int) < (m : Int):=by have:=HLT.out;omega
    obtain ⟨yk,hyk⟩ : ∃ y,L[k]? = some y:=⟨_,List.getElem?_eq_getElem (by have:=HKL.out;have:=HM.out;omega)⟩
    obtain ⟨k0,hk0,rfl⟩:=HIX.out _ _ hyk
    have HYK:=hid hyk
    have HK0:=hid hk0
    have gyk : (ints L)[k]? = some (.int .i64 (k0 : Int)):=ints_at hyk
    clear hyk hk0
    by_cases hki : k = i
    ·have HN : Hid (dec (K.T k0 i0) = false):=by show _ = _;have h1:=HXI.out;have h2:=HYK.out;rw [hki,h1] at h2;injection h2 with h2;rw [← h2];exact dec_no Keys.T_irrefl
     have bn : ((k : Int) != (i : Int)) = false:=by simp [hki]
     have bn2 : (k != i) = false:=by simp [hki]
     clear hki
     go_wp2
     refine zRQ M.out ?_
     repeat (first|go_big_quiet_skip|(go_big_quiet_want;(unfold Oper.quiet;apply Exists.intro;refine ⟨fun wq hq => ?_,?_⟩;(clear hq;go_simp;first|done|rfl|exact ⟨rfl,rfl⟩);(try simp only [zs_,zl_]);go_big_quiet_on)))
     refine wpQuiet_nil ?_
     intro w' M'
     replace M:=hid M'
     clear M'
     go_wp2
     go_roundw
     case rel => exact ⟨k + 1,c,HKL.out,rfl,by go_num,by show _ = _;rw [HC.out];exact (cnt_no HYK.out HN.out).symm,M⟩
     case measure => have:=HKL.out;simp [intOf];omega
    have bn : ((k : Int) != (i : Int)) = true:=by simp;omega
    have bn2 : (k != i) = true:=by simp [hki]
    clear hki
    go_wp2
    refine zRQ M.out ?_
    repeat (first|go_big_quiet_skip|(go_big_quiet_want;first|((first|refine Mine.oq_getall 58 _ rfl 2 rfl rfl _ Tryz.underlying58 (by rfl) (by kernel_rfl) ?_|refine Mine.oq_getr _ _ rfl 1 _ rfl rfl _ (by assumption) _ (by first|exact Tryz.underlying3) (by rfl) ?_);(try simp only [zr_,zm_]);go_big_quiet_on)|(unfold Oper.quiet;apply Exists.intro;refine ⟨fun wq hq => ?_,?_⟩;(go_simp;go_at_call 81;(with_reducible refine (ahead_any x A0 n0 c0 A1 n1 c1 A2 n2 c2 A3 n3 c3 A4 n4 c4 S HR.out hn3 hq.ext k0 i0 HK0.out HI0.out).mono ?_);rintro e w2 ⟨rfl,x2⟩;exact ⟨rfl,hq.on x2⟩);(try simp only [zs_,zl_]);go_big_quiet_on)|(unfold Oper.quiet;apply Exists.intro;refine ⟨fun wq hq => ?_,?_⟩;(clear hq;go_simp;first|done|rfl|exact ⟨rfl,rfl⟩);(try simp only [zs_,zl_]);go_big_quiet_on)))
    refine wpQuiet_nil ?_
    intro w' M'
    replace M:=hid M'
    clear M'
    rw [← HK.out]
    cases hv : dec (K.T k0 i0)
    ·have HN:=hid hv
     clear hv
     go_wp2
     go_roundw
     case rel => exact ⟨k + 1,c,HKL.out,rfl,by go_num,by show _ = _;rw [HC.out];exact (cnt_no HYK.out HN.out).symm,M⟩
     case measure => have:=HKL.out;simp [intOf];omega
    have HN:=hid hv
    clear hv
    go_wp2
    go_roundw
    case rel => exact ⟨k + 1,c + 1,HKL.out,by go_num,by go_num,by show _ = _;rw [HC.out];exact (cnt_yes HYK.out HN.out).symm,M⟩
    case measure => have:=HKL.out;simp [intOf];omega
theorem spec_Ranks (x : GWorld) (cs : List Value) (w : World) (S : Nat → Prop) (h : GWorld.R w S cs x) (_hw : GWorld.wt x ≤ 1048576) :
  Calls Tryz.prog 32 #[.agg cs.toArray] w fun e w' => ∃ B m d,e = .returned (.slice B m d) ∧ w'.ownsRow w.heap.size 3 1 (.slice B m d) m (ints (ranksOf x)) ∧ Ext w w' :=
 (spec_Ranks2 x cs w S h _hw).mono fun e w' ⟨g,m,d,h1,h2,h3⟩ => ⟨_,m,d,h1,h2,h3⟩
end Go.Proofs.YtoegjiigaoanbaaGreat
namespace Go.Proofs.YtoegjiigaoanbaaGreat
open Go.RowKit Go.Deep
set_option linter.unnecessarySimpa false
set_option maxHeartbeats 400000000
open Go.Lib (hid)
set_option linter.unusedSimpArgs false
set_option linter.unusedVariables false
set_option maxRecDepth 8000 in
theorem spec_Replay (x0 : Script) (cs0 : List Value) (x1 : GWorld) (cs1 : List Value) (w : World) (hs : Script.R w (fun _ => True) cs0 x0) (_hw0 : Script.wt x0 ≤ 1048576) (h : GWorld.R w (fun _ => True) cs1 x1) (_hw1 : GWorld.wt x1 ≤ 1048576) :
  Calls Tryz.prog 7 #[.agg cs0.toArray,.agg cs1.toArray] w fun e w' => ∃ (B : Option Addr) (m d : Nat) (C2 P2 : Option Addr × Nat × Nat),e = .returned (.tuple #[.slice B m d,.agg #[.slice C2.1 C2.2.1 C2.2.2,.slice P2.1 P2.2.1 P2.2.2,.int .i64 (replayF x0 x1).2.count_]]) ∧ Hid (RunsV w w' (replayF x0 x1).1 (replayF x0 x1).2 B m d C2 P2):=by
 have HS0:=hid hs
 have HW0:=hid h
 obtain ⟨vs0,P2,pn2,pc2,P3,pn3,pc3,rfl,hs0,⟨khs1,mhs1,hs1⟩,⟨khs2,mhs2,hs2⟩⟩:=hs
 obtain ⟨P0,pn0,pc0,P1,pn1,pc1,rfl⟩:=Things.R_cells hs0
 obtain ⟨v0,v1,A2,n2,c2,A3,n3,c3,A4,n4,c4,rfl,h0,h1,⟨kh2,mh2,h2⟩,⟨kh3,mh3,h3⟩,⟨kh4,mh4,h4⟩⟩:=h
 obtain ⟨A0,n0,c0,rfl⟩:=Mem.R_cells h0
 obtain ⟨A1,n1,c1,rfl⟩:=Shelf.R_cells h1
 have hpl : x0.progs_.length = pn2:=hs1.1
 have hrl : x1.roots_.length = n3:=h3.1
 have HP:=hid hs1
 have HRT:=hid h3
 have HSW : Hid (Script.wt x0 ≤ 1048576):=_hw0
 have HWW : Hid (GWorld.wt x1 ≤ 1048576):=_hw1
 have hkl:=wtl_len Root.wt x1.roots_
 have hn3 : n3 ≤ 1048576:=by unfold GWorld.wt at _hw1;omega
 have HPWT : Hid (∀ p ∈ x0.progs_,Prog.wt p ≤ 1048576):=fun p hp => by
  obtain ⟨i,hi⟩:=List.mem_iff_getElem?.1 hp
  have h1:=wtl_at Prog.wt hi
  unfold Script.wt at _hw0;omega
 have HRWT : Hid (∀ r ∈ x1.roots_,r.order_.length ≤ 1048576):=fun r hr => by
  obtain ⟨i,hi⟩:=List.mem_iff_getElem?.1 hr
  have h1:=wtl_at Root.wt hi
  have h2 : r.order_.length ≤ Root.wt r:=by unfold Root.wt;omega
  unfold GWorld.wt at _hw1;omega
 have HTH:=hid hs0
 have HPC : Hid (Sl w (fun _ => True) 1 P0 pn0 (ints x0.start_.cells_) ∧ pn0 ≤ pc0 ∧ Sl w (fun _ => True) 1 P1 pn1 (ints x0.start_.map_) ∧ pn1 ≤ pc1):=by obtain ⟨A7,n7,c7,A8,n8,c8,e,⟨kz0,mz0,z0⟩,⟨kz1,mz1,z1⟩⟩:=hs0;injection e with e1 e2;injection e1 with e3 e4 e5;injection e2 with e6 e7;injection e6 with e8 e9 e10;subst e3 e4 e5 e8 e9 e10;exact ⟨z0,kz0,z1,kz1⟩
 have HPL:=hid hpl
 have HRL:=hid hrl
 clear hs0 hs1 hs2 h0 h1 h2 h3 h4 hkl _hw0 _hw1 hpl hrl
 have M : Hid (Mine w ((w.alloc (.cells #[.slice P0 pn0 pc0,.slice P1 pn1 pc1,.int .i64 x0.start_.count_,.slice P2 pn2 pc2,.slice P3 pn3 pc3] 48)).alloc (.cells #[.int .i64 x1.now_,.int .i64 x1.token_,.int .i64 x1.mem_.clock_,.slice A0 n0 c0,.slice A1 n1 c1,.int .i64 x1.shelf_.count_,.slice A2 n2 c2,.slice A3 n3 c3,.slice A4 n4 c4] 58)) [.box (w.heap.size + 1) 58 #[.int .i64 x1.now_,.int .i64 x1.token_,.int .i64 x1.mem_.clock_,.slice A0 n0 c0,.slice A1 n1 c1,.int .i64 x1.shelf_.count_,.slice A2 n2 c2,.slice A3 n3 c3,.slice A4 n4 c4],.box w.heap.size 48 #[.slice P0 pn0 pc0,.slice P1 pn1 pc1,.int .i64 x0.start_.count_,.slice P2 pn2 pc2,.slice P3 pn3 pc3]]):=by
  have h:=((Mine.refl w).box 48 #[.slice P0 pn0 pc0,.slice P1 pn1 pc1,.int .i64 x0.start_.count_,.slice P2 pn2 pc2,.slice P3 pn3 pc3]).box 58 #[.int .i64 x1.now_,.int .i64 x1.token_,.int .i64 x1.mem_.clock_,.slice A0 n0 c0,.slice A1 n1 c1,.int .i64 x1.shelf_.count_,.slice A2 n2 c2,.slice A3 n3 c3,.slice A4 n4 c4]
  simp only [World.heap_alloc_size] at h
  exact h
 show Calls Tryz.prog _ #[.agg #[.slice P0 pn0 pc0,.slice P1 pn1 pc1,.int .i64 x0.start_.count_,.slice P2 pn2 pc2,.slice P3 pn3 pc3],.agg #[.int .i64 x1.now_,.int .i64 x1.token_,.int .i64 x1.mem_.clock_,.slice A0 n0 c0,.slice A1 n1 c1,.int .i64 x1.shelf_.count_,.slice A2 n2 c2,.slice A3 n3 c3,.slice A4 n4 c4]] w _
 cases hso : scriptOk x0
 ·have HZ:=hid (replay_no (x0:=x0) (x1:=x1) fun z => by have h:=z.1;rw [hso] at h;cases h)
  go_enter Tryz.func7,Tryz.ntmps7
  go_wp2_with (first|(go_at_call 31;refine zC M (spec_ScriptOk x0 [.slice P0 pn0 pc0,.slice P1 pn1 pc1,.int .i64 x0.start_.count_,.slice P2 pn2 pc2,.slice P3 pn3 pc3] _ _ (Script.R_good.ext HS0.out M.out.ext) HSW.out) ?_;clear M;intro w' M;rw [hso])|((with_reducible refine zN ?_);first|(refine Mine.wp_alloc M.out rfl 42 rfl (.agg #[.slice none 0 0,.slice none 0 0,.int .i64 0]) (by kernel_rfl) ?_;intro gr w' M';(try simp only [Value.cells,zr_,zm_] at M');replace M:=hid M';clear M';(try simp only [zr_,zm_]))|(refine zGs M.out 48 2 5 ?_;(try simp only [zr_,zm_]))|(refine Mine.wp_sets (M.out.own (own_lit0 _ 111 5) ((Ext.refl' _).al _)) rfl 42 _ _ rfl rfl 1 _ rfl rfl _ rfl (Nat.le_of_ble_eq_true rfl) (by simp [Value.oneCell']) (by kernel_rfl) ?_;intro w' M';(try simp only [zr_,zm_] at M');replace M:=hid M';clear M')))
  refine bodyPost_ret (M.out.results_tc Tryz.results7 _ 1 rfl rfl _ Tryz.underlying42 (by rfl) (by kernel_rfl)) rfl ?_
  rw [HZ.out]
  exact ⟨_,_,_,(none,0,0),(none,0,0),rfl,RunsV.bad M.out⟩
 by_cases hlen : n3 = pn2
 rotate_left
 ·have HZ:=hid (replay_no (x0:=x0) (x1:=x1) fun z => hlen (by have h:=z.2;rw [HPL.out,HRL.out] at h;exact h))
  have bl : ((n3 : Int) != (pn2 : Int)) = true:=by simp;omega
  clear hlen
  go_enter Tryz.func7,Tryz.ntmps7
  go_wp2_with (first|(go_at_call 31;refine zC M (spec_ScriptOk x0 [.slice P0 pn0 pc0,.slice P1 pn1 pc1,.int .i64 x0.start_.count_,.slice P2 pn2 pc2,.slice P3 pn3 pc3] _ _ (Script.R_good.ext HS0.out M.out.ext) HSW.out) ?_;clear M;intro w' M;rw [hso])|((with_reducible refine zN ?_);first|(refine Mine.wp_alloc M.out rfl 42 rfl (.agg #[.slice none 0 0,.slice none 0 0,.int .i64 0]) (by kernel_rfl) ?_;intro gr w' M';(try simp only [Value.cells,zr_,zm_] at M');replace M:=hid M';clear M';(try simp only [zr_,zm_]))|(refine zGs M.out 48 2 5 ?_;(try simp only [zr_,zm_]))|(refine Mine.wp_sets (M.out.own (own_lit0 _ 111 5) ((Ext.refl' _).al _)) rfl 42 _ _ rfl rfl 1 _ rfl rfl _ rfl (Nat.le_of_ble_eq_true rfl) (by simp [Value.oneCell']) (by kernel_rfl) ?_;intro w' M';(try simp only [zr_,zm_] at M');replace M:=hid M';clear M'))|((with_reducible show wpList _ _ _ (⟨_,.load _ _,_,_,_,some _⟩::_) _ _);first|((first|refine zGg M.out 1 ?_|refine zGg M.out 2 ?_);(try simp only [zr_,zm_]))))
  refine bodyPost_ret (M.out.results_tc Tryz.results7 _ 1 rfl rfl _ Tryz.underlying42 (by rfl) (by kernel_rfl)) rfl ?_
  rw [HZ.out]
  exact ⟨_,_,_,(none,0,0),(none,0,0),rfl,RunsV.bad M.out⟩
 subst hlen
 have HZ:=hid (replay_yes (x0:=x0) (x1:=x1) ⟨hso,by rw [HPL.out,HRL.out]⟩)
 have bl : ((n3 : Int) != (n3 : Int)) = false:=by simp
 obtain ⟨hs1,hs2,hs3⟩:=script_parts hso
 have HTHO:=hid hs1
 have HPGO:=hid hs3
 have hn4 : n3 ≤ 4:=by rw [← HPL.out];exact hs2
 obtain rfl : pn0 = 8:=by have h:=HPC.out.1.len;rw [valsOk_len (th_parts hs1).1] at h;exact h.symm
 obtain rfl : pn1 = 8:=by have h:=HPC.out.2.2.1.len;rw [(dec_true (th_parts hs1).2.1).1] at h;exact h.symm
 have HRK:=hid (ranks_len x1)
 obtain ⟨rk,hrk⟩ : ∃ rk,ranksOf x1 = rk:=⟨_,rfl⟩
 rw [hrk] at HRK
 have HRKE:=hid hrk
 clear hs1 hs2 hs3 hrk
 go_enter Tryz.func7,Tryz.ntmps7
 go_upto_region 4 with (first|(go_at_call 31;refine zC M (spec_ScriptOk x0 [.slice P0 8 pc0,.slice P1 8 pc1,.int .i64 x0.start_.count_,.slice P2 n3 pc2,.slice P3 pn3 pc3] _ _ (Script.R_good.ext HS0.out M.out.ext) HSW.out) ?_;clear M;intro w' M;rw [hso])|(go_at_call 32;(with_reducible refine (spec_Ranks x1 [.int .i64 x1.now_,.int .i64 x1.token_,.int .i64 x1.mem_.clock_,.slice A0 n0 c0,.slice A1 n1 c1,.int .i64 x1.shelf_.count_,.slice A2 n2 c2,.slice A3 n3 c3,.slice A4 n4 c4] _ _ (GWorld.R_good.ext HW0.out M.out.ext) HWW.out).mono ?_);rintro e w' ⟨RB,rm,rd,rfl,o9,x9⟩;rw [HRKE.out] at o9;replace M:=hid (M.out.own o9 x9);clear o9 x9)|((with_reducible refine zN ?_);first|(refine Mine.wp_alloc M.out rfl 42 rfl (.agg #[.slice none 0 0,.slice none 0 0,.int .i64 0]) (by kernel_rfl) ?_;intro gr w' M';(try simp only [Value.cells,zr_,zm_] at M');replace M:=hid M';clear M';(try simp only [zr_,zm_]))|((first|refine zGs M.out 48 2 5 ?_|refine zGs M.out 58 1 9 ?_);(try simp only [zr_,zm_])))|((with_reducible show wpList _ _ _ (⟨_,.load _ _,_,_,_,some _⟩::_) _ _);first|((first|refine zGg M.out 1 ?_|refine zGg M.out 2 ?_);(try simp only [zr_,zm_]))))
 have M9:=(M.out.own (own_lit0 _ 84 2) ((Ext.refl' _).al _)).own (own_lit0 _ 99 1) ((Ext.refl' _).al _)
 (try simp only [World.heap_alloc_size] at M9)
 replace M:=hid M9
 clear M9
 go_wp2
 clear hso bl
 have hrm : rk.length = rm:=by have h:=M.out.len1 2 rfl;rw [ints_length] at h;exact h
 have hrm4 : rm ≤ 4:=by have h:=HRK.out;rw [HRL.out] at h;omega
 have HRM:=hid hrm
 clear hrm
 have M7:=M.out.perm (List.Perm.trans (List.Perm.trans (List.Perm.cons _ (List.Perm.swap _ _ _)) (List.Perm.swap _ _ _)) (List.Perm.cons _ (List.Perm.swap _ _ _)))
 clear M
 go_loopw [7,8,9] (fun pv ov iv wr => ∃ (q : Nat) (PA : Option Addr) (pm pd : Nat) (OA : Option Addr) (om od : Nat) (ps : List (List Value × Prog)) (os : List (List Value × Order)),q ≤ rm ∧ iv = .int .i64 (q : Int) ∧ pv = .slice PA pm pd ∧ ov = .slice OA om od ∧ pm = q ∧ om = q ∧ Hid (ps.map Prod.snd = (rk.take q).map (progAt x0)) ∧ Hid (os.map Prod.snd = (rk.take q).map (ordAt x1)) ∧ Hid (∀ e ∈ ps,e.1.length = 2 ∧ Prog.R w (fun _ => True) e.1 e.2) ∧ Hid (∀ e ∈ os,e.1.length = 1 ∧ Order.R w (fun _ => True) e.1 e.2) ∧ Hid (Mine w wr [.row 3 1 RB rm rd (ints rk),.row 84 2 PA pm pd (ps.flatMap Prod.fst),.row 99 1 OA om od (os.flatMap Prod.fst),.box gr 42 #[.slice none 0 0,.slice none 0 0,.int .i64 0],.box (w.heap.size + 1) 58 #[.int .i64 x1.now_,.int .i64 x1.token_,.int .i64 x1.mem_.clock_,.slice A0 n0 c0,.slice A1 n1 c1,.int .i64 x1.shelf_.count_,.slice A2 n2 c2,.slice A3 n3 c3,.slice A4 n4 c4],.box w.heap.size 48 #[.slice P0 8 pc0,.slice P1 8 pc1,.int .i64 x0.start_.count_,.slice P2 n3 pc2,.slice P3 pn3 pc3]])) (fun _ _ iv _ => rm - (intOf iv).toNat)
 case atStart => exact ⟨0,_,_,_,_,_,_,[],[],Nat.zero_le _,rfl,rfl,rfl,rfl,rfl,rfl,rfl,(fun e he => by cases he),(fun e he => by cases he),M7⟩
 case round =>
  clear M7
  obtain ⟨q,PA,pm,pd,OA,om,od,ps,os,hq,rfl,rfl,rfl,hpm,hom,HPS,HOS,HPR,HOR,M⟩:=hrel
  by_cases hlt : q < rm
  rotate_left
  ·skip
   skip
   have hte : rk.take q = rk:=List.take_of_length_le (by rw [HRM.out];omega)
   have hps:=HPS.out
   have hos:=HOS.out
   rw [hte] at hps hos
   have HPE:=hid hps
   have HOE:=hid hos
   replace hpm:=hpm.symm
   replace hom:=hom.symm
   subst hpm
   subst hom
   clear hps hos hte
   have HRKE2 : Hid (zipO (rk.map (progAt x0)) (rk.map (ordAt x1)) = ranked x0 x1):=by show _ = _;unfold ranked;rw [HRKE.out]
   go_wp2_with (first|(go_at_call 33;have SP:=SlR.of_rows (R:=Prog.R) (by omega) (fun e he => (HPR.out e he).1) (M.out.row_sl 1 rfl) (fun e he => Prog.R_good.ext (HPR.out e he).2 M.out.ext);have SO:=SlR.of_rows (R:=Order.R) (by omega) (fun e he => (HOR.out e he).1) (M.out.row_sl 2 rfl) (fun e he => Order.R_good.ext (HOR.out e he).2 M.out.ext);rw [HPE.out] at SP;rw [HOE.out] at SO;refine (spec_SerialAll _ _ _ _ _ _ _ P0 pc0 P1 pc1 x0.start_ _ SP (by omega) (fun p hp => HPWT.out p (prog_mem HRKE.out (by rw [HPL.out,HRL.out]) hp)) (fun p hp => HPGO.out p (prog_mem HRKE.out (by rw [HPL.out,HRL.out]) hp)) SO (fun o ho => ord_wt HRKE.out HRWT.out ho) (HPC.out.1.ext M.out.ext) (HPC.out.2.2.1.ext M.out.ext) HPC.out.2.1 HPC.out.2.2.2 HTHO.out).mono ?_;clear SP SO;rintro e w5 ⟨B9,m9,d9,C9,P9,rfl,hrv⟩;rw [HRKE2.out] at hrv ⊢;obtain ⟨es,he1,he2,M4⟩:=hrv.out;have M8:=M.out.call M4;simp only [List.cons_append] at M8;replace M:=hid (RunsV.front M8);have HE1:=hid he1;have HE2:=hid he2;clear M4 M8 hrv he1 he2)|((with_reducible refine zN ?_);first|(refine zGs M.out 42 5 3 ?_;(try simp only [zr_,zm_]))|(refine zSs M.out 42 3 ?_;intro w' M';(try simp only [zr_,zm_] at M');replace M:=hid M';clear M')))
   refine bodyPost_ret (M.out.results_tc Tryz.results7 _ 3 rfl rfl _ Tryz.underlying42 (by rfl) (by kernel_rfl)) rfl ?_
   rw [HZ.out]
   exact ⟨_,_,_,(C9.1,C9.2.1,C9.2.2),(P9.1,P9.2.1,P9.2.2),rfl,es,HE1.out,HE2.out,RunsV.drop M.out⟩
  have HLT : Hid (q < rm):=hlt
  have hqi : (q : Int) < (rm : Int):=by omega
  obtain ⟨kv,hkv⟩ : ∃ k,rk[q]? = some k:=⟨_,List.getElem?_eq_getElem (by rw [HRM.out];exact hlt)⟩
  obtain ⟨k,hk3,rfl⟩:=ranks_ix (x:=x1) (by rw [HRKE.out];exact hkv)
  rw [HRL.out] at hk3
  have hki : (k : Int) < (n3 : Int):=by omega
  have HKV:=hid hkv
  have HKX : Hid ((ints rk)[q]? = some (.int .i64 (k : Int))):=by show (ints rk)[q]? = _;unfold ints;rw [List.getElem?_map,hkv];rfl
  clear hkv
  obtain ⟨b,oo,p,Q0,qn0,qc0,Q1,qn1,qc1,rfl,hpx,hpb,hpr,hpR⟩:=prog_at HP.out hk3
  have HR:=hid hpr
  have HB:=hid hpb
  have HPRX:=hid hpR
  have HPX:=hid (progAt_is hpx)
  obtain ⟨b3,o3,rfl⟩:=HRT.out.addr (by omega)
  obtain ⟨r,row,hrx,hrb,hrw,hrc⟩:=HRT.out.at_ hk3
  obtain ⟨K0,kn0,kc0,h17,hkc,hks⟩:=Root.at17 hrw
  have h17c:=hrc 17 (by omega)
  rw [h17] at h17c
  have HOC : Hid (w.cell? ⟨b3,o3 + k * 40 + 17,none⟩ = some (.slice K0 kn0 kc0) ∧ b3 < w.heap.size):=⟨h17c,hrb⟩
  have hrwt:=HRWT.out r (List.mem_of_getElem? hrx)
  have hkl:=hks.len
  have HOX:=hid (ordAt_is hrx)
  have HORX : Hid (Order.R w (fun _ => True) [.slice K0 kn0 kc0] ⟨r.order_⟩):=⟨K0,kn0,kc0,rfl,hkc,by omega,hks⟩
  clear hpx hpb hpr hpR hrx hrb hrw hrc h17 hkc hks h17c hrwt hkl
  obtain ⟨gK,rfl⟩:=M.out.addr 0 rfl (by omega)
  replace hpm:=hpm.symm
  replace hom:=hom.symm
  subst hpm
  subst hom
  go_wp2_with fail
  refine zRH M.out 10 ?_
  intro w' M'
  replace M:=hid M'
  clear M'
  refine zXL 0 ?_;(try simp only [zs_,zl_])
  refine zXL 1 ?_;(try simp only [zs_,zl_])
  refine zTL 2 ?_;intro K hK;((refine zD 5 ?_;(try simp only [zr_,zm_]);go_big_quiet_on))
  refine zXL 3 ?_;(try simp only [zs_,zl_])
  refine zXL 4 ?_;(try simp only [zs_,zl_])
  refine zXL 5 ?_;(try simp only [zs_,zl_])
  refine zTL 6 ?_;intro K hK;((refine Mine.rd_getr _ _ rfl 0 _ rfl rfl _ (by exact HKX.out) _ (by first|exact Tryz.underlying3) (by rfl) ?_;(try simp only [zr_,zm_]);go_big_quiet_on))
  refine zXL 7 ?_;(try simp only [zs_,zl_])
  refine zTL 8 ?_;intro K hK;((refine Mine.rd_argall 84 _ rfl _ _ rfl _ HR.out HB.out _ Tryz.underlying84 (by rfl) (by kernel_rfl) ?_;(try simp only [zr_,zm_]);go_big_quiet_on))
  refine zNy 9 (fun K hK => ?_)
  go_simp
  refine hK.out _ _ ((M.out).al _) ?_
  clear hK K
  (try simp only [zs_,zl_])
  refine HQ.end_ (by kernel_rfl) ?_
  simp only [List.drop_succ_cons,List.drop_zero]
  go_wp2_with ((at_builtin;refine Mine.wp_push M.out rfl _ _ 45 rfl 84 _ _ _ Tryz.underlying45 Tryz.infoProgU rfl (by omega) 1 rfl rfl _ _ rfl rfl rfl (by simp [Value.oneCell']) (by omega) (by unfold maxLen;omega) ?_;intro A7 c7 w' M';(try simp only [zr_,zm_] at M');replace M:=hid M';clear M'))
  refine zRH M.out 12 ?_
  intro w' M'
  replace M:=hid M'
  clear M'
  refine zXL 0 ?_;(try simp only [zs_,zl_])
  refine zXL 1 ?_;(try simp only [zs_,zl_])
  refine zTL 2 ?_;intro K hK;((refine zD 4 ?_;(try simp only [zr_,zm_]);go_big_quiet_on))
  refine zXL 3 ?_;(try simp only [zs_,zl_])
  refine zXL 4 ?_;(try simp only [zs_,zl_])
  refine zXL 5 ?_;(try simp only [zs_,zl_])
  refine zTL 6 ?_;intro K hK;((refine Mine.rd_getr _ _ rfl 0 _ rfl rfl _ (by exact HKX.out) _ (by first|exact Tryz.underlying3) (by rfl) ?_;(try simp only [zr_,zm_]);go_big_quiet_on))
  refine zXL 7 ?_;(try simp only [zs_,zl_])
  refine zXL 8 ?_;(try simp only [zs_,zl_])
  refine zTL 9 ?_;intro K hK;((refine Mine.rd_arg 22 _ rfl _ _ HOC.out rfl _ Tryz.underlying22 (by rfl) ?_;(try simp only [zr_,zm_]);go_big_quiet_on))
  refine zXL 10 ?_;(try simp only [zs_,zl_])
  refine zNy 11 (fun K hK => ?_)
  go_simp
  refine hK.out _ _ ((M.out).al _) ?_
  clear hK K
  (try simp only [zs_,zl_])
  refine HQ.end_ (by kernel_rfl) ?_
  simp only [List.drop_succ_cons,List.drop_zero]
  go_wp2_with ((at_builtin;refine Mine.wp_push M.out rfl _ _ 80 rfl 99 _ _ _ Tryz.underlying80 Tryz.infoOrderU rfl (by omega) 2 rfl rfl _ _ rfl rfl rfl (by simp [Value.oneCell']) (by omega) (by unfold maxLen;omega) ?_;intro A8 c8 w' M';(try simp only [zr_,zm_] at M');replace M:=hid M';clear M'))
  go_roundw
  case rel => exact ⟨q + 1,_,_,_,_,_,_,ps ++ [([.slice Q0 qn0 qc0,.slice Q1 qn1 qc1],p)],os ++ [([.slice K0 kn0 kc0],⟨r.order_⟩)],HLT.out,by go_num,rfl,rfl,rfl,rfl,by show _ = _;rw [map_take_snoc _ HKV.out,List.map_append,HPS.out,HPX.out];rfl,by show _ = _;rw [map_take_snoc _ HKV.out,List.map_append,HOS.out,HOX.out];rfl,mem_snoc HPR.out ⟨rfl,HPRX.out⟩,mem_snoc HOR.out ⟨rfl,HORX.out⟩,by rw [← fst_push,← fst_push];exact M⟩
  case measure => have:=HLT.out;simp [intOf];omega

end Go.Proofs.YtoegjiigaoanbaaGreat
namespace Go.Proofs.YtoegjiigaoanbaaGreat
open Go.RowKit Go.Deep
set_option linter.unnecessarySimpa false
set_option maxHeartbeats 400000000
open Go.Lib (hid)
set_option linter.unusedSimpArgs false
set_option linter.unusedVariables false
set_option linter.unnecessarySimpa false
set_option maxHeartbeats 400000000
set_option maxRecDepth 8000 in
theorem spec_Serialized (x0 : Script) (cs0 : List Value) (x1 : GWorld) (cs1 : List Value) (w : World) (hs : Script.R w (fun _ => True) cs0 x0) (_hw0 : Script.wt x0 ≤ 1048576) (h : GWorld.R w (fun _ => True) cs1 x1) (_hw1 : GWorld.wt x1 ≤ 1048576) :
  Calls Tryz.prog 21 #[.agg cs0.toArray,.agg cs1.toArray] w fun e w' => e = .returned (.bool (serOf x0 x1)) ∧ Ext w w':=by
 have HS0:=hid hs
 have HW0:=hid h
 obtain ⟨vs0,P2,pn2,pc2,P3,pn3,pc3,rfl,hs0,⟨khs1,mhs1,hs1⟩,⟨khs2,mhs2,hs2⟩⟩:=hs
 obtain ⟨P0,pn0,pc0,P1,pn1,pc1,rfl⟩:=Things.R_cells hs0
 obtain ⟨v0,v1,A2,n2,c2,A3,n3,c3,A4,n4,c4,rfl,h0,h1,⟨kh2,mh2,h2⟩,⟨kh3,mh3,h3⟩,⟨kh4,mh4,h4⟩⟩:=h
 obtain ⟨A0,n0,c0,rfl⟩:=Mem.R_cells h0
 obtain ⟨A1,n1,c1,rfl⟩:=Shelf.R_cells h1
 obtain ⟨mm,hmem⟩:=Mem.R_open h0
 obtain ⟨ms,hshf⟩:=Shelf.R_open h1
 have hml : x1.mem_.cells_.length = n0:=hmem.flen Word.cells_length (by omega)
 have hsl:=hshf.len
 have hn0 : n0 ≤ 1048576:=by unfold GWorld.wt Mem.wt at _hw1;omega
 have hn1 : n1 ≤ 1048576:=by unfold GWorld.wt Shelf.wt at _hw1;omega
 have HMEM:=hid hmem
 have HSHF:=hid hshf
 have hpl : x0.progs_.length = pn2:=hs1.1
 have hrl : x1.roots_.length = n3:=h3.1
 have HRT:=hid h3
 have HSW : Hid (Script.wt x0 ≤ 1048576):=_hw0
 have HWW : Hid (GWorld.wt x1 ≤ 1048576):=_hw1
 have hkl:=wtl_len Root.wt x1.roots_
 have hn3 : n3 ≤ 1048576:=by unfold GWorld.wt at _hw1;omega
 have HRWT : Hid (∀ r ∈ x1.roots_,r.regs_.length ≤ 1048576):=fun r hr => by
  obtain ⟨i,hi⟩:=List.mem_iff_getElem?.1 hr
  have h1:=wtl_at Root.wt hi
  have h2 : r.regs_.length ≤ Root.wt r:=by unfold Root.wt;omega
  unfold GWorld.wt at _hw1;omega
 have HPL:=hid hpl
 have HRL:=hid hrl
 clear hs0 hs1 hs2 h0 h1 h2 h3 h4 hkl _hw0 _hw1 hpl hrl hmem hshf hml hsl mm ms
 have M : Hid (Mine w ((w.alloc (.cells #[.slice P0 pn0 pc0,.slice P1 pn1 pc1,.int .i64 x0.start_.count_,.slice P2 pn2 pc2,.slice P3 pn3 pc3] 48)).alloc (.cells #[.int .i64 x1.now_,.int .i64 x1.token_,.int .i64 x1.mem_.clock_,.slice A0 n0 c0,.slice A1 n1 c1,.int .i64 x1.shelf_.count_,.slice A2 n2 c2,.slice A3 n3 c3,.slice A4 n4 c4] 58)) [.box (w.heap.size + 1) 58 #[.int .i64 x1.now_,.int .i64 x1.token_,.int .i64 x1.mem_.clock_,.slice A0 n0 c0,.slice A1 n1 c1,.int .i64 x1.shelf_.count_,.slice A2 n2 c2,.slice A3 n3 c3,.slice A4 n4 c4],.box w.heap.size 48 #[.slice P0 pn0 pc0,.slice P1 pn1 pc1,.int .i64 x0.start_.count_,.slice P2 pn2 pc2,.slice P3 pn3 pc3]]):=by
  have h:=((Mine.refl w).box 48 #[.slice P0 pn0 pc0,.slice P1 pn1 pc1,.int .i64 x0.start_.count_,.slice P2 pn2 pc2,.slice P3 pn3 pc3]).box 58 #[.int .i64 x1.now_,.int .i64 x1.token_,.int .i64 x1.mem_.clock_,.slice A0 n0 c0,.slice A1 n1 c1,.int .i64 x1.shelf_.count_,.slice A2 n2 c2,.slice A3 n3 c3,.slice A4 n4 c4]
  simp only [World.heap_alloc_size] at h
  exact h
 show Calls Tryz.prog _ #[.agg #[.slice P0 pn0 pc0,.slice P1 pn1 pc1,.int .i64 x0.start_.count_,.slice P2 pn2 pc2,.slice P3 pn3 pc3],.agg #[.int .i64 x1.now_,.int .i64 x1.token_,.int .i64 x1.mem_.clock_,.slice A0 n0 c0,.slice A1 n1 c1,.int .i64 x1.shelf_.count_,.slice A2 n2 c2,.slice A3 n3 c3,.slice A4 n4 c4]] w _
 cases hso : scriptOk x0
 ·have HZ : Hid (serOf x0 x1 = false):=dec_no fun z => by have h:=z.1.1;rw [hso] at h;cases h
  go_enter Tryz.func21,Tryz.ntmps21
  go_wp2_with (first|(go_at_call 31;refine zC M (spec_ScriptOk x0 [.slice P0 pn0 pc0,.slice P1 pn1 pc1,.int .i64 x0.start_.count_,.slice P2 pn2 pc2,.slice P3 pn3 pc3] _ _ (Script.R_good.ext HS0.out M.out.ext) HSW.out) ?_;clear M;intro w' M;rw [hso])|((with_reducible refine zN ?_);first|(refine zGs M.out 48 1 5 ?_;(try simp only [zr_,zm_]))))
  go_ret
  exact ⟨by rw [HZ.out];rfl,M.out.ext⟩
 by_cases hlen : n3 = pn2
 rotate_left
 ·have HZ : Hid (serOf x0 x1 = false):=dec_no fun z => hlen (by have h:=z.1.2;rw [HPL.out,HRL.out] at h;exact h)
  have bl : ((n3 : Int) != (pn2 : Int)) = true:=by simp;omega
  clear hlen
  go_enter Tryz.func21,Tryz.ntmps21
  go_wp2_with (first|(go_at_call 31;refine zC M (spec_ScriptOk x0 [.slice P0 pn0 pc0,.slice P1 pn1 pc1,.int .i64 x0.start_.count_,.slice P2 pn2 pc2,.slice P3 pn3 pc3] _ _ (Script.R_good.ext HS0.out M.out.ext) HSW.out) ?_;clear M;intro w' M;rw [hso])|((with_reducible refine zN ?_);first|(refine zGs M.out 48 1 5 ?_;(try simp only [zr_,zm_])))|((with_reducible show wpList _ _ _ (⟨_,.load _ _,_,_,_,some _⟩::_) _ _);first|((first|refine zGg M.out 0 ?_|refine zGg M.out 1 ?_);(try simp only [zr_,zm_]))))
  go_ret
  exact ⟨by rw [HZ.out];rfl,M.out.ext⟩
 subst hlen
 have hn4 : n3 ≤ 4:=by rw [← HPL.out];exact (script_parts hso).2.1
 have HRO : Hid (replayOk x0 x1):=⟨hso,by rw [HPL.out,HRL.out]⟩
 have bl : ((n3 : Int) != (n3 : Int)) = false:=by simp
 have HRK:=hid (ranks_len x1)
 obtain ⟨rk,hrk⟩ : ∃ rk,ranksOf x1 = rk:=⟨_,rfl⟩
 rw [hrk] at HRK
 have HRKE:=hid hrk
 obtain ⟨RF,hrf⟩ : ∃ RF,replayF x0 x1 = RF:=⟨_,rfl⟩
 have HRF:=hid hrf
 clear hrk hrf
 go_enter Tryz.func21,Tryz.ntmps21
 go_upto_region 5 with (first|(go_at_call 31;refine zC M (spec_ScriptOk x0 [.slice P0 pn0 pc0,.slice P1 pn1 pc1,.int .i64 x0.start_.count_,.slice P2 n3 pc2,.slice P3 pn3 pc3] _ _ (Script.R_good.ext HS0.out M.out.ext) HSW.out) ?_;clear M;intro w' M;rw [hso])|(go_at_call 32;(with_reducible refine (spec_Ranks x1 [.int .i64 x1.now_,.int .i64 x1.token_,.int .i64 x1.mem_.clock_,.slice A0 n0 c0,.slice A1 n1 c1,.int .i64 x1.shelf_.count_,.slice A2 n2 c2,.slice A3 n3 c3,.slice A4 n4 c4] _ _ (GWorld.R_good.ext HW0.out M.out.ext) HWW.out).mono ?_);rintro e w' ⟨RB,rm,rd,rfl,o9,x9⟩;rw [HRKE.out] at o9;replace M:=hid (M.out.own o9 x9);clear o9 x9)|(go_at_call 7;(with_reducible refine (spec_Replay x0 [.slice P0 pn0 pc0,.slice P1 pn1 pc1,.int .i64 x0.start_.count_,.slice P2 n3 pc2,.slice P3 pn3 pc3] x1 [.int .i64 x1.now_,.int .i64 x1.token_,.int .i64 x1.mem_.clock_,.slice A0 n0 c0,.slice A1 n1 c1,.int .i64 x1.shelf_.count_,.slice A2 n2 c2,.slice A3 n3 c3,.slice A4 n4 c4] _ (Script.R_good.ext HS0.out M.out.ext) HSW.out (GWorld.R_good.ext HW0.out M.out.ext) HWW.out).mono ?_);rintro e w5 ⟨B9,m9,d9,C9,P9,rfl,hrv⟩;rw [HRF.out] at hrv ⊢;obtain ⟨es,he1,he2,M4⟩:=hrv.out;replace M:=hid (RunsV.back (M.out.call M4));have HE1:=hid he1;have HE2:=hid he2;clear M4 hrv he1 he2)|((with_reducible refine zN ?_);first|((first|refine zGs M.out 48 1 5 ?_|refine zGs M.out 58 0 9 ?_|refine zGs M.out 58 1 9 ?_|refine zGs M.out 48 2 5 ?_);(try simp only [zr_,zm_]))|(refine Mine.wp_alloc M.out rfl 42 rfl (.agg #[.slice none 0 0,.slice none 0 0,.int .i64 0]) (by kernel_rfl) ?_;intro gt w' M';(try simp only [Value.cells,zr_,zm_] at M');replace M:=hid M';clear M';(try simp only [zr_,zm_]))|(refine zSs M.out 42 0 ?_;intro w' M';(try simp only [zr_,zm_] at M');replace M:=hid M';clear M'))|((with_reducible show wpList _ _ _ (⟨_,.load _ _,_,_,_,some _⟩::_) _ _);first|((first|refine zGg M.out 0 ?_|refine zGg M.out 1 ?_);(try simp only [zr_,zm_]))))
 clear hso bl
 have hrm : rk.length = rm:=by have h:=M.out.len1 4 rfl;rw [ints_length] at h;exact h
 have hrmn : rm ≤ 1048576:=by have h:=HRK.out;rw [HRL.out] at h;omega
 have HRM:=hid hrm
 have hel : es.length = m9:=by have h:=HE2.out;rw [← HE1.out,List.length_map] at h;exact h.symm
 have HEL:=hid hel
 clear hrm hel
 by_cases hmr : m9 = rm
 rotate_left
 ·have HZ : Hid (serOf x0 x1 = false):=dec_no fun z => hmr (by have h:=z.2.1;rw [HRF.out,HRKE.out,HRM.out,← HE2.out] at h;exact h)
  have bq : ((m9 : Int) != (rm : Int)) = true:=by simp;omega
  clear hmr
  go_wp2
  go_ret
  exact ⟨by rw [HZ.out];rfl,M.out.ext⟩
 subst hmr
 have bq : ((m9 : Int) != (m9 : Int)) = false:=by simp
 go_wp2
 go_loopw [8] (fun iv wr => ∃ (q : Nat),q ≤ m9 ∧ iv = .int .i64 (q : Int) ∧ Hid (sdTo x1 RF.1 rk q) ∧ Hid (Mine w wr (.box gt 42 #[.slice C9.1 C9.2.1 C9.2.2,.slice P9.1 P9.2.1 P9.2.2,.int .i64 RF.2.count_]::.row 111 5 B9 m9 d9 (es.flatMap rcell)::.row 3 1 C9.1 C9.2.1 C9.2.2 (ints RF.2.cells_)::.row 3 1 P9.1 P9.2.1 P9.2.2 (ints RF.2.map_)::.row 3 1 RB m9 rd (ints rk)::.box (w.heap.size + 1) 58 #[.int .i64 x1.now_,.int .i64 x1.token_,.int .i64 x1.mem_.clock_,.slice A0 n0 c0,.slice A1 n1 c1,.int .i64 x1.shelf_.count_,.slice A2 n2 c2,.slice A3 n3 c3,.slice A4 n4 c4]::.box w.heap.size 48 #[.slice P0 pn0 pc0,.slice P1 pn1 pc1,.int .i64 x0.start_.count_,.slice P2 n3 pc2,.slice P3 pn3 pc3]::es.flatMap rrows))) (fun iv _ => m9 - (intOf iv).toNat)
 case atStart => exact ⟨0,Nat.zero_le _,rfl,sdTo.zero _ _ _,M⟩
 case round =>
  clear M
  obtain ⟨q,hq,rfl,HT,M⟩:=hrel
  by_cases hlt : (q : Int) < (m9 : Int)
  rotate_left
  ·skip
   have HTA : Hid (sdTo x1 RF.1 rk rk.length):=by have h:=HT.out;have e : q = rk.length:=(by rw [HRM.out];omega);rw [← e];exact h
   have HLL : Hid (RF.1.length = rk.length):=by show _ = _;rw [HRM.out,← HE2.out]
   clear HT
   cases hov : overW x1
   ·have HOV:=hid hov
    have HZ : Hid (serOf x0 x1 = true):=ser_end HRO.out (by rw [HRF.out]) HRKE.out HLL.out HTA.out true (by rw [hov];simp)
    clear hov
    go_wp2_with (first|(go_at_call 64;refine zC M (spec_Over x1 [.int .i64 x1.now_,.int .i64 x1.token_,.int .i64 x1.mem_.clock_,.slice A0 n0 c0,.slice A1 n1 c1,.int .i64 x1.shelf_.count_,.slice A2 n2 c2,.slice A3 n3 c3,.slice A4 n4 c4] _ _ (GWorld.R_good.ext HW0.out M.out.ext) HWW.out) ?_;clear M;intro w' M;rw [HOV.out])|((with_reducible refine zN ?_);first|(refine zGs M.out 58 5 9 ?_;(try simp only [zr_,zm_]))))
    go_ret
    exact ⟨by rw [HZ.out];rfl,M.out.ext⟩
   cases hsm : sameT RF.2 (endT x1)
   ·have HOV:=hid hov
    have HSM:=hid hsm
    have HZ : Hid (serOf x0 x1 = false):=ser_end HRO.out (by rw [HRF.out]) HRKE.out HLL.out HTA.out false (by rw [HRF.out,hov,hsm];simp)
    clear hov hsm
    go_wp2_with (first|(go_at_call 64;refine zC M (spec_Over x1 [.int .i64 x1.now_,.int .i64 x1.token_,.int .i64 x1.mem_.clock_,.slice A0 n0 c0,.slice A1 n1 c1,.int .i64 x1.shelf_.count_,.slice A2 n2 c2,.slice A3 n3 c3,.slice A4 n4 c4] _ _ (GWorld.R_good.ext HW0.out M.out.ext) HWW.out) ?_;clear M;intro w' M;rw [HOV.out])|((with_reducible refine zN ?_);first|(refine zGs M.out 58 5 9 ?_;(try simp only [zr_,zm_]))))
    refine zRH M.out 13 ?_
    intro w' M'
    replace M:=hid M'
    clear M'
    refine zTL 0 ?_;intro K hK;((refine zDs 42 0 3 ?_;(try simp only [zr_,zm_]);go_big_quiet_on))
    refine zXL 1 ?_;(try simp only [zs_,zl_])
    refine zTL 2 ?_;intro K hK;((refine zDs 52 5 2 ?_;(try simp only [zr_,zm_]);go_big_quiet_on))
    refine zXL 4 ?_;(try simp only [zs_,zl_])
    refine zXL 5 ?_;(try simp only [zs_,zl_])
    refine zTL 6 ?_;intro K hK;((refine zD 5 ?_;(try simp only [zr_,zm_]);go_big_quiet_on))
    refine zXL 8 ?_;(try simp only [zs_,zl_])
    refine zXL 9 ?_;(try simp only [zs_,zl_])
    refine zTL 10 ?_;intro K hK;((refine zD 5 ?_;(try simp only [zr_,zm_]);go_big_quiet_on))
    refine zNy 3 (fun K hK => ?_)
    go_simp
    go_at_call 66
    refine (spec_Values x1.mem_ A0 n0 c0 _ _ (HMEM.out.ext M.out.ext) hn0).mono ?_
    rintro e5 w5 ⟨BV,mv,dv,rfl,M4⟩
    replace M:=hid (M.out.call M4)
    simp only [List.cons_append,List.nil_append] at M
    clear M4
    refine hK.out _ _ (M.out.tail) ?_
    clear hK K
    (try simp only [zs_,zl_])
    refine zNy 7 (fun K hK => ?_)
    go_simp
    go_at_call 67
    refine (spec_MapOf A1 n1 c1 x1.shelf_.slots_ _ _ (HSHF.out.ext M.out.ext) hn1).mono ?_
    rintro e5 w5 ⟨BM,mq,dm,rfl,M4⟩
    replace M:=hid (M.out.call M4)
    simp only [List.cons_append,List.nil_append] at M
    clear M4
    refine hK.out _ _ (M.out.tail.tail) ?_
    clear hK K
    (try simp only [zs_,zl_])
    refine zXL 11 ?_;(try simp only [zs_,zl_])
    refine zNy 12 (fun K hK => ?_)
    go_simp
    go_at_call 65
    refine (spec_SameThings C9.1 P9.1 BV BM _ _ _ _ _ _ _ _ RF.2 (endT x1) _ (M.out.row_sl 4 rfl) (M.out.row_sl 5 rfl) (M.out.row_sl 1 rfl) (M.out.row_sl 0 rfl) ⟨M.out.row_le 4 rfl,M.out.row_le 5 rfl,M.out.row_le 1 rfl,M.out.row_le 0 rfl⟩).mono ?_
    rintro e5 w5 ⟨rfl,x9⟩
    replace M:=hid (M.out.on x9)
    clear x9
    rw [HSM.out]
    refine hK.out _ _ (M.out.tail.tail) ?_
    clear hK K
    (try simp only [zs_,zl_])
    refine HQ.end_ (by kernel_rfl) ?_
    simp only [List.drop_succ_cons,List.drop_zero]
    go_wp2
    go_ret
    exact ⟨by rw [HZ.out];rfl,M.out.ext⟩
   ·have HOV:=hid hov
    have HSM:=hid hsm
    have HZ : Hid (serOf x0 x1 = true):=ser_end HRO.out (by rw [HRF.out]) HRKE.out HLL.out HTA.out true (by rw [HRF.out,hov,hsm];simp)
    clear hov hsm
    go_wp2_with (first|(go_at_call 64;refine zC M (spec_Over x1 [.int .i64 x1.now_,.int .i64 x1.token_,.int .i64 x1.mem_.clock_,.slice A0 n0 c0,.slice A1 n1 c1,.int .i64 x1.shelf_.count_,.slice A2 n2 c2,.slice A3 n3 c3,.slice A4 n4 c4] _ _ (GWorld.R_good.ext HW0.out M.out.ext) HWW.out) ?_;clear M;intro w' M;rw [HOV.out])|((with_reducible refine zN ?_);first|(refine zGs M.out 58 5 9 ?_;(try simp only [zr_,zm_]))))
    refine zRH M.out 13 ?_
    intro w' M'
    replace M:=hid M'
    clear M'
    refine zTL 0 ?_;intro K hK;((refine zDs 42 0 3 ?_;(try simp only [zr_,zm_]);go_big_quiet_on))
    refine zXL 1 ?_;(try simp only [zs_,zl_])
    refine zTL 2 ?_;intro K hK;((refine zDs 52 5 2 ?_;(try simp only [zr_,zm_]);go_big_quiet_on))
    refine zXL 4 ?_;(try simp only [zs_,zl_])
    refine zXL 5 ?_;(try simp only [zs_,zl_])
    refine zTL 6 ?_;intro K hK;((refine zD 5 ?_;(try simp only [zr_,zm_]);go_big_quiet_on))
    refine zXL 8 ?_;(try simp only [zs_,zl_])
    refine zXL 9 ?_;(try simp only [zs_,zl_])
    refine zTL 10 ?_;intro K hK;((refine zD 5 ?_;(try simp only [zr_,zm_]);go_big_quiet_on))
    refine zNy 3 (fun K hK => ?_)
    go_simp
    go_at_call 66
    refine (spec_Values x1.mem_ A0 n0 c0 _ _ (HMEM.out.ext M.out.ext) hn0).mono ?_
    rintro e5 w5 ⟨BV,mv,dv,rfl,M4⟩
    replace M:=hid (M.out.call M4)
    simp only [List.cons_append,List.nil_append] at M
    clear M4
    refine hK.out _ _ (M.out.tail) ?_
    clear hK K
    (try simp only [zs_,zl_])
    refine zNy 7 (fun K hK => ?_)
    go_simp
    go_at_call 67
    refine (spec_MapOf A1 n1 c1 x1.shelf_.slots_ _ _ (HSHF.out.ext M.out.ext) hn1).mono ?_
    rintro e5 w5 ⟨BM,mq,dm,rfl,M4⟩
    replace M:=hid (M.out.call M4)
    simp only [List.cons_append,List.nil_append] at M
    clear M4
    refine hK.out _ _ (M.out.tail.tail) ?_
    clear hK K
    (try simp only [zs_,zl_])
    refine zXL 11 ?_;(try simp only [zs_,zl_])
    refine zNy 12 (fun K hK => ?_)
    go_simp
    go_at_call 65
    refine (spec_SameThings C9.1 P9.1 BV BM _ _ _ _ _ _ _ _ RF.2 (endT x1) _ (M.out.row_sl 4 rfl) (M.out.row_sl 5 rfl) (M.out.row_sl 1 rfl) (M.out.row_sl 0 rfl) ⟨M.out.row_le 4 rfl,M.out.row_le 5 rfl,M.out.row_le 1 rfl,M.out.row_le 0 rfl⟩).mono ?_
    rintro e5 w5 ⟨rfl,x9⟩
    replace M:=hid (M.out.on x9)
    clear x9
    rw [HSM.out]
    refine hK.out _ _ (M.out.tail.tail) ?_
    clear hK K
    (try simp only [zs_,zl_])
    refine HQ.end_ (by kernel_rfl) ?_
    simp only [List.drop_succ_cons,List.drop_zero]
    go_wp2
    go_ret
    exact ⟨by rw [HZ.out];rfl,M.out.ext⟩
  have HLT : Hid (q < m9):=by show _ < _;omega
  obtain ⟨kv,hkv⟩ : ∃ k,rk[q]? = some k:=⟨_,List.getElem?_eq_getElem (by have:=HLT.out;rw [HRM.out];exact this)⟩
  obtain ⟨k,hk3,rfl⟩:=ranks_ix (x:=x1) (by rw [HRKE.out];exact hkv)
  rw [HRL.out] at hk3
  have hki : (k : Int) < (n3 : Int):=by omega
  have HKV:=hid hkv
  have HKX : Hid ((ints rk)[q]? = some (.int .i64 (k : Int))):=by show (ints rk)[q]? = _;unfold ints;rw [List.getElem?_map,hkv];rfl
  clear hkv
  obtain ⟨b3,o3,rfl⟩:=HRT.out.addr (by omega)
  obtain ⟨r,row,hrx,hrb,hrw,hrl,hrg⟩:=root_at HRT.out hk3
  obtain ⟨K0,kn0,kc0,f12,hkc,hks,f7⟩:=Root.at12 hrw
  have HROOT:=hid (rootAt_is hrx)
  have hrwt:=HRWT.out r (List.mem_of_getElem? hrx)
  have hkl:=hks.len
  have hkn0 : kn0 ≤ 1048576:=by omega
  have HRW:=hid hrw
  have HRLN:=hid hrl
  have HRG:=hid hrg
  have HRB:=hid hrb
  have HKS:=hid hks
  have t7 : row.toArray[7]? = some (.int .i64 r.fate_):=by simpa using f7
  have t12 : row.toArray[12]? = some (.slice K0 kn0 kc0):=by simpa using f12
  have HF7 : Hid (w.cell? ⟨b3,o3 + k * 40 + 7,none⟩ = some (.int .i64 r.fate_) ∧ b3 < w.heap.size):=⟨hrg 7 _ f7,hrb⟩
  have HF12 : Hid (w.cell? ⟨b3,o3 + k * 40 + 12,none⟩ = some (.slice K0 kn0 kc0) ∧ b3 < w.heap.size):=⟨hrg 12 _ f12,hrb⟩
  clear hrx hrb hrw hrl hrg f12 f7 hks hrwt hkl hkc
  obtain ⟨ee,hee⟩ : ∃ ee,es[q]? = some ee:=⟨_,List.getElem?_eq_getElem (by have:=HLT.out;rw [HEL.out];exact this)⟩
  obtain ⟨hc0,hc1⟩:=run_cell hee
  have HEE:=hid hee
  have HER : Hid (RF.1[q]? = some ee.x):=by show _ = _;rw [← HE1.out,List.getElem?_map,hee];rfl
  have HC0:=hid hc0
  have HC1:=hid hc1
  clear hee hc0 hc1
  obtain ⟨gU,rfl⟩:=M.out.addr 1 rfl (by omega)
  obtain ⟨gK,rfl⟩:=M.out.addr 4 rfl (by omega)
  by_cases ho : ee.x.out_ = r.fate_
  rotate_left
  ·have bo : (ee.x.out_ != r.fate_) = true:=by simpa using ho
   have HZ : Hid (serOf x0 x1 = false):=ser_not (by rw [HRF.out]) HRKE.out (by have:=HLT.out;rw [HRM.out];exact this) HKV.out HER.out HROOT.out (fun z => ho z.1)
   clear ho
   go_wp2
   refine zRH M.out 9 ?_
   intro w' M'
   replace M:=hid M'
   clear M'
   refine zXL 0 ?_;(try simp only [zs_,zl_])
   refine zTL 1 ?_;intro K hK;((refine zD 5 ?_;(try simp only [zr_,zm_]);go_big_quiet_on))
   refine zXL 2 ?_;(try simp only [zs_,zl_])
   refine zXL 3 ?_;(try simp only [zs_,zl_])
   refine zXL 4 ?_;(try simp only [zs_,zl_])
   refine zTL 5 ?_;intro K hK;((refine Mine.rd_getr _ _ rfl 4 _ rfl rfl _ (by exact HKX.out) _ (by first|exact Tryz.underlying3) (by rfl) ?_;(try simp only [zr_,zm_]);go_big_quiet_on))
   refine zXL 6 ?_;(try simp only [zs_,zl_])
   refine zTL 7 ?_;intro K hK;((refine Mine.rd_argall 97 _ rfl _ _ rfl row HRG.out HRB.out _ Tryz.underlying97 (by rfl) (by rw [HRLN.out];kernel_rfl) ?_;(try simp only [zr_,zm_]);go_big_quiet_on))
   refine zNy 8 (fun K hK => ?_)
   refine Mine.step_allocany M.out rfl 97 rfl (some 9) rfl 40 (by kernel_rfl) ?_
   intro gx w' zx hzx M'
   replace M:=hid M'
   clear M'
   refine hK.out _ _ (M.out.tail) ?_
   clear hK K
   (try simp only [zs_,zl_])
   refine HQ.end_ (by kernel_rfl) ?_
   simp only [List.drop_succ_cons,List.drop_zero]
   go_wp2_with (refine Mine.wp_setall M.out rfl 97 _ _ rfl rfl 0 rfl rfl _ rfl (by rw [hzx,HRLN.out]) (Root.R_one HRW.out) (by rw [HRLN.out];kernel_rfl) ?_;intro w' M';(try simp only [zr_,zm_] at M');replace M:=hid M';clear M')
   refine zRQ M.out ?_
   repeat (first|go_big_quiet_skip|(go_big_quiet_want;first|((first|refine Mine.oq_getr _ _ rfl 2 _ rfl rfl _ (by first|exact HC0.out|exact HC1.out) _ (by first|exact Tryz.underlying3|exact Tryz.underlying22) (by rfl) ?_|refine Mine.oq_get _ _ rfl 0 _ rfl rfl _ (by assumption) _ (by first|exact Tryz.underlying3|exact Tryz.underlying22) (by rfl) ?_);(try simp only [zr_,zm_]);go_big_quiet_on)|(unfold Oper.quiet;apply Exists.intro;refine ⟨fun wq hq => ?_,?_⟩;(clear hq;go_simp;first|done|rfl|exact ⟨rfl,rfl⟩);(try simp only [zs_,zl_]);go_big_quiet_on)))
   refine wpQuiet_nil ?_
   intro w' M'
   replace M:=hid M'
   clear M'
   go_wp2
   go_ret
   exact ⟨by rw [HZ.out];rfl,M.out.ext⟩
  have bo : (ee.x.out_ != r.fate_) = false:=by simpa using ho
  have HOE:=hid ho
  clear ho
  cases hd : dec (ee.x.regs_ = r.regs_)
  ·have HDR:=hid hd
   have HZ : Hid (serOf x0 x1 = false):=ser_not (by rw [HRF.out]) HRKE.out (by have:=HLT.out;rw [HRM.out];exact this) HKV.out HER.out HROOT.out (fun z => by rw [dec_yes z.2] at hd;cases hd)
   clear hd
   go_wp2
   refine zRH M.out 9 ?_
   intro w' M'
   replace M:=hid M'
   clear M'
   refine zXL 0 ?_;(try simp only [zs_,zl_])
   refine zTL 1 ?_;intro K hK;((refine zD 5 ?_;(try simp only [zr_,zm_]);go_big_quiet_on))
   refine zXL 2 ?_;(try simp only [zs_,zl_])
   refine zXL 3 ?_;(try simp only [zs_,zl_])
   refine zXL 4 ?_;(try simp only [zs_,zl_])
   refine zTL 5 ?_;intro K hK;((refine Mine.rd_getr _ _ rfl 4 _ rfl rfl _ (by exact HKX.out) _ (by first|exact Tryz.underlying3) (by rfl) ?_;(try simp only [zr_,zm_]);go_big_quiet_on))
   refine zXL 6 ?_;(try simp only [zs_,zl_])
   refine zTL 7 ?_;intro K hK;((refine Mine.rd_argall 97 _ rfl _ _ rfl row HRG.out HRB.out _ Tryz.underlying97 (by rfl) (by rw [HRLN.out];kernel_rfl) ?_;(try simp only [zr_,zm_]);go_big_quiet_on))
   refine zNy 8 (fun K hK => ?_)
   refine Mine.step_allocany M.out rfl 97 rfl (some 9) rfl 40 (by kernel_rfl) ?_
   intro gx w' zx hzx M'
   replace M:=hid M'
   clear M'
   refine hK.out _ _ (M.out.tail) ?_
   clear hK K
   (try simp only [zs_,zl_])
   refine HQ.end_ (by kernel_rfl) ?_
   simp only [List.drop_succ_cons,List.drop_zero]
   go_wp2_with (refine Mine.wp_setall M.out rfl 97 _ _ rfl rfl 0 rfl rfl _ rfl (by rw [hzx,HRLN.out]) (Root.R_one HRW.out) (by rw [HRLN.out];kernel_rfl) ?_;intro w' M';(try simp only [zr_,zm_] at M');replace M:=hid M';clear M')
   refine zRQ M.out ?_
   repeat (first|go_big_quiet_skip|(go_big_quiet_want;first|((first|refine Mine.oq_getr _ _ rfl 2 _ rfl rfl _ (by first|exact HC0.out|exact HC1.out) _ (by first|exact Tryz.underlying3|exact Tryz.underlying22) (by rfl) ?_|refine Mine.oq_get _ _ rfl 0 _ rfl rfl _ (by assumption) _ (by first|exact Tryz.underlying3|exact Tryz.underlying22) (by rfl) ?_);(try simp only [zr_,zm_]);go_big_quiet_on)|(unfold Oper.quiet;apply Exists.intro;refine ⟨fun wq hq => ?_,?_⟩;(go_simp;go_at_call 63;(with_reducible refine (l7Ints_any _ K0 _ _ _ _ ee.x.regs_ r.regs_ _ _ _ (run_regs hq (fun z hz => (List.mem_cons_of_mem _ (List.mem_cons_of_mem _ (List.mem_cons_of_mem _ (List.mem_cons_of_mem _ (List.mem_cons_of_mem _ (List.mem_cons_of_mem _ (List.mem_cons_of_mem _ (List.mem_cons_of_mem _ hz))))))))) HEE.out) (HKS.out.ext hq.ext) (run_rle hq (fun z hz => (List.mem_cons_of_mem _ (List.mem_cons_of_mem _ (List.mem_cons_of_mem _ (List.mem_cons_of_mem _ (List.mem_cons_of_mem _ (List.mem_cons_of_mem _ (List.mem_cons_of_mem _ (List.mem_cons_of_mem _ hz))))))))) HEE.out) (by omega)).mono ?_);rintro e5 w2 ⟨rfl,x2⟩;exact ⟨rfl,hq.on x2⟩);(try rw [HDR.out]);(try simp only [zs_,zl_]);go_big_quiet_on)|(unfold Oper.quiet;apply Exists.intro;refine ⟨fun wq hq => ?_,?_⟩;(clear hq;go_simp;first|done|rfl|exact ⟨rfl,rfl⟩);(try simp only [zs_,zl_]);go_big_quiet_on)))
   refine wpQuiet_nil ?_
   intro w' M'
   replace M:=hid M'
   clear M'
   go_wp2
   go_ret
   exact ⟨by rw [HZ.out];rfl,M.out.ext⟩
  have HDR:=hid hd
  have HRE:=hid (dec_true hd)
  clear hd
  go_wp2
  refine zRH M.out 9 ?_
  intro w' M'
  replace M:=hid M'
  clear M'
  refine zXL 0 ?_;(try simp only [zs_,zl_])
  refine zTL 1 ?_;intro K hK;((refine zD 5 ?_;(try simp only [zr_,zm_]);go_big_quiet_on))
  refine zXL 2 ?_;(try simp only [zs_,zl_])
  refine zXL 3 ?_;(try simp only [zs_,zl_])
  refine zXL 4 ?_;(try simp only [zs_,zl_])
  refine zTL 5 ?_;intro K hK;((refine Mine.rd_getr _ _ rfl 4 _ rfl rfl _ (by exact HKX.out) _ (by first|exact Tryz.underlying3) (by rfl) ?_;(try simp only [zr_,zm_]);go_big_quiet_on))
  refine zXL 6 ?_;(try simp only [zs_,zl_])
  refine zTL 7 ?_;intro K hK;((refine Mine.rd_argall 97 _ rfl _ _ rfl row HRG.out HRB.out _ Tryz.underlying97 (by rfl) (by rw [HRLN.out];kernel_rfl) ?_;(try simp only [zr_,zm_]);go_big_quiet_on))
  refine zNy 8 (fun K hK => ?_)
  refine Mine.step_allocany M.out rfl 97 rfl (some 9) rfl 40 (by kernel_rfl) ?_
  intro gx w' zx hzx M'
  replace M:=hid M'
  clear M'
  refine hK.out _ _ (M.out.tail) ?_
  clear hK K
  (try simp only [zs_,zl_])
  refine HQ.end_ (by kernel_rfl) ?_
  simp only [List.drop_succ_cons,List.drop_zero]
  go_wp2_with (refine Mine.wp_setall M.out rfl 97 _ _ rfl rfl 0 rfl rfl _ rfl (by rw [hzx,HRLN.out]) (Root.R_one HRW.out) (by rw [HRLN.out];kernel_rfl) ?_;intro w' M';(try simp only [zr_,zm_] at M');replace M:=hid M';clear M')
  refine zRQ M.out ?_
  repeat (first|go_big_quiet_skip|(go_big_quiet_want;first|((first|refine Mine.oq_getr _ _ rfl 2 _ rfl rfl _ (by first|exact HC0.out|exact HC1.out) _ (by first|exact Tryz.underlying3|exact Tryz.underlying22) (by rfl) ?_|refine Mine.oq_get _ _ rfl 0 _ rfl rfl _ (by assumption) _ (by first|exact Tryz.underlying3|exact Tryz.underlying22) (by rfl) ?_);(try simp only [zr_,zm_]);go_big_quiet_on)|(unfold Oper.quiet;apply Exists.intro;refine ⟨fun wq hq => ?_,?_⟩;(go_simp;go_at_call 63;(with_reducible refine (l7Ints_any _ K0 _ _ _ _ ee.x.regs_ r.regs_ _ _ _ (run_regs hq (fun z hz => (List.mem_cons_of_mem _ (List.mem_cons_of_mem _ (List.mem_cons_of_mem _ (List.mem_cons_of_mem _ (List.mem_cons_of_mem _ (List.mem_cons_of_mem _ (List.mem_cons_of_mem _ (List.mem_cons_of_mem _ hz))))))))) HEE.out) (HKS.out.ext hq.ext) (run_rle hq (fun z hz => (List.mem_cons_of_mem _ (List.mem_cons_of_mem _ (List.mem_cons_of_mem _ (List.mem_cons_of_mem _ (List.mem_cons_of_mem _ (List.mem_cons_of_mem _ (List.mem_cons_of_mem _ (List.mem_cons_of_mem _ hz))))))))) HEE.out) (by omega)).mono ?_);rintro e5 w2 ⟨rfl,x2⟩;exact ⟨rfl,hq.on x2⟩);(try rw [HDR.out]);(try simp only [zs_,zl_]);go_big_quiet_on)|(unfold Oper.quiet;apply Exists.intro;refine ⟨fun wq hq => ?_,?_⟩;(clear hq;go_simp;first|done|rfl|exact ⟨rfl,rfl⟩);(try simp only [zs_,zl_]);go_big_quiet_on)))
  refine wpQuiet_nil ?_
  intro w' M'
  replace M:=hid M'
  clear M'
  go_wp2
  go_roundw
  case rel => exact ⟨q + 1,HLT.out,by go_num,HT.out.next HKV.out HER.out HROOT.out HOE.out HRE.out,hid M.out.tail⟩
  case measure => have:=HLT.out;simp [intOf];omega

end Go.Proofs.YtoegjiigaoanbaaGreat
namespace Go.Proofs.YtoegjiigaoanbaaGreat
open Go.RowKit Go.Deep
set_option linter.unnecessarySimpa false
set_option maxHeartbeats 400000000
open Go.Lib (hid)
set_option linter.unusedSimpArgs false
set_option linter.unusedVariables false

theorem seg_mem {E : List Int} {p s : Nat} {x : Int} (h : x ∈ Seg E p s) : x ∈ E:=List.mem_of_mem_drop (List.mem_of_mem_take h)
theorem cut_one1 (D : List Int) (a s : Nat) : D = D.take a ++ (Seg D a s ++ D.drop (a + s)):=by
 unfold Seg
 rw [← List.drop_drop,List.take_append_drop,List.take_append_drop]
set_option maxRecDepth 4000 in
theorem stable_m {b w : World} {g n c gw : Nat} {fr : List Res} {E : List Int} {K : Keys} (M0 : Mine b w (.row 3 1 (some ⟨g,0,none⟩) n c (ints (E))::fr)) (HC0 : CmpC b fr K E gw) (hE : E.Pairwise (· < ·)) (hn19 : n ≤ 19) :
  Calls Tryz.prog 155 #[.slice (some ⟨g,0,none⟩) n c,.int .i64 n,.func (.func 97) #[] #[.pointer (some ⟨gw,0,none⟩)]] w fun e w' => e = .returned (.tuple #[]) ∧ Mine b w' (.row 3 1 (some ⟨g,0,none⟩) n c (ints (rankList K E))::fr):=by
 have hl : E.length = n:=by have h:=M0.len1 0 rfl;rw [ints_length] at h;exact h
 have HL:=hid hl
 have M:=hid M0
 have HC:=hid HC0
 have HE:=hid hE
 have hn : n ≤ 1048576:=by omega
 have hnI : (n : Int) ≤ 1048576:=by omega
 clear M0 HC0 hE hl
 go_enter Tryz.func155,Tryz.ntmps155
 go_wp2
 go_loopw [7,8] (fun av bv wr => ∃ (an : Nat) (A B : Int) (D : List Int),av = .int .i64 A ∧ bv = .int .i64 B ∧ an ≤ n ∧ Hid (A = (an : Int) ∧ B = (an : Int) + 20) ∧ Hid (20 ∣ an) ∧ Hid (Firsts K E 20 an D) ∧ Hid (Mine b wr (.row 3 1 (some ⟨g,0,none⟩) n c (ints (D))::fr))) (fun av _ _ => n - (intOf av).toNat)
 case atStart => exact ⟨0,0,20,E,rfl,rfl,Nat.zero_le _,by show _ ∧ _;omega,Nat.dvd_zero _,Firsts.start K E 20,M⟩
 case round =>
  clear M
  obtain ⟨an,A,B,D,rfl,rfl,han,HAB,HD,HF,M⟩:=hrel
  have hA0 : 0 ≤ A:=by have:=HAB.out;omega
  have hBA : B ≤ 1048596:=by have:=HAB.out;omega
  have hB0 : 0 ≤ B:=by have:=HAB.out;omega
  have hA1 : A ≤ 1048576:=by have:=HAB.out;omega
  have HDL : Hid (D.length = n):=by show _ = _;rw [HF.out.len,HL.out]
  have hcut:=cut_one1 D an 20
  have HTL : Hid ((D.take an).length = an):=by show _ = _;rw [List.length_take,HDL.out];omega
  have HSL : Hid ((Seg D an 20).length = min 20 (n - an)):=by show _ = _;rw [seg_len,HDL.out]
  have HSG : Hid (Seg D an 20 = Seg E an 20):=by show _ = _;unfold Seg;rw [HF.out.hi]
  have M9 : Hid (Mine b wr (.row 3 1 (some ⟨g,0,none⟩) n c (ints (D.take an ++ (Seg D an 20 ++ D.drop (an + 20))))::fr)):=by show Mine _ _ _;rw [← hcut];exact M.out
  have HX1 : Hid (∀ x ∈ Seg D an 20,x ∈ E):=fun x hx => seg_mem (by rw [HSG.out] at hx;exact hx)
  have HX2 : Hid ((Seg D an 20).Pairwise (· < ·)):=by show List.Pairwise _ _;rw [HSG.out];exact HE.out.sublist ((List.take_sublist _ _).trans (List.drop_sublist _ _))
  clear hcut
  by_cases hb : B ≤ (n : Int)
  ·exfalso;have h1:=HAB.out;omega
  have HBN:=hid hb
  go_wp2_with fail
  refine (insertion_m (a:=A) (e0:=(n : Int)) M9.out HC.out HX1.out HX2.out (by rw [HTL.out];exact HAB.out.1) (by have h1:=HAB.out;have h2:=HTL.out;have h3:=HSL.out;have h4:=HBN.out;omega) hn).mono ?_
  rintro e w1 ⟨rfl,X',hp,hs,M1⟩
  have HN:=HF.out.next HD.out (by omega) (by rw [HDL.out];exact han) hp hs
  have HALL:=hid (HN.all (by have h1:=HAB.out;have h4:=HBN.out;have h5:=HL.out;omega))
  have HNL:=hid HN.len
  generalize D.take an ++ (X' ++ D.drop (an + 20)) = D2 at M1 HALL HNL
  replace M:=hid M1
  clear M1 hp hs M9 HN HX1 HX2 HSG HSL HTL HDL HF
  go_wp2
  go_loopw [6] (fun sv wr => ∃ (s : Nat) (S : Int) (D : List Int),sv = .int .i64 S ∧ Hid (S = (s : Int)) ∧ 20 ≤ S ∧ S ≤ 2097172 ∧ Hid (D.length = E.length) ∧ Hid (∀ p,s ∣ p → RunAt K E s p D) ∧ Hid (Mine b wr (.row 3 1 (some ⟨g,0,none⟩) n c (ints (D))::fr))) (fun sv _ => (n : Nat) - (intOf sv).toNat)
  case atStart => exact ⟨20,20,D2,rfl,rfl,by omega,by omega,HNL,HALL,M⟩
  case round =>
   clear M HALL HNL HBN hb
   obtain ⟨s,S,D,rfl,HSS,hS20,hSm,HDL,HR,M⟩:=hrel
   by_cases hlt : S < (n : Int)
   rotate_left
   ·have e:=run_all HE.out HDL.out (by have h1:=HSS.out;have h2:=HL.out;omega) (HR.out 0 (Nat.dvd_zero _))
    have M9:=M.out
    rw [e] at M9
    have M8:=hid M9
    clear M M9 e
    go_wp2
    first|refine bodyPost_ret (v:=.tuple #[]) (by simp [results,Tryz.results155,go_sem]) rfl ?_|refine bodyPost_end (v:=.tuple #[]) (by simp [results,Tryz.results155,go_sem]) rfl ?_
    exact ⟨rfl,M8.out⟩
   exfalso;omega
set_option maxRecDepth 4000 in
theorem sortStable_m {b w : World} {g n c gw : Nat} {fr : List Res} {E : List Int} {K : Keys} (M0 : Mine b w (.row 3 1 (some ⟨g,0,none⟩) n c (ints (E))::fr)) (HC0 : CmpC b fr K E gw) (hE : E.Pairwise (· < ·)) (hn19 : n ≤ 19) :
  Calls Tryz.prog 96 #[.slice (some ⟨g,0,none⟩) n c,.func (.func 97) #[] #[.pointer (some ⟨gw,0,none⟩)]] w fun e w' => e = .returned (.tuple #[]) ∧ Mine b w' (.row 3 1 (some ⟨g,0,none⟩) n c (ints (rankList K E))::fr):=by
 have M:=hid M0
 have HC:=hid HC0
 have HE:=hid hE
 clear M0 HC0 hE
 go_enter Tryz.func96,Tryz.ntmps96
 go_wp2_with fail
 refine (stable_m M.out HC.out HE.out hn19).mono ?_
 rintro e w1 ⟨rfl,M1⟩
 replace M:=hid M1
 clear M1
 go_wp2
 first|refine bodyPost_ret (v:=.tuple #[]) (by simp [results,Tryz.results96,go_sem]) rfl ?_|refine bodyPost_end (v:=.tuple #[]) (by simp [results,Tryz.results96,go_sem]) rfl ?_
 exact ⟨rfl,M.out⟩
end Go.Proofs.YtoegjiigaoanbaaGreat
