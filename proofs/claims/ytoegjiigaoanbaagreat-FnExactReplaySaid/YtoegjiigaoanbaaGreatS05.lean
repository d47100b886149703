/- The laws' helpers on a script's structs. No condition but sizes. Things copied. No condition but lengths. Contracts of l1In and within. No condition. l3Cell, isCell, l3Val, isValue. No condition. Eight values: l3Vals, areValues. No condition but lengths. Right code: blocks, skips, forks, and the marks of a walk through it. Plain. No condition. Run: how it reads. No condition. -/
import Derived.Test.YtoegjiigaoanbaaGreatS04
import Derived.Test.YtoegjiigaoanbaaGreatS00
namespace Go.Proofs.YtoegjiigaoanbaaGreat
open Go.RowKit Go.Deep
set_option linter.unnecessarySimpa false
set_option maxHeartbeats 400000000
open Go.Lib (hid)

/-! ### GOp -/
structure GOp where
 kind_ : Int
 a_ : Int
 b_ : Int
 c_ : Int
deriving Inhabited,DecidableEq
def GOp.cells (s : GOp) : List Value:=[.int .i64 s.kind_,.int .i64 s.a_,.int .i64 s.b_,.int .i64 s.c_]
theorem GOp.cells_length (s : GOp) : s.cells.length = 4:=rfl
def GOp.good (s : GOp) : Prop:=(Lit.int .i64 s.kind_).wf = true ∧ (Lit.int .i64 s.a_).wf = true ∧ (Lit.int .i64 s.b_).wf = true ∧ (Lit.int .i64 s.c_).wf = true
theorem opens_GOp : Opens Tryz.prog 271 (fun _ cs (s : GOp) => cs = s.cells ∧ s.good):=by
 intro H enc w base spare held fuel cs x h
 obtain ⟨hl,m,hf⟩:=trod_fields Tryz.underlying271 (by kernel_rfl) (by kernel_rfl) h
 obtain ⟨v0,y0,e0,t0⟩:=hf 0 _ rfl
 obtain ⟨f0,h0,-,g0⟩:=DataW.trod_int Tryz.underlying3 t0
 injection h0 with h0 _;subst h0
 obtain ⟨v1,y1,e1,t1⟩:=hf 1 _ rfl
 obtain ⟨f1,h1,-,g1⟩:=DataW.trod_int Tryz.underlying3 t1
 injection h1 with h1 _;subst h1
 obtain ⟨v2,y2,e2,t2⟩:=hf 2 _ rfl
 obtain ⟨f2,h2,-,g2⟩:=DataW.trod_int Tryz.underlying3 t2
 injection h2 with h2 _;subst h2
 obtain ⟨v3,y3,e3,t3⟩:=hf 3 _ rfl
 obtain ⟨f3,h3,-,g3⟩:=DataW.trod_int Tryz.underlying3 t3
 injection h3 with h3 _;subst h3
 refine ⟨⟨f0,f1,f2,f3⟩,?_,⟨g0,g1,g2,g3⟩⟩
 match cs,hl with
 | [c0,c1,c2,c3],_ =>
  simp only [List.getElem?_cons_succ,List.getElem?_cons_zero,Option.some.injEq] at e0 e1 e2 e3
  subst e0 e1 e2 e3
  rfl

theorem toGOp_any (f0 : Int) (f1 : Int) (f2 : Int) (f3 : Int) (w : World) :
  Calls Tryz.prog 190 #[.agg #[.int .i64 f0,.int .i64 f1,.int .i64 f2,.int .i64 f3]] w fun e w' => e = .returned (.agg #[.int .i64 f0,.int .i64 f1,.int .i64 f2,.int .i64 f3]) ∧ Ext w w':=by
 go_enter Tryz.func190,Tryz.ntmps190
 go_wp2
 refine bodyPost_ret (v:=.agg #[.int .i64 f0,.int .i64 f1,.int .i64 f2,.int .i64 f3]) (by simp [results,Tryz.results190,go_sem]) rfl ⟨rfl,?_⟩
 repeat (first|exact Ext.refl' _|refine Ext.al ?_ _|refine Ext.sc ?_ (by simp) _)

theorem Tryz.infoGOp : (Tryz.prog.info? 237).map (fun i => (i.zero,i.size,i.bytes)) = some (some (.agg #[.int .i64 0,.int .i64 0,.int .i64 0,.int .i64 0]),4,32):=by kernel_rfl

theorem toGOpS_any (A : Option Addr) (n c : Nat) (l : List GOp) (w : World) (S : Nat → Prop) (hs : Sl w S 4 A n (l.flatMap GOp.cells)) (hm : n ≤ 1048576) :
  Calls Tryz.prog 139 #[.slice A n c] w fun e w' => ∃ B d,e = .returned (.slice B n d) ∧ w'.ownsRow w.heap.size 237 4 (.slice B n d) n (l.flatMap GOp.cells) ∧ Ext w w':=by
 obtain ⟨w1,cs0,hmk,hown,-,hx1,hlt⟩:=made_row (P:=Tryz.prog) w 81 237 _ _ _ Tryz.underlying81 Tryz.infoGOp n (by omega) (by unfold maxLen;omega)
 have HO:=hid hown
 have HX:=hid hx1
 clear hown hx1
 go_enter Tryz.func139,Tryz.ntmps139
 go_wp2
 go_loopw [4] (fun i wr => ∃ (k : Nat) (cs : List Value),k ≤ n ∧ i = .int .i64 k ∧ wr.ownsRow w.heap.size 237 4 (.slice (some ⟨w.heap.size,0,none⟩) n n) n cs ∧ Upto cs (l.flatMap GOp.cells) (k * 4) ∧ Ext w wr) (fun i _ => n - (intOf i).toNat)
 case atStart => exact ⟨0,_,Nat.zero_le _,rfl,HO.out,Upto.zero _ _,HX.out⟩
 case round =>
  obtain ⟨k,cs,hk,rfl,ho,hu,hx⟩:=hrel
  by_cases hlt : k < n
  ·obtain ⟨b,o,s,rfl,hb,hxk,hc⟩:=(hs.ext hx).flat_at GOp.cells_length (by omega) hlt
   obtain ⟨f0,f1,f2,f3⟩:=s
   have c0:=hc 0 (by omega)
   have c1:=hc 1 (by omega)
   have c2:=hc 2 (by omega)
   have c3:=hc 3 (by omega)
   simp only [GOp.cells,List.getElem?_cons_zero,List.getElem?_cons_succ,Nat.add_zero] at c0 c1 c2 c3
   have HX2:=hid hxk
   have HO2:=hid ho
   have HE2:=hid hx
   clear hxk ho hx hc
   go_wp2_with fail
   refine (toGOp_any _ _ _ _ _).mono ?_
   rintro e w2 ⟨rfl,hx2⟩
   have ho2:=own_ext HO2.out hx2
   obtain ⟨g,hA,-,-,hg⟩:=own_flat ho2 hlt
   obtain rfl : w.heap.size = g:=addr_inj hA
   obtain ⟨v0,g0,e0⟩:=hg 0 (by omega)
   obtain ⟨v1,g1,e1⟩:=hg 1 (by omega)
   obtain ⟨v2,g2,e2⟩:=hg 2 (by omega)
   obtain ⟨v3,g3,e3⟩:=hg 3 (by omega)
   rw [Nat.add_zero] at g0 e0
   have HX3:=hid hx2
   have HO3:=hid ho2
   clear hx2 ho2 hg
   go_wp2
   go_roundw
   case rel =>
    have t0:=HO3.out.stored (k * 4) (.int .i64 f0)
    have t1:=t0.1.stored (k * 4 + 1) (.int .i64 f1)
    have t2:=t1.1.stored (k * 4 + 2) (.int .i64 f2)
    have t3:=t2.1.stored (k * 4 + 3) (.int .i64 f3)
    have hl3 : cs.length = n * 4:=HO3.out.1
    have q0:=flat_get GOp.cells_length l k 0 _ HX2.out (by omega)
    have q1:=flat_get GOp.cells_length l k 1 _ HX2.out (by omega)
    have q2:=flat_get GOp.cells_length l k 2 _ HX2.out (by omega)
    have q3:=flat_get GOp.cells_length l k 3 _ HX2.out (by omega)
    refine ⟨k + 1,_,by omega,by go_num,t3.1,?_,?_⟩
    ·rw [show (k + 1) * 4 = k * 4 + 3 + 1 by omega]
     refine Upto.set1 (Upto.set1 (Upto.set1 (Upto.set1 hu (by omega) ?_) (by simp;omega) ?_) (by simp;omega) ?_) (by simp;omega) ?_
     ·exact q0
     ·exact q1
     ·exact q2
     ·exact q3
    ·exact (((((HE2.out.tr HX3.out)).sc (p:=⟨w.heap.size,_,none⟩) (Nat.le_refl _) _).sc (p:=⟨w.heap.size,_,none⟩) (Nat.le_refl _) _).sc (p:=⟨w.heap.size,_,none⟩) (Nat.le_refl _) _).sc (p:=⟨w.heap.size,_,none⟩) (Nat.le_refl _) _
   case measure => simp [intOf];omega
  ·go_wp2
   go_ret
   refine ⟨_,_,rfl,?_,hx⟩
   have : k = n:=by omega
   subst this
   rw [← hu.all ho.1 hs.1]
   exact ho

theorem eqGOp_same (f0 : Int) (f1 : Int) (f2 : Int) (f3 : Int) (w : World) :
  Calls Tryz.prog 210 #[.agg #[.int .i64 f0,.int .i64 f1,.int .i64 f2,.int .i64 f3],.agg #[.int .i64 f0,.int .i64 f1,.int .i64 f2,.int .i64 f3]] w fun e w' => e = .returned (.bool true) ∧ Ext w w':=by
 go_enter Tryz.func210,Tryz.ntmps210
 go_wp2
 go_ret
 refine ⟨rfl,?_⟩
 repeat (first|exact Ext.refl' _|refine Ext.al ?_ _)

theorem eqGOpS_same (A B : Option Addr) (n c d : Nat) (l : List GOp) (w : World) (S T : Nat → Prop) (ha : Sl w S 4 A n (l.flatMap GOp.cells)) (hb : Sl w T 4 B n (l.flatMap GOp.cells)) (hm : n ≤ 9223372036854775807) :
  Calls Tryz.prog 160 #[.slice A n c,.slice B n d] w fun e w' => e = .returned (.bool true) ∧ Ext w w':=by
 go_enter Tryz.func160,Tryz.ntmps160
 go_wp2
 go_loopw [5] (fun i wr => ∃ (k : Nat),k ≤ n ∧ i = .int .i64 k ∧ Ext w wr) (fun i _ => n - (intOf i).toNat)
 case atStart => exact ⟨0,Nat.zero_le _,rfl,Ext.refl' _⟩
 case round =>
  obtain ⟨k,hk,rfl,hx⟩:=hrel
  by_cases hlt : k < n
  ·obtain ⟨b1,o1,s,rfl,hb1,hxk,hc1⟩:=(ha.ext hx).flat_at GOp.cells_length (by omega) hlt
   obtain ⟨b2,o2,s',rfl,hb2,hyk,hc2⟩:=(hb.ext hx).flat_at GOp.cells_length (by omega) hlt
   rw [hxk] at hyk
   injection hyk with hyk
   subst hyk
   obtain ⟨f0,f1,f2,f3⟩:=s
   have c0:=hc1 0 (by omega)
   have c1:=hc1 1 (by omega)
   have c2:=hc1 2 (by omega)
   have c3:=hc1 3 (by omega)
   have d0:=hc2 0 (by omega)
   have d1:=hc2 1 (by omega)
   have d2:=hc2 2 (by omega)
   have d3:=hc2 3 (by omega)
   simp only [GOp.cells,List.getElem?_cons_zero,List.getElem?_cons_succ,Nat.add_zero] at c0 c1 c2 c3 d0 d1 d2 d3
   have HE2:=hid hx
   clear hxk hx hc1 hc2
   go_wp2
   go_region_with (go_at_call 210;refine (eqGOp_same _ _ _ _ _).mono ?_;rintro e w2 ⟨rfl,hx2⟩)
   all_goals
    have HE3:=hid hx2
    clear hx2
    go_wp2
    go_roundw
    case rel => exact ⟨k + 1,by omega,by go_num,HE2.out.tr (Ext.tr (Ext.dr (Ext.refl' _)) HE3.out)⟩
    case measure => simp [intOf];omega
  ·go_wp2
   go_ret
   exact ⟨rfl,hx⟩

theorem szGOpS_any (A : Option Addr) (n c : Nat) (q : Int) (w : World) (hq : 0 ≤ q) (hq2 : q ≤ 1048576) (hn : n ≤ 9223372036854775807) :
  Calls Tryz.prog 123 #[.slice A n c,.int .i64 q] w fun e w' => e = .returned (.int .i64 (if (n : Int) ≤ q then q - n else -1)) ∧ w = w':=by
 by_cases h : (n : Int) ≤ q
 ·go_enter Tryz.func123,Tryz.ntmps123
  go_wp2
  go_ret
  exact ⟨by first|rfl|(simp;done)|simp [h],rfl⟩
 ·go_enter Tryz.func123,Tryz.ntmps123
  go_wp2
  go_ret
  exact ⟨by first|rfl|(simp;done)|simp [h],rfl⟩

/-! ### GAct -/
structure GAct where
 kind_ : Int
 root_ : Int
 kid_ : Int
deriving Inhabited,DecidableEq
def GAct.cells (s : GAct) : List Value:=[.int .i64 s.kind_,.int .i64 s.root_,.int .i64 s.kid_]
theorem GAct.cells_length (s : GAct) : s.cells.length = 3:=rfl
def GAct.good (s : GAct) : Prop:=(Lit.int .i64 s.kind_).wf = true ∧ (Lit.int .i64 s.root_).wf = true ∧ (Lit.int .i64 s.kid_).wf = true
theorem opens_GAct : Opens Tryz.prog 163 (fun _ cs (s : GAct) => cs = s.cells ∧ s.good):=by
 intro H enc w base spare held fuel cs x h
 obtain ⟨hl,m,hf⟩:=trod_fields Tryz.underlying163 (by kernel_rfl) (by kernel_rfl) h
 obtain ⟨v0,y0,e0,t0⟩:=hf 0 _ rfl
 obtain ⟨f0,h0,-,g0⟩:=DataW.trod_int Tryz.underlying3 t0
 injection h0 with h0 _;subst h0
 obtain ⟨v1,y1,e1,t1⟩:=hf 1 _ rfl
 obtain ⟨f1,h1,-,g1⟩:=DataW.trod_int Tryz.underlying3 t1
 injection h1 with h1 _;subst h1
 obtain ⟨v2,y2,e2,t2⟩:=hf 2 _ rfl
 obtain ⟨f2,h2,-,g2⟩:=DataW.trod_int Tryz.underlying3 t2
 injection h2 with h2 _;subst h2
 refine ⟨⟨f0,f1,f2⟩,?_,⟨g0,g1,g2⟩⟩
 match cs,hl with
 | [c0,c1,c2],_ =>
  simp only [List.getElem?_cons_succ,List.getElem?_cons_zero,Option.some.injEq] at e0 e1 e2
  subst e0 e1 e2
  rfl

theorem toGAct_any (f0 : Int) (f1 : Int) (f2 : Int) (w : World) :
  Calls Tryz.prog 86 #[.agg #[.int .i64 f0,.int .i64 f1,.int .i64 f2]] w fun e w' => e = .returned (.agg #[.int .i64 f0,.int .i64 f1,.int .i64 f2]) ∧ Ext w w':=by
 go_enter Tryz.func86,Tryz.ntmps86
 go_wp2
 refine bodyPost_ret (v:=.agg #[.int .i64 f0,.int .i64 f1,.int .i64 f2]) (by simp [results,Tryz.results86,go_sem]) rfl ⟨rfl,?_⟩
 repeat (first|exact Ext.refl' _|refine Ext.al ?_ _|refine Ext.sc ?_ (by simp) _)

theorem Tryz.infoGAct : (Tryz.prog.info? 161).map (fun i => (i.zero,i.size,i.bytes)) = some (some (.agg #[.int .i64 0,.int .i64 0,.int .i64 0]),3,24):=by kernel_rfl

theorem toGActS_any (A : Option Addr) (n c : Nat) (l : List GAct) (w : World) (S : Nat → Prop) (hs : Sl w S 3 A n (l.flatMap GAct.cells)) (hm : n ≤ 1048576) :
  Calls Tryz.prog 36 #[.slice A n c] w fun e w' => ∃ B d,e = .returned (.slice B n d) ∧ w'.ownsRow w.heap.size 161 3 (.slice B n d) n (l.flatMap GAct.cells) ∧ Ext w w':=by
 obtain ⟨w1,cs0,hmk,hown,-,hx1,hlt⟩:=made_row (P:=Tryz.prog) w 46 161 _ _ _ Tryz.underlying46 Tryz.infoGAct n (by omega) (by unfold maxLen;omega)
 have HO:=hid hown
 have HX:=hid hx1
 clear hown hx1
 go_enter Tryz.func36,Tryz.ntmps36
 go_wp2
 go_loopw [4] (fun i wr => ∃ (k : Nat) (cs : List Value),k ≤ n ∧ i = .int .i64 k ∧ wr.ownsRow w.heap.size 161 3 (.slice (some ⟨w.heap.size,0,none⟩) n n) n cs ∧ Upto cs (l.flatMap GAct.cells) (k * 3) ∧ Ext w wr) (fun i _ => n - (intOf i).toNat)
 case atStart => exact ⟨0,_,Nat.zero_le _,rfl,HO.out,Upto.zero _ _,HX.out⟩
 case round =>
  obtain ⟨k,cs,hk,rfl,ho,hu,hx⟩:=hrel
  by_cases hlt : k < n
  ·obtain ⟨b,o,s,rfl,hb,hxk,hc⟩:=(hs.ext hx).flat_at GAct.cells_length (by omega) hlt
   obtain ⟨f0,f1,f2⟩:=s
   have c0:=hc 0 (by omega)
   have c1:=hc 1 (by omega)
   have c2:=hc 2 (by omega)
   simp only [GAct.cells,List.getElem?_cons_zero,List.getElem?_cons_succ,Nat.add_zero] at c0 c1 c2
   have HX2:=hid hxk
   have HO2:=hid ho
   have HE2:=hid hx
   clear hxk ho hx hc
   go_wp2_with fail
   refine (toGAct_any _ _ _ _).mono ?_
   rintro e w2 ⟨rfl,hx2⟩
   have ho2:=own_ext HO2.out hx2
   obtain ⟨g,hA,-,-,hg⟩:=own_flat ho2 hlt
   obtain rfl : w.heap.size = g:=addr_inj hA
   obtain ⟨v0,g0,e0⟩:=hg 0 (by omega)
   obtain ⟨v1,g1,e1⟩:=hg 1 (by omega)
   obtain ⟨v2,g2,e2⟩:=hg 2 (by omega)
   rw [Nat.add_zero] at g0 e0
   have HX3:=hid hx2
   have HO3:=hid ho2
   clear hx2 ho2 hg
   go_wp2
   go_roundw
   case rel =>
    have t0:=HO3.out.stored (k * 3) (.int .i64 f0)
    have t1:=t0.1.stored (k * 3 + 1) (.int .i64 f1)
    have t2:=t1.1.stored (k * 3 + 2) (.int .i64 f2)
    have hl3 : cs.length = n * 3:=HO3.out.1
    have q0:=flat_get GAct.cells_length l k 0 _ HX2.out (by omega)
    have q1:=flat_get GAct.cells_length l k 1 _ HX2.out (by omega)
    have q2:=flat_get GAct.cells_length l k 2 _ HX2.out (by omega)
    refine ⟨k + 1,_,by omega,by go_num,t2.1,?_,?_⟩
    ·rw [show (k + 1) * 3 = k * 3 + 2 + 1 by omega]
     refine Upto.set1 (Upto.set1 (Upto.set1 hu (by omega) ?_) (by simp;omega) ?_) (by simp;omega) ?_
     ·exact q0
     ·exact q1
     ·exact q2
    ·exact ((((HE2.out.tr HX3.out)).sc (p:=⟨w.heap.size,_,none⟩) (Nat.le_refl _) _).sc (p:=⟨w.heap.size,_,none⟩) (Nat.le_refl _) _).sc (p:=⟨w.heap.size,_,none⟩) (Nat.le_refl _) _
   case measure => simp [intOf];omega
  ·go_wp2
   go_ret
   refine ⟨_,_,rfl,?_,hx⟩
   have : k = n:=by omega
   subst this
   rw [← hu.all ho.1 hs.1]
   exact ho

theorem eqGAct_same (f0 : Int) (f1 : Int) (f2 : Int) (w : World) :
  Calls Tryz.prog 102 #[.agg #[.int .i64 f0,.int .i64 f1,.int .i64 f2],.agg #[.int .i64 f0,.int .i64 f1,.int .i64 f2]] w fun e w' => e = .returned (.bool true) ∧ Ext w w':=by
 go_enter Tryz.func102,Tryz.ntmps102
 go_wp2
 go_ret
 refine ⟨rfl,?_⟩
 repeat (first|exact Ext.refl' _|refine Ext.al ?_ _)

theorem eqGActS_same (A B : Option Addr) (n c d : Nat) (l : List GAct) (w : World) (S T : Nat → Prop) (ha : Sl w S 3 A n (l.flatMap GAct.cells)) (hb : Sl w T 3 B n (l.flatMap GAct.cells)) (hm : n ≤ 9223372036854775807) :
  Calls Tryz.prog 48 #[.slice A n c,.slice B n d] w fun e w' => e = .returned (.bool true) ∧ Ext w w':=by
 go_enter Tryz.func48,Tryz.ntmps48
 go_wp2
 go_loopw [5] (fun i wr => ∃ (k : Nat),k ≤ n ∧ i = .int .i64 k ∧ Ext w wr) (fun i _ => n - (intOf i).toNat)
 case atStart => exact ⟨0,Nat.zero_le _,rfl,Ext.refl' _⟩
 case round =>
  obtain ⟨k,hk,rfl,hx⟩:=hrel
  by_cases hlt : k < n
  ·obtain ⟨b1,o1,s,rfl,hb1,hxk,hc1⟩:=(ha.ext hx).flat_at GAct.cells_length (by omega) hlt
   obtain ⟨b2,o2,s',rfl,hb2,hyk,hc2⟩:=(hb.ext hx).flat_at GAct.cells_length (by omega) hlt
   rw [hxk] at hyk
   injection hyk with hyk
   subst hyk
   obtain ⟨f0,f1,f2⟩:=s
   have c0:=hc1 0 (by omega)
   have c1:=hc1 1 (by omega)
   have c2:=hc1 2 (by omega)
   have d0:=hc2 0 (by omega)
   have d1:=hc2 1 (by omega)
   have d2:=hc2 2 (by omega)
   simp only [GAct.cells,List.getElem?_cons_zero,List.getElem?_cons_succ,Nat.add_zero] at c0 c1 c2 d0 d1 d2
   have HE2:=hid hx
   clear hxk hx hc1 hc2
   go_wp2
   go_region_with (go_at_call 102;refine (eqGAct_same _ _ _ _).mono ?_;rintro e w2 ⟨rfl,hx2⟩)
   all_goals
    have HE3:=hid hx2
    clear hx2
    go_wp2
    go_roundw
    case rel => exact ⟨k + 1,by omega,by go_num,HE2.out.tr (Ext.tr (Ext.dr (Ext.refl' _)) HE3.out)⟩
    case measure => simp [intOf];omega
  ·go_wp2
   go_ret
   exact ⟨rfl,hx⟩

theorem szGActS_any (A : Option Addr) (n c : Nat) (q : Int) (w : World) (hq : 0 ≤ q) (hq2 : q ≤ 1048576) (hn : n ≤ 9223372036854775807) :
  Calls Tryz.prog 25 #[.slice A n c,.int .i64 q] w fun e w' => e = .returned (.int .i64 (if (n : Int) ≤ q then q - n else -1)) ∧ w = w':=by
 by_cases h : (n : Int) ≤ q
 ·go_enter Tryz.func25,Tryz.ntmps25
  go_wp2
  go_ret
  exact ⟨by first|rfl|(simp;done)|simp [h],rfl⟩
 ·go_enter Tryz.func25,Tryz.ntmps25
  go_wp2
  go_ret
  exact ⟨by first|rfl|(simp;done)|simp [h],rfl⟩

/-! ### Things -/
structure Things where
 cells_ : List Int
 map_ : List Int
 count_ : Int
deriving Inhabited
def Things.wt (x : Things) : Nat:=x.cells_.length + x.map_.length
def Things.R (w : World) (S : Nat → Prop) (cs : List Value) (x : Things) : Prop:=∃ (A0 : Option Addr) (n0 c0 : Nat) (A1 : Option Addr) (n1 c1 : Nat),cs = [.slice A0 n0 c0,.slice A1 n1 c1,.int .i64 x.count_] ∧ (n0 ≤ c0 ∧ n0 ≤ 9223372036854775807 ∧ Sl w S 1 A0 n0 (ints x.cells_)) ∧ (n1 ≤ c1 ∧ n1 ≤ 9223372036854775807 ∧ Sl w S 1 A1 n1 (ints x.map_))
def Things.W (w : World) (S : Nat → Prop) (cs : List Value) (x : Things) : Prop:=∃ (A0 : Option Addr) (n0 c0 : Nat) (A1 : Option Addr) (n1 c1 : Nat) (lab : Nat → Nat),cs = [.slice A0 n0 c0,.slice A1 n1 c1,.int .i64 x.count_] ∧ (n0 ≤ c0 ∧ n0 ≤ 9223372036854775807 ∧ OwS w (fun g => S g ∧ lab g = 0) 3 1 A0 n0 c0 (ints x.cells_)) ∧ (n1 ≤ c1 ∧ n1 ≤ 9223372036854775807 ∧ OwS w (fun g => S g ∧ lab g = 1) 3 1 A1 n1 c1 (ints x.map_))
theorem Things.R_good : Good Things.R 3:=⟨fun {_ _ _ _} h => by
  obtain ⟨A0,n0,c0,A1,n1,c1,rfl,⟨kh0,mh0,h0⟩,⟨kh1,mh1,h1⟩⟩:=h
  rfl,
 fun {_ _ _ _ _ _} h k hd => by
  obtain ⟨A0,n0,c0,A1,n1,c1,rfl,⟨kh0,mh0,h0⟩,⟨kh1,mh1,h1⟩⟩:=h
  exact ⟨_,_,_,_,_,_,rfl,⟨kh0,mh0,h0.chg k hd⟩,⟨kh1,mh1,h1.chg k hd⟩⟩,
 fun {_ _ _ _ _} h hs => by
  obtain ⟨A0,n0,c0,A1,n1,c1,rfl,⟨kh0,mh0,h0⟩,⟨kh1,mh1,h1⟩⟩:=h
  exact ⟨_,_,_,_,_,_,rfl,⟨kh0,mh0,h0.mono hs⟩,⟨kh1,mh1,h1.mono hs⟩⟩⟩
theorem Things.W_good : Good Things.W 3:=⟨fun {_ _ _ _} h => by
  obtain ⟨A0,n0,c0,A1,n1,c1,lab,rfl,⟨kh0,mh0,h0⟩,⟨kh1,mh1,h1⟩⟩:=h
  rfl,
 fun {_ _ _ _ _ _} h k hd => by
  obtain ⟨A0,n0,c0,A1,n1,c1,lab,rfl,⟨kh0,mh0,h0⟩,⟨kh1,mh1,h1⟩⟩:=h
  exact ⟨_,_,_,_,_,_,lab,rfl,⟨kh0,mh0,h0.chg k fun i hi => hd i hi.1⟩,⟨kh1,mh1,h1.chg k fun i hi => hd i hi.1⟩⟩,
 fun {_ _ _ _ _} h hs => by
  obtain ⟨A0,n0,c0,A1,n1,c1,lab,rfl,⟨kh0,mh0,h0⟩,⟨kh1,mh1,h1⟩⟩:=h
  exact ⟨_,_,_,_,_,_,lab,rfl,⟨kh0,mh0,h0.mono fun i _ hi => ⟨hs i hi.1,hi.2⟩⟩,⟨kh1,mh1,h1.mono fun i _ hi => ⟨hs i hi.1,hi.2⟩⟩⟩⟩
theorem Things.W_R {w : World} {S : Nat → Prop} {cs : List Value} {x : Things} (h : Things.W w S cs x) : Things.R w S cs x:=by
 obtain ⟨A0,n0,c0,A1,n1,c1,lab,rfl,⟨kh0,mh0,h0⟩,⟨kh1,mh1,h1⟩⟩:=h
 exact ⟨_,_,_,_,_,_,rfl,⟨kh0,mh0,h0.sl.mono fun i hi => hi.1⟩,⟨kh1,mh1,h1.sl.mono fun i hi => hi.1⟩⟩
theorem Things.R_cells {w : World} {S : Nat → Prop} {cs : List Value} {x : Things} (h : Things.R w S cs x) : ∃ (A0 : Option Addr) (n0 c0 : Nat) (A1 : Option Addr) (n1 c1 : Nat),cs = [.slice A0 n0 c0,.slice A1 n1 c1,.int .i64 x.count_]:=by
 obtain ⟨A0,n0,c0,A1,n1,c1,rfl,⟨kh0,mh0,h0⟩,⟨kh1,mh1,h1⟩⟩:=h
 exact ⟨A0,n0,c0,A1,n1,c1,rfl⟩
theorem Things.W_cells {w : World} {S : Nat → Prop} {cs : List Value} {x : Things} (h : Things.W w S cs x) : ∃ (A0 : Option Addr) (n0 c0 : Nat) (A1 : Option Addr) (n1 c1 : Nat),cs = [.slice A0 n0 c0,.slice A1 n1 c1,.int .i64 x.count_]:=by
 obtain ⟨A0,n0,c0,A1,n1,c1,lab,rfl,⟨kh0,mh0,h0⟩,⟨kh1,mh1,h1⟩⟩:=h
 exact ⟨A0,n0,c0,A1,n1,c1,rfl⟩
set_option maxRecDepth 8000 in
theorem opens_Things : Opens Tryz.prog 24 (fun w cs (x : Things) => Things.R w (fun _ => True) cs x):=by
 intro H enc w base spare held fuel cs x h
 obtain ⟨xs,n,_,_,hlen,hxl,hf⟩:=DataW.trod_struct Tryz.underlying24 h
 rw [show Tryz.prog.cellsOf 24 = 3 from by kernel_rfl] at hlen
 have hxl' : xs.length = 3:=hxl
 have h0 : DataW.trod enc Tryz.prog w base spare held n 22 ((cs.drop 0).take (Tryz.prog.cellsOf 22)) = xs[0]?:=hf 0 _ rfl
 rw [show Tryz.prog.cellsOf 22 = 1 from by kernel_rfl,List.getElem?_eq_getElem (show 0 < xs.length by omega)] at h0
 obtain ⟨f0,A0,n0,c0,e0,g0,g0',-,-,s0⟩:=opens_ints Tryz.underlying22 Tryz.underlying3 (by kernel_rfl) H enc w base spare held n _ _ h0
 have h1 : DataW.trod enc Tryz.prog w base spare held n 22 ((cs.drop 1).take (Tryz.prog.cellsOf 22)) = xs[1]?:=hf 1 _ rfl
 rw [show Tryz.prog.cellsOf 22 = 1 from by kernel_rfl,List.getElem?_eq_getElem (show 1 < xs.length by omega)] at h1
 obtain ⟨f1,A1,n1,c1,e1,g1,g1',-,-,s1⟩:=opens_ints Tryz.underlying22 Tryz.underlying3 (by kernel_rfl) H enc w base spare held n _ _ h1
 have h2 : DataW.trod enc Tryz.prog w base spare held n 3 ((cs.drop 2).take (Tryz.prog.cellsOf 3)) = xs[2]?:=hf 2 _ rfl
 rw [show Tryz.prog.cellsOf 3 = 1 from by kernel_rfl,List.getElem?_eq_getElem (show 2 < xs.length by omega)] at h2
 obtain ⟨f2,e2,-,-⟩:=DataW.trod_int Tryz.underlying3 h2
 clear h0 h1 h2 hf h hxl hxl'
 match cs,hlen with
 | [q0,q1,q2],_ =>
  simp only [List.drop_succ_cons,List.drop_zero,List.take_succ_cons,List.take_zero,List.cons.injEq,and_true] at e0 e1 e2
  subst e0
  subst e1
  subst e2
  exact ⟨⟨f0,f1,f2⟩,_,_,_,_,_,_,rfl,⟨g0,Nat.le_trans g0 g0',s0⟩,⟨g1,Nat.le_trans g1 g1',s1⟩⟩
set_option maxRecDepth 8000 in
theorem szThings_any (x : Things) (cs : List Value) (q : Int) (w : World) (S : Nat → Prop) (h : Things.R w S cs x) (hq0 : 0 ≤ q) (hq2 : q ≤ 1048576) :
  Calls Tryz.prog 23 #[.agg cs.toArray,.int .i64 q] w fun e w' => ∃ r : Int,e = .returned (.int .i64 r) ∧ Left r q (Things.wt x) ∧ Ext w w':=by
 obtain ⟨A0,n0,c0,A1,n1,c1,rfl,⟨kh0,mh0,h0⟩,⟨kh1,mh1,h1⟩⟩:=h
 have H0:=hid h0
 have H1:=hid h1
 clear h0 h1
 show Calls Tryz.prog _ #[.agg #[.slice A0 n0 c0,.slice A1 n1 c1,.int .i64 x.count_],.int .i64 q] w _
 go_enter Tryz.func23,Tryz.ntmps23
 go_wp2_with fail
 have L0:=hid (H0.out.len)
 refine (szIntS_any _ _ _ (q) _ hq0 hq2 mh0).mono ?_
 rintro e w1 ⟨rfl,xq⟩
 have x1:=Ext.of_eq xq
 clear xq
 have Q0 : Hid (Left (if (n0 : Int) ≤ q then q - n0 else -1) q (x.cells_.length)):=by show Left _ _ _;rw [L0.out];exact Left.of_if
 generalize (if (n0 : Int) ≤ q then q - n0 else -1) = r0 at Q0
 have X1 : Ext w w1:=Ext.tr (((Ext.refl' w).al _)) x1
 have b1 : Hid (Bx w1 w.heap.size 24 #[.slice A0 n0 c0,.slice A1 n1 c1,.int .i64 x.count_]):=Bx.ext (Bx.new' _ _ _ rfl) x1
 clear x1
 have R0 : Hid (Left r0 q (x.cells_.length)):=Q0
 by_cases g0 : 0 ≤ r0
 rotate_left
 ·have e0 : r0 = -1:=by have a:=R0.out;unfold Left at a;omega
  subst e0
  clear g0
  go_wp2
  go_ret
  exact ⟨-1,rfl,by have a:=R0.out;unfold Left Things.wt at *;omega,X1⟩
 have u0 : r0 ≤ 1048576:=by have a:=R0.out;unfold Left at a;omega
 have ca1_1 : w1.cell? ⟨w.heap.size,1,none⟩ = some (.slice A1 n1 c1):=b1.out.cell 1
 go_wp2_with fail
 have L1:=hid (H1.out.len)
 refine (szIntS_any _ _ _ (r0) _ g0 u0 mh1).mono ?_
 rintro e w2 ⟨rfl,xq⟩
 have x2:=Ext.of_eq xq
 clear xq
 have Q1 : Hid (Left (if (n1 : Int) ≤ r0 then r0 - n1 else -1) r0 (x.map_.length)):=by show Left _ _ _;rw [L1.out];exact Left.of_if
 generalize (if (n1 : Int) ≤ r0 then r0 - n1 else -1) = r1 at Q1
 have X2 : Ext w w2:=Ext.tr (X1) x2
 have b2 : Hid (Bx w2 w.heap.size 24 #[.slice A0 n0 c0,.slice A1 n1 c1,.int .i64 x.count_]):=Bx.ext (b1.out) x2
 clear x2
 have R1 : Hid (Left r1 q (x.cells_.length + x.map_.length)):=by show Left _ _ _;have a:=R0.out;have b:=Q1.out;unfold Left at *;omega
 by_cases g1 : 0 ≤ r1
 rotate_left
 ·have e1 : r1 = -1:=by have a:=R1.out;unfold Left at a;omega
  subst e1
  clear g1
  go_wp2
  go_ret
  exact ⟨-1,rfl,by have a:=R1.out;unfold Left Things.wt at *;omega,X2⟩
 have u1 : r1 ≤ 1048576:=by have a:=R1.out;unfold Left at a;omega
 go_wp2
 go_ret
 exact ⟨r1,rfl,R1.out,X2⟩
set_option maxRecDepth 8000 in
theorem toThings_any (x : Things) (cs : List Value) (w : World) (S : Nat → Prop) (h : Things.R w S cs x) (hw : Things.wt x ≤ 1048576) :
  Calls Tryz.prog 34 #[.agg cs.toArray] w fun e w' => ∃ cs',e = .returned (.agg cs'.toArray) ∧ Things.W w' (fun g => w.heap.size ≤ g ∧ g < w'.heap.size) cs' x ∧ Ext w w':=by
 obtain ⟨A0,n0,c0,A1,n1,c1,rfl,⟨kh0,mh0,h0⟩,⟨kh1,mh1,h1⟩⟩:=h
 unfold Things.wt at hw
 have l0:=h0.len
 have n_0 : n0 ≤ 1048576:=by omega
 have l1:=h1.len
 have n_1 : n1 ≤ 1048576:=by omega
 have H0:=hid h0
 have H1:=hid h1
 clear h0 h1 hw l0 l1
 show Calls Tryz.prog _ #[.agg #[.slice A0 n0 c0,.slice A1 n1 c1,.int .i64 x.count_]] w _
 go_enter Tryz.func34,Tryz.ntmps34
 go_wp2_with fail
 refine (toIntS_any _ _ _ _ _ S (H0.out.ext ((((Ext.refl' w).al _).al _).al _)) n_0).mono ?_
 rintro e w1 ⟨B0,d0,rfl,o0,x1⟩
 have K0 : Hid (n0 ≤ d0):=own_cap o0
 replace o0:=hid (OwS.of_own o0)
 have z1 : w.heap.size + 3 ≤ w1.heap.size:=by have h:=x1.size;(try simp at h);omega
 have ba1 : Hid (Bx w1 (w.heap.size) 24 #[.slice A0 n0 c0,.slice A1 n1 c1,.int .i64 x.count_]):=Bx.ext (((Bx.new' _ _ _ rfl).al _).al _) x1
 have br1 : Hid (Bx w1 (w.heap.size + 1) 42 #[.slice none 0 0,.slice none 0 0,.int .i64 0]):=Bx.ext ((Bx.new' _ _ _ (by simp)).al _) x1
 have bo1 : Hid (Bx w1 (w.heap.size + 2) 42 #[.slice none 0 0,.slice none 0 0,.int .i64 0]):=Bx.ext (Bx.new' _ _ _ (by simp)) x1
 have X1 : Ext w w1:=Ext.tr ((((Ext.refl' w).al _).al _).al _) x1
 replace o0 : Hid (OwS w1 (fun g => w.heap.size + 3 ≤ g ∧ g < w1.heap.size) 3 1 B0 n0 d0 (ints x.cells_)):=o0.out.mono (fun g _ hg => by have h1:=hg.1;have h2:=hg.2;constructor <;> (try simp at h1) <;> omega)
 clear x1
 have ca1_1 : w1.cell? ⟨w.heap.size,1,none⟩ = some (.slice A1 n1 c1):=ba1.out.cell 1
 have co1_0 : w1.cell? ⟨w.heap.size + 2,0,none⟩ = some (.slice none 0 0):=bo1.out.cell 0
 have fo1_0 : w1.frozen? ⟨w.heap.size + 2,0,none⟩ = false:=bo1.out.frozen 0
 go_wp2_with fail
 refine (toIntS_any _ _ _ _ _ S (H1.out.ext ((X1).sc2 _)) n_1).mono ?_
 rintro e w2 ⟨B1,d1,rfl,o1,x2⟩
 have K1 : Hid (n1 ≤ d1):=own_cap o1
 replace o1:=hid (OwS.of_own o1)
 have z2 : w.heap.size + 3 ≤ w2.heap.size:=by have h:=x2.size;(try simp at h);omega
 have y2 : w1.heap.size ≤ w2.heap.size:=by have h:=x2.size;(try simp at h);exact h
 have ba2 : Hid (Bx w2 (w.heap.size) 24 #[.slice A0 n0 c0,.slice A1 n1 c1,.int .i64 x.count_]):=Bx.ext ((ba1.out).far2 _) x2
 have br2 : Hid (Bx w2 (w.heap.size + 1) 42 #[.slice none 0 0,.slice none 0 0,.int .i64 0]):=Bx.ext ((br1.out).far2 _) x2
 have bo2 : Hid (Bx w2 (w.heap.size + 2) 42 #[.slice B0 n0 d0,.slice none 0 0,.int .i64 0]):=Bx.ext (((bo1.out).set_ _ _).cast (by first|rfl|simp only [List.setIfInBounds_toArray,List.set_cons_succ,List.set_cons_zero])) x2
 have X2 : Ext w w2:=Ext.tr ((X1).sc2 _) x2
 replace o0:=hid (o0.out.chg (Chg.trans ((Chg.refl (fun g => g = w.heap.size + 2) _).sc rfl _) (x2.chg _)) (fun g hg q => by have h1:=hg.1;have hq3 : g = w.heap.size + 2:=q;omega))
 replace o1 : Hid (OwS w2 (fun g => w1.heap.size ≤ g ∧ g < w2.heap.size) 3 1 B1 n1 d1 (ints x.map_)):=o1.out.mono (fun g _ hg => by have h1:=hg.1;have h2:=hg.2;constructor <;> (try simp at h1) <;> omega)
 clear x2
 have ca2_2 : w2.cell? ⟨w.heap.size,2,none⟩ = some (.int .i64 x.count_):=ba2.out.cell 2
 have co2_0 : w2.cell? ⟨w.heap.size + 2,0,none⟩ = some (.slice B0 n0 d0):=bo2.out.cell 0
 have co2_1 : w2.cell? ⟨w.heap.size + 2,1,none⟩ = some (.slice none 0 0):=bo2.out.cell 1
 have co2_2 : w2.cell? ⟨w.heap.size + 2,2,none⟩ = some (.int .i64 0):=bo2.out.cell 2
 have fo2_1 : w2.frozen? ⟨w.heap.size + 2,1,none⟩ = false:=bo2.out.frozen 1
 have fo2_2 : w2.frozen? ⟨w.heap.size + 2,2,none⟩ = false:=bo2.out.frozen 2
 have cr2_0 : w2.cell? ⟨w.heap.size + 1,0,none⟩ = some (.slice none 0 0):=br2.out.cell 0
 have fr2_0 : w2.frozen? ⟨w.heap.size + 1,0,none⟩ = false:=br2.out.frozen 0
 have cr2_1 : w2.cell? ⟨w.heap.size + 1,1,none⟩ = some (.slice none 0 0):=br2.out.cell 1
 have fr2_1 : w2.frozen? ⟨w.heap.size + 1,1,none⟩ = false:=br2.out.frozen 1
 have cr2_2 : w2.cell? ⟨w.heap.size + 1,2,none⟩ = some (.int .i64 0):=br2.out.cell 2
 have fr2_2 : w2.frozen? ⟨w.heap.size + 1,2,none⟩ = false:=br2.out.frozen 2
 go_wp2
 refine bodyPost_ret (v:=.agg #[.slice B0 n0 d0,.slice B1 n1 d1,.int .i64 x.count_]) (by simp [results,Tryz.results34,go_sem,cr2_0,cr2_1,cr2_2]) rfl ⟨[.slice B0 n0 d0,.slice B1 n1 d1,.int .i64 x.count_],rfl,?_,?_⟩
 ·refine (?_ : ∀ wz,Chg (fun g => g = w.heap.size + 2 ∨ g = w.heap.size + 1) w2 wz → Things.W wz (fun g => w.heap.size ≤ g ∧ g < wz.heap.size) [.slice B0 n0 d0,.slice B1 n1 d1,.int .i64 x.count_] x) _ ((((((Chg.refl (fun g => g = w.heap.size + 2 ∨ g = w.heap.size + 1) _).sc2 _).sc2 _).sc2 _).sc2 _).sc2 _)
  intro wz cc
  have zz:=cc.size
  exact ⟨B0,n0,d0,B1,n1,d1,lb [w1.heap.size,w2.heap.size],rfl,⟨K0.out,mh0,(o0.out.chg cc (fun g hg q => by have h1:=hg.1;have hq3 : g = w.heap.size + 2 ∨ g = w.heap.size + 1:=q;omega)).mono (fun g _ hg => ⟨⟨by have h1:=hg.1;omega,by have h2:=hg.2;omega⟩,by have h1:=hg.1;have h2:=hg.2;exact lb_here (by omega)⟩)⟩,⟨K1.out,mh1,(o1.out.chg cc (fun g hg q => by have h1:=hg.1;have hq3 : g = w.heap.size + 2 ∨ g = w.heap.size + 1:=q;omega)).mono (fun g _ hg => ⟨⟨by have h1:=hg.1;omega,by have h2:=hg.2;omega⟩,by have h1:=hg.1;have h2:=hg.2;exact lb_next (by omega) (lb_here (by omega))⟩)⟩⟩
 ·exact (((((X2).sc2 _).sc2 _).sc2 _).sc2 _).sc2 _
set_option maxRecDepth 8000 in
theorem eqThings_same (x : Things) (cs cs' : List Value) (w : World) (S S' : Nat → Prop) (h : Things.R w S cs x) (u : Things.R w S' cs' x) :
  Calls Tryz.prog 12 #[.agg cs.toArray,.agg cs'.toArray] w fun e w' => e = .returned (.bool true) ∧ Ext w w':=by
 obtain ⟨A0,n0,c0,A1,n1,c1,rfl,⟨kh0,mh0,h0⟩,⟨kh1,mh1,h1⟩⟩:=h
 obtain ⟨B0,p0,d0,B1,p1,d1,rfl,⟨ku0,mu0,u0⟩,⟨ku1,mu1,u1⟩⟩:=u
 obtain rfl : n0 = p0:=by have a:=h0.len;have b:=u0.len;omega
 obtain rfl : n1 = p1:=by have a:=h1.len;have b:=u1.len;omega
 have H0:=hid h0
 have U0:=hid u0
 have H1:=hid h1
 have U1:=hid u1
 clear h0 u0 h1 u1
 show Calls Tryz.prog _ #[.agg #[.slice A0 n0 c0,.slice A1 n1 c1,.int .i64 x.count_],.agg #[.slice B0 n0 d0,.slice B1 n1 d1,.int .i64 x.count_]] w _
 go_enter Tryz.func12,Tryz.ntmps12
 go_wp2_with fail
 refine (eqIntS_same _ _ _ _ _ _ _ S S' (H0.out.ext (((Ext.refl' w).al _).al _)) (U0.out.ext (((Ext.refl' w).al _).al _)) mh0).mono ?_
 rintro e w1 ⟨rfl,x1⟩
 have z1 : w.heap.size + 2 ≤ w1.heap.size:=by have h:=x1.size;(try simp at h);omega
 have ba1 : Hid (Bx w1 (w.heap.size) 42 #[.slice A0 n0 c0,.slice A1 n1 c1,.int .i64 x.count_]):=Bx.ext ((Bx.new' _ _ _ rfl).al _) x1
 have bb1 : Hid (Bx w1 (w.heap.size + 1) 42 #[.slice B0 n0 d0,.slice B1 n1 d1,.int .i64 x.count_]):=Bx.ext (Bx.new' _ _ _ (by simp)) x1
 have X1 : Ext w w1:=Ext.tr (((Ext.refl' w).al _).al _) x1
 clear x1
 have ca1_1 : w1.cell? ⟨w.heap.size,1,none⟩ = some (.slice A1 n1 c1):=ba1.out.cell 1
 have cb1_1 : w1.cell? ⟨w.heap.size + 1,1,none⟩ = some (.slice B1 n1 d1):=bb1.out.cell 1
 go_wp2_with fail
 refine (eqIntS_same _ _ _ _ _ _ _ S S' (H1.out.ext (X1)) (U1.out.ext (X1)) mh1).mono ?_
 rintro e w2 ⟨rfl,x2⟩
 have z2 : w.heap.size + 2 ≤ w2.heap.size:=by have h:=x2.size;(try simp at h);omega
 have ba2 : Hid (Bx w2 (w.heap.size) 42 #[.slice A0 n0 c0,.slice A1 n1 c1,.int .i64 x.count_]):=Bx.ext (ba1.out) x2
 have bb2 : Hid (Bx w2 (w.heap.size + 1) 42 #[.slice B0 n0 d0,.slice B1 n1 d1,.int .i64 x.count_]):=Bx.ext (bb1.out) x2
 have X2 : Ext w w2:=Ext.tr (X1) x2
 clear x2
 have ca2_2 : w2.cell? ⟨w.heap.size,2,none⟩ = some (.int .i64 x.count_):=ba2.out.cell 2
 have cb2_2 : w2.cell? ⟨w.heap.size + 1,2,none⟩ = some (.int .i64 x.count_):=bb2.out.cell 2
 go_wp2
 go_ret
 exact ⟨rfl,X2⟩
/-! ### Kid -/
structure Kid where
 code_ : List GOp
deriving Inhabited
def Kid.wt (x : Kid) : Nat:=x.code_.length
def Kid.R (w : World) (S : Nat → Prop) (cs : List Value) (x : Kid) : Prop:=∃ (A0 : Option Addr) (n0 c0 : Nat),cs = [.slice A0 n0 c0] ∧ (n0 ≤ c0 ∧ n0 ≤ 9223372036854775807 ∧ Sl w S 4 A0 n0 (x.code_.flatMap GOp.cells))
def Kid.W (w : World) (S : Nat → Prop) (cs : List Value) (x : Kid) : Prop:=∃ (A0 : Option Addr) (n0 c0 : Nat) (lab : Nat → Nat),cs = [.slice A0 n0 c0] ∧ (n0 ≤ c0 ∧ n0 ≤ 9223372036854775807 ∧ OwS w (fun g => S g ∧ lab g = 0) 237 4 A0 n0 c0 (x.code_.flatMap GOp.cells))
theorem Kid.R_good : Good Kid.R 1:=⟨fun {_ _ _ _} h => by
  obtain ⟨A0,n0,c0,rfl,⟨kh0,mh0,h0⟩⟩:=h
  rfl,
 fun {_ _ _ _ _ _} h k hd => by
  obtain ⟨A0,n0,c0,rfl,⟨kh0,mh0,h0⟩⟩:=h
  exact ⟨_,_,_,rfl,⟨kh0,mh0,h0.chg k hd⟩⟩,
 fun {_ _ _ _ _} h hs => by
  obtain ⟨A0,n0,c0,rfl,⟨kh0,mh0,h0⟩⟩:=h
  exact ⟨_,_,_,rfl,⟨kh0,mh0,h0.mono hs⟩⟩⟩
theorem Kid.W_good : Good Kid.W 1:=⟨fun {_ _ _ _} h => by
  obtain ⟨A0,n0,c0,lab,rfl,⟨kh0,mh0,h0⟩⟩:=h
  rfl,
 fun {_ _ _ _ _ _} h k hd => by
  obtain ⟨A0,n0,c0,lab,rfl,⟨kh0,mh0,h0⟩⟩:=h
  exact ⟨_,_,_,lab,rfl,⟨kh0,mh0,h0.chg k fun i hi => hd i hi.1⟩⟩,
 fun {_ _ _ _ _} h hs => by
  obtain ⟨A0,n0,c0,lab,rfl,⟨kh0,mh0,h0⟩⟩:=h
  exact ⟨_,_,_,lab,rfl,⟨kh0,mh0,h0.mono fun i _ hi => ⟨hs i hi.1,hi.2⟩⟩⟩⟩
theorem Kid.W_R {w : World} {S : Nat → Prop} {cs : List Value} {x : Kid} (h : Kid.W w S cs x) : Kid.R w S cs x:=by
 obtain ⟨A0,n0,c0,lab,rfl,⟨kh0,mh0,h0⟩⟩:=h
 exact ⟨_,_,_,rfl,⟨kh0,mh0,h0.sl.mono fun i hi => hi.1⟩⟩
theorem Kid.R_cells {w : World} {S : Nat → Prop} {cs : List Value} {x : Kid} (h : Kid.R w S cs x) : ∃ (A0 : Option Addr) (n0 c0 : Nat),cs = [.slice A0 n0 c0]:=by
 obtain ⟨A0,n0,c0,rfl,⟨kh0,mh0,h0⟩⟩:=h
 exact ⟨A0,n0,c0,rfl⟩
theorem Kid.W_cells {w : World} {S : Nat → Prop} {cs : List Value} {x : Kid} (h : Kid.W w S cs x) : ∃ (A0 : Option Addr) (n0 c0 : Nat),cs = [.slice A0 n0 c0]:=by
 obtain ⟨A0,n0,c0,lab,rfl,⟨kh0,mh0,h0⟩⟩:=h
 exact ⟨A0,n0,c0,rfl⟩
set_option maxRecDepth 8000 in
theorem opens_Kid : Opens Tryz.prog 258 (fun w cs (x : Kid) => Kid.R w (fun _ => True) cs x):=by
 intro H enc w base spare held fuel cs x h
 obtain ⟨xs,n,_,_,hlen,hxl,hf⟩:=DataW.trod_struct Tryz.underlying258 h
 rw [show Tryz.prog.cellsOf 258 = 1 from by kernel_rfl] at hlen
 have hxl' : xs.length = 1:=hxl
 have h0 : DataW.trod enc Tryz.prog w base spare held n 132 ((cs.drop 0).take (Tryz.prog.cellsOf 132)) = xs[0]?:=hf 0 _ rfl
 rw [show Tryz.prog.cellsOf 132 = 1 from by kernel_rfl,List.getElem?_eq_getElem (show 0 < xs.length by omega)] at h0
 obtain ⟨f0,A0,n0,c0,e0,g0,g0',-,-,s0⟩:=opens_flat Tryz.underlying132 (by kernel_rfl) (by omega) GOp.cells_length opens_GOp H enc w base spare held n _ _ h0
 clear h0 hf h hxl hxl'
 match cs,hlen with
 | [q0],_ =>
  simp only [List.drop_succ_cons,List.drop_zero,List.take_succ_cons,List.take_zero,List.cons.injEq,and_true] at e0
  subst e0
  exact ⟨⟨f0⟩,_,_,_,rfl,⟨g0,Nat.le_trans g0 g0',s0⟩⟩
set_option maxRecDepth 8000 in
theorem szKid_any (x : Kid) (cs : List Value) (q : Int) (w : World) (S : Nat → Prop) (h : Kid.R w S cs x) (hq0 : 0 ≤ q) (hq2 : q ≤ 1048576) :
  Calls Tryz.prog 181 #[.agg cs.toArray,.int .i64 q] w fun e w' => ∃ r : Int,e = .returned (.int .i64 r) ∧ Left r q (Kid.wt x) ∧ Ext w w':=by
 obtain ⟨A0,n0,c0,rfl,⟨kh0,mh0,h0⟩⟩:=h
 have H0:=hid h0
 clear h0
 show Calls Tryz.prog _ #[.agg #[.slice A0 n0 c0],.int .i64 q] w _
 go_enter Tryz.func181,Tryz.ntmps181
 go_wp2_with fail
 have L0:=hid (H0.out.flen GOp.cells_length (by omega))
 refine (szGOpS_any _ _ _ (q) _ hq0 hq2 mh0).mono ?_
 rintro e w1 ⟨rfl,xq⟩
 have x1:=Ext.of_eq xq
 clear xq
 have Q0 : Hid (Left (if (n0 : Int) ≤ q then q - n0 else -1) q (x.code_.length)):=by show Left _ _ _;rw [L0.out];exact Left.of_if
 generalize (if (n0 : Int) ≤ q then q - n0 else -1) = r0 at Q0
 have X1 : Ext w w1:=Ext.tr (((Ext.refl' w).al _)) x1
 have b1 : Hid (Bx w1 w.heap.size 258 #[.slice A0 n0 c0]):=Bx.ext (Bx.new' _ _ _ rfl) x1
 clear x1
 have R0 : Hid (Left r0 q (x.code_.length)):=Q0
 by_cases g0 : 0 ≤ r0
 rotate_left
 ·have e0 : r0 = -1:=by have a:=R0.out;unfold Left at a;omega
  subst e0
  clear g0
  go_wp2
  go_ret
  exact ⟨-1,rfl,by have a:=R0.out;unfold Left Kid.wt at *;omega,X1⟩
 have u0 : r0 ≤ 1048576:=by have a:=R0.out;unfold Left at a;omega
 go_wp2
 go_ret
 exact ⟨r0,rfl,R0.out,X1⟩
set_option maxRecDepth 8000 in
theorem szKidS_any (A : Option Addr) (n c : Nat) (l : List Kid) (q : Int) (w : World) (S : Nat → Prop) (hs : SlR Kid.R 1 w S A n l) (hm : n ≤ 9223372036854775807) (hq0 : 0 ≤ q) (hq2 : q ≤ 1048576) :
  Calls Tryz.prog 124 #[.slice A n c,.int .i64 q] w fun e w' => ∃ r : Int,e = .returned (.int .i64 r) ∧ Left r q (wtl Kid.wt l) ∧ Ext w w':=by
 have H:=hid hs.1
 have HL:=hid (wtl_len Kid.wt l)
 by_cases hn : (n : Int) ≤ q
 rotate_left
 ·go_enter Tryz.func124,Tryz.ntmps124
  go_wp2
  go_ret
  exact ⟨-1,by first|rfl|(simp;done)|simp [hn],.inr ⟨by have a:=H.out;have b:=HL.out;omega,rfl⟩,Ext.refl' _⟩
 have HS:=hid hs
 clear hs
 go_enter Tryz.func124,Tryz.ntmps124
 go_wp2
 go_loopw [1,5] (fun u i wr => ∃ (k : Nat) (r : Int),k ≤ n ∧ i = .int .i64 k ∧ u = .int .i64 r ∧ 0 ≤ r ∧ r ≤ 1048576 ∧ Hid (r = q - n + k - wtl Kid.wt (l.take k)) ∧ Ext w wr) (fun _ i _ => n - (intOf i).toNat)
 case atStart => exact ⟨0,q - n,Nat.zero_le _,rfl,rfl,by omega,by omega,by show _ = _;simp [wtl],Ext.refl' _⟩
 case round =>
  obtain ⟨k,r,hk,rfl,rfl,hr0,hr2,HR,hx⟩:=hrel
  have HX:=hid hx
  clear hx
  by_cases hlt : (k : Int) < (n : Int)
  rotate_left
  ·have e : Hid (k = n):=by show k = n;omega
   go_wp2
   go_ret
   exact ⟨r,rfl,.inl (by have h1:=HR.out;rw [e.out,← H.out,List.take_length] at h1;have h2:=H.out;omega),HX.out⟩
  obtain ⟨b,o,rfl⟩:=HS.out.addr (by omega)
  obtain ⟨x,row,hxk,-,hrw,hc⟩:=(HS.out.ext Kid.R_good HX.out).at_ (k:=k) (by omega)
  have HRW:=hid hrw
  obtain ⟨A0,n0,c0,rfl⟩:=Kid.R_cells hrw

  have c_0:=hc 0 (by omega)
  simp only [List.getElem?_cons_zero,List.getElem?_cons_succ,Nat.add_zero,Nat.mul_one] at c_0
  have HW:=hid (wtl_take Kid.wt hxk)
  have HLE:=hid (wtl_le Kid.wt l (k + 1))
  have HTL:=hid (wtl_len Kid.wt (l.drop (k + 1)))
  clear hrw hc hxk
  go_wp2_with fail
  refine (szKid_any x _ r _ S HRW.out hr0 hr2).mono ?_
  rintro e w2 ⟨r2,rfl,Q,x2⟩
  have X2:=hid (HX.out.tr x2)
  have HQ:=hid Q
  clear x2 Q
  by_cases g : 0 ≤ r2
  rotate_left
  ·have e : r2 = -1:=by have a:=HQ.out;unfold Left at a;omega
   subst e
   clear g
   go_wp2
   go_ret
   exact ⟨-1,rfl,.inr ⟨by have a:=HQ.out;have b:=HW.out;have c:=HR.out;have d:=HLE.out;have e:=H.out;have f:=wtl_rest Kid.wt l (k + 1);unfold Left at a;omega,rfl⟩,X2.out⟩
  have g2 : r2 ≤ 1048576:=by have a:=HQ.out;unfold Left at a;omega
  go_wp2
  go_roundw
  case rel => exact ⟨k + 1,r2,by omega,by go_num,rfl,g,g2,by show _ = _;have a:=HQ.out;have b:=HW.out;have c:=HR.out;unfold Left at a;omega,X2.out⟩
  case measure => simp [intOf];omega
set_option maxRecDepth 8000 in
theorem toKid_any (x : Kid) (cs : List Value) (w : World) (S : Nat → Prop) (h : Kid.R w S cs x) (hw : Kid.wt x ≤ 1048576) :
  Calls Tryz.prog 191 #[.agg cs.toArray] w fun e w' => ∃ cs',e = .returned (.agg cs'.toArray) ∧ Kid.W w' (fun g => w.heap.size ≤ g ∧ g < w'.heap.size) cs' x ∧ Ext w w':=by
 obtain ⟨A0,n0,c0,rfl,⟨kh0,mh0,h0⟩⟩:=h
 unfold Kid.wt at hw
 have l0:=h0.flen GOp.cells_length (by omega)
 have n_0 : n0 ≤ 1048576:=by omega
 have H0:=hid h0
 clear h0 hw l0
 show Calls Tryz.prog _ #[.agg #[.slice A0 n0 c0]] w _
 go_enter Tryz.func191,Tryz.ntmps191
 go_wp2_with fail
 refine (toGOpS_any _ _ _ _ _ S (H0.out.ext ((((Ext.refl' w).al _).al _).al _)) n_0).mono ?_
 rintro e w1 ⟨B0,d0,rfl,o0,x1⟩
 have K0 : Hid (n0 ≤ d0):=own_cap o0
 replace o0:=hid (OwS.of_own o0)
 have z1 : w.heap.size + 3 ≤ w1.heap.size:=by have h:=x1.size;(try simp at h);omega
 have ba1 : Hid (Bx w1 (w.heap.size) 258 #[.slice A0 n0 c0]):=Bx.ext (((Bx.new' _ _ _ rfl).al _).al _) x1
 have br1 : Hid (Bx w1 (w.heap.size + 1) 209 #[.slice none 0 0]):=Bx.ext ((Bx.new' _ _ _ (by simp)).al _) x1
 have bo1 : Hid (Bx w1 (w.heap.size + 2) 209 #[.slice none 0 0]):=Bx.ext (Bx.new' _ _ _ (by simp)) x1
 have X1 : Ext w w1:=Ext.tr ((((Ext.refl' w).al _).al _).al _) x1
 replace o0 : Hid (OwS w1 (fun g => w.heap.size + 3 ≤ g ∧ g < w1.heap.size) 237 4 B0 n0 d0 (x.code_.flatMap GOp.cells)):=o0.out.mono (fun g _ hg => by have h1:=hg.1;have h2:=hg.2;constructor <;> (try simp at h1) <;> omega)
 clear x1
 have co1_0 : w1.cell? ⟨w.heap.size + 2,0,none⟩ = some (.slice none 0 0):=bo1.out.cell 0
 have fo1_0 : w1.frozen? ⟨w.heap.size + 2,0,none⟩ = false:=bo1.out.frozen 0
 have cr1_0 : w1.cell? ⟨w.heap.size + 1,0,none⟩ = some (.slice none 0 0):=br1.out.cell 0
 have fr1_0 : w1.frozen? ⟨w.heap.size + 1,0,none⟩ = false:=br1.out.frozen 0
 go_wp2
 refine bodyPost_ret (v:=.agg #[.slice B0 n0 d0]) (by simp [results,Tryz.results191,go_sem,cr1_0]) rfl ⟨[.slice B0 n0 d0],rfl,?_,?_⟩
 ·refine (?_ : ∀ wz,Chg (fun g => g = w.heap.size + 2 ∨ g = w.heap.size + 1) w1 wz → Kid.W wz (fun g => w.heap.size ≤ g ∧ g < wz.heap.size) [.slice B0 n0 d0] x) _ (((Chg.refl (fun g => g = w.heap.size + 2 ∨ g = w.heap.size + 1) _).sc2 _).sc2 _)
  intro wz cc
  have zz:=cc.size
  exact ⟨B0,n0,d0,lb [w1.heap.size],rfl,⟨K0.out,mh0,(o0.out.chg cc (fun g hg q => by have h1:=hg.1;have hq3 : g = w.heap.size + 2 ∨ g = w.heap.size + 1:=q;omega)).mono (fun g _ hg => ⟨⟨by have h1:=hg.1;omega,by have h2:=hg.2;omega⟩,by have h1:=hg.1;have h2:=hg.2;exact lb_here (by omega)⟩)⟩⟩
 ·exact ((X1).sc2 _).sc2 _
theorem Tryz.infoKid : (Tryz.prog.info? 209).map (fun i => (i.zero,i.size,i.bytes)) = some (some (.agg #[.slice none 0 0]),1,24):=by kernel_rfl
set_option maxRecDepth 8000 in
theorem toKidS_any (A : Option Addr) (n c : Nat) (l : List Kid) (w : World) (S : Nat → Prop) (hs : SlR Kid.R 1 w S A n l) (hm : n ≤ 1048576) (hw : wtl Kid.wt l ≤ 1048576) :
  Calls Tryz.prog 140 #[.slice A n c] w fun e w' => ∃ B d,e = .returned (.slice B n d) ∧ SlW Kid.W 209 1 w' (fun g => w.heap.size ≤ g ∧ g < w'.heap.size) B n d l ∧ Ext w w':=by
 obtain ⟨w1,cs0,hmk,hown,-,hx1,hlt⟩:=made_row (P:=Tryz.prog) w 82 209 _ _ _ Tryz.underlying82 Tryz.infoKid n (by omega) (by unfold maxLen;omega)
 have HO:=hid hown
 have HX:=hid hx1
 have HS:=hid hs
 have HLL:=hid hs.1
 have HW0:=hid hw
 clear hown hx1 hs hw
 go_enter Tryz.func140,Tryz.ntmps140
 go_wp2
 go_loopw [4] (fun i wr => ∃ (k : Nat) (cs : List Value) (lab : Nat → Nat),k ≤ n ∧ i = .int .i64 k ∧ Hid (wr.ownsRow w.heap.size 209 1 (.slice (some ⟨w.heap.size,0,none⟩) n n) n cs) ∧ Hid (WRows Kid.W 1 wr (fun g => w.heap.size < g ∧ g < wr.heap.size) lab cs l k) ∧ Ext w wr) (fun i _ => n - (intOf i).toNat)
 case atStart => exact ⟨0,_,fun _ => 0,Nat.zero_le _,rfl,HO,WRows.zero _ _ _ _ _ _ _,HX.out⟩
 case round =>
  obtain ⟨k,cs,lab,hk,rfl,HO2,HU,hx⟩:=hrel
  have HX2:=hid hx
  clear hx
  by_cases hlt : (k : Int) < (n : Int)
  rotate_left
  ·have e : Hid (k = n):=by show k = n;omega
   go_wp2
   go_ret
   refine ⟨_,_,rfl,⟨HLL.out,cs,fun g => if w.heap.size < g then lab g else 0,⟨own_base HO2.out (Nat.zero_le _),fun g hg => ?_⟩,fun i hi x hxi => ?_⟩,HX2.out⟩
   ·have e : some w.heap.size = some g:=hg
    injection e with e
    subst e
    exact ⟨⟨Nat.le_refl _,(HO2.out.lt _ rfl).2⟩,if_neg (Nat.lt_irrefl _)⟩
   ·obtain ⟨row,hr,hj⟩:=HU.out i (by have h:=e.out;omega) x hxi
    exact ⟨row,Kid.W_good.mono hr fun g hg => ⟨⟨by have h:=hg.1.1;omega,hg.1.2⟩,(if_pos hg.1.1).trans hg.2⟩,hj⟩
  obtain ⟨b,o,rfl⟩:=HS.out.addr (by omega)
  obtain ⟨x,row,hxk,-,hrw,hc⟩:=(HS.out.ext Kid.R_good HX2.out).at_ (k:=k) (by omega)
  have HRW:=hid hrw
  obtain ⟨A0,n0,c0,rfl⟩:=Kid.R_cells hrw
  have c_0:=hc 0 (by omega)
  simp only [List.getElem?_cons_zero,List.getElem?_cons_succ,Nat.add_zero,Nat.mul_one] at c_0
  have HXK:=hid hxk
  have HKW:=hid (Nat.le_trans (wtl_at Kid.wt hxk) HW0.out)
  have HLT : Hid (k < n):=by show k < n;omega
  clear hrw hc hxk
  go_wp2_with fail
  refine (toKid_any x _ _ S HRW.out HKW.out).mono ?_
  rintro e w2 ⟨cv,rfl,hW,hx2⟩
  have HWW:=hid hW
  obtain ⟨B0,p0,d0,rfl⟩:=Kid.W_cells hW
  have ho2:=own_ext HO2.out hx2
  have z0 : w.heap.size < wr.heap.size:=(HO2.out.lt _ rfl).2
  have z1 : wr.heap.size ≤ w2.heap.size:=hx2.size
  obtain ⟨g,hA,-,-,hg⟩:=own_flat ho2 HLT.out
  obtain rfl : w.heap.size = g:=addr_inj hA
  obtain ⟨v0,g0,e0⟩:=hg 0 (by omega)
  rw [Nat.add_zero,Nat.mul_one] at g0 e0
  have HX3:=hid hx2
  have HO3:=hid ho2
  clear hx2 ho2 hg hW
  go_wp2
  go_roundw
  case rel =>
   have t0:=HO3.out.stored (k) (.slice B0 p0 d0)
   have hl3 : cs.length = n * 1:=HO3.out.1
   have hkn:=HLT.out
   have pp:=(Put.zero cs (k * 1) [.slice B0 p0 d0]).next (q:=k) (by omega) (by omega) rfl
   have cc:=(Chg.refl (fun g => g = w.heap.size) w2).sc (p:=⟨w.heap.size,k,none⟩) rfl (.slice B0 p0 d0)
   refine ⟨k + 1,_,_,by omega,by go_num,hid t0.1,hid (WRows.step (b:=wr.heap.size) Kid.W_good HU.out (fun g hg => hg.2) (Chg.trans (HX3.out.chg _) cc) (fun g hg q => by have h1:=hg.1;have h2 : g = w.heap.size:=q;omega) (fun g hg => ⟨hg.1,by have h:=hg.2;simp;omega⟩) HXK.out (Kid.W_good.mono (Kid.W_good.chg HWW.out cc (fun g hg q => by have h1:=hg.1;have h2 : g = w.heap.size:=q;omega)) (fun g hg => ⟨⟨by have h1:=hg.1;omega,by have h:=hg.2;simp;omega⟩,hg.1⟩)) pp.2.1 pp.2.2),?_⟩
   exact ((HX2.out.tr HX3.out)).sc (p:=⟨w.heap.size,_,none⟩) (Nat.le_refl _) _
  case measure => have h:=HLT.out;simp [intOf];omega
set_option maxRecDepth 8000 in
theorem eqKid_same (x : Kid) (cs cs' : List Value) (w : World) (S S' : Nat → Prop) (h : Kid.R w S cs x) (u : Kid.R w S' cs' x) :
  Calls Tryz.prog 211 #[.agg cs.toArray,.agg cs'.toArray] w fun e w' => e = .returned (.bool true) ∧ Ext w w':=by
 obtain ⟨A0,n0,c0,rfl,⟨kh0,mh0,h0⟩⟩:=h
 obtain ⟨B0,p0,d0,rfl,⟨ku0,mu0,u0⟩⟩:=u
 obtain rfl : n0 = p0:=by have a:=h0.flen GOp.cells_length (by omega);have b:=u0.flen GOp.cells_length (by omega);omega
 have H0:=hid h0
 have U0:=hid u0
 clear h0 u0
 show Calls Tryz.prog _ #[.agg #[.slice A0 n0 c0],.agg #[.slice B0 n0 d0]] w _
 go_enter Tryz.func211,Tryz.ntmps211
 go_wp2_with fail
 refine (eqGOpS_same _ _ _ _ _ _ _ S S' (H0.out.ext (((Ext.refl' w).al _).al _)) (U0.out.ext (((Ext.refl' w).al _).al _)) mh0).mono ?_
 rintro e w1 ⟨rfl,x1⟩
 have z1 : w.heap.size + 2 ≤ w1.heap.size:=by have h:=x1.size;(try simp at h);omega
 have ba1 : Hid (Bx w1 (w.heap.size) 209 #[.slice A0 n0 c0]):=Bx.ext ((Bx.new' _ _ _ rfl).al _) x1
 have bb1 : Hid (Bx w1 (w.heap.size + 1) 209 #[.slice B0 n0 d0]):=Bx.ext (Bx.new' _ _ _ (by simp)) x1
 have X1 : Ext w w1:=Ext.tr (((Ext.refl' w).al _).al _) x1
 clear x1
 go_wp2
 go_ret
 exact ⟨rfl,X1⟩
set_option maxRecDepth 8000 in
theorem eqKidS_same (A B : Option Addr) (n c d : Nat) (l : List Kid) (w : World) (S S' : Nat → Prop) (ha : SlR Kid.R 1 w S A n l) (hb : SlR Kid.R 1 w S' B n l) (hm : n ≤ 9223372036854775807) :
  Calls Tryz.prog 161 #[.slice A n c,.slice B n d] w fun e w' => e = .returned (.bool true) ∧ Ext w w':=by
 have HA:=hid ha
 have HB:=hid hb
 clear ha hb
 go_enter Tryz.func161,Tryz.ntmps161
 go_wp2
 go_loopw [5] (fun i wr => ∃ (k : Nat),k ≤ n ∧ i = .int .i64 k ∧ Ext w wr) (fun i _ => n - (intOf i).toNat)
 case atStart => exact ⟨0,Nat.zero_le _,rfl,Ext.refl' _⟩
 case round =>
  obtain ⟨k,hk,rfl,hx⟩:=hrel
  have HX:=hid hx
  clear hx
  by_cases hlt : (k : Int) < (n : Int)
  rotate_left
  ·go_wp2
   go_ret
   exact ⟨rfl,HX.out⟩
  obtain ⟨b,o,rfl⟩:=HA.out.addr (by omega)
  obtain ⟨b2,o2,rfl⟩:=HB.out.addr (by omega)
  obtain ⟨x,row,hxk,-,hrw,hc⟩:=(HA.out.ext Kid.R_good HX.out).at_ (k:=k) (by omega)
  obtain ⟨y,row2,hyk,-,hrw2,hc2⟩:=(HB.out.ext Kid.R_good HX.out).at_ (k:=k) (by omega)
  rw [hxk] at hyk
  injection hyk with hyk
  subst hyk
  have RX:=hid hrw
  have RY:=hid hrw2
  obtain ⟨A0,n0,c0,rfl⟩:=Kid.R_cells hrw
  obtain ⟨B0,p0,d0,rfl⟩:=Kid.R_cells hrw2
  have a_0:=hc 0 (by omega)
  have b_0:=hc2 0 (by omega)
  simp only [List.getElem?_cons_zero,List.getElem?_cons_succ,Nat.add_zero,Nat.mul_one] at a_0 b_0
  have KS : Hid (∀ w',Ext wr w' → Ext wr w' ∧ w'.cell? ⟨b,o + k,none⟩ = some (.slice A0 n0 c0) ∧ w'.cell? ⟨b2,o2 + k,none⟩ = some (.slice B0 p0 d0)):=fun w' x => ⟨x,x.co a_0,x.co b_0⟩
  have hk0 : (0 : Int) ≤ (k : Int):=by omega
  clear hrw hrw2 hc hc2 hxk
  go_wp2
  refine region_class (fun w' => Ext wr w' ∧ w'.cell? ⟨b,o + k,none⟩ = some (.slice A0 n0 c0) ∧ w'.cell? ⟨b2,o2 + k,none⟩ = some (.slice B0 p0 d0)) (by kernel_rfl) (by kernel_rfl) (KS.out _ ((Ext.refl' _).dr)) ?_
  repeat (first|go_big_quiet_skip|(go_big_quiet_want;unfold Oper.quiet;apply Exists.intro;refine ⟨fun wq hq => ?_,?_⟩;(obtain ⟨qx,q0,q1⟩:=hq;go_simp;first|done|rfl|(go_at_call 211;exact (eqKid_same x [.slice A0 n0 c0] [.slice B0 p0 d0] _ S S' (Kid.R_good.ext RX.out qx) (Kid.R_good.ext RY.out qx)).mono fun e w2 h2 => ⟨h2.1,KS.out _ (qx.tr h2.2)⟩));(try simp only [Act.put,List.setIfInBounds_toArray,List.set_cons_zero,List.set_cons_succ]);go_big_quiet_on))
  refine wpQuiet_nil ?_
  intro wq hq
  have XE:=hid hq.1
  clear hq
  go_wp2
  go_roundw
  case rel => exact ⟨k + 1,by omega,by go_num,HX.out.tr XE.out⟩
  case measure => simp [intOf];omega
/-! ### Prog -/
structure Prog where
 code_ : List GOp
 kids_ : List Kid
deriving Inhabited
def Prog.wt (x : Prog) : Nat:=x.code_.length + wtl Kid.wt x.kids_
def Prog.R (w : World) (S : Nat → Prop) (cs : List Value) (x : Prog) : Prop:=∃ (A0 : Option Addr) (n0 c0 : Nat) (A1 : Option Addr) (n1 c1 : Nat),cs = [.slice A0 n0 c0,.slice A1 n1 c1] ∧ (n0 ≤ c0 ∧ n0 ≤ 9223372036854775807 ∧ Sl w S 4 A0 n0 (x.code_.flatMap GOp.cells)) ∧ (n1 ≤ c1 ∧ n1 ≤ 9223372036854775807 ∧ SlR Kid.R 1 w S A1 n1 x.kids_)
def Prog.W (w : World) (S : Nat → Prop) (cs : List Value) (x : Prog) : Prop:=∃ (A0 : Option Addr) (n0 c0 : Nat) (A1 : Option Addr) (n1 c1 : Nat) (lab : Nat → Nat),cs = [.slice A0 n0 c0,.slice A1 n1 c1] ∧ (n0 ≤ c0 ∧ n0 ≤ 9223372036854775807 ∧ OwS w (fun g => S g ∧ lab g = 0) 237 4 A0 n0 c0 (x.code_.flatMap GOp.cells)) ∧ (n1 ≤ c1 ∧ n1 ≤ 9223372036854775807 ∧ SlW Kid.W 209 1 w (fun g => S g ∧ lab g = 1) A1 n1 c1 x.kids_)
theorem Prog.R_good : Good Prog.R 2:=⟨fun {_ _ _ _} h => by
  obtain ⟨A0,n0,c0,A1,n1,c1,rfl,⟨kh0,mh0,h0⟩,⟨kh1,mh1,h1⟩⟩:=h
  rfl,
 fun {_ _ _ _ _ _} h k hd => by
  obtain ⟨A0,n0,c0,A1,n1,c1,rfl,⟨kh0,mh0,h0⟩,⟨kh1,mh1,h1⟩⟩:=h
  exact ⟨_,_,_,_,_,_,rfl,⟨kh0,mh0,h0.chg k hd⟩,⟨kh1,mh1,h1.chg Kid.R_good k hd⟩⟩,
 fun {_ _ _ _ _} h hs => by
  obtain ⟨A0,n0,c0,A1,n1,c1,rfl,⟨kh0,mh0,h0⟩,⟨kh1,mh1,h1⟩⟩:=h
  exact ⟨_,_,_,_,_,_,rfl,⟨kh0,mh0,h0.mono hs⟩,⟨kh1,mh1,h1.mono Kid.R_good hs⟩⟩⟩
theorem Prog.W_good : Good Prog.W 2:=⟨fun {_ _ _ _} h => by
  obtain ⟨A0,n0,c0,A1,n1,c1,lab,rfl,⟨kh0,mh0,h0⟩,⟨kh1,mh1,h1⟩⟩:=h
  rfl,
 fun {_ _ _ _ _ _} h k hd => by
  obtain ⟨A0,n0,c0,A1,n1,c1,lab,rfl,⟨kh0,mh0,h0⟩,⟨kh1,mh1,h1⟩⟩:=h
  exact ⟨_,_,_,_,_,_,lab,rfl,⟨kh0,mh0,h0.chg k fun i hi => hd i hi.1⟩,⟨kh1,mh1,h1.chg Kid.W_good k fun i hi => hd i hi.1⟩⟩,
 fun {_ _ _ _ _} h hs => by
  obtain ⟨A0,n0,c0,A1,n1,c1,lab,rfl,⟨kh0,mh0,h0⟩,⟨kh1,mh1,h1⟩⟩:=h
  exact ⟨_,_,_,_,_,_,lab,rfl,⟨kh0,mh0,h0.mono fun i _ hi => ⟨hs i hi.1,hi.2⟩⟩,⟨kh1,mh1,h1.mono Kid.W_good fun i hi => ⟨hs i hi.1,hi.2⟩⟩⟩⟩
theorem Prog.W_R {w : World} {S : Nat → Prop} {cs : List Value} {x : Prog} (h : Prog.W w S cs x) : Prog.R w S cs x:=by
 obtain ⟨A0,n0,c0,A1,n1,c1,lab,rfl,⟨kh0,mh0,h0⟩,⟨kh1,mh1,h1⟩⟩:=h
 exact ⟨_,_,_,_,_,_,rfl,⟨kh0,mh0,h0.sl.mono fun i hi => hi.1⟩,⟨kh1,mh1,(h1.slr Kid.R_good Kid.W_R).mono Kid.R_good fun i hi => hi.1⟩⟩
theorem Prog.R_cells {w : World} {S : Nat → Prop} {cs : List Value} {x : Prog} (h : Prog.R w S cs x) : ∃ (A0 : Option Addr) (n0 c0 : Nat) (A1 : Option Addr) (n1 c1 : Nat),cs = [.slice A0 n0 c0,.slice A1 n1 c1]:=by
 obtain ⟨A0,n0,c0,A1,n1,c1,rfl,⟨kh0,mh0,h0⟩,⟨kh1,mh1,h1⟩⟩:=h
 exact ⟨A0,n0,c0,A1,n1,c1,rfl⟩
theorem Prog.W_cells {w : World} {S : Nat → Prop} {cs : List Value} {x : Prog} (h : Prog.W w S cs x) : ∃ (A0 : Option Addr) (n0 c0 : Nat) (A1 : Option Addr) (n1 c1 : Nat),cs = [.slice A0 n0 c0,.slice A1 n1 c1]:=by
 obtain ⟨A0,n0,c0,A1,n1,c1,lab,rfl,⟨kh0,mh0,h0⟩,⟨kh1,mh1,h1⟩⟩:=h
 exact ⟨A0,n0,c0,A1,n1,c1,rfl⟩
theorem Prog.size_info : (Tryz.prog.info? 84).map (·.size) = some 2:=by kernel_rfl
theorem Prog.size_laws : (Tryz.prog.info? 135).map (·.size) = some 2:=by kernel_rfl
theorem Prog.W_one {w : World} {S : Nat → Prop} {cs : List Value} {x : Prog} (h : Prog.W w S cs x) : ∀ v ∈ cs,v.oneCell' = true:=by
 obtain ⟨A0,n0,c0,A1,n1,c1,rfl⟩:=Prog.W_cells h
 simp [Value.oneCell']
set_option maxRecDepth 8000 in
theorem opens_Prog : Opens Tryz.prog 135 (fun w cs (x : Prog) => Prog.R w (fun _ => True) cs x):=by
 intro H enc w base spare held fuel cs x h
 obtain ⟨xs,n,_,_,hlen,hxl,hf⟩:=DataW.trod_struct Tryz.underlying135 h
 rw [show Tryz.prog.cellsOf 135 = 2 from by kernel_rfl] at hlen
 have hxl' : xs.length = 2:=hxl
 have h0 : DataW.trod enc Tryz.prog w base spare held n 132 ((cs.drop 0).take (Tryz.prog.cellsOf 132)) = xs[0]?:=hf 0 _ rfl
 rw [show Tryz.prog.cellsOf 132 = 1 from by kernel_rfl,List.getElem?_eq_getElem (show 0 < xs.length by omega)] at h0
 obtain ⟨f0,A0,n0,c0,e0,g0,g0',-,-,s0⟩:=opens_flat Tryz.underlying132 (by kernel_rfl) (by omega) GOp.cells_length opens_GOp H enc w base spare held n _ _ h0
 have h1 : DataW.trod enc Tryz.prog w base spare held n 133 ((cs.drop 1).take (Tryz.prog.cellsOf 133)) = xs[1]?:=hf 1 _ rfl
 rw [show Tryz.prog.cellsOf 133 = 1 from by kernel_rfl,List.getElem?_eq_getElem (show 1 < xs.length by omega)] at h1
 obtain ⟨f1,A1,n1,c1,e1,g1,g1',s1⟩:=opens_deep Kid.R_good Tryz.underlying133 (by kernel_rfl) (by omega) opens_Kid H enc w base spare held n _ _ h1
 clear h0 h1 hf h hxl hxl'
 match cs,hlen with
 | [q0,q1],_ =>
  simp only [List.drop_succ_cons,List.drop_zero,List.take_succ_cons,List.take_zero,List.cons.injEq,and_true] at e0 e1
  subst e0
  subst e1
  exact ⟨⟨f0,f1⟩,_,_,_,_,_,_,rfl,⟨g0,Nat.le_trans g0 g0',s0⟩,⟨g1,Nat.le_trans g1 g1',s1⟩⟩
set_option maxRecDepth 8000 in
theorem szProg_any (x : Prog) (cs : List Value) (q : Int) (w : World) (S : Nat → Prop) (h : Prog.R w S cs x) (hq0 : 0 ≤ q) (hq2 : q ≤ 1048576) :
  Calls Tryz.prog 74 #[.agg cs.toArray,.int .i64 q] w fun e w' => ∃ r : Int,e = .returned (.int .i64 r) ∧ Left r q (Prog.wt x) ∧ Ext w w':=by
 obtain ⟨A0,n0,c0,A1,n1,c1,rfl,⟨kh0,mh0,h0⟩,⟨kh1,mh1,h1⟩⟩:=h
 have H0:=hid h0
 have H1:=hid h1
 clear h0 h1
 show Calls Tryz.prog _ #[.agg #[.slice A0 n0 c0,.slice A1 n1 c1],.int .i64 q] w _
 go_enter Tryz.func74,Tryz.ntmps74
 go_wp2_with fail
 have L0:=hid (H0.out.flen GOp.cells_length (by omega))
 refine (szGOpS_any _ _ _ (q) _ hq0 hq2 mh0).mono ?_
 rintro e w1 ⟨rfl,xq⟩
 have x1:=Ext.of_eq xq
 clear xq
 have Q0 : Hid (Left (if (n0 : Int) ≤ q then q - n0 else -1) q (x.code_.length)):=by show Left _ _ _;rw [L0.out];exact Left.of_if
 generalize (if (n0 : Int) ≤ q then q - n0 else -1) = r0 at Q0
 have X1 : Ext w w1:=Ext.tr (((Ext.refl' w).al _)) x1
 have b1 : Hid (Bx w1 w.heap.size 135 #[.slice A0 n0 c0,.slice A1 n1 c1]):=Bx.ext (Bx.new' _ _ _ rfl) x1
 clear x1
 have R0 : Hid (Left r0 q (x.code_.length)):=Q0
 by_cases g0 : 0 ≤ r0
 rotate_left
 ·have e0 : r0 = -1:=by have a:=R0.out;unfold Left at a;omega
  subst e0
  clear g0
  go_wp2
  go_ret
  exact ⟨-1,rfl,by have a:=R0.out;unfold Left Prog.wt at *;omega,X1⟩
 have u0 : r0 ≤ 1048576:=by have a:=R0.out;unfold Left at a;omega
 have ca1_1 : w1.cell? ⟨w.heap.size,1,none⟩ = some (.slice A1 n1 c1):=b1.out.cell 1
 go_wp2_with fail
 refine (szKidS_any _ _ _ x.kids_ (r0) _ S (SlR.ext Kid.R_good H1.out (X1)) mh1 g0 u0).mono ?_
 rintro e w2 ⟨r1,rfl,Q1,x2⟩
 replace Q1:=hid Q1
 have X2 : Ext w w2:=Ext.tr (X1) x2
 have b2 : Hid (Bx w2 w.heap.size 135 #[.slice A0 n0 c0,.slice A1 n1 c1]):=Bx.ext (b1.out) x2
 clear x2
 have R1 : Hid (Left r1 q (x.code_.length + wtl Kid.wt x.kids_)):=by show Left _ _ _;have a:=R0.out;have b:=Q1.out;unfold Left at *;omega
 by_cases g1 : 0 ≤ r1
 rotate_left
 ·have e1 : r1 = -1:=by have a:=R1.out;unfold Left at a;omega
  subst e1
  clear g1
  go_wp2
  go_ret
  exact ⟨-1,rfl,by have a:=R1.out;unfold Left Prog.wt at *;omega,X2⟩
 have u1 : r1 ≤ 1048576:=by have a:=R1.out;unfold Left at a;omega
 go_wp2
 go_ret
 exact ⟨r1,rfl,R1.out,X2⟩
set_option maxRecDepth 8000 in
theorem szProgS_any (A : Option Addr) (n c : Nat) (l : List Prog) (q : Int) (w : World) (S : Nat → Prop) (hs : SlR Prog.R 2 w S A n l) (hm : n ≤ 9223372036854775807) (hq0 : 0 ≤ q) (hq2 : q ≤ 1048576) :
  Calls Tryz.prog 24 #[.slice A n c,.int .i64 q] w fun e w' => ∃ r : Int,e = .returned (.int .i64 r) ∧ Left r q (wtl Prog.wt l) ∧ Ext w w':=by
 have H:=hid hs.1
 have HL:=hid (wtl_len Prog.wt l)
 by_cases hn : (n : Int) ≤ q
 rotate_left
 ·go_enter Tryz.func24,Tryz.ntmps24
  go_wp2
  go_ret
  exact ⟨-1,by first|rfl|(simp;done)|simp [hn],.inr ⟨by have a:=H.out;have b:=HL.out;omega,rfl⟩,Ext.refl' _⟩
 have HS:=hid hs
 clear hs
 go_enter Tryz.func24,Tryz.ntmps24
 go_wp2
 go_loopw [1,5] (fun u i wr => ∃ (k : Nat) (r : Int),k ≤ n ∧ i = .int .i64 k ∧ u = .int .i64 r ∧ 0 ≤ r ∧ r ≤ 1048576 ∧ Hid (r = q - n + k - wtl Prog.wt (l.take k)) ∧ Ext w wr) (fun _ i _ => n - (intOf i).toNat)
 case atStart => exact ⟨0,q - n,Nat.zero_le _,rfl,rfl,by omega,by omega,by show _ = _;simp [wtl],Ext.refl' _⟩
 case round =>
  obtain ⟨k,r,hk,rfl,rfl,hr0,hr2,HR,hx⟩:=hrel
  have HX:=hid hx
  clear hx
  by_cases hlt : (k : Int) < (n : Int)
  rotate_left
  ·have e : Hid (k = n):=by show k = n;omega
   go_wp2
   go_ret
   exact ⟨r,rfl,.inl (by have h1:=HR.out;rw [e.out,← H.out,List.take_length] at h1;have h2:=H.out;omega),HX.out⟩
  obtain ⟨b,o,rfl⟩:=HS.out.addr (by omega)
  obtain ⟨x,row,hxk,-,hrw,hc⟩:=(HS.out.ext Prog.R_good HX.out).at_ (k:=k) (by omega)
  have hrg:=hid (SlR.range Prog.R_good hrw hc)
  have hln : Hid ((Tryz.prog.info? 135).map (·.size) = some row.length):=by show _ = _;rw [Prog.R_good.len hrw];exact Prog.size_laws
  have HRW:=hid hrw
  have HW:=hid (wtl_take Prog.wt hxk)
  have HLE:=hid (wtl_le Prog.wt l (k + 1))
  have HTL:=hid (wtl_len Prog.wt (l.drop (k + 1)))
  clear hrw hc hxk
  go_wp2_with (refine wpList_load_mid rfl 135 _ rfl b (o + k * 2) rfl row _ hrg.out Tryz.underlying135 rfl hln.out ?_)
  refine (szProg_any x _ r _ S HRW.out hr0 hr2).mono ?_
  rintro e w2 ⟨r2,rfl,Q,x2⟩
  have X2:=hid (HX.out.tr x2)
  have HQ:=hid Q
  clear x2 Q
  by_cases g : 0 ≤ r2
  rotate_left
  ·have e : r2 = -1:=by have a:=HQ.out;unfold Left at a;omega
   subst e
   clear g
   go_wp2
   go_ret
   exact ⟨-1,rfl,.inr ⟨by have a:=HQ.out;have b:=HW.out;have c:=HR.out;have d:=HLE.out;have e:=H.out;have f:=wtl_rest Prog.wt l (k + 1);unfold Left at a;omega,rfl⟩,X2.out⟩
  have g2 : r2 ≤ 1048576:=by have a:=HQ.out;unfold Left at a;omega
  go_wp2
  go_roundw
  case rel => exact ⟨k + 1,r2,by omega,by go_num,rfl,g,g2,by show _ = _;have a:=HQ.out;have b:=HW.out;have c:=HR.out;unfold Left at a;omega,X2.out⟩
  case measure => simp [intOf];omega
set_option maxRecDepth 8000 in
theorem toProg_any (x : Prog) (cs : List Value) (w : World) (S : Nat → Prop) (h : Prog.R w S cs x) (hw : Prog.wt x ≤ 1048576) :
  Calls Tryz.prog 85 #[.agg cs.toArray] w fun e w' => ∃ cs',e = .returned (.agg cs'.toArray) ∧ Prog.W w' (fun g => w.heap.size ≤ g ∧ g < w'.heap.size) cs' x ∧ Ext w w':=by
 obtain ⟨A0,n0,c0,A1,n1,c1,rfl,⟨kh0,mh0,h0⟩,⟨kh1,mh1,h1⟩⟩:=h
 unfold Prog.wt at hw
 have l0:=h0.flen GOp.cells_length (by omega)
 have n_0 : n0 ≤ 1048576:=by omega
 have l1:=h1.1
 have t1:=wtl_len Kid.wt x.kids_
 have n_1 : n1 ≤ 1048576:=by omega
 have W_1 : wtl Kid.wt x.kids_ ≤ 1048576:=by omega
 have H0:=hid h0
 have H1:=hid h1
 clear h0 h1 hw l0 l1 t1
 show Calls Tryz.prog _ #[.agg #[.slice A0 n0 c0,.slice A1 n1 c1]] w _
 go_enter Tryz.func85,Tryz.ntmps85
 go_wp2_with fail
 refine (toGOpS_any _ _ _ _ _ S (H0.out.ext ((((Ext.refl' w).al _).al _).al _)) n_0).mono ?_
 rintro e w1 ⟨B0,d0,rfl,o0,x1⟩
 have K0 : Hid (n0 ≤ d0):=own_cap o0
 replace o0:=hid (OwS.of_own o0)
 have z1 : w.heap.size + 3 ≤ w1.heap.size:=by have h:=x1.size;(try simp at h);omega
 have ba1 : Hid (Bx w1 (w.heap.size) 135 #[.slice A0 n0 c0,.slice A1 n1 c1]):=Bx.ext (((Bx.new' _ _ _ rfl).al _).al _) x1
 have br1 : Hid (Bx w1 (w.heap.size + 1) 84 #[.slice none 0 0,.slice none 0 0]):=Bx.ext ((Bx.new' _ _ _ (by simp)).al _) x1
 have bo1 : Hid (Bx w1 (w.heap.size + 2) 84 #[.slice none 0 0,.slice none 0 0]):=Bx.ext (Bx.new' _ _ _ (by simp)) x1
 have X1 : Ext w w1:=Ext.tr ((((Ext.refl' w).al _).al _).al _) x1
 replace o0 : Hid (OwS w1 (fun g => w.heap.size + 3 ≤ g ∧ g < w1.heap.size) 237 4 B0 n0 d0 (x.code_.flatMap GOp.cells)):=o0.out.mono (fun g _ hg => by have h1:=hg.1;have h2:=hg.2;constructor <;> (try simp at h1) <;> omega)
 clear x1
 have ca1_1 : w1.cell? ⟨w.heap.size,1,none⟩ = some (.slice A1 n1 c1):=ba1.out.cell 1
 have co1_0 : w1.cell? ⟨w.heap.size + 2,0,none⟩ = some (.slice none 0 0):=bo1.out.cell 0
 have fo1_0 : w1.frozen? ⟨w.heap.size + 2,0,none⟩ = false:=bo1.out.frozen 0
 go_wp2_with fail
 refine (toKidS_any _ _ _ x.kids_ _ S (SlR.ext Kid.R_good H1.out ((X1).sc2 _)) n_1 W_1).mono ?_
 rintro e w2 ⟨B1,d1,rfl,o1,x2⟩
 replace o1:=hid o1
 have z2 : w.heap.size + 3 ≤ w2.heap.size:=by have h:=x2.size;(try simp at h);omega
 have y2 : w1.heap.size ≤ w2.heap.size:=by have h:=x2.size;(try simp at h);exact h
 have ba2 : Hid (Bx w2 (w.heap.size) 135 #[.slice A0 n0 c0,.slice A1 n1 c1]):=Bx.ext ((ba1.out).far2 _) x2
 have br2 : Hid (Bx w2 (w.heap.size + 1) 84 #[.slice none 0 0,.slice none 0 0]):=Bx.ext ((br1.out).far2 _) x2
 have bo2 : Hid (Bx w2 (w.heap.size + 2) 84 #[.slice B0 n0 d0,.slice none 0 0]):=Bx.ext (((bo1.out).set_ _ _).cast (by first|rfl|simp only [List.setIfInBounds_toArray,List.set_cons_succ,List.set_cons_zero])) x2
 have X2 : Ext w w2:=Ext.tr ((X1).sc2 _) x2
 replace o0:=hid (o0.out.chg (Chg.trans ((Chg.refl (fun g => g = w.heap.size + 2) _).sc rfl _) (x2.chg _)) (fun g hg q => by have h1:=hg.1;have hq3 : g = w.heap.size + 2:=q;omega))
 replace o1 : Hid (SlW Kid.W 209 1 w2 (fun g => w1.heap.size ≤ g ∧ g < w2.heap.size) B1 n1 d1 x.kids_):=o1.out.mono Kid.W_good (fun g hg => by have h1:=hg.1;have h2:=hg.2;constructor <;> (try simp at h1) <;> omega)
 clear x2
 have co2_0 : w2.cell? ⟨w.heap.size + 2,0,none⟩ = some (.slice B0 n0 d0):=bo2.out.cell 0
 have co2_1 : w2.cell? ⟨w.heap.size + 2,1,none⟩ = some (.slice none 0 0):=bo2.out.cell 1
 have fo2_1 : w2.frozen? ⟨w.heap.size + 2,1,none⟩ = false:=bo2.out.frozen 1
 have cr2_0 : w2.cell? ⟨w.heap.size + 1,0,none⟩ = some (.slice none 0 0):=br2.out.cell 0
 have fr2_0 : w2.frozen? ⟨w.heap.size + 1,0,none⟩ = false:=br2.out.frozen 0
 have cr2_1 : w2.cell? ⟨w.heap.size + 1,1,none⟩ = some (.slice none 0 0):=br2.out.cell 1
 have fr2_1 : w2.frozen? ⟨w.heap.size + 1,1,none⟩ = false:=br2.out.frozen 1
 go_wp2
 refine bodyPost_ret (v:=.agg #[.slice B0 n0 d0,.slice B1 n1 d1]) (by simp [results,Tryz.results85,go_sem,cr2_0,cr2_1]) rfl ⟨[.slice B0 n0 d0,.slice B1 n1 d1],rfl,?_,?_⟩
 ·refine (?_ : ∀ wz,Chg (fun g => g = w.heap.size + 2 ∨ g = w.heap.size + 1) w2 wz → Prog.W wz (fun g => w.heap.size ≤ g ∧ g < wz.heap.size) [.slice B0 n0 d0,.slice B1 n1 d1] x) _ ((((Chg.refl (fun g => g = w.heap.size + 2 ∨ g = w.heap.size + 1) _).sc2 _).sc2 _).sc2 _)
  intro wz cc
  have zz:=cc.size
  exact ⟨B0,n0,d0,B1,n1,d1,lb [w1.heap.size,w2.heap.size],rfl,⟨K0.out,mh0,(o0.out.chg cc (fun g hg q => by have h1:=hg.1;have hq3 : g = w.heap.size + 2 ∨ g = w.heap.size + 1:=q;omega)).mono (fun g _ hg => ⟨⟨by have h1:=hg.1;omega,by have h2:=hg.2;omega⟩,by have h1:=hg.1;have h2:=hg.2;exact lb_here (by omega)⟩)⟩,⟨SlW.cap o1.out,mh1,(o1.out.chg Kid.W_good cc (fun g hg q => by have h1:=hg.1;have hq3 : g = w.heap.size + 2 ∨ g = w.heap.size + 1:=q;omega)).mono Kid.W_good (fun g hg => ⟨⟨by have h1:=hg.1;omega,by have h2:=hg.2;omega⟩,by have h1:=hg.1;have h2:=hg.2;exact lb_next (by omega) (lb_here (by omega))⟩)⟩⟩
 ·exact (((X2).sc2 _).sc2 _).sc2 _
theorem Tryz.infoProg : (Tryz.prog.info? 84).map (fun i => (i.zero,i.size,i.bytes)) = some (some (.agg #[.slice none 0 0,.slice none 0 0]),2,48):=by kernel_rfl
set_option maxRecDepth 8000 in
theorem toProgS_any (A : Option Addr) (n c : Nat) (l : List Prog) (w : World) (S : Nat → Prop) (hs : SlR Prog.R 2 w S A n l) (hm : n ≤ 1048576) (hw : wtl Prog.wt l ≤ 1048576) :
  Calls Tryz.prog 35 #[.slice A n c] w fun e w' => ∃ B d,e = .returned (.slice B n d) ∧ SlW Prog.W 84 2 w' (fun g => w.heap.size ≤ g ∧ g < w'.heap.size) B n d l ∧ Ext w w':=by
 obtain ⟨w1,cs0,hmk,hown,-,hx1,hlt⟩:=made_row (P:=Tryz.prog) w 45 84 _ _ _ Tryz.underlying45 Tryz.infoProg n (by omega) (by unfold maxLen;omega)
 have HO:=hid hown
 have HX:=hid hx1
 have HS:=hid hs
 have HLL:=hid hs.1
 have HW0:=hid hw
 clear hown hx1 hs hw
 go_enter Tryz.func35,Tryz.ntmps35
 go_wp2
 go_loopw [4] (fun i wr => ∃ (k : Nat) (cs : List Value) (lab : Nat → Nat),k ≤ n ∧ i = .int .i64 k ∧ Hid (wr.ownsRow w.heap.size 84 2 (.slice (some ⟨w.heap.size,0,none⟩) n n) n cs) ∧ Hid (WRows Prog.W 2 wr (fun g => w.heap.size < g ∧ g < wr.heap.size) lab cs l k) ∧ Ext w wr) (fun i _ => n - (intOf i).toNat)
 case atStart => exact ⟨0,_,fun _ => 0,Nat.zero_le _,rfl,HO,WRows.zero _ _ _ _ _ _ _,HX.out⟩
 case round =>
  obtain ⟨k,cs,lab,hk,rfl,HO2,HU,hx⟩:=hrel
  have HX2:=hid hx
  clear hx
  by_cases hlt : (k : Int) < (n : Int)
  rotate_left
  ·have e : Hid (k = n):=by show k = n;omega
   go_wp2
   go_ret
   refine ⟨_,_,rfl,⟨HLL.out,cs,fun g => if w.heap.size < g then lab g else 0,⟨own_base HO2.out (Nat.zero_le _),fun g hg => ?_⟩,fun i hi x hxi => ?_⟩,HX2.out⟩
   ·have e : some w.heap.size = some g:=hg
    injection e with e
    subst e
    exact ⟨⟨Nat.le_refl _,(HO2.out.lt _ rfl).2⟩,if_neg (Nat.lt_irrefl _)⟩
   ·obtain ⟨row,hr,hj⟩:=HU.out i (by have h:=e.out;omega) x hxi
    exact ⟨row,Prog.W_good.mono hr fun g hg => ⟨⟨by have h:=hg.1.1;omega,hg.1.2⟩,(if_pos hg.1.1).trans hg.2⟩,hj⟩
  obtain ⟨b,o,rfl⟩:=HS.out.addr (by omega)
  obtain ⟨x,row,hxk,-,hrw,hc⟩:=(HS.out.ext Prog.R_good HX2.out).at_ (k:=k) (by omega)
  have hrg:=hid (SlR.range Prog.R_good hrw hc)
  have hln : Hid ((Tryz.prog.info? 135).map (·.size) = some row.length):=by show _ = _;rw [Prog.R_good.len hrw];exact Prog.size_laws
  have HRW:=hid hrw
  have HXK:=hid hxk
  have HKW:=hid (Nat.le_trans (wtl_at Prog.wt hxk) HW0.out)
  have HLT : Hid (k < n):=by show k < n;omega
  clear hrw hc hxk
  go_wp2_with (refine wpList_load_mid rfl 135 _ rfl b (o + k * 2) rfl row _ hrg.out Tryz.underlying135 rfl hln.out ?_)
  refine (toProg_any x _ _ S HRW.out HKW.out).mono ?_
  rintro e w2 ⟨cv,rfl,hW,hx2⟩
  have HWW:=hid hW
  have HO3:=hid (own_ext HO2.out hx2)
  have z0 : w.heap.size < wr.heap.size:=(HO2.out.lt _ rfl).2
  have z1 : wr.heap.size ≤ w2.heap.size:=hx2.size
  have HX3:=hid hx2
  have hcz : cv.toArray.size = 2:=Eq.trans (List.size_toArray ..) (Prog.W_good.len hW)
  have hth : Hid (w2.there w.heap.size (k * 2) cv.toArray.size):=by show World.there _ _ _ _;rw [hcz];exact own_there HO3.out HLT.out
  have hsz : Hid ((Tryz.prog.info? 84).map (·.size) = some cv.toArray.size):=by show _ = _;rw [hcz];exact Prog.size_info
  have hon : Hid (cv.toArray.all (·.oneCell') = true):=all_oneCell_toArray (Prog.W_one hW)
  clear hx2 hW hcz
  go_wp2_with (refine wpList_store_mid rfl 84 _ _ rfl w.heap.size (k * 2) cv.toArray rfl rfl hth.out hsz.out hon.out ?_)
  go_roundw
  case rel =>
   have hl3 : cs.length = n * 2:=HO2.out.1
   have hkn:=HLT.out
   have hcl:=Prog.W_good.len HWW.out
   have cc : Chg (fun g => g = w.heap.size) w2 (w2.setCells w.heap.size (k * 2) cv):=Chg.cells (S:=fun g => g = w.heap.size) rfl cv _ (Chg.refl _ _)
   have hsize : w2.heap.size ≤ (w2.setCells w.heap.size (k * 2) cv).heap.size:=cc.size
   refine ⟨k + 1,putAt cs (k * 2) cv,_,by omega,by go_num,hid (own_cells cv (k * 2) HO3.out),hid (WRows.step (b:=wr.heap.size) Prog.W_good HU.out (fun g hg => hg.2) (Chg.trans (HX3.out.chg _) cc) (fun g hg q => by have h1:=hg.1;have h2 : g = w.heap.size:=q;omega) (fun g hg => ⟨hg.1,by have h:=hg.2;show g < (w2.setCells _ _ cv).heap.size;omega⟩) HXK.out (Prog.W_good.mono (Prog.W_good.chg HWW.out cc (fun g hg q => by have h1:=hg.1;have h2 : g = w.heap.size:=q;omega)) (fun g hg => ⟨⟨by have h1:=hg.1;omega,by have h:=hg.2;show g < (w2.setCells _ _ cv).heap.size;omega⟩,hg.1⟩)) (fun j hj => putAt_lt _ _ _ _ hj) (fun j hj => putAt_at _ _ _ _ (by omega) (by omega))),?_⟩
   exact (HX2.out.tr HX3.out).cells (Nat.le_refl _) cv _
  case measure => have h:=HLT.out;simp [intOf];omega
set_option maxRecDepth 8000 in
theorem eqProg_same (x : Prog) (cs cs' : List Value) (w : World) (S S' : Nat → Prop) (h : Prog.R w S cs x) (u : Prog.R w S' cs' x) :
  Calls Tryz.prog 101 #[.agg cs.toArray,.agg cs'.toArray] w fun e w' => e = .returned (.bool true) ∧ Ext w w':=by
 obtain ⟨A0,n0,c0,A1,n1,c1,rfl,⟨kh0,mh0,h0⟩,⟨kh1,mh1,h1⟩⟩:=h
 obtain ⟨B0,p0,d0,B1,p1,d1,rfl,⟨ku0,mu0,u0⟩,⟨ku1,mu1,u1⟩⟩:=u
 obtain rfl : n0 = p0:=by have a:=h0.flen GOp.cells_length (by omega);have b:=u0.flen GOp.cells_length (by omega);omega
 obtain rfl : n1 = p1:=by have a:=h1.1;have b:=u1.1;omega
 have H0:=hid h0
 have U0:=hid u0
 have H1:=hid h1
 have U1:=hid u1
 clear h0 u0 h1 u1
 show Calls Tryz.prog _ #[.agg #[.slice A0 n0 c0,.slice A1 n1 c1],.agg #[.slice B0 n0 d0,.slice B1 n1 d1]] w _
 go_enter Tryz.func101,Tryz.ntmps101
 go_wp2_with fail
 refine (eqGOpS_same _ _ _ _ _ _ _ S S' (H0.out.ext (((Ext.refl' w).al _).al _)) (U0.out.ext (((Ext.refl' w).al _).al _)) mh0).mono ?_
 rintro e w1 ⟨rfl,x1⟩
 have z1 : w.heap.size + 2 ≤ w1.heap.size:=by have h:=x1.size;(try simp at h);omega
 have ba1 : Hid (Bx w1 (w.heap.size) 84 #[.slice A0 n0 c0,.slice A1 n1 c1]):=Bx.ext ((Bx.new' _ _ _ rfl).al _) x1
 have bb1 : Hid (Bx w1 (w.heap.size + 1) 84 #[.slice B0 n0 d0,.slice B1 n1 d1]):=Bx.ext (Bx.new' _ _ _ (by simp)) x1
 have X1 : Ext w w1:=Ext.tr (((Ext.refl' w).al _).al _) x1
 clear x1
 have ca1_1 : w1.cell? ⟨w.heap.size,1,none⟩ = some (.slice A1 n1 c1):=ba1.out.cell 1
 have cb1_1 : w1.cell? ⟨w.heap.size + 1,1,none⟩ = some (.slice B1 n1 d1):=bb1.out.cell 1
 go_wp2_with fail
 refine (eqKidS_same _ _ _ _ _ x.kids_ _ S S' (SlR.ext Kid.R_good H1.out (X1)) (SlR.ext Kid.R_good U1.out (X1)) mh1).mono ?_
 rintro e w2 ⟨rfl,x2⟩
 have z2 : w.heap.size + 2 ≤ w2.heap.size:=by have h:=x2.size;(try simp at h);omega
 have ba2 : Hid (Bx w2 (w.heap.size) 84 #[.slice A0 n0 c0,.slice A1 n1 c1]):=Bx.ext (ba1.out) x2
 have bb2 : Hid (Bx w2 (w.heap.size + 1) 84 #[.slice B0 n0 d0,.slice B1 n1 d1]):=Bx.ext (bb1.out) x2
 have X2 : Ext w w2:=Ext.tr (X1) x2
 clear x2
 go_wp2
 go_ret
 exact ⟨rfl,X2⟩
set_option maxRecDepth 8000 in
theorem eqProgS_same (A B : Option Addr) (n c d : Nat) (l : List Prog) (w : World) (S S' : Nat → Prop) (ha : SlR Prog.R 2 w S A n l) (hb : SlR Prog.R 2 w S' B n l) (hm : n ≤ 9223372036854775807) :
  Calls Tryz.prog 47 #[.slice A n c,.slice B n d] w fun e w' => e = .returned (.bool true) ∧ Ext w w':=by
 have HA:=hid ha
 have HB:=hid hb
 clear ha hb
 go_enter Tryz.func47,Tryz.ntmps47
 go_wp2
 go_loopw [5] (fun i wr => ∃ (k : Nat),k ≤ n ∧ i = .int .i64 k ∧ Ext w wr) (fun i _ => n - (intOf i).toNat)
 case atStart => exact ⟨0,Nat.zero_le _,rfl,Ext.refl' _⟩
 case round =>
  obtain ⟨k,hk,rfl,hx⟩:=hrel
  have HX:=hid hx
  clear hx
  by_cases hlt : (k : Int) < (n : Int)
  rotate_left
  ·go_wp2
   go_ret
   exact ⟨rfl,HX.out⟩
  obtain ⟨b,o,rfl⟩:=HA.out.addr (by omega)
  obtain ⟨b2,o2,rfl⟩:=HB.out.addr (by omega)
  obtain ⟨x,row,hxk,-,hrw,hc⟩:=(HA.out.ext Prog.R_good HX.out).at_ (k:=k) (by omega)
  obtain ⟨y,row2,hyk,-,hrw2,hc2⟩:=(HB.out.ext Prog.R_good HX.out).at_ (k:=k) (by omega)
  rw [hxk] at hyk
  injection hyk with hyk
  subst hyk
  have rx:=hid (SlR.range Prog.R_good hrw hc)
  have ry:=hid (SlR.range Prog.R_good hrw2 hc2)
  have RX:=hid hrw
  have RY:=hid hrw2
  have l1 : Hid ((Tryz.prog.info? 84).map (·.size) = some row.length):=by show _ = _;rw [Prog.R_good.len hrw];exact Prog.size_info
  have l2 : Hid ((Tryz.prog.info? 84).map (·.size) = some row2.length):=by show _ = _;rw [Prog.R_good.len hrw2];exact Prog.size_info
  have KX : Hid (∀ wq,Ext wr wq → wq.rangeAt b (o + k * 2) row):=fun wq q j v hv => q.co (rx.out j v hv)
  have KY : Hid (∀ wq,Ext wr wq → wq.rangeAt b2 (o2 + k * 2) row2):=fun wq q j v hv => q.co (ry.out j v hv)
  have hk0 : (0 : Int) ≤ (k : Int):=by omega
  clear hrw hrw2 hc hc2 hxk
  go_wp2
  refine region_class (fun w' => Ext wr w') (by kernel_rfl) (by kernel_rfl) ((Ext.refl' _).dr) ?_
  repeat (first|go_big_quiet_skip|(go_big_quiet_want;first|(refine quiet_load 84 _ rfl b (o + k * 2) rfl row _ KX.out Tryz.underlying84 rfl l1.out ?_;(try simp only [Act.put,List.setIfInBounds_toArray,List.set_cons_zero,List.set_cons_succ]);go_big_quiet_on)|(refine quiet_load 84 _ rfl b2 (o2 + k * 2) rfl row2 _ KY.out Tryz.underlying84 rfl l2.out ?_;(try simp only [Act.put,List.setIfInBounds_toArray,List.set_cons_zero,List.set_cons_succ]);go_big_quiet_on)|(unfold Oper.quiet;apply Exists.intro;refine ⟨fun wq hq => ?_,?_⟩;(go_simp;first|done|rfl|(go_at_call 101;exact (eqProg_same x row row2 _ S S' (Prog.R_good.ext RX.out hq) (Prog.R_good.ext RY.out hq)).mono fun e w2 h2 => ⟨h2.1,hq.tr h2.2⟩));(try simp only [Act.put,List.setIfInBounds_toArray,List.set_cons_zero,List.set_cons_succ]);go_big_quiet_on)))
  refine wpQuiet_nil ?_
  intro wq hq
  have XE:=hid hq
  clear hq
  go_wp2
  go_roundw
  case rel => exact ⟨k + 1,by omega,by go_num,HX.out.tr XE.out⟩
  case measure => simp [intOf];omega
/-! ### Script -/
structure Script where
 start_ : Things
 progs_ : List Prog
 acts_ : List GAct
deriving Inhabited
def Script.wt (x : Script) : Nat:=Things.wt x.start_ + wtl Prog.wt x.progs_ + x.acts_.length
def Script.R (w : World) (S : Nat → Prop) (cs : List Value) (x : Script) : Prop:=∃ (v0 : List Value) (A1 : Option Addr) (n1 c1 : Nat) (A2 : Option Addr) (n2 c2 : Nat),cs = v0 ++ [.slice A1 n1 c1,.slice A2 n2 c2] ∧ Things.R w S v0 x.start_ ∧ (n1 ≤ c1 ∧ n1 ≤ 9223372036854775807 ∧ SlR Prog.R 2 w S A1 n1 x.progs_) ∧ (n2 ≤ c2 ∧ n2 ≤ 9223372036854775807 ∧ Sl w S 3 A2 n2 (x.acts_.flatMap GAct.cells))
def Script.W (w : World) (S : Nat → Prop) (cs : List Value) (x : Script) : Prop:=∃ (v0 : List Value) (A1 : Option Addr) (n1 c1 : Nat) (A2 : Option Addr) (n2 c2 : Nat) (lab : Nat → Nat),cs = v0 ++ [.slice A1 n1 c1,.slice A2 n2 c2] ∧ Things.W w (fun g => S g ∧ lab g = 0) v0 x.start_ ∧ (n1 ≤ c1 ∧ n1 ≤ 9223372036854775807 ∧ SlW Prog.W 84 2 w (fun g => S g ∧ lab g = 1) A1 n1 c1 x.progs_) ∧ (n2 ≤ c2 ∧ n2 ≤ 9223372036854775807 ∧ OwS w (fun g => S g ∧ lab g = 2) 161 3 A2 n2 c2 (x.acts_.flatMap GAct.cells))
theorem Script.R_good : Good Script.R 5:=⟨fun {_ _ _ _} h => by
  obtain ⟨v0,A1,n1,c1,A2,n2,c2,rfl,h0,⟨kh1,mh1,h1⟩,⟨kh2,mh2,h2⟩⟩:=h
  simp [Things.R_good.len h0],
 fun {_ _ _ _ _ _} h k hd => by
  obtain ⟨v0,A1,n1,c1,A2,n2,c2,rfl,h0,⟨kh1,mh1,h1⟩,⟨kh2,mh2,h2⟩⟩:=h
  exact ⟨_,_,_,_,_,_,_,rfl,Things.R_good.chg h0 k hd,⟨kh1,mh1,h1.chg Prog.R_good k hd⟩,⟨kh2,mh2,h2.chg k hd⟩⟩,
 fun {_ _ _ _ _} h hs => by
  obtain ⟨v0,A1,n1,c1,A2,n2,c2,rfl,h0,⟨kh1,mh1,h1⟩,⟨kh2,mh2,h2⟩⟩:=h
  exact ⟨_,_,_,_,_,_,_,rfl,Things.R_good.mono h0 hs,⟨kh1,mh1,h1.mono Prog.R_good hs⟩,⟨kh2,mh2,h2.mono hs⟩⟩⟩
theorem Script.W_good : Good Script.W 5:=⟨fun {_ _ _ _} h => by
  obtain ⟨v0,A1,n1,c1,A2,n2,c2,lab,rfl,h0,⟨kh1,mh1,h1⟩,⟨kh2,mh2,h2⟩⟩:=h
  simp [Things.W_good.len h0],
 fun {_ _ _ _ _ _} h k hd => by
  obtain ⟨v0,A1,n1,c1,A2,n2,c2,lab,rfl,h0,⟨kh1,mh1,h1⟩,⟨kh2,mh2,h2⟩⟩:=h
  exact ⟨_,_,_,_,_,_,_,lab,rfl,Things.W_good.chg h0 k fun i hi => hd i hi.1,⟨kh1,mh1,h1.chg Prog.W_good k fun i hi => hd i hi.1⟩,⟨kh2,mh2,h2.chg k fun i hi => hd i hi.1⟩⟩,
 fun {_ _ _ _ _} h hs => by
  obtain ⟨v0,A1,n1,c1,A2,n2,c2,lab,rfl,h0,⟨kh1,mh1,h1⟩,⟨kh2,mh2,h2⟩⟩:=h
  exact ⟨_,_,_,_,_,_,_,lab,rfl,Things.W_good.mono h0 fun i hi => ⟨hs i hi.1,hi.2⟩,⟨kh1,mh1,h1.mono Prog.W_good fun i hi => ⟨hs i hi.1,hi.2⟩⟩,⟨kh2,mh2,h2.mono fun i _ hi => ⟨hs i hi.1,hi.2⟩⟩⟩⟩
theorem Script.W_R {w : World} {S : Nat → Prop} {cs : List Value} {x : Script} (h : Script.W w S cs x) : Script.R w S cs x:=by
 obtain ⟨v0,A1,n1,c1,A2,n2,c2,lab,rfl,h0,⟨kh1,mh1,h1⟩,⟨kh2,mh2,h2⟩⟩:=h
 exact ⟨_,_,_,_,_,_,_,rfl,Things.R_good.mono (Things.W_R h0) fun i hi => hi.1,⟨kh1,mh1,(h1.slr Prog.R_good Prog.W_R).mono Prog.R_good fun i hi => hi.1⟩,⟨kh2,mh2,h2.sl.mono fun i hi => hi.1⟩⟩
theorem Script.R_cells {w : World} {S : Nat → Prop} {cs : List Value} {x : Script} (h : Script.R w S cs x) : ∃ (A0 : Option Addr) (n0 c0 : Nat) (A1 : Option Addr) (n1 c1 : Nat) (A2 : Option Addr) (n2 c2 : Nat) (A3 : Option Addr) (n3 c3 : Nat),cs = [.slice A0 n0 c0,.slice A1 n1 c1,.int .i64 x.start_.count_,.slice A2 n2 c2,.slice A3 n3 c3]:=by
 obtain ⟨v0,A1,n1,c1,A2,n2,c2,rfl,h0,⟨kh1,mh1,h1⟩,⟨kh2,mh2,h2⟩⟩:=h
 obtain ⟨P0_0,p0_0,q0_0,P0_1,p0_1,q0_1,rfl⟩:=Things.R_cells h0
 exact ⟨P0_0,p0_0,q0_0,P0_1,p0_1,q0_1,A1,n1,c1,A2,n2,c2,rfl⟩
theorem Script.W_cells {w : World} {S : Nat → Prop} {cs : List Value} {x : Script} (h : Script.W w S cs x) : ∃ (A0 : Option Addr) (n0 c0 : Nat) (A1 : Option Addr) (n1 c1 : Nat) (A2 : Option Addr) (n2 c2 : Nat) (A3 : Option Addr) (n3 c3 : Nat),cs = [.slice A0 n0 c0,.slice A1 n1 c1,.int .i64 x.start_.count_,.slice A2 n2 c2,.slice A3 n3 c3]:=by
 obtain ⟨v0,A1,n1,c1,A2,n2,c2,lab,rfl,h0,⟨kh1,mh1,h1⟩,⟨kh2,mh2,h2⟩⟩:=h
 obtain ⟨P0_0,p0_0,q0_0,P0_1,p0_1,q0_1,rfl⟩:=Things.W_cells h0
 exact ⟨P0_0,p0_0,q0_0,P0_1,p0_1,q0_1,A1,n1,c1,A2,n2,c2,rfl⟩
set_option maxRecDepth 8000 in
theorem opens_Script : Opens Tryz.prog 28 (fun w cs (x : Script) => Script.R w (fun _ => True) cs x):=by
 intro H enc w base spare held fuel cs x h
 obtain ⟨xs,n,_,_,hlen,hxl,hf⟩:=DataW.trod_struct Tryz.underlying28 h
 rw [show Tryz.prog.cellsOf 28 = 5 from by kernel_rfl] at hlen
 have hxl' : xs.length = 3:=hxl
 have h0 : DataW.trod enc Tryz.prog w base spare held n 24 ((cs.drop 0).take (Tryz.prog.cellsOf 24)) = xs[0]?:=hf 0 _ rfl
 rw [show Tryz.prog.cellsOf 24 = 3 from by kernel_rfl,List.getElem?_eq_getElem (show 0 < xs.length by omega)] at h0
 obtain ⟨f0,r0⟩:=opens_Things H enc w base spare held n _ _ h0
 have h1 : DataW.trod enc Tryz.prog w base spare held n 25 ((cs.drop 3).take (Tryz.prog.cellsOf 25)) = xs[1]?:=hf 1 _ rfl
 rw [show Tryz.prog.cellsOf 25 = 1 from by kernel_rfl,List.getElem?_eq_getElem (show 1 < xs.length by omega)] at h1
 obtain ⟨f1,A1,n1,c1,e1,g1,g1',s1⟩:=opens_deep Prog.R_good Tryz.underlying25 (by kernel_rfl) (by omega) opens_Prog H enc w base spare held n _ _ h1
 have h2 : DataW.trod enc Tryz.prog w base spare held n 26 ((cs.drop 4).take (Tryz.prog.cellsOf 26)) = xs[2]?:=hf 2 _ rfl
 rw [show Tryz.prog.cellsOf 26 = 1 from by kernel_rfl,List.getElem?_eq_getElem (show 2 < xs.length by omega)] at h2
 obtain ⟨f2,A2,n2,c2,e2,g2,g2',-,-,s2⟩:=opens_flat Tryz.underlying26 (by kernel_rfl) (by omega) GAct.cells_length opens_GAct H enc w base spare held n _ _ h2
 clear h0 h1 h2 hf h hxl hxl'
 match cs,hlen with
 | [q0,q1,q2,q3,q4],_ =>
  simp only [List.drop_succ_cons,List.drop_zero,List.take_succ_cons,List.take_zero,List.cons.injEq,and_true] at e1 e2
  simp only [List.drop_succ_cons,List.drop_zero,List.take_succ_cons,List.take_zero] at r0
  subst e1
  subst e2
  exact ⟨⟨f0,f1,f2⟩,_,_,_,_,_,_,_,rfl,r0,⟨g1,Nat.le_trans g1 g1',s1⟩,⟨g2,Nat.le_trans g2 g2',s2⟩⟩
set_option maxRecDepth 8000 in
theorem szScript_any (x : Script) (cs : List Value) (q : Int) (w : World) (S : Nat → Prop) (h : Script.R w S cs x) (hq0 : 0 ≤ q) (hq2 : q ≤ 1048576) :
  Calls Tryz.prog 5 #[.agg cs.toArray,.int .i64 q] w fun e w' => ∃ r : Int,e = .returned (.int .i64 r) ∧ Left r q (Script.wt x) ∧ Ext w w':=by
 obtain ⟨v0,A2,n2,c2,A3,n3,c3,rfl,h0,⟨kh1,mh1,h1⟩,⟨kh2,mh2,h2⟩⟩:=h
 obtain ⟨A0,n0,c0,A1,n1,c1,rfl⟩:=Things.R_cells h0
 have H0:=hid h0
 have H1:=hid h1
 have H2:=hid h2
 clear h0 h1 h2
 simp only [List.cons_append,List.nil_append]
 go_enter Tryz.func5,Tryz.ntmps5
 go_wp2_with fail
 refine (szThings_any x.start_ _ (q) _ S (Things.R_good.ext H0.out (((Ext.refl' w).al _))) hq0 hq2).mono ?_
 rintro e w1 ⟨r0,rfl,Q0,x1⟩
 replace Q0:=hid Q0
 have X1 : Ext w w1:=Ext.tr (((Ext.refl' w).al _)) x1
 have b1 : Hid (Bx w1 w.heap.size 28 #[.slice A0 n0 c0,.slice A1 n1 c1,.int .i64 x.start_.count_,.slice A2 n2 c2,.slice A3 n3 c3]):=Bx.ext (Bx.new' _ _ _ rfl) x1
 clear x1
 have R0 : Hid (Left r0 q (Things.wt x.start_)):=Q0
 by_cases g0 : 0 ≤ r0
 rotate_left
 ·have e0 : r0 = -1:=by have a:=R0.out;unfold Left at a;omega
  subst e0
  clear g0
  go_wp2
  go_ret
  exact ⟨-1,rfl,by have a:=R0.out;unfold Left Script.wt at *;omega,X1⟩
 have u0 : r0 ≤ 1048576:=by have a:=R0.out;unfold Left at a;omega
 have ca1_3 : w1.cell? ⟨w.heap.size,3,none⟩ = some (.slice A2 n2 c2):=b1.out.cell 3
 go_wp2_with fail
 refine (szProgS_any _ _ _ x.progs_ (r0) _ S (SlR.ext Prog.R_good H1.out (X1)) mh1 g0 u0).mono ?_
 rintro e w2 ⟨r1,rfl,Q1,x2⟩
 replace Q1:=hid Q1
 have X2 : Ext w w2:=Ext.tr (X1) x2
 have b2 : Hid (Bx w2 w.heap.size 28 #[.slice A0 n0 c0,.slice A1 n1 c1,.int .i64 x.start_.count_,.slice A2 n2 c2,.slice A3 n3 c3]):=Bx.ext (b1.out) x2
 clear x2
 have R1 : Hid (Left r1 q (Things.wt x.start_ + wtl Prog.wt x.progs_)):=by show Left _ _ _;have a:=R0.out;have b:=Q1.out;unfold Left at *;omega
 by_cases g1 : 0 ≤ r1
 rotate_left
 ·have e1 : r1 = -1:=by have a:=R1.out;unfold Left at a;omega
  subst e1
  clear g1
  go_wp2
  go_ret
  exact ⟨-1,rfl,by have a:=R1.out;unfold Left Script.wt at *;omega,X2⟩
 have u1 : r1 ≤ 1048576:=by have a:=R1.out;unfold Left at a;omega
 have ca2_4 : w2.cell? ⟨w.heap.size,4,none⟩ = some (.slice A3 n3 c3):=b2.out.cell 4
 go_wp2_with fail
 have L2:=hid (H2.out.flen GAct.cells_length (by omega))
 refine (szGActS_any _ _ _ (r1) _ g1 u1 mh2).mono ?_
 rintro e w3 ⟨rfl,xq⟩
 have x3:=Ext.of_eq xq
 clear xq
 have Q2 : Hid (Left (if (n3 : Int) ≤ r1 then r1 - n3 else -1) r1 (x.acts_.length)):=by show Left _ _ _;rw [L2.out];exact Left.of_if
 generalize (if (n3 : Int) ≤ r1 then r1 - n3 else -1) = r2 at Q2
 have X3 : Ext w w3:=Ext.tr (X2) x3
 have b3 : Hid (Bx w3 w.heap.size 28 #[.slice A0 n0 c0,.slice A1 n1 c1,.int .i64 x.start_.count_,.slice A2 n2 c2,.slice A3 n3 c3]):=Bx.ext (b2.out) x3
 clear x3
 have R2 : Hid (Left r2 q (Things.wt x.start_ + wtl Prog.wt x.progs_ + x.acts_.length)):=by show Left _ _ _;have a:=R1.out;have b:=Q2.out;unfold Left at *;omega
 by_cases g2 : 0 ≤ r2
 rotate_left
 ·have e2 : r2 = -1:=by have a:=R2.out;unfold Left at a;omega
  subst e2
  clear g2
  go_wp2
  go_ret
  exact ⟨-1,rfl,by have a:=R2.out;unfold Left Script.wt at *;omega,X3⟩
 have u2 : r2 ≤ 1048576:=by have a:=R2.out;unfold Left at a;omega
 go_wp2
 go_ret
 exact ⟨r2,rfl,R2.out,X3⟩
set_option maxRecDepth 8000 in
theorem toScript_any (x : Script) (cs : List Value) (w : World) (S : Nat → Prop) (h : Script.R w S cs x) (hw : Script.wt x ≤ 1048576) :
  Calls Tryz.prog 8 #[.agg cs.toArray] w fun e w' => ∃ cs',e = .returned (.agg cs'.toArray) ∧ Script.W w' (fun g => w.heap.size ≤ g ∧ g < w'.heap.size) cs' x ∧ Ext w w':=by
 obtain ⟨v0,A2,n2,c2,A3,n3,c3,rfl,h0,⟨kh1,mh1,h1⟩,⟨kh2,mh2,h2⟩⟩:=h
 obtain ⟨A0,n0,c0,A1,n1,c1,rfl⟩:=Things.R_cells h0
 unfold Script.wt at hw
 have W_0 : Things.wt x.start_ ≤ 1048576:=by omega
 have l1:=h1.1
 have t1:=wtl_len Prog.wt x.progs_
 have n_1 : n2 ≤ 1048576:=by omega
 have W_1 : wtl Prog.wt x.progs_ ≤ 1048576:=by omega
 have l2:=h2.flen GAct.cells_length (by omega)
 have n_2 : n3 ≤ 1048576:=by omega
 have H0:=hid h0
 have H1:=hid h1
 have H2:=hid h2
 clear h0 h1 h2 hw l1 l2 t1
 simp only [List.cons_append,List.nil_append]
 go_enter Tryz.func8,Tryz.ntmps8
 go_wp2_with fail
 refine (toThings_any x.start_ _ _ S (Things.R_good.ext H0.out ((((Ext.refl' w).al _).al _).al _)) W_0).mono ?_
 rintro e w1 ⟨cv,rfl,o0,x1⟩
 replace o0:=hid o0
 obtain ⟨B0,p0,d0,B1,p1,d1,rfl⟩:=Things.W_cells o0.out
 have z1 : w.heap.size + 3 ≤ w1.heap.size:=by have h:=x1.size;(try simp at h);omega
 have ba1 : Hid (Bx w1 (w.heap.size) 28 #[.slice A0 n0 c0,.slice A1 n1 c1,.int .i64 x.start_.count_,.slice A2 n2 c2,.slice A3 n3 c3]):=Bx.ext (((Bx.new' _ _ _ rfl).al _).al _) x1
 have br1 : Hid (Bx w1 (w.heap.size + 1) 48 #[.slice none 0 0,.slice none 0 0,.int .i64 0,.slice none 0 0,.slice none 0 0]):=Bx.ext ((Bx.new' _ _ _ (by simp)).al _) x1
 have bo1 : Hid (Bx w1 (w.heap.size + 2) 48 #[.slice none 0 0,.slice none 0 0,.int .i64 0,.slice none 0 0,.slice none 0 0]):=Bx.ext (Bx.new' _ _ _ (by simp)) x1
 have X1 : Ext w w1:=Ext.tr ((((Ext.refl' w).al _).al _).al _) x1
 replace o0 : Hid (Things.W w1 (fun g => w.heap.size + 3 ≤ g ∧ g < w1.heap.size) _ x.start_):=Things.W_good.mono o0.out (fun g hg => by have h1:=hg.1;have h2:=hg.2;constructor <;> (try simp at h1) <;> omega)
 clear x1
 have ca1_3 : w1.cell? ⟨w.heap.size,3,none⟩ = some (.slice A2 n2 c2):=ba1.out.cell 3
 have co1_0 : w1.cell? ⟨w.heap.size + 2,0,none⟩ = some (.slice none 0 0):=bo1.out.cell 0
 have co1_1 : w1.cell? ⟨w.heap.size + 2,1,none⟩ = some (.slice none 0 0):=bo1.out.cell 1
 have co1_2 : w1.cell? ⟨w.heap.size + 2,2,none⟩ = some (.int .i64 0):=bo1.out.cell 2
 have fo1_0 : w1.frozen? ⟨w.heap.size + 2,0,none⟩ = false:=bo1.out.frozen 0
 have fo1_1 : w1.frozen? ⟨w.heap.size + 2,1,none⟩ = false:=bo1.out.frozen 1
 have fo1_2 : w1.frozen? ⟨w.heap.size + 2,2,none⟩ = false:=bo1.out.frozen 2
 go_wp2_with fail
 refine (toProgS_any _ _ _ x.progs_ _ S (SlR.ext Prog.R_good H1.out ((((X1).sc2 _).sc2 _).sc2 _)) n_1 W_1).mono ?_
 rintro e w2 ⟨B2,d2,rfl,o1,x2⟩
 replace o1:=hid o1
 have z2 : w.heap.size + 3 ≤ w2.heap.size:=by have h:=x2.size;(try simp at h);omega
 have y2 : w1.heap.size ≤ w2.heap.size:=by have h:=x2.size;(try simp at h);exact h
 have ba2 : Hid (Bx w2 (w.heap.size) 28 #[.slice A0 n0 c0,.slice A1 n1 c1,.int .i64 x.start_.count_,.slice A2 n2 c2,.slice A3 n3 c3]):=Bx.ext ((((ba1.out).far2 _).far2 _).far2 _) x2
 have br2 : Hid (Bx w2 (w.heap.size + 1) 48 #[.slice none 0 0,.slice none 0 0,.int .i64 0,.slice none 0 0,.slice none 0 0]):=Bx.ext ((((br1.out).far2 _).far2 _).far2 _) x2
 have bo2 : Hid (Bx w2 (w.heap.size + 2) 48 #[.slice B0 p0 d0,.slice B1 p1 d1,.int .i64 x.start_.count_,.slice none 0 0,.slice none 0 0]):=Bx.ext (((((bo1.out).set_ _ _).set_ _ _).set_ _ _).cast (by first|rfl|simp only [List.setIfInBounds_toArray,List.set_cons_succ,List.set_cons_zero])) x2
 have X2 : Ext w w2:=Ext.tr ((((X1).sc2 _).sc2 _).sc2 _) x2
 replace o0:=hid (Things.W_good.chg o0.out (Chg.trans ((((Chg.refl (fun g => g = w.heap.size + 2) _).sc rfl _).sc rfl _).sc rfl _) (x2.chg _)) (fun g hg q => by have h1:=hg.1;have hq3 : g = w.heap.size + 2:=q;omega))
 replace o1 : Hid (SlW Prog.W 84 2 w2 (fun g => w1.heap.size ≤ g ∧ g < w2.heap.size) B2 n2 d2 x.progs_):=o1.out.mono Prog.W_good (fun g hg => by have h1:=hg.1;have h2:=hg.2;constructor <;> (try simp at h1) <;> omega)
 clear x2
 have ca2_4 : w2.cell? ⟨w.heap.size,4,none⟩ = some (.slice A3 n3 c3):=ba2.out.cell 4
 have co2_3 : w2.cell? ⟨w.heap.size + 2,3,none⟩ = some (.slice none 0 0):=bo2.out.cell 3
 have fo2_3 : w2.frozen? ⟨w.heap.size + 2,3,none⟩ = false:=bo2.out.frozen 3
 go_wp2_with fail
 refine (toGActS_any _ _ _ _ _ S (H2.out.ext ((X2).sc2 _)) n_2).mono ?_
 rintro e w3 ⟨B3,d3,rfl,o2,x3⟩
 have K2 : Hid (n3 ≤ d3):=own_cap o2
 replace o2:=hid (OwS.of_own o2)
 have z3 : w.heap.size + 3 ≤ w3.heap.size:=by have h:=x3.size;(try simp at h);omega
 have y3 : w2.heap.size ≤ w3.heap.size:=by have h:=x3.size;(try simp at h);exact h
 have ba3 : Hid (Bx w3 (w.heap.size) 28 #[.slice A0 n0 c0,.slice A1 n1 c1,.int .i64 x.start_.count_,.slice A2 n2 c2,.slice A3 n3 c3]):=Bx.ext ((ba2.out).far2 _) x3
 have br3 : Hid (Bx w3 (w.heap.size + 1) 48 #[.slice none 0 0,.slice none 0 0,.int .i64 0,.slice none 0 0,.slice none 0 0]):=Bx.ext ((br2.out).far2 _) x3
 have bo3 : Hid (Bx w3 (w.heap.size + 2) 48 #[.slice B0 p0 d0,.slice B1 p1 d1,.int .i64 x.start_.count_,.slice B2 n2 d2,.slice none 0 0]):=Bx.ext (((bo2.out).set_ _ _).cast (by first|rfl|simp only [List.setIfInBounds_toArray,List.set_cons_succ,List.set_cons_zero])) x3
 have X3 : Ext w w3:=Ext.tr ((X2).sc2 _) x3
 replace o0:=hid (Things.W_good.chg o0.out (Chg.trans ((Chg.refl (fun g => g = w.heap.size + 2) _).sc rfl _) (x3.chg _)) (fun g hg q => by have h1:=hg.1;have hq3 : g = w.heap.size + 2:=q;omega))
 replace o1:=hid (o1.out.chg Prog.W_good (Chg.trans ((Chg.refl (fun g => g = w.heap.size + 2) _).sc rfl _) (x3.chg _)) (fun g hg q => by have h1:=hg.1;have hq3 : g = w.heap.size + 2:=q;omega))
 replace o2 : Hid (OwS w3 (fun g => w2.heap.size ≤ g ∧ g < w3.heap.size) 161 3 B3 n3 d3 (x.acts_.flatMap GAct.cells)):=o2.out.mono (fun g _ hg => by have h1:=hg.1;have h2:=hg.2;constructor <;> (try simp at h1) <;> omega)
 clear x3
 have co3_0 : w3.cell? ⟨w.heap.size + 2,0,none⟩ = some (.slice B0 p0 d0):=bo3.out.cell 0
 have co3_1 : w3.cell? ⟨w.heap.size + 2,1,none⟩ = some (.slice B1 p1 d1):=bo3.out.cell 1
 have co3_2 : w3.cell? ⟨w.heap.size + 2,2,none⟩ = some (.int .i64 x.start_.count_):=bo3.out.cell 2
 have co3_3 : w3.cell? ⟨w.heap.size + 2,3,none⟩ = some (.slice B2 n2 d2):=bo3.out.cell 3
 have co3_4 : w3.cell? ⟨w.heap.size + 2,4,none⟩ = some (.slice none 0 0):=bo3.out.cell 4
 have fo3_4 : w3.frozen? ⟨w.heap.size + 2,4,none⟩ = false:=bo3.out.frozen 4
 have cr3_0 : w3.cell? ⟨w.heap.size + 1,0,none⟩ = some (.slice none 0 0):=br3.out.cell 0
 have fr3_0 : w3.frozen? ⟨w.heap.size + 1,0,none⟩ = false:=br3.out.frozen 0
 have cr3_1 : w3.cell? ⟨w.heap.size + 1,1,none⟩ = some (.slice none 0 0):=br3.out.cell 1
 have fr3_1 : w3.frozen? ⟨w.heap.size + 1,1,none⟩ = false:=br3.out.frozen 1
 have cr3_2 : w3.cell? ⟨w.heap.size + 1,2,none⟩ = some (.int .i64 0):=br3.out.cell 2
 have fr3_2 : w3.frozen? ⟨w.heap.size + 1,2,none⟩ = false:=br3.out.frozen 2
 have cr3_3 : w3.cell? ⟨w.heap.size + 1,3,none⟩ = some (.slice none 0 0):=br3.out.cell 3
 have fr3_3 : w3.frozen? ⟨w.heap.size + 1,3,none⟩ = false:=br3.out.frozen 3
 have cr3_4 : w3.cell? ⟨w.heap.size + 1,4,none⟩ = some (.slice none 0 0):=br3.out.cell 4
 have fr3_4 : w3.frozen? ⟨w.heap.size + 1,4,none⟩ = false:=br3.out.frozen 4
 go_wp2
 refine bodyPost_ret (v:=.agg #[.slice B0 p0 d0,.slice B1 p1 d1,.int .i64 x.start_.count_,.slice B2 n2 d2,.slice B3 n3 d3]) (by simp [results,Tryz.results8,go_sem,cr3_0,cr3_1,cr3_2,cr3_3,cr3_4]) rfl ⟨[.slice B0 p0 d0,.slice B1 p1 d1,.int .i64 x.start_.count_,.slice B2 n2 d2,.slice B3 n3 d3],rfl,?_,?_⟩
 ·refine (?_ : ∀ wz,Chg (fun g => g = w.heap.size + 2 ∨ g = w.heap.size + 1) w3 wz → Script.W wz (fun g => w.heap.size ≤ g ∧ g < wz.heap.size) [.slice B0 p0 d0,.slice B1 p1 d1,.int .i64 x.start_.count_,.slice B2 n2 d2,.slice B3 n3 d3] x) _ (((((((Chg.refl (fun g => g = w.heap.size + 2 ∨ g = w.heap.size + 1) _).sc2 _).sc2 _).sc2 _).sc2 _).sc2 _).sc2 _)
  intro wz cc
  have zz:=cc.size
  exact ⟨[.slice B0 p0 d0,.slice B1 p1 d1,.int .i64 x.start_.count_],B2,n2,d2,B3,n3,d3,lb [w1.heap.size,w2.heap.size,w3.heap.size],rfl,Things.W_good.mono (Things.W_good.chg o0.out cc (fun g hg q => by have h1:=hg.1;have hq3 : g = w.heap.size + 2 ∨ g = w.heap.size + 1:=q;omega)) (fun g hg => ⟨⟨by have h1:=hg.1;omega,by have h2:=hg.2;omega⟩,by have h1:=hg.1;have h2:=hg.2;exact lb_here (by omega)⟩),⟨SlW.cap o1.out,mh1,(o1.out.chg Prog.W_good cc (fun g hg q => by have h1:=hg.1;have hq3 : g = w.heap.size + 2 ∨ g = w.heap.size + 1:=q;omega)).mono Prog.W_good (fun g hg => ⟨⟨by have h1:=hg.1;omega,by have h2:=hg.2;omega⟩,by have h1:=hg.1;have h2:=hg.2;exact lb_next (by omega) (lb_here (by omega))⟩)⟩,⟨K2.out,mh2,(o2.out.chg cc (fun g hg q => by have h1:=hg.1;have hq3 : g = w.heap.size + 2 ∨ g = w.heap.size + 1:=q;omega)).mono (fun g _ hg => ⟨⟨by have h1:=hg.1;omega,by have h2:=hg.2;omega⟩,by have h1:=hg.1;have h2:=hg.2;exact lb_next (by omega) (lb_next (by omega) (lb_here (by omega)))⟩)⟩⟩
 ·exact ((((((X3).sc2 _).sc2 _).sc2 _).sc2 _).sc2 _).sc2 _
set_option maxRecDepth 8000 in
theorem eqScript_same (x : Script) (cs cs' : List Value) (w : World) (S S' : Nat → Prop) (h : Script.R w S cs x) (u : Script.R w S' cs' x) :
  Calls Tryz.prog 13 #[.agg cs.toArray,.agg cs'.toArray] w fun e w' => e = .returned (.bool true) ∧ Ext w w':=by
 obtain ⟨v0,A2,n2,c2,A3,n3,c3,rfl,h0,⟨kh1,mh1,h1⟩,⟨kh2,mh2,h2⟩⟩:=h
 obtain ⟨A0,n0,c0,A1,n1,c1,rfl⟩:=Things.R_cells h0
 obtain ⟨z0,B2,p2,d2,B3,p3,d3,rfl,u0,⟨ku1,mu1,u1⟩,⟨ku2,mu2,u2⟩⟩:=u
 obtain ⟨B0,p0,d0,B1,p1,d1,rfl⟩:=Things.R_cells u0
 obtain rfl : n2 = p2:=by have a:=h1.1;have b:=u1.1;omega
 obtain rfl : n3 = p3:=by have a:=h2.flen GAct.cells_length (by omega);have b:=u2.flen GAct.cells_length (by omega);omega
 have H0:=hid h0
 have U0:=hid u0
 have H1:=hid h1
 have U1:=hid u1
 have H2:=hid h2
 have U2:=hid u2
 clear h0 u0 h1 u1 h2 u2
 simp only [List.cons_append,List.nil_append]
 go_enter Tryz.func13,Tryz.ntmps13
 go_wp2_with fail
 refine (eqThings_same x.start_ _ _ _ S S' (Things.R_good.ext H0.out (((Ext.refl' w).al _).al _)) (Things.R_good.ext U0.out (((Ext.refl' w).al _).al _))).mono ?_
 rintro e w1 ⟨rfl,x1⟩
 have z1 : w.heap.size + 2 ≤ w1.heap.size:=by have h:=x1.size;(try simp at h);omega
 have ba1 : Hid (Bx w1 (w.heap.size) 48 #[.slice A0 n0 c0,.slice A1 n1 c1,.int .i64 x.start_.count_,.slice A2 n2 c2,.slice A3 n3 c3]):=Bx.ext ((Bx.new' _ _ _ rfl).al _) x1
 have bb1 : Hid (Bx w1 (w.heap.size + 1) 48 #[.slice B0 p0 d0,.slice B1 p1 d1,.int .i64 x.start_.count_,.slice B2 n2 d2,.slice B3 n3 d3]):=Bx.ext (Bx.new' _ _ _ (by simp)) x1
 have X1 : Ext w w1:=Ext.tr (((Ext.refl' w).al _).al _) x1
 clear x1
 have ca1_3 : w1.cell? ⟨w.heap.size,3,none⟩ = some (.slice A2 n2 c2):=ba1.out.cell 3
 have cb1_3 : w1.cell? ⟨w.heap.size + 1,3,none⟩ = some (.slice B2 n2 d2):=bb1.out.cell 3
 go_wp2_with fail
 refine (eqProgS_same _ _ _ _ _ x.progs_ _ S S' (SlR.ext Prog.R_good H1.out (X1)) (SlR.ext Prog.R_good U1.out (X1)) mh1).mono ?_
 rintro e w2 ⟨rfl,x2⟩
 have z2 : w.heap.size + 2 ≤ w2.heap.size:=by have h:=x2.size;(try simp at h);omega
 have ba2 : Hid (Bx w2 (w.heap.size) 48 #[.slice A0 n0 c0,.slice A1 n1 c1,.int .i64 x.start_.count_,.slice A2 n2 c2,.slice A3 n3 c3]):=Bx.ext (ba1.out) x2
 have bb2 : Hid (Bx w2 (w.heap.size + 1) 48 #[.slice B0 p0 d0,.slice B1 p1 d1,.int .i64 x.start_.count_,.slice B2 n2 d2,.slice B3 n3 d3]):=Bx.ext (bb1.out) x2
 have X2 : Ext w w2:=Ext.tr (X1) x2
 clear x2
 have ca2_4 : w2.cell? ⟨w.heap.size,4,none⟩ = some (.slice A3 n3 c3):=ba2.out.cell 4
 have cb2_4 : w2.cell? ⟨w.heap.size + 1,4,none⟩ = some (.slice B3 n3 d3):=bb2.out.cell 4
 go_wp2_with fail
 refine (eqGActS_same _ _ _ _ _ _ _ S S' (H2.out.ext (X2)) (U2.out.ext (X2)) mh2).mono ?_
 rintro e w3 ⟨rfl,x3⟩
 have z3 : w.heap.size + 2 ≤ w3.heap.size:=by have h:=x3.size;(try simp at h);omega
 have ba3 : Hid (Bx w3 (w.heap.size) 48 #[.slice A0 n0 c0,.slice A1 n1 c1,.int .i64 x.start_.count_,.slice A2 n2 c2,.slice A3 n3 c3]):=Bx.ext (ba2.out) x3
 have bb3 : Hid (Bx w3 (w.heap.size + 1) 48 #[.slice B0 p0 d0,.slice B1 p1 d1,.int .i64 x.start_.count_,.slice B2 n2 d2,.slice B3 n3 d3]):=Bx.ext (bb2.out) x3
 have X3 : Ext w w3:=Ext.tr (X2) x3
 clear x3
 go_wp2
 go_ret
 exact ⟨rfl,X3⟩

end Go.Proofs.YtoegjiigaoanbaaGreat
namespace Go.Proofs.YtoegjiigaoanbaaGreat
open Go.RowKit Go.Deep
set_option linter.unnecessarySimpa false
set_option maxHeartbeats 400000000
open Go.Lib (hid)
set_option linter.unusedSimpArgs false
set_option linter.unusedVariables false
theorem Mine.step_pour {P : Program} {ops : Array Oper} {o : Oper} {a : Act} {Q : Exit → Act → World → Prop} {b w : World} {rs : List Res} {K : Act → World → Prop} {E : Prop} (M : Mine b w rs) (hgd : o.guard = none) (s x : Operand) (t : TypeId) (ho : o.op = .call { callee:=.builtin .append,args:=#[s,x],argTypes:=#[t,t] })
  (e : TypeId) (z : Value) (size bytes : Nat) (ht : P.underlying t = some (.slice e)) (hf : (P.info? e).map (fun i => (i.zero,i.size,i.bytes)) = some (some z,size,bytes)) (hzs : z.cells.size = size) (hsz : 0 < size)
  (i : Nat) {A0 : Option Addr} {n0 c0 : Nat} {xs : List Value} (hi : rs[i]? = some (.row e size A0 n0 c0 xs)) (hs : a.eval s = .slice A0 n0 c0)
  (S : Nat → Prop) (A : Option Addr) (m c : Nat) (news : List Value) (hx : a.eval x = .slice A m c) (hr : Sl w S size A m news) (h1 : ∀ u ∈ news,u.oneCell' = true)
  (hbytes : (n0 + m) * bytes ≤ 140737488355328) (h63 : n0 + m ≤ maxLen)
  (h : ∀ A' c' w',Mine b w' (rs.set i (.row e size A' (n0 + m) c' (xs ++ news))) → K (a.put o.dst (.slice A' (n0 + m) c')) w') :
  if Region.wanted o (yielded ops a.tmps) = true then Oper.wp P o a w K Q else E:=by
 have hw : Region.wanted o (yielded ops a.tmps) = true:=by simp [Region.wanted,hgd]
 rw [if_pos hw]
 obtain ⟨i0,hf,hz0,hz1,hz2⟩:=info_parts hf
 obtain ⟨v',w',hrun,h2,h3,h5⟩:=run_pour (P:=P) w b.heap.size t o.type e i0 z size bytes ht hf hz0 hz1 hz2 hzs hsz (.slice A0 n0 c0) n0 xs (M.row_at i hi) S A m c news hr h1 h63 hbytes M.size
 obtain ⟨A',c',rfl⟩ : ∃ A' c',v' = .slice A' (n0 + m) c':=by
  rcases h2.2 with ⟨hv,h0⟩|⟨g,cap,cur,hv,_⟩
  ·exact ⟨none,0,by rw [hv,h0]⟩
  ·exact ⟨_,_,hv⟩
 unfold Oper.wp execOp
 simp [ho,resolve,invoke,builtin,hs,hx,hrun,Result.andThen]
 refine h A' c' w' (M.swap hi ((Chg.refl _ w).grown h3 (fun k hk => .inl hk)) (fun g hg => hg) h2 fun g hg => ?_)
 rcases h5 with q|q
 ·exact .inl (by show (Value.slice A0 n0 c0).ownBlock = some g;rw [← q];exact hg)
 ·right
  have hg' : (Value.slice A' (n0 + m) c').ownBlock = some g:=hg
  rw [q] at hg'
  injection hg' with hg'
  omega

set_option maxRecDepth 4000 in
theorem copyThings_m (A0 : Option Addr) (n0 c0 : Nat) (A1 : Option Addr) (n1 c1 : Nat) (x : Things) (w : World) (S0 S1 : Nat → Prop) (h0 : Sl w S0 1 A0 n0 (ints x.cells_)) (hn0 : n0 ≤ 1048576) (h1 : Sl w S1 1 A1 n1 (ints x.map_)) (hn1 : n1 ≤ 1048576) :
  Calls Tryz.prog 99 #[.agg #[.slice A0 n0 c0,.slice A1 n1 c1,.int .i64 x.count_]] w fun e w' => ∃ B0 d0 B1 d1,e = .returned (.agg #[.slice B0 n0 d0,.slice B1 n1 d1,.int .i64 x.count_]) ∧ Mine w w' [.row 3 1 B0 n0 d0 (ints x.cells_),.row 3 1 B1 n1 d1 (ints x.map_)]:=by
 have HA:=hid h0
 have HB:=hid h1
 clear h0 h1
 have M:=hid (Mine.refl w)
 go_enter Tryz.func99,Tryz.ntmps99
 go_wp2_with (((with_reducible refine zN ?_);first|(refine Mine.wp_box M.out rfl 42 _ rfl _ rfl ?_;intro ga w' M';(try simp only [zr_,zm_] at M');replace M:=hid M';clear M';(try simp only [zr_,zm_]))|(refine Mine.wp_alloc M.out rfl 42 rfl (.agg #[.slice none 0 0,.slice none 0 0,.int .i64 0]) (by kernel_rfl) ?_;intro gr w' M';(try simp only [Value.cells,zr_,zm_] at M');replace M:=hid M';clear M';(try simp only [zr_,zm_]))))
 refine zRH M.out 8 ?_
 intro w' M'
 replace M:=hid M'
 clear M'
 refine zXT 0 ?_;(try simp only [zs_,zl_])
 refine zT 1 ?_;intro K hK;((refine zD 1 ?_;(try simp only [zr_,zm_]);go_big_quiet_on))
 refine zXT 3 ?_;(try simp only [zs_,zl_])
 refine zT 4 ?_;intro K hK;((refine zD 1 ?_;(try simp only [zr_,zm_]);go_big_quiet_on))
 refine zXT 6 ?_;(try simp only [zs_,zl_])
 refine zT 7 ?_;intro K hK;((refine zD 1 ?_;(try simp only [zr_,zm_]);go_big_quiet_on))
 refine zNy 2 (fun K hK => ?_)
 go_simp
 go_at_call 157
 refine (copyInts_any A0 n0 c0 x.cells_ _ S0 (HA.out.ext M.out.ext) hn0).mono ?_
 rintro e w5 ⟨Ba,da,rfl,o9,x9⟩
 replace M:=hid (M.out.own o9 x9)
 clear o9 x9
 refine hK.out _ _ (M.out.tail) ?_
 clear hK K
 (try simp only [zs_,zl_])
 refine zNy 5 (fun K hK => ?_)
 go_simp
 go_at_call 157
 refine (copyInts_any A1 n1 c1 x.map_ _ S1 (HB.out.ext M.out.ext) hn1).mono ?_
 rintro e w5 ⟨Bb,db,rfl,o9,x9⟩
 replace M:=hid (M.out.own o9 x9)
 clear o9 x9
 refine hK.out _ _ (M.out.tail.tail) ?_
 clear hK K
 (try simp only [zs_,zl_])
 refine HQ.end_ (by kernel_rfl) ?_
 simp only [List.drop_succ_cons,List.drop_zero]
 go_wp2_with (((with_reducible refine zN ?_);first|(refine zSs M.out 42 2 ?_;intro w' M';(try simp only [zr_,zm_] at M');replace M:=hid M';clear M')))
 refine bodyPost_ret (M.out.results_cell Tryz.results99 _ 2 rfl rfl _ Tryz.underlying42 (by rfl) (by kernel_rfl)) rfl ?_
 exact ⟨_,_,_,_,rfl,(M.out.perm (List.Perm.swap _ _ _)).sub (sk_ (sk_ (sd_ (sd_ s0_))))⟩
set_option maxRecDepth 4000 in
theorem l7Copy_m (A0 : Option Addr) (n0 c0 : Nat) (A1 : Option Addr) (n1 c1 : Nat) (x : Things) (w : World) (S0 S1 : Nat → Prop) (h0 : Sl w S0 1 A0 n0 (ints x.cells_)) (hn0 : n0 ≤ 1048576) (h1 : Sl w S1 1 A1 n1 (ints x.map_)) (hn1 : n1 ≤ 1048576) :
  Calls Tryz.prog 82 #[.agg #[.slice A0 n0 c0,.slice A1 n1 c1,.int .i64 x.count_]] w fun e w' => ∃ B0 d0 B1 d1,e = .returned (.agg #[.slice B0 n0 d0,.slice B1 n1 d1,.int .i64 x.count_]) ∧ Mine w w' [.row 3 1 B0 n0 d0 (ints x.cells_),.row 3 1 B1 n1 d1 (ints x.map_)]:=by
 have HA:=hid h0
 have HB:=hid h1
 clear h0 h1
 have M:=hid (Mine.refl w)
 go_enter Tryz.func82,Tryz.ntmps82
 go_wp2_with (((with_reducible refine zN ?_);first|(refine Mine.wp_box M.out rfl 42 _ rfl _ rfl ?_;intro ga w' M';(try simp only [zr_,zm_] at M');replace M:=hid M';clear M';(try simp only [zr_,zm_]))|(refine Mine.wp_alloc M.out rfl 42 rfl (.agg #[.slice none 0 0,.slice none 0 0,.int .i64 0]) (by kernel_rfl) ?_;intro gr w' M';(try simp only [Value.cells,zr_,zm_] at M');replace M:=hid M';clear M';(try simp only [zr_,zm_]))))
 refine zRH M.out 10 ?_
 intro w' M'
 replace M:=hid M'
 clear M'
 refine zXT 1 ?_;(try simp only [zs_,zl_])
 refine zT 2 ?_;intro K hK;((refine zD 1 ?_;(try simp only [zr_,zm_]);go_big_quiet_on))
 refine zXT 5 ?_;(try simp only [zs_,zl_])
 refine zT 6 ?_;intro K hK;((refine zD 1 ?_;(try simp only [zr_,zm_]);go_big_quiet_on))
 refine zXT 8 ?_;(try simp only [zs_,zl_])
 refine zT 9 ?_;intro K hK;((refine zD 1 ?_;(try simp only [zr_,zm_]);go_big_quiet_on))
 refine HQ.noisy (rs:=[0,4]) (by kernel_rfl) (by simp) (AllG.cons rfl (Nat.le_of_ble_eq_true rfl) (fun K hK => ?_) (AllG.cons rfl (Nat.le_of_ble_eq_true rfl) (fun K hK => ?_) AllG.nil))
 ·skip
  go_simp
  replace M:=hid (M.out.own (own_lit0 _ 3 1) ((Ext.refl' _).al _))
  (try simp only [World.heap_alloc_size] at M)
  refine hK.out _ _ (M.out.tail) ?_
  clear hK K
  (try simp only [zs_,zl_])
  refine HQ.noisy (rs:=[3,4]) (by kernel_rfl) (by simp) (AllG.cons rfl (Nat.le_of_ble_eq_true rfl) (fun K hK => ?_) (AllG.cons rfl (Nat.le_of_ble_eq_true rfl) (fun K hK => ?_) AllG.nil))
  ·skip
   refine Mine.step_pour M.out rfl _ _ 22 rfl 3 _ _ _ Tryz.underlying22 Tryz.infoInt rfl (by omega) 0 rfl rfl S0 A0 n0 c0 (ints x.cells_) rfl (HA.out.ext M.out.ext) (ints_one _) (by omega) (by unfold maxLen;omega) ?_
   intro A2 c2 w' M'
   (try simp only [zr_,zm_,List.nil_append,Nat.zero_add] at M')
   (try simp only [zr_,zm_,List.nil_append,Nat.zero_add])
   replace M:=hid M'
   clear M'
   refine hK.out _ _ (M.out.tail) ?_
   clear hK K
   (try simp only [zs_,zl_])
   refine zNy 4 (fun K hK => ?_)
   go_simp
   replace M:=hid (M.out.own (own_lit0 _ 3 1) ((Ext.refl' _).al _))
   (try simp only [World.heap_alloc_size] at M)
   refine hK.out _ _ (M.out.tail.tail) ?_
   clear hK K
   (try simp only [zs_,zl_])
   refine zNy 7 (fun K hK => ?_)
   refine Mine.step_pour M.out rfl _ _ 22 rfl 3 _ _ _ Tryz.underlying22 Tryz.infoInt rfl (by omega) 0 rfl rfl S1 A1 n1 c1 (ints x.map_) rfl (HB.out.ext M.out.ext) (ints_one _) (by omega) (by unfold maxLen;omega) ?_
   intro A2 c2 w' M'
   (try simp only [zr_,zm_,List.nil_append,Nat.zero_add] at M')
   (try simp only [zr_,zm_,List.nil_append,Nat.zero_add])
   replace M:=hid M'
   clear M'
   refine hK.out _ _ (M.out.tail.tail) ?_
   clear hK K
   (try simp only [zs_,zl_])
   refine HQ.end_ (by kernel_rfl) ?_
   simp only [List.drop_succ_cons,List.drop_zero]
   go_wp2_with (((with_reducible refine zN ?_);first|(refine zSs M.out 42 2 ?_;intro w' M';(try simp only [zr_,zm_] at M');replace M:=hid M';clear M')))
   refine bodyPost_ret (M.out.results_cell Tryz.results82 _ 2 rfl rfl _ Tryz.underlying42 (by rfl) (by kernel_rfl)) rfl ?_
   exact ⟨_,_,_,_,rfl,(M.out.perm (List.Perm.swap _ _ _)).sub (sk_ (sk_ (sd_ (sd_ s0_))))⟩
  ·skip
   go_simp
   replace M:=hid (M.out.own (own_lit0 _ 3 1) ((Ext.refl' _).al _))
   (try simp only [World.heap_alloc_size] at M)
   refine hK.out _ _ (M.out.tail.tail) ?_
   clear hK K
   (try simp only [zs_,zl_])
   refine zNy 3 (fun K hK => ?_)
   refine Mine.step_pour M.out rfl _ _ 22 rfl 3 _ _ _ Tryz.underlying22 Tryz.infoInt rfl (by omega) 1 rfl rfl S0 A0 n0 c0 (ints x.cells_) rfl (HA.out.ext M.out.ext) (ints_one _) (by omega) (by unfold maxLen;omega) ?_
   intro A2 c2 w' M'
   (try simp only [zr_,zm_,List.nil_append,Nat.zero_add] at M')
   (try simp only [zr_,zm_,List.nil_append,Nat.zero_add])
   replace M:=hid M'
   clear M'
   refine hK.out _ _ (M.out.tail.tail) ?_
   clear hK K
   (try simp only [zs_,zl_])
   refine zNy 7 (fun K hK => ?_)
   refine Mine.step_pour M.out rfl _ _ 22 rfl 3 _ _ _ Tryz.underlying22 Tryz.infoInt rfl (by omega) 0 rfl rfl S1 A1 n1 c1 (ints x.map_) rfl (HB.out.ext M.out.ext) (ints_one _) (by omega) (by unfold maxLen;omega) ?_
   intro A2 c2 w' M'
   (try simp only [zr_,zm_,List.nil_append,Nat.zero_add] at M')
   (try simp only [zr_,zm_,List.nil_append,Nat.zero_add])
   replace M:=hid M'
   clear M'
   refine hK.out _ _ (M.out.tail.tail) ?_
   clear hK K
   (try simp only [zs_,zl_])
   refine HQ.end_ (by kernel_rfl) ?_
   simp only [List.drop_succ_cons,List.drop_zero]
   go_wp2_with (((with_reducible refine zN ?_);first|(refine zSs M.out 42 2 ?_;intro w' M';(try simp only [zr_,zm_] at M');replace M:=hid M';clear M')))
   refine bodyPost_ret (M.out.results_cell Tryz.results82 _ 2 rfl rfl _ Tryz.underlying42 (by rfl) (by kernel_rfl)) rfl ?_
   exact ⟨_,_,_,_,rfl,(M.out.perm (List.Perm.swap _ _ _)).sub (sk_ (sk_ (sd_ (sd_ s0_))))⟩
 ·skip
  go_simp
  replace M:=hid (M.out.own (own_lit0 _ 3 1) ((Ext.refl' _).al _))
  (try simp only [World.heap_alloc_size] at M)
  refine hK.out _ _ (M.out.tail) ?_
  clear hK K
  (try simp only [zs_,zl_])
  refine zNy 0 (fun K hK => ?_)
  go_simp
  replace M:=hid (M.out.own (own_lit0 _ 3 1) ((Ext.refl' _).al _))
  (try simp only [World.heap_alloc_size] at M)
  refine hK.out _ _ (M.out.tail.tail) ?_
  clear hK K
  (try simp only [zs_,zl_])
  refine zNy 3 (fun K hK => ?_)
  refine Mine.step_pour M.out rfl _ _ 22 rfl 3 _ _ _ Tryz.underlying22 Tryz.infoInt rfl (by omega) 0 rfl rfl S0 A0 n0 c0 (ints x.cells_) rfl (HA.out.ext M.out.ext) (ints_one _) (by omega) (by unfold maxLen;omega) ?_
  intro A2 c2 w' M'
  (try simp only [zr_,zm_,List.nil_append,Nat.zero_add] at M')
  (try simp only [zr_,zm_,List.nil_append,Nat.zero_add])
  replace M:=hid M'
  clear M'
  refine hK.out _ _ (M.out.tail.tail) ?_
  clear hK K
  (try simp only [zs_,zl_])
  refine zNy 7 (fun K hK => ?_)
  refine Mine.step_pour M.out rfl _ _ 22 rfl 3 _ _ _ Tryz.underlying22 Tryz.infoInt rfl (by omega) 1 rfl rfl S1 A1 n1 c1 (ints x.map_) rfl (HB.out.ext M.out.ext) (ints_one _) (by omega) (by unfold maxLen;omega) ?_
  intro A2 c2 w' M'
  (try simp only [zr_,zm_,List.nil_append,Nat.zero_add] at M')
  (try simp only [zr_,zm_,List.nil_append,Nat.zero_add])
  replace M:=hid M'
  clear M'
  refine hK.out _ _ (M.out.tail.tail) ?_
  clear hK K
  (try simp only [zs_,zl_])
  refine HQ.end_ (by kernel_rfl) ?_
  simp only [List.drop_succ_cons,List.drop_zero]
  go_wp2_with (((with_reducible refine zN ?_);first|(refine zSs M.out 42 2 ?_;intro w' M';(try simp only [zr_,zm_] at M');replace M:=hid M';clear M')))
  refine bodyPost_ret (M.out.results_cell Tryz.results82 _ 2 rfl rfl _ Tryz.underlying42 (by rfl) (by kernel_rfl)) rfl ?_
  exact ⟨_,_,_,_,rfl,M.out.sub (sk_ (sk_ (sd_ (sd_ s0_))))⟩

end Go.Proofs.YtoegjiigaoanbaaGreat
namespace Go.Proofs.YtoegjiigaoanbaaGreat
open Go.RowKit
set_option linter.unnecessarySimpa false
set_option maxHeartbeats 400000000
open Go.Lib (hid)

theorem l1In_any (x lo hi : Int) (w : World) :
  Calls Tryz.prog 132 #[.int .i64 x,.int .i64 lo,.int .i64 hi] w fun e w' => e = .returned (.bool (decide (lo ≤ x ∧ x ≤ hi))) ∧ w = w':=by
 by_cases h1 : lo ≤ x
 all_goals by_cases h2 : x ≤ hi
 all_goals go_enter Tryz.func132,Tryz.ntmps132
 all_goals go_wp2
 all_goals go_ret
 all_goals simp [h1,h2]

theorem within_any (x lo hi : Int) (w : World) :
  Calls Tryz.prog 175 #[.int .i64 x,.int .i64 lo,.int .i64 hi] w fun e w' => e = .returned (.bool (decide (lo ≤ x ∧ x ≤ hi))) ∧ w = w':=by
 by_cases h1 : lo ≤ x
 all_goals by_cases h2 : x ≤ hi
 all_goals go_enter Tryz.func175,Tryz.ntmps175
 all_goals go_wp2
 all_goals go_ret
 all_goals simp [h1,h2]

end Go.Proofs.YtoegjiigaoanbaaGreat
namespace Go.Proofs.YtoegjiigaoanbaaGreat
open Go.RowKit Go.Deep
set_option linter.unnecessarySimpa false
set_option maxHeartbeats 400000000
open Go.Lib (hid)

theorem l3Cell_any (x : Int) (w : World) :
  Calls Tryz.prog 219 #[.int .i64 x] w fun e w' => e = .returned (.bool (decide (0 ≤ x ∧ x ≤ 7))) ∧ w = w':=by
 go_enter Tryz.func219,Tryz.ntmps219
 go_wp2_with (go_at_call 132;refine (l1In_any _ _ _ _).mono ?_;rintro e w' ⟨rfl,rfl⟩)
 go_ret
 simp
theorem isCell_any (x : Int) (w : World) :
  Calls Tryz.prog 225 #[.int .i64 x] w fun e w' => e = .returned (.bool (decide (0 ≤ x ∧ x ≤ 7))) ∧ w = w':=by
 go_enter Tryz.func225,Tryz.ntmps225
 go_wp2_with (go_at_call 175;refine (within_any _ _ _ _).mono ?_;rintro e w' ⟨rfl,rfl⟩)
 go_ret
 simp
theorem l3Val_any (x : Int) (w : World) :
  Calls Tryz.prog 131 #[.int .i64 x] w fun e w' => e = .returned (.bool (decide (0 ≤ x ∧ x ≤ 65535))) ∧ w = w':=by
 go_enter Tryz.func131,Tryz.ntmps131
 go_wp2_with (go_at_call 132;refine (l1In_any _ _ _ _).mono ?_;rintro e w' ⟨rfl,rfl⟩)
 go_ret
 simp
theorem isValue_any (x : Int) (w : World) :
  Calls Tryz.prog 150 #[.int .i64 x] w fun e w' => e = .returned (.bool (decide (0 ≤ x ∧ x ≤ 65535))) ∧ w = w':=by
 go_enter Tryz.func150,Tryz.ntmps150
 go_wp2_with (go_at_call 175;refine (within_any _ _ _ _).mono ?_;rintro e w' ⟨rfl,rfl⟩)
 go_ret
 simp
end Go.Proofs.YtoegjiigaoanbaaGreat
namespace Go.Proofs.YtoegjiigaoanbaaGreat
open Go.RowKit Go.Deep
set_option linter.unnecessarySimpa false
set_option maxHeartbeats 400000000
open Go.Lib (hid)

def isVal (_ : Nat) (x : Int) : Prop:=0 ≤ x ∧ x ≤ 65535
noncomputable def valsOk (l : List Int) : Bool:=dec (l.length = 8 ∧ AllTo isVal l l.length)
theorem valsOk_len {l : List Int} (h : valsOk l = true) : l.length = 8:=(dec_true h).1

theorem l3Vals_any (A : Option Addr) (n c : Nat) (l : List Int) (w : World) (S : Nat → Prop) (hs : Sl w S 1 A n (ints l)) (hm : n ≤ 1048576) :
  Calls Tryz.prog 130 #[.slice A n c] w fun e w' => e = .returned (.bool (valsOk l)) ∧ w = w':=by
 have H:=hid hs.len
 by_cases h8 : n = 8
 rotate_left
 ·have b8 : ((n : Int) != 8) = true:=by simp;omega
  have H8:=hid h8
  clear h8
  go_enter Tryz.func130,Tryz.ntmps130
  go_wp2
  go_ret
  exact ⟨by rw [valsOk,dec_no fun h => H8.out (by rw [← H.out];exact h.1)];rfl,rfl⟩
 have b8 : ((n : Int) != 8) = false:=by simp;omega
 have H8:=hid h8
 clear h8
 go_enter Tryz.func130,Tryz.ntmps130
 go_wp2
 go_loop [3] (fun i => ∃ k : Nat,k ≤ n ∧ i = .int .i64 k ∧ AllTo isVal l k) (fun i => n - (intOf i).toNat)
 case atStart => exact ⟨0,Nat.zero_le _,rfl,AllTo.zero _ _⟩
 case round =>
  obtain ⟨k,hk,rfl,hup⟩:=hrel
  have HU:=hid hup
  clear hup
  by_cases hlt : k < n
  ·obtain ⟨b,o,x,rfl,hb,hx,hc⟩:=hs.int_at hlt
   have HX:=hid hx
   clear hx
   by_cases h0 : 0 ≤ x ∧ x ≤ 65535
   ·have d0 : decide (0 ≤ x ∧ x ≤ 65535) = true:=by simpa using h0
    go_wp2_with (go_at_call 131;refine (l3Val_any _ _).mono ?_;rintro e w' ⟨rfl,rfl⟩)
    go_round
    case rel => exact ⟨k + 1,by omega,by go_num,HU.out.succ HX.out h0⟩
    case measure => simp [intOf];omega
   ·have d0 : decide (0 ≤ x ∧ x ≤ 65535) = false:=by simpa using h0
    go_wp2_with (go_at_call 131;refine (l3Val_any _ _).mono ?_;rintro e w' ⟨rfl,rfl⟩)
    go_ret
    exact ⟨by rw [valsOk,dec_no fun h => AllTo.not HX.out (by rw [H.out];exact hlt) h0 h.2];rfl,rfl⟩
  ·go_wp2
   go_ret
   have e : k = l.length:=by rw [H.out];omega
   exact ⟨by rw [valsOk,dec_yes ⟨by rw [H.out];exact H8.out,by rw [← e];exact HU.out⟩];rfl,rfl⟩

theorem areValues_any (A : Option Addr) (n c : Nat) (l : List Int) (w : World) (S : Nat → Prop) (hs : Sl w S 1 A n (ints l)) (hm : n ≤ 1048576) :
  Calls Tryz.prog 148 #[.slice A n c,.int .i64 8] w fun e w' => e = .returned (.bool (valsOk l)) ∧ w = w':=by
 have H:=hid hs.len
 go_enter Tryz.func148,Tryz.ntmps148
 go_wp2
 go_loop [9] (fun i => ∃ k : Nat,k ≤ n ∧ i = .int .i64 k ∧ AllTo isVal l k) (fun i => n - (intOf i).toNat)
 case atStart => exact ⟨0,Nat.zero_le _,rfl,AllTo.zero _ _⟩
 case round =>
  obtain ⟨k,hk,rfl,hup⟩:=hrel
  have HU:=hid hup
  clear hup
  by_cases hlt : k < n
  ·obtain ⟨b,o,x,rfl,hb,hx,hc⟩:=hs.int_at hlt
   have HX:=hid hx
   clear hx
   by_cases h0 : 0 ≤ x ∧ x ≤ 65535
   ·have d0 : decide (0 ≤ x ∧ x ≤ 65535) = true:=by simpa using h0
    go_wp2_with (go_at_call 150;refine (isValue_any _ _).mono ?_;rintro e w' ⟨rfl,rfl⟩)
    go_round
    case rel => exact ⟨k + 1,by omega,by go_num,HU.out.succ HX.out h0⟩
    case measure => simp [intOf];omega
   ·have d0 : decide (0 ≤ x ∧ x ≤ 65535) = false:=by simpa using h0
    go_wp2_with (go_at_call 150;refine (isValue_any _ _).mono ?_;rintro e w' ⟨rfl,rfl⟩)
    go_ret
    exact ⟨by rw [valsOk,dec_no fun h => AllTo.not HX.out (by rw [H.out];exact hlt) h0 h.2];rfl,rfl⟩
  ·have e : k = l.length:=by rw [H.out];omega
   by_cases h8 : n = 8
   ·have b8 : ((n : Int) == 8) = true:=by simp;omega
    have HY:=hid (dec_yes (p:=l.length = 8 ∧ AllTo isVal l l.length) ⟨by rw [H.out];exact h8,by rw [← e];exact HU.out⟩)
    clear h8 e
    go_wp2
    go_ret
    exact ⟨by rw [valsOk,HY.out];rfl,rfl⟩
   ·have b8 : ((n : Int) == 8) = false:=by simp;omega
    have HY:=hid (dec_no (p:=l.length = 8 ∧ AllTo isVal l l.length) fun h => h8 (by rw [← H.out];exact h.1))
    clear h8 e
    go_wp2
    go_ret
    exact ⟨by rw [valsOk,HY.out];rfl,rfl⟩
end Go.Proofs.YtoegjiigaoanbaaGreat
namespace Go.Proofs.YtoegjiigaoanbaaGreat
open Go.RowKit Go.Deep
set_option linter.unnecessarySimpa false
set_option maxHeartbeats 400000000
open Go.Lib (hid)
set_option linter.unusedSimpArgs false
set_option linter.unusedVariables false

def opn (o : GOp) : Int:=if o.kind_ = 8 then 1 else if o.kind_ = 9 then -1 else 0
def opnAt (l : List GOp) (k : Nat) : Int:=match l[k]? with|some o => opn o|none => 0
def dep (l : List GOp) : Nat → Int
 | 0 => 0
 | k + 1 => dep l k + opnAt l k
theorem opnAt_is {l : List GOp} {k : Nat} {o : GOp} (h : l[k]? = some o) : opnAt l k = opn o:=by unfold opnAt;rw [h]
theorem dep_succ {l : List GOp} {k : Nat} {o : GOp} (h : l[k]? = some o) : dep l (k + 1) = dep l k + opn o:=by rw [dep,opnAt_is h]
theorem opn_le (o : GOp) : -1 ≤ opn o ∧ opn o ≤ 1:=by unfold opn;split <;> (try split) <;> omega
theorem opnAt_le (l : List GOp) (k : Nat) : -1 ≤ opnAt l k ∧ opnAt l k ≤ 1:=by
 unfold opnAt;split
 ·exact opn_le _
 ·omega
theorem dep_le (l : List GOp) (k : Nat) : -(k : Int) ≤ dep l k ∧ dep l k ≤ k:=by
 induction k with
 | zero => simp [dep]
 | succ k ih => have:=opnAt_le l k;simp only [dep];omega
def isReg (x : Int) : Prop:=0 ≤ x ∧ x ≤ 3
def is7 (x : Int) : Prop:=0 ≤ x ∧ x ≤ 7
def isV (x : Int) : Prop:=0 ≤ x ∧ x ≤ 65535
def opOk (o : GOp) : Prop :=
 (o.kind_ = 1 ∧ isReg o.a_ ∧ isV o.b_ ∧ o.c_ = 0) ∨
 ((o.kind_ = 2 ∨ o.kind_ = 3 ∨ o.kind_ = 4) ∧ isReg o.a_ ∧ isReg o.b_ ∧ isReg o.c_) ∨
 (o.kind_ = 5 ∧ isReg o.a_ ∧ is7 o.b_ ∧ o.c_ = 0) ∨
 (o.kind_ = 6 ∧ is7 o.a_ ∧ isReg o.b_ ∧ o.c_ = 0) ∨
 (o.kind_ = 7 ∧ isReg o.a_ ∧ (1 ≤ o.b_ ∧ o.b_ ≤ 20) ∧ o.c_ = 0) ∨
 ((o.kind_ = 8 ∨ o.kind_ = 15 ∨ o.kind_ = 16) ∧ isReg o.a_ ∧ o.b_ = 0 ∧ o.c_ = 0) ∨
 ((o.kind_ = 9 ∨ o.kind_ = 10 ∨ o.kind_ = 11) ∧ o.a_ = 0 ∧ o.b_ = 0 ∧ o.c_ = 0) ∨
 (o.kind_ = 12 ∧ is7 o.a_ ∧ isReg o.b_ ∧ isReg o.c_) ∨
 (o.kind_ = 13 ∧ isReg o.a_ ∧ is7 o.b_ ∧ o.c_ = 0) ∨
 (o.kind_ = 14 ∧ is7 o.a_ ∧ isReg o.b_ ∧ o.c_ = 0)
theorem opOk_kind {o : GOp} (h : opOk o) : 1 ≤ o.kind_ ∧ o.kind_ ≤ 16:=by unfold opOk at h;omega
theorem ok1 {o : GOp} (h : opOk o) (k : o.kind_ = 1) : isReg o.a_ ∧ isV o.b_ ∧ o.c_ = 0:=by unfold opOk at h;simp [k] at h;exact h
theorem ok2 {o : GOp} (h : opOk o) (k : o.kind_ = 2) : isReg o.a_ ∧ isReg o.b_ ∧ isReg o.c_:=by unfold opOk at h;simp [k] at h;exact h
theorem ok3 {o : GOp} (h : opOk o) (k : o.kind_ = 3) : isReg o.a_ ∧ isReg o.b_ ∧ isReg o.c_:=by unfold opOk at h;simp [k] at h;exact h
theorem ok4 {o : GOp} (h : opOk o) (k : o.kind_ = 4) : isReg o.a_ ∧ isReg o.b_ ∧ isReg o.c_:=by unfold opOk at h;simp [k] at h;exact h
theorem ok5 {o : GOp} (h : opOk o) (k : o.kind_ = 5) : isReg o.a_ ∧ is7 o.b_ ∧ o.c_ = 0:=by unfold opOk at h;simp [k] at h;exact h
theorem ok6 {o : GOp} (h : opOk o) (k : o.kind_ = 6) : is7 o.a_ ∧ isReg o.b_ ∧ o.c_ = 0:=by unfold opOk at h;simp [k] at h;exact h
theorem ok7 {o : GOp} (h : opOk o) (k : o.kind_ = 7) : isReg o.a_ ∧ (1 ≤ o.b_ ∧ o.b_ ≤ 20) ∧ o.c_ = 0:=by unfold opOk at h;simp [k] at h;exact h
theorem ok8 {o : GOp} (h : opOk o) (k : o.kind_ = 8) : isReg o.a_ ∧ o.b_ = 0 ∧ o.c_ = 0:=by unfold opOk at h;simp [k] at h;exact h
theorem ok12 {o : GOp} (h : opOk o) (k : o.kind_ = 12) : is7 o.a_ ∧ isReg o.b_ ∧ isReg o.c_:=by unfold opOk at h;simp [k] at h;exact h
theorem ok13 {o : GOp} (h : opOk o) (k : o.kind_ = 13) : isReg o.a_ ∧ is7 o.b_ ∧ o.c_ = 0:=by unfold opOk at h;simp [k] at h;exact h
theorem ok14 {o : GOp} (h : opOk o) (k : o.kind_ = 14) : is7 o.a_ ∧ isReg o.b_ ∧ o.c_ = 0:=by unfold opOk at h;simp [k] at h;exact h
theorem ok15 {o : GOp} (h : opOk o) (k : o.kind_ = 15) : isReg o.a_ ∧ o.b_ = 0 ∧ o.c_ = 0:=by unfold opOk at h;simp [k] at h;exact h
theorem ok16 {o : GOp} (h : opOk o) (k : o.kind_ = 16) : isReg o.a_ ∧ o.b_ = 0 ∧ o.c_ = 0:=by unfold opOk at h;simp [k] at h;exact h
def skipOk (l : List GOp) (i : Nat) (o : GOp) : Prop :=
 (i : Int) + 1 + o.b_ ≤ l.length ∧ (∀ k : Nat,i + 1 ≤ k → (k : Int) ≤ i + 1 + o.b_ → dep l (i + 1) ≤ dep l k) ∧ dep l (i + 1 + o.b_.toNat) = dep l (i + 1)
def forkFree (l : List GOp) (i : Nat) : Prop:=∀ (j : Nat) (o : GOp),j < i → l[j]? = some o → o.kind_ ≠ 11
def cOne (l : List GOp) (i : Nat) (o : GOp) : Prop :=
 opOk o ∧ (o.kind_ = 7 → skipOk l i o) ∧ (o.kind_ = 11 → dep l i = 0 ∧ forkFree l i) ∧ 0 ≤ dep l (i + 1)
noncomputable def codeOk (l : List GOp) : Bool:=dec (l.length ≤ 24 ∧ AllTo (cOne l) l l.length ∧ dep l l.length = 0)
noncomputable def hasFork (l : List GOp) : Bool:=dec (¬ AllTo (fun _ (o : GOp) => o.kind_ ≠ 11) l l.length)
def kidOp (_ : Nat) (o : GOp) : Prop:=o.kind_ ≠ 11 ∧ ¬ (opOk o ∧ 12 ≤ o.kind_ ∧ o.kind_ ≤ 16)
noncomputable def kidOk (l : List GOp) : Bool:=dec (codeOk l = true ∧ AllTo kidOp l l.length)
noncomputable def progOk (p : Prog) : Bool:=dec (codeOk p.code_ = true ∧ p.kids_.length ≤ 3 ∧ hasFork p.code_ = decide (0 < p.kids_.length) ∧ AllTo (fun _ (k : Kid) => kidOk k.code_ = true) p.kids_ p.kids_.length)
theorem codeOk_len {l : List GOp} (h : codeOk l = true) : l.length ≤ 24:=(dec_true h).1
theorem codeOk_at {l : List GOp} (h : codeOk l = true) {i : Nat} {o : GOp} (hi : l[i]? = some o) : cOne l i o :=
 (dec_true h).2.1 i (List.getElem?_eq_some_iff.1 hi).1 o hi
theorem codeOk_nn {l : List GOp} (h : codeOk l = true) {k : Nat} (hk : k ≤ l.length) : 0 ≤ dep l k:=by
 cases k with
 | zero => simp [dep]
 | succ k => exact (codeOk_at h (List.getElem?_eq_getElem (show k < l.length by omega))).2.2.2

def IsEnd (l : List GOp) (i e : Nat) : Prop:=i < e ∧ e < l.length ∧ dep l (e + 1) = dep l i ∧ ∀ j,i ≤ j → j < e → dep l i < dep l (j + 1)
theorem IsEnd.uniq {l : List GOp} {i e f : Nat} (h : IsEnd l i e) (k : IsEnd l i f) : e = f:=by
 obtain ⟨a1,a2,a3,a4⟩:=h
 obtain ⟨b1,b2,b3,b4⟩:=k
 rcases Nat.lt_trichotomy e f with q|q|q
 ·have:=b4 e (by omega) q;omega
 ·exact q
 ·have:=a4 f (by omega) q;omega
noncomputable def endOf (l : List GOp) (i : Nat) : Nat:=@dite _ (∃ e,IsEnd l i e) (Classical.propDecidable _) (fun h => h.choose) (fun _ => 0)
theorem endOf_is {l : List GOp} {i e : Nat} (h : IsEnd l i e) : endOf l i = e:=by
 unfold endOf
 rw [dif_pos ⟨e,h⟩]
 exact IsEnd.uniq (Exists.choose_spec (⟨e,h⟩ : ∃ e,IsEnd l i e)) h
theorem end_from (l : List GOp) (i : Nat) : ∀ (n k : Nat),k + n = l.length → i < k → (∀ j,i ≤ j → j < k → dep l i < dep l (j + 1)) → dep l l.length ≤ dep l i → ∃ e,IsEnd l i e
 | 0,k,hn,hik,ha,hz => by
  exfalso
  have:=ha (k - 1) (by omega) (by omega)
  rw [show k - 1 + 1 = l.length by omega] at this
  omega
 | n + 1,k,hn,hik,ha,hz => by
  by_cases e : dep l (k + 1) = dep l i
  ·exact ⟨k,hik,by omega,e,ha⟩
  ·refine end_from l i n (k + 1) (by omega) (by omega) (fun j h1 h2 => ?_) hz
   by_cases q : j = k
   ·subst q
    have h3:=ha (j - 1) (by omega) (by omega)
    rw [show j - 1 + 1 = j by omega] at h3
    have h4:=opnAt_le l j
    have h5 : dep l (j + 1) = dep l j + opnAt l j:=rfl
    omega
   ·exact ha j h1 (by omega)
theorem end_ex {l : List GOp} (h : codeOk l = true) {i : Nat} {o : GOp} (hi : l[i]? = some o) (ho : o.kind_ = 8) : ∃ e,IsEnd l i e:=by
 have hlt:=(List.getElem?_eq_some_iff.1 hi).1
 refine end_from l i (l.length - (i + 1)) (i + 1) (by omega) (by omega) (fun j h1 h2 => ?_) ?_
 ·obtain rfl : j = i:=by omega
  rw [dep_succ hi,opn,if_pos ho];omega
 ·have h1:=(dec_true h).2.2
  have h2:=codeOk_nn h (k:=i) (by omega)
  omega

structure MInv (l : List GOp) (pc : Nat) (ms : List Nat) : Prop where
 le : pc ≤ l.length
 len : (ms.length : Int) = dep l pc
 at_ : ∀ (j m : Nat),ms[j]? = some m → m < pc ∧ (∃ o,l[m]? = some o ∧ o.kind_ = 8) ∧ dep l m = j ∧ ∀ k,m < k → k ≤ pc → (j : Int) < dep l k
theorem MInv.zero (l : List GOp) : MInv l 0 []:=⟨Nat.zero_le _,by simp [dep],fun j m h => by simp at h⟩
theorem MInv.to {l : List GOp} {pc pc' : Nat} {ms : List Nat} (M : MInv l pc ms) (hl : pc' ≤ l.length) (hp : pc ≤ pc') (hd : dep l pc' = dep l pc) (hk : ∀ k,pc < k → k ≤ pc' → dep l pc ≤ dep l k) : MInv l pc' ms:=by
 refine ⟨hl,by rw [hd];exact M.len,fun j m h => ?_⟩
 obtain ⟨a,b,c,d⟩:=M.at_ j m h
 refine ⟨by omega,b,c,fun k h1 h2 => ?_⟩
 by_cases q : k ≤ pc
 ·exact d k h1 q
 ·have h3:=hk k (by omega) h2
  have h4:=(List.getElem?_eq_some_iff.1 h).1
  have h5:=M.len
  omega
theorem MInv.step {l : List GOp} {pc : Nat} {ms : List Nat} {o : GOp} (M : MInv l pc ms) (ho : l[pc]? = some o) (h8 : o.kind_ ≠ 8) (h9 : o.kind_ ≠ 9) : MInv l (pc + 1) ms:=by
 have hlt:=(List.getElem?_eq_some_iff.1 ho).1
 have e : dep l (pc + 1) = dep l pc:=by rw [dep_succ ho,opn,if_neg h8,if_neg h9];omega
 refine M.to (by omega) (by omega) e fun k h1 h2 => ?_
 obtain rfl : k = pc + 1:=by omega
 omega
theorem MInv.skip {l : List GOp} {pc : Nat} {ms : List Nat} {o : GOp} (M : MInv l pc ms) (ho : l[pc]? = some o) (h7 : o.kind_ = 7) (hs : skipOk l pc o) (hb : 0 ≤ o.b_) : MInv l (pc + 1 + o.b_.toNat) ms:=by
 have M1:=M.step ho (by omega) (by omega)
 obtain ⟨a,b,c⟩:=hs
 exact M1.to (by omega) (by omega) c fun k h1 h2 => b k (by omega) (by omega)
theorem MInv.begin {l : List GOp} {pc : Nat} {ms : List Nat} {o : GOp} (M : MInv l pc ms) (ho : l[pc]? = some o) (h8 : o.kind_ = 8) : MInv l (pc + 1) (ms ++ [pc]):=by
 have hlt:=(List.getElem?_eq_some_iff.1 ho).1
 have e : dep l (pc + 1) = dep l pc + 1:=by rw [dep_succ ho,opn,if_pos h8]
 refine ⟨by omega,by rw [e,List.length_append];have:=M.len;simp;omega,fun j m h => ?_⟩
 rw [List.getElem?_append] at h
 split at h
 ·obtain ⟨a,b,c,d⟩:=M.at_ j m h
  refine ⟨by omega,b,c,fun k h1 h2 => ?_⟩
  by_cases q : k ≤ pc
  ·exact d k h1 q
  ·obtain rfl : k = pc + 1:=by omega
   have:=M.len
   omega
 ·have h3:=(List.getElem?_eq_some_iff.1 h).1
  simp only [List.length_cons,List.length_nil] at h3
  obtain rfl : j = ms.length:=by omega
  simp only [Nat.sub_self,List.getElem?_cons_zero,Option.some.injEq] at h
  subst h
  have hl:=M.len
  refine ⟨by omega,⟨o,ho,h8⟩,by omega,fun k h1 h2 => ?_⟩
  obtain rfl : k = pc + 1:=by omega
  omega
theorem MInv.some_ {l : List GOp} {pc : Nat} {ms : List Nat} {o : GOp} (M : MInv l pc ms) (hc : codeOk l = true) (ho : l[pc]? = some o) (h9 : o.kind_ = 9) : ms ≠ []:=by
 intro q
 have h1:=M.len
 have h2:=(codeOk_at hc ho).2.2.2
 rw [dep_succ ho,opn,if_neg (by omega),if_pos h9] at h2
 subst q
 simp at h1
 omega
theorem MInv.end_ {l : List GOp} {pc m : Nat} {ms : List Nat} {o : GOp} (M : MInv l pc (ms ++ [m])) (ho : l[pc]? = some o) (h9 : o.kind_ = 9) : MInv l (pc + 1) ms:=by
 have hlt:=(List.getElem?_eq_some_iff.1 ho).1
 have e : dep l (pc + 1) = dep l pc - 1:=by rw [dep_succ ho,opn,if_neg (by omega),if_pos h9];omega
 have hl:=M.len
 rw [List.length_append] at hl
 simp only [List.length_cons,List.length_nil] at hl
 refine ⟨by omega,by omega,fun j q h => ?_⟩
 have hj:=(List.getElem?_eq_some_iff.1 h).1
 obtain ⟨a,b,c,d⟩:=M.at_ j q (by rw [List.getElem?_append,if_pos hj];exact h)
 refine ⟨by omega,b,c,fun k h1 h2 => ?_⟩
 by_cases q : k ≤ pc
 ·exact d k h1 q
 ·obtain rfl : k = pc + 1:=by omega
  omega
theorem MInv.last {l : List GOp} {pc m : Nat} {ms : List Nat} (M : MInv l pc (ms ++ [m])) : m < pc ∧ (∃ o,l[m]? = some o ∧ o.kind_ = 8) ∧ dep l m = ms.length ∧ ∀ k,m < k → k ≤ pc → (ms.length : Int) < dep l k :=
 M.at_ ms.length m (by rw [List.getElem?_append,if_neg (by omega)];simp)
theorem MInv.end_gt {l : List GOp} {pc m e : Nat} {ms : List Nat} {o : GOp} (M : MInv l pc (ms ++ [m])) (he : IsEnd l m e) (ho : l[pc]? = some o) (h9 : o.kind_ ≠ 9) : pc < e:=by
 obtain ⟨a,-,c,d⟩:=M.last
 obtain ⟨e1,e2,e3,e4⟩:=he
 rcases Nat.lt_trichotomy pc e with q|q|q
 ·exact q
 ·subst q
  have h1:=d pc a (Nat.le_refl _)
  have h2 : 0 ≤ opn o:=by
   unfold opn
   by_cases q : o.kind_ = 8
   ·rw [if_pos q];omega
   ·rw [if_neg q,if_neg h9];omega
  rw [dep_succ ho] at e3
  omega
 ·have:=d (e + 1) (by omega) (by omega)
  omega
theorem MInv.abort {l : List GOp} {pc m e : Nat} {ms : List Nat} {o : GOp} (M : MInv l pc (ms ++ [m])) (he : IsEnd l m e) (ho : l[pc]? = some o) (h9 : o.kind_ ≠ 9) : MInv l (e + 1) ms:=by
 have hgt:=M.end_gt he ho h9
 obtain ⟨-,-,c,-⟩:=M.last
 obtain ⟨e1,e2,e3,e4⟩:=he
 refine ⟨by omega,by omega,fun j q h => ?_⟩
 have hj:=(List.getElem?_eq_some_iff.1 h).1
 obtain ⟨a,b,c2,d⟩:=M.at_ j q (by rw [List.getElem?_append,if_pos hj];exact h)
 refine ⟨by omega,b,c2,fun k h1 h2 => ?_⟩
 by_cases q : k ≤ pc
 ·exact d k h1 q
 ·by_cases q2 : k = e + 1
  ·subst q2;omega
  ·have:=e4 (k - 1) (by have:=M.last.1;omega) (by omega)
   rw [show k - 1 + 1 = k by omega] at this
   omega
end Go.Proofs.YtoegjiigaoanbaaGreat
namespace Go.Proofs.YtoegjiigaoanbaaGreat
open Go.RowKit Go.Deep
set_option linter.unnecessarySimpa false
set_option maxHeartbeats 400000000
open Go.Lib (hid)

/-! ### Run -/
structure Run where
 out_ : Int
 regs_ : List Int
 things_ : Things
deriving Inhabited
def Run.wt (x : Run) : Nat:=x.regs_.length + Things.wt x.things_
def Run.R (w : World) (S : Nat → Prop) (cs : List Value) (x : Run) : Prop:=∃ (A0 : Option Addr) (n0 c0 : Nat) (v1 : List Value),cs = [.int .i64 x.out_,.slice A0 n0 c0] ++ v1 ∧ (n0 ≤ c0 ∧ n0 ≤ 9223372036854775807 ∧ Sl w S 1 A0 n0 (ints x.regs_)) ∧ Things.R w S v1 x.things_
def Run.W (w : World) (S : Nat → Prop) (cs : List Value) (x : Run) : Prop:=∃ (A0 : Option Addr) (n0 c0 : Nat) (v1 : List Value) (lab : Nat → Nat),cs = [.int .i64 x.out_,.slice A0 n0 c0] ++ v1 ∧ (n0 ≤ c0 ∧ n0 ≤ 9223372036854775807 ∧ OwS w (fun g => S g ∧ lab g = 0) 3 1 A0 n0 c0 (ints x.regs_)) ∧ Things.W w (fun g => S g ∧ lab g = 1) v1 x.things_
theorem Run.R_good : Good Run.R 5:=⟨fun {_ _ _ _} h => by
  obtain ⟨A0,n0,c0,v1,rfl,⟨kh0,mh0,h0⟩,h1⟩:=h
  simp [Things.R_good.len h1],
 fun {_ _ _ _ _ _} h k hd => by
  obtain ⟨A0,n0,c0,v1,rfl,⟨kh0,mh0,h0⟩,h1⟩:=h
  exact ⟨_,_,_,_,rfl,⟨kh0,mh0,h0.chg k hd⟩,Things.R_good.chg h1 k hd⟩,
 fun {_ _ _ _ _} h hs => by
  obtain ⟨A0,n0,c0,v1,rfl,⟨kh0,mh0,h0⟩,h1⟩:=h
  exact ⟨_,_,_,_,rfl,⟨kh0,mh0,h0.mono hs⟩,Things.R_good.mono h1 hs⟩⟩
theorem Run.W_good : Good Run.W 5:=⟨fun {_ _ _ _} h => by
  obtain ⟨A0,n0,c0,v1,lab,rfl,⟨kh0,mh0,h0⟩,h1⟩:=h
  simp [Things.W_good.len h1],
 fun {_ _ _ _ _ _} h k hd => by
  obtain ⟨A0,n0,c0,v1,lab,rfl,⟨kh0,mh0,h0⟩,h1⟩:=h
  exact ⟨_,_,_,_,lab,rfl,⟨kh0,mh0,h0.chg k fun i hi => hd i hi.1⟩,Things.W_good.chg h1 k fun i hi => hd i hi.1⟩,
 fun {_ _ _ _ _} h hs => by
  obtain ⟨A0,n0,c0,v1,lab,rfl,⟨kh0,mh0,h0⟩,h1⟩:=h
  exact ⟨_,_,_,_,lab,rfl,⟨kh0,mh0,h0.mono fun i _ hi => ⟨hs i hi.1,hi.2⟩⟩,Things.W_good.mono h1 fun i hi => ⟨hs i hi.1,hi.2⟩⟩⟩
theorem Run.W_R {w : World} {S : Nat → Prop} {cs : List Value} {x : Run} (h : Run.W w S cs x) : Run.R w S cs x:=by
 obtain ⟨A0,n0,c0,v1,lab,rfl,⟨kh0,mh0,h0⟩,h1⟩:=h
 exact ⟨_,_,_,_,rfl,⟨kh0,mh0,h0.sl.mono fun i hi => hi.1⟩,Things.R_good.mono (Things.W_R h1) fun i hi => hi.1⟩
theorem Run.R_cells {w : World} {S : Nat → Prop} {cs : List Value} {x : Run} (h : Run.R w S cs x) : ∃ (A0 : Option Addr) (n0 c0 : Nat) (A1 : Option Addr) (n1 c1 : Nat) (A2 : Option Addr) (n2 c2 : Nat),cs = [.int .i64 x.out_,.slice A0 n0 c0,.slice A1 n1 c1,.slice A2 n2 c2,.int .i64 x.things_.count_]:=by
 obtain ⟨A0,n0,c0,v1,rfl,⟨kh0,mh0,h0⟩,h1⟩:=h
 obtain ⟨P1_0,p1_0,q1_0,P1_1,p1_1,q1_1,rfl⟩:=Things.R_cells h1
 exact ⟨A0,n0,c0,P1_0,p1_0,q1_0,P1_1,p1_1,q1_1,rfl⟩
theorem Run.W_cells {w : World} {S : Nat → Prop} {cs : List Value} {x : Run} (h : Run.W w S cs x) : ∃ (A0 : Option Addr) (n0 c0 : Nat) (A1 : Option Addr) (n1 c1 : Nat) (A2 : Option Addr) (n2 c2 : Nat),cs = [.int .i64 x.out_,.slice A0 n0 c0,.slice A1 n1 c1,.slice A2 n2 c2,.int .i64 x.things_.count_]:=by
 obtain ⟨A0,n0,c0,v1,lab,rfl,⟨kh0,mh0,h0⟩,h1⟩:=h
 obtain ⟨P1_0,p1_0,q1_0,P1_1,p1_1,q1_1,rfl⟩:=Things.W_cells h1
 exact ⟨A0,n0,c0,P1_0,p1_0,q1_0,P1_1,p1_1,q1_1,rfl⟩

end Go.Proofs.YtoegjiigaoanbaaGreat
