/- The laws' helpers on the flat structs of a world. No condition but lengths. The laws' helpers on Mark, Commit, KidMark. No condition but sizes. -/
import Derived.Test.YtoegjiigaoanbaaGreatS00
import Derived.Deep.RegionWith
namespace Go.Proofs.YtoegjiigaoanbaaGreat
open Go.RowKit Go.Deep
set_option linter.unnecessarySimpa false
set_option maxHeartbeats 400000000
open Go.Lib (hid)

/-! ### Row -/
structure Row where
 cell_ : Int
 val_ : Int
deriving Inhabited,DecidableEq
def Row.cells (s : Row) : List Value:=[.int .i64 s.cell_,.int .i64 s.val_]
theorem Row.cells_length (s : Row) : s.cells.length = 2:=rfl
def Row.good (s : Row) : Prop:=(Lit.int .i64 s.cell_).wf = true ∧ (Lit.int .i64 s.val_).wf = true
theorem opens_Row : Opens Tryz.prog 274 (fun _ cs (s : Row) => cs = s.cells ∧ s.good):=by
 intro H enc w base spare held fuel cs x h
 obtain ⟨hl,m,hf⟩:=trod_fields Tryz.underlying274 (by kernel_rfl) (by kernel_rfl) h
 obtain ⟨v0,y0,e0,t0⟩:=hf 0 _ rfl
 obtain ⟨f0,h0,-,g0⟩:=DataW.trod_int Tryz.underlying3 t0
 injection h0 with h0 _;subst h0
 obtain ⟨v1,y1,e1,t1⟩:=hf 1 _ rfl
 obtain ⟨f1,h1,-,g1⟩:=DataW.trod_int Tryz.underlying3 t1
 injection h1 with h1 _;subst h1
 refine ⟨⟨f0,f1⟩,?_,⟨g0,g1⟩⟩
 match cs,hl with
 | [c0,c1],_ =>
  simp only [List.getElem?_cons_succ,List.getElem?_cons_zero,Option.some.injEq] at e0 e1
  subst e0 e1
  rfl

theorem toRow_any (f0 : Int) (f1 : Int) (w : World) :
  Calls Tryz.prog 192 #[.agg #[.int .i64 f0,.int .i64 f1]] w fun e w' => e = .returned (.agg #[.int .i64 f0,.int .i64 f1]) ∧ Ext w w':=by
 go_enter Tryz.func192,Tryz.ntmps192
 go_wp2
 refine bodyPost_ret (v:=.agg #[.int .i64 f0,.int .i64 f1]) (by simp [results,Tryz.results192,go_sem]) rfl ⟨rfl,?_⟩
 repeat (first|exact Ext.refl' _|refine Ext.al ?_ _|refine Ext.sc ?_ (by simp) _)

theorem Tryz.infoRow : (Tryz.prog.info? 239).map (fun i => (i.zero,i.size,i.bytes)) = some (some (.agg #[.int .i64 0,.int .i64 0]),2,16):=by kernel_rfl

theorem toRowS_any (A : Option Addr) (n c : Nat) (l : List Row) (w : World) (S : Nat → Prop) (hs : Sl w S 2 A n (l.flatMap Row.cells)) (hm : n ≤ 1048576) :
  Calls Tryz.prog 142 #[.slice A n c] w fun e w' => ∃ B d,e = .returned (.slice B n d) ∧ w'.ownsRow w.heap.size 239 2 (.slice B n d) n (l.flatMap Row.cells) ∧ Ext w w':=by
 obtain ⟨w1,cs0,hmk,hown,-,hx1,hlt⟩:=made_row (P:=Tryz.prog) w 85 239 _ _ _ Tryz.underlying85 Tryz.infoRow n (by omega) (by unfold maxLen;omega)
 have HO:=hid hown
 have HX:=hid hx1
 clear hown hx1
 go_enter Tryz.func142,Tryz.ntmps142
 go_wp2
 go_loopw [4] (fun i wr => ∃ (k : Nat) (cs : List Value),k ≤ n ∧ i = .int .i64 k ∧ wr.ownsRow w.heap.size 239 2 (.slice (some ⟨w.heap.size,0,none⟩) n n) n cs ∧ Upto cs (l.flatMap Row.cells) (k * 2) ∧ Ext w wr) (fun i _ => n - (intOf i).toNat)
 case atStart => exact ⟨0,_,Nat.zero_le _,rfl,HO.out,Upto.zero _ _,HX.out⟩
 case round =>
  obtain ⟨k,cs,hk,rfl,ho,hu,hx⟩:=hrel
  by_cases hlt : k < n
  ·obtain ⟨b,o,s,rfl,hb,hxk,hc⟩:=(hs.ext hx).flat_at Row.cells_length (by omega) hlt
   obtain ⟨f0,f1⟩:=s
   have c0:=hc 0 (by omega)
   have c1:=hc 1 (by omega)
   simp only [Row.cells,List.getElem?_cons_zero,List.getElem?_cons_succ,Nat.add_zero] at c0 c1
   have HX2:=hid hxk
   have HO2:=hid ho
   have HE2:=hid hx
   clear hxk ho hx hc
   go_wp2_with fail
   refine (toRow_any _ _ _).mono ?_
   rintro e w2 ⟨rfl,hx2⟩
   have ho2:=own_ext HO2.out hx2
   obtain ⟨g,hA,-,-,hg⟩:=own_flat ho2 hlt
   obtain rfl : w.heap.size = g:=addr_inj hA
   obtain ⟨v0,g0,e0⟩:=hg 0 (by omega)
   obtain ⟨v1,g1,e1⟩:=hg 1 (by omega)
   rw [Nat.add_zero] at g0 e0
   have HX3:=hid hx2
   have HO3:=hid ho2
   clear hx2 ho2 hg
   go_wp2
   go_roundw
   case rel =>
    have t0:=HO3.out.stored (k * 2) (.int .i64 f0)
    have t1:=t0.1.stored (k * 2 + 1) (.int .i64 f1)
    have hl3 : cs.length = n * 2:=HO3.out.1
    have q0:=flat_get Row.cells_length l k 0 _ HX2.out (by omega)
    have q1:=flat_get Row.cells_length l k 1 _ HX2.out (by omega)
    refine ⟨k + 1,_,by omega,by go_num,t1.1,?_,?_⟩
    ·rw [show (k + 1) * 2 = k * 2 + 1 + 1 by omega]
     refine Upto.set1 (Upto.set1 hu (by omega) ?_) (by simp;omega) ?_
     ·exact q0
     ·exact q1
    ·exact (((HE2.out.tr HX3.out)).sc (p:=⟨w.heap.size,_,none⟩) (Nat.le_refl _) _).sc (p:=⟨w.heap.size,_,none⟩) (Nat.le_refl _) _
   case measure => simp [intOf];omega
  ·go_wp2
   go_ret
   refine ⟨_,_,rfl,?_,hx⟩
   have : k = n:=by omega
   subst this
   rw [← hu.all ho.1 hs.1]
   exact ho

theorem eqRow_same (f0 : Int) (f1 : Int) (w : World) :
  Calls Tryz.prog 212 #[.agg #[.int .i64 f0,.int .i64 f1],.agg #[.int .i64 f0,.int .i64 f1]] w fun e w' => e = .returned (.bool true) ∧ Ext w w':=by
 go_enter Tryz.func212,Tryz.ntmps212
 go_wp2
 go_ret
 refine ⟨rfl,?_⟩
 repeat (first|exact Ext.refl' _|refine Ext.al ?_ _)

theorem eqRowS_same (A B : Option Addr) (n c d : Nat) (l : List Row) (w : World) (S T : Nat → Prop) (ha : Sl w S 2 A n (l.flatMap Row.cells)) (hb : Sl w T 2 B n (l.flatMap Row.cells)) (hm : n ≤ 9223372036854775807) :
  Calls Tryz.prog 163 #[.slice A n c,.slice B n d] w fun e w' => e = .returned (.bool true) ∧ Ext w w':=by
 go_enter Tryz.func163,Tryz.ntmps163
 go_wp2
 go_loopw [5] (fun i wr => ∃ (k : Nat),k ≤ n ∧ i = .int .i64 k ∧ Ext w wr) (fun i _ => n - (intOf i).toNat)
 case atStart => exact ⟨0,Nat.zero_le _,rfl,Ext.refl' _⟩
 case round =>
  obtain ⟨k,hk,rfl,hx⟩:=hrel
  by_cases hlt : k < n
  ·obtain ⟨b1,o1,s,rfl,hb1,hxk,hc1⟩:=(ha.ext hx).flat_at Row.cells_length (by omega) hlt
   obtain ⟨b2,o2,s',rfl,hb2,hyk,hc2⟩:=(hb.ext hx).flat_at Row.cells_length (by omega) hlt
   rw [hxk] at hyk
   injection hyk with hyk
   subst hyk
   obtain ⟨f0,f1⟩:=s
   have c0:=hc1 0 (by omega)
   have c1:=hc1 1 (by omega)
   have d0:=hc2 0 (by omega)
   have d1:=hc2 1 (by omega)
   simp only [Row.cells,List.getElem?_cons_zero,List.getElem?_cons_succ,Nat.add_zero] at c0 c1 d0 d1
   have HE2:=hid hx
   clear hxk hx hc1 hc2
   go_wp2
   go_region_with (go_at_call 212;refine (eqRow_same _ _ _).mono ?_;rintro e w2 ⟨rfl,hx2⟩)
   all_goals
    have HE3:=hid hx2
    clear hx2
    go_wp2
    go_roundw
    case rel => exact ⟨k + 1,by omega,by go_num,HE2.out.tr (Ext.tr (Ext.dr (Ext.refl' _)) HE3.out)⟩
    case measure => simp [intOf];omega
  ·go_wp2
   go_ret
   exact ⟨rfl,hx⟩

theorem szRowS_any (A : Option Addr) (n c : Nat) (q : Int) (w : World) (hq : 0 ≤ q) (hq2 : q ≤ 1048576) (hn : n ≤ 9223372036854775807) :
  Calls Tryz.prog 125 #[.slice A n c,.int .i64 q] w fun e w' => e = .returned (.int .i64 (if (n : Int) ≤ q then q - n else -1)) ∧ w = w':=by
 by_cases h : (n : Int) ≤ q
 ·go_enter Tryz.func125,Tryz.ntmps125
  go_wp2
  go_ret
  exact ⟨by first|rfl|(simp;done)|simp [h],rfl⟩
 ·go_enter Tryz.func125,Tryz.ntmps125
  go_wp2
  go_ret
  exact ⟨by first|rfl|(simp;done)|simp [h],rfl⟩

/-! ### Entry -/
structure Entry where
 cell_ : Int
 val_ : Int
 ver_ : Int
deriving Inhabited,DecidableEq
def Entry.cells (s : Entry) : List Value:=[.int .i64 s.cell_,.int .i64 s.val_,.int .i64 s.ver_]
theorem Entry.cells_length (s : Entry) : s.cells.length = 3:=rfl
def Entry.good (s : Entry) : Prop:=(Lit.int .i64 s.cell_).wf = true ∧ (Lit.int .i64 s.val_).wf = true ∧ (Lit.int .i64 s.ver_).wf = true
theorem opens_Entry : Opens Tryz.prog 303 (fun _ cs (s : Entry) => cs = s.cells ∧ s.good):=by
 intro H enc w base spare held fuel cs x h
 obtain ⟨hl,m,hf⟩:=trod_fields Tryz.underlying303 (by kernel_rfl) (by kernel_rfl) h
 obtain ⟨v0,y0,e0,t0⟩:=hf 0 _ rfl
 obtain ⟨f0,h0,-,g0⟩:=DataW.trod_int Tryz.underlying3 t0
 injection h0 with h0 _;subst h0
 obtain ⟨v1,y1,e1,t1⟩:=hf 1 _ rfl
 obtain ⟨f1,h1,-,g1⟩:=DataW.trod_int Tryz.underlying3 t1
 injection h1 with h1 _;subst h1
 obtain ⟨v2,y2,e2,t2⟩:=hf 2 _ rfl
 obtain ⟨f2,h2,-,g2⟩:=DataW.trod_int Tryz.underlying3 t2
 injection h2 with h2 _;subst h2
 refine ⟨⟨f0,f1,f2⟩,?_,⟨g0,g1,g2⟩⟩
 match cs,hl with
 | [c0,c1,c2],_ =>
  simp only [List.getElem?_cons_succ,List.getElem?_cons_zero,Option.some.injEq] at e0 e1 e2
  subst e0 e1 e2
  rfl

theorem toEntry_any (f0 : Int) (f1 : Int) (f2 : Int) (w : World) :
  Calls Tryz.prog 221 #[.agg #[.int .i64 f0,.int .i64 f1,.int .i64 f2]] w fun e w' => e = .returned (.agg #[.int .i64 f0,.int .i64 f1,.int .i64 f2]) ∧ Ext w w':=by
 go_enter Tryz.func221,Tryz.ntmps221
 go_wp2
 refine bodyPost_ret (v:=.agg #[.int .i64 f0,.int .i64 f1,.int .i64 f2]) (by simp [results,Tryz.results221,go_sem]) rfl ⟨rfl,?_⟩
 repeat (first|exact Ext.refl' _|refine Ext.al ?_ _|refine Ext.sc ?_ (by simp) _)

theorem Tryz.infoEntry : (Tryz.prog.info? 245).map (fun i => (i.zero,i.size,i.bytes)) = some (some (.agg #[.int .i64 0,.int .i64 0,.int .i64 0]),3,24):=by kernel_rfl

theorem toEntryS_any (A : Option Addr) (n c : Nat) (l : List Entry) (w : World) (S : Nat → Prop) (hs : Sl w S 3 A n (l.flatMap Entry.cells)) (hm : n ≤ 1048576) :
  Calls Tryz.prog 195 #[.slice A n c] w fun e w' => ∃ B d,e = .returned (.slice B n d) ∧ w'.ownsRow w.heap.size 245 3 (.slice B n d) n (l.flatMap Entry.cells) ∧ Ext w w':=by
 obtain ⟨w1,cs0,hmk,hown,-,hx1,hlt⟩:=made_row (P:=Tryz.prog) w 92 245 _ _ _ Tryz.underlying92 Tryz.infoEntry n (by omega) (by unfold maxLen;omega)
 have HO:=hid hown
 have HX:=hid hx1
 clear hown hx1
 go_enter Tryz.func195,Tryz.ntmps195
 go_wp2
 go_loopw [4] (fun i wr => ∃ (k : Nat) (cs : List Value),k ≤ n ∧ i = .int .i64 k ∧ wr.ownsRow w.heap.size 245 3 (.slice (some ⟨w.heap.size,0,none⟩) n n) n cs ∧ Upto cs (l.flatMap Entry.cells) (k * 3) ∧ Ext w wr) (fun i _ => n - (intOf i).toNat)
 case atStart => exact ⟨0,_,Nat.zero_le _,rfl,HO.out,Upto.zero _ _,HX.out⟩
 case round =>
  obtain ⟨k,cs,hk,rfl,ho,hu,hx⟩:=hrel
  by_cases hlt : k < n
  ·obtain ⟨b,o,s,rfl,hb,hxk,hc⟩:=(hs.ext hx).flat_at Entry.cells_length (by omega) hlt
   obtain ⟨f0,f1,f2⟩:=s
   have c0:=hc 0 (by omega)
   have c1:=hc 1 (by omega)
   have c2:=hc 2 (by omega)
   simp only [Entry.cells,List.getElem?_cons_zero,List.getElem?_cons_succ,Nat.add_zero] at c0 c1 c2
   have HX2:=hid hxk
   have HO2:=hid ho
   have HE2:=hid hx
   clear hxk ho hx hc
   go_wp2_with fail
   refine (toEntry_any _ _ _ _).mono ?_
   rintro e w2 ⟨rfl,hx2⟩
   have ho2:=own_ext HO2.out hx2
   obtain ⟨g,hA,-,-,hg⟩:=own_flat ho2 hlt
   obtain rfl : w.heap.size = g:=addr_inj hA
   obtain ⟨v0,g0,e0⟩:=hg 0 (by omega)
   obtain ⟨v1,g1,e1⟩:=hg 1 (by omega)
   obtain ⟨v2,g2,e2⟩:=hg 2 (by omega)
   rw [Nat.add_zero] at g0 e0
   have HX3:=hid hx2
   have HO3:=hid ho2
   clear hx2 ho2 hg
   go_wp2
   go_roundw
   case rel =>
    have t0:=HO3.out.stored (k * 3) (.int .i64 f0)
    have t1:=t0.1.stored (k * 3 + 1) (.int .i64 f1)
    have t2:=t1.1.stored (k * 3 + 2) (.int .i64 f2)
    have hl3 : cs.length = n * 3:=HO3.out.1
    have q0:=flat_get Entry.cells_length l k 0 _ HX2.out (by omega)
    have q1:=flat_get Entry.cells_length l k 1 _ HX2.out (by omega)
    have q2:=flat_get Entry.cells_length l k 2 _ HX2.out (by omega)
    refine ⟨k + 1,_,by omega,by go_num,t2.1,?_,?_⟩
    ·rw [show (k + 1) * 3 = k * 3 + 2 + 1 by omega]
     refine Upto.set1 (Upto.set1 (Upto.set1 hu (by omega) ?_) (by simp;omega) ?_) (by simp;omega) ?_
     ·exact q0
     ·exact q1
     ·exact q2
    ·exact ((((HE2.out.tr HX3.out)).sc (p:=⟨w.heap.size,_,none⟩) (Nat.le_refl _) _).sc (p:=⟨w.heap.size,_,none⟩) (Nat.le_refl _) _).sc (p:=⟨w.heap.size,_,none⟩) (Nat.le_refl _) _
   case measure => simp [intOf];omega
  ·go_wp2
   go_ret
   refine ⟨_,_,rfl,?_,hx⟩
   have : k = n:=by omega
   subst this
   rw [← hu.all ho.1 hs.1]
   exact ho

theorem eqEntry_same (f0 : Int) (f1 : Int) (f2 : Int) (w : World) :
  Calls Tryz.prog 229 #[.agg #[.int .i64 f0,.int .i64 f1,.int .i64 f2],.agg #[.int .i64 f0,.int .i64 f1,.int .i64 f2]] w fun e w' => e = .returned (.bool true) ∧ Ext w w':=by
 go_enter Tryz.func229,Tryz.ntmps229
 go_wp2
 go_ret
 refine ⟨rfl,?_⟩
 repeat (first|exact Ext.refl' _|refine Ext.al ?_ _)

theorem eqEntryS_same (A B : Option Addr) (n c d : Nat) (l : List Entry) (w : World) (S T : Nat → Prop) (ha : Sl w S 3 A n (l.flatMap Entry.cells)) (hb : Sl w T 3 B n (l.flatMap Entry.cells)) (hm : n ≤ 9223372036854775807) :
  Calls Tryz.prog 215 #[.slice A n c,.slice B n d] w fun e w' => e = .returned (.bool true) ∧ Ext w w':=by
 go_enter Tryz.func215,Tryz.ntmps215
 go_wp2
 go_loopw [5] (fun i wr => ∃ (k : Nat),k ≤ n ∧ i = .int .i64 k ∧ Ext w wr) (fun i _ => n - (intOf i).toNat)
 case atStart => exact ⟨0,Nat.zero_le _,rfl,Ext.refl' _⟩
 case round =>
  obtain ⟨k,hk,rfl,hx⟩:=hrel
  by_cases hlt : k < n
  ·obtain ⟨b1,o1,s,rfl,hb1,hxk,hc1⟩:=(ha.ext hx).flat_at Entry.cells_length (by omega) hlt
   obtain ⟨b2,o2,s',rfl,hb2,hyk,hc2⟩:=(hb.ext hx).flat_at Entry.cells_length (by omega) hlt
   rw [hxk] at hyk
   injection hyk with hyk
   subst hyk
   obtain ⟨f0,f1,f2⟩:=s
   have c0:=hc1 0 (by omega)
   have c1:=hc1 1 (by omega)
   have c2:=hc1 2 (by omega)
   have d0:=hc2 0 (by omega)
   have d1:=hc2 1 (by omega)
   have d2:=hc2 2 (by omega)
   simp only [Entry.cells,List.getElem?_cons_zero,List.getElem?_cons_succ,Nat.add_zero] at c0 c1 c2 d0 d1 d2
   have HE2:=hid hx
   clear hxk hx hc1 hc2
   go_wp2
   go_region_with (go_at_call 229;refine (eqEntry_same _ _ _ _).mono ?_;rintro e w2 ⟨rfl,hx2⟩)
   all_goals
    have HE3:=hid hx2
    clear hx2
    go_wp2
    go_roundw
    case rel => exact ⟨k + 1,by omega,by go_num,HE2.out.tr (Ext.tr (Ext.dr (Ext.refl' _)) HE3.out)⟩
    case measure => simp [intOf];omega
  ·go_wp2
   go_ret
   exact ⟨rfl,hx⟩

theorem szEntryS_any (A : Option Addr) (n c : Nat) (q : Int) (w : World) (hq : 0 ≤ q) (hq2 : q ≤ 1048576) (hn : n ≤ 9223372036854775807) :
  Calls Tryz.prog 183 #[.slice A n c,.int .i64 q] w fun e w' => e = .returned (.int .i64 (if (n : Int) ≤ q then q - n else -1)) ∧ w = w':=by
 by_cases h : (n : Int) ≤ q
 ·go_enter Tryz.func183,Tryz.ntmps183
  go_wp2
  go_ret
  exact ⟨by first|rfl|(simp;done)|simp [h],rfl⟩
 ·go_enter Tryz.func183,Tryz.ntmps183
  go_wp2
  go_ret
  exact ⟨by first|rfl|(simp;done)|simp [h],rfl⟩

/-! ### Undo -/
structure Undo where
 kind_ : Int
 key_ : Int
 val_ : Int
deriving Inhabited,DecidableEq
def Undo.cells (s : Undo) : List Value:=[.int .i64 s.kind_,.int .i64 s.key_,.int .i64 s.val_]
theorem Undo.cells_length (s : Undo) : s.cells.length = 3:=rfl
def Undo.good (s : Undo) : Prop:=(Lit.int .i64 s.kind_).wf = true ∧ (Lit.int .i64 s.key_).wf = true ∧ (Lit.int .i64 s.val_).wf = true
theorem opens_Undo : Opens Tryz.prog 277 (fun _ cs (s : Undo) => cs = s.cells ∧ s.good):=by
 intro H enc w base spare held fuel cs x h
 obtain ⟨hl,m,hf⟩:=trod_fields Tryz.underlying277 (by kernel_rfl) (by kernel_rfl) h
 obtain ⟨v0,y0,e0,t0⟩:=hf 0 _ rfl
 obtain ⟨f0,h0,-,g0⟩:=DataW.trod_int Tryz.underlying3 t0
 injection h0 with h0 _;subst h0
 obtain ⟨v1,y1,e1,t1⟩:=hf 1 _ rfl
 obtain ⟨f1,h1,-,g1⟩:=DataW.trod_int Tryz.underlying3 t1
 injection h1 with h1 _;subst h1
 obtain ⟨v2,y2,e2,t2⟩:=hf 2 _ rfl
 obtain ⟨f2,h2,-,g2⟩:=DataW.trod_int Tryz.underlying3 t2
 injection h2 with h2 _;subst h2
 refine ⟨⟨f0,f1,f2⟩,?_,⟨g0,g1,g2⟩⟩
 match cs,hl with
 | [c0,c1,c2],_ =>
  simp only [List.getElem?_cons_succ,List.getElem?_cons_zero,Option.some.injEq] at e0 e1 e2
  subst e0 e1 e2
  rfl

theorem toUndo_any (f0 : Int) (f1 : Int) (f2 : Int) (w : World) :
  Calls Tryz.prog 194 #[.agg #[.int .i64 f0,.int .i64 f1,.int .i64 f2]] w fun e w' => e = .returned (.agg #[.int .i64 f0,.int .i64 f1,.int .i64 f2]) ∧ Ext w w':=by
 go_enter Tryz.func194,Tryz.ntmps194
 go_wp2
 refine bodyPost_ret (v:=.agg #[.int .i64 f0,.int .i64 f1,.int .i64 f2]) (by simp [results,Tryz.results194,go_sem]) rfl ⟨rfl,?_⟩
 repeat (first|exact Ext.refl' _|refine Ext.al ?_ _|refine Ext.sc ?_ (by simp) _)

theorem Tryz.infoUndo : (Tryz.prog.info? 243).map (fun i => (i.zero,i.size,i.bytes)) = some (some (.agg #[.int .i64 0,.int .i64 0,.int .i64 0]),3,24):=by kernel_rfl

theorem toUndoS_any (A : Option Addr) (n c : Nat) (l : List Undo) (w : World) (S : Nat → Prop) (hs : Sl w S 3 A n (l.flatMap Undo.cells)) (hm : n ≤ 1048576) :
  Calls Tryz.prog 144 #[.slice A n c] w fun e w' => ∃ B d,e = .returned (.slice B n d) ∧ w'.ownsRow w.heap.size 243 3 (.slice B n d) n (l.flatMap Undo.cells) ∧ Ext w w':=by
 obtain ⟨w1,cs0,hmk,hown,-,hx1,hlt⟩:=made_row (P:=Tryz.prog) w 87 243 _ _ _ Tryz.underlying87 Tryz.infoUndo n (by omega) (by unfold maxLen;omega)
 have HO:=hid hown
 have HX:=hid hx1
 clear hown hx1
 go_enter Tryz.func144,Tryz.ntmps144
 go_wp2
 go_loopw [4] (fun i wr => ∃ (k : Nat) (cs : List Value),k ≤ n ∧ i = .int .i64 k ∧ wr.ownsRow w.heap.size 243 3 (.slice (some ⟨w.heap.size,0,none⟩) n n) n cs ∧ Upto cs (l.flatMap Undo.cells) (k * 3) ∧ Ext w wr) (fun i _ => n - (intOf i).toNat)
 case atStart => exact ⟨0,_,Nat.zero_le _,rfl,HO.out,Upto.zero _ _,HX.out⟩
 case round =>
  obtain ⟨k,cs,hk,rfl,ho,hu,hx⟩:=hrel
  by_cases hlt : k < n
  ·obtain ⟨b,o,s,rfl,hb,hxk,hc⟩:=(hs.ext hx).flat_at Undo.cells_length (by omega) hlt
   obtain ⟨f0,f1,f2⟩:=s
   have c0:=hc 0 (by omega)
   have c1:=hc 1 (by omega)
   have c2:=hc 2 (by omega)
   simp only [Undo.cells,List.getElem?_cons_zero,List.getElem?_cons_succ,Nat.add_zero] at c0 c1 c2
   have HX2:=hid hxk
   have HO2:=hid ho
   have HE2:=hid hx
   clear hxk ho hx hc
   go_wp2_with fail
   refine (toUndo_any _ _ _ _).mono ?_
   rintro e w2 ⟨rfl,hx2⟩
   have ho2:=own_ext HO2.out hx2
   obtain ⟨g,hA,-,-,hg⟩:=own_flat ho2 hlt
   obtain rfl : w.heap.size = g:=addr_inj hA
   obtain ⟨v0,g0,e0⟩:=hg 0 (by omega)
   obtain ⟨v1,g1,e1⟩:=hg 1 (by omega)
   obtain ⟨v2,g2,e2⟩:=hg 2 (by omega)
   rw [Nat.add_zero] at g0 e0
   have HX3:=hid hx2
   have HO3:=hid ho2
   clear hx2 ho2 hg
   go_wp2
   go_roundw
   case rel =>
    have t0:=HO3.out.stored (k * 3) (.int .i64 f0)
    have t1:=t0.1.stored (k * 3 + 1) (.int .i64 f1)
    have t2:=t1.1.stored (k * 3 + 2) (.int .i64 f2)
    have hl3 : cs.length = n * 3:=HO3.out.1
    have q0:=flat_get Undo.cells_length l k 0 _ HX2.out (by omega)
    have q1:=flat_get Undo.cells_length l k 1 _ HX2.out (by omega)
    have q2:=flat_get Undo.cells_length l k 2 _ HX2.out (by omega)
    refine ⟨k + 1,_,by omega,by go_num,t2.1,?_,?_⟩
    ·rw [show (k + 1) * 3 = k * 3 + 2 + 1 by omega]
     refine Upto.set1 (Upto.set1 (Upto.set1 hu (by omega) ?_) (by simp;omega) ?_) (by simp;omega) ?_
     ·exact q0
     ·exact q1
     ·exact q2
    ·exact ((((HE2.out.tr HX3.out)).sc (p:=⟨w.heap.size,_,none⟩) (Nat.le_refl _) _).sc (p:=⟨w.heap.size,_,none⟩) (Nat.le_refl _) _).sc (p:=⟨w.heap.size,_,none⟩) (Nat.le_refl _) _
   case measure => simp [intOf];omega
  ·go_wp2
   go_ret
   refine ⟨_,_,rfl,?_,hx⟩
   have : k = n:=by omega
   subst this
   rw [← hu.all ho.1 hs.1]
   exact ho

theorem eqUndo_same (f0 : Int) (f1 : Int) (f2 : Int) (w : World) :
  Calls Tryz.prog 214 #[.agg #[.int .i64 f0,.int .i64 f1,.int .i64 f2],.agg #[.int .i64 f0,.int .i64 f1,.int .i64 f2]] w fun e w' => e = .returned (.bool true) ∧ Ext w w':=by
 go_enter Tryz.func214,Tryz.ntmps214
 go_wp2
 go_ret
 refine ⟨rfl,?_⟩
 repeat (first|exact Ext.refl' _|refine Ext.al ?_ _)

theorem eqUndoS_same (A B : Option Addr) (n c d : Nat) (l : List Undo) (w : World) (S T : Nat → Prop) (ha : Sl w S 3 A n (l.flatMap Undo.cells)) (hb : Sl w T 3 B n (l.flatMap Undo.cells)) (hm : n ≤ 9223372036854775807) :
  Calls Tryz.prog 165 #[.slice A n c,.slice B n d] w fun e w' => e = .returned (.bool true) ∧ Ext w w':=by
 go_enter Tryz.func165,Tryz.ntmps165
 go_wp2
 go_loopw [5] (fun i wr => ∃ (k : Nat),k ≤ n ∧ i = .int .i64 k ∧ Ext w wr) (fun i _ => n - (intOf i).toNat)
 case atStart => exact ⟨0,Nat.zero_le _,rfl,Ext.refl' _⟩
 case round =>
  obtain ⟨k,hk,rfl,hx⟩:=hrel
  by_cases hlt : k < n
  ·obtain ⟨b1,o1,s,rfl,hb1,hxk,hc1⟩:=(ha.ext hx).flat_at Undo.cells_length (by omega) hlt
   obtain ⟨b2,o2,s',rfl,hb2,hyk,hc2⟩:=(hb.ext hx).flat_at Undo.cells_length (by omega) hlt
   rw [hxk] at hyk
   injection hyk with hyk
   subst hyk
   obtain ⟨f0,f1,f2⟩:=s
   have c0:=hc1 0 (by omega)
   have c1:=hc1 1 (by omega)
   have c2:=hc1 2 (by omega)
   have d0:=hc2 0 (by omega)
   have d1:=hc2 1 (by omega)
   have d2:=hc2 2 (by omega)
   simp only [Undo.cells,List.getElem?_cons_zero,List.getElem?_cons_succ,Nat.add_zero] at c0 c1 c2 d0 d1 d2
   have HE2:=hid hx
   clear hxk hx hc1 hc2
   go_wp2
   go_region_with (go_at_call 214;refine (eqUndo_same _ _ _ _).mono ?_;rintro e w2 ⟨rfl,hx2⟩)
   all_goals
    have HE3:=hid hx2
    clear hx2
    go_wp2
    go_roundw
    case rel => exact ⟨k + 1,by omega,by go_num,HE2.out.tr (Ext.tr (Ext.dr (Ext.refl' _)) HE3.out)⟩
    case measure => simp [intOf];omega
  ·go_wp2
   go_ret
   exact ⟨rfl,hx⟩

theorem szUndoS_any (A : Option Addr) (n c : Nat) (q : Int) (w : World) (hq : 0 ≤ q) (hq2 : q ≤ 1048576) (hn : n ≤ 9223372036854775807) :
  Calls Tryz.prog 127 #[.slice A n c,.int .i64 q] w fun e w' => e = .returned (.int .i64 (if (n : Int) ≤ q then q - n else -1)) ∧ w = w':=by
 by_cases h : (n : Int) ≤ q
 ·go_enter Tryz.func127,Tryz.ntmps127
  go_wp2
  go_ret
  exact ⟨by first|rfl|(simp;done)|simp [h],rfl⟩
 ·go_enter Tryz.func127,Tryz.ntmps127
  go_wp2
  go_ret
  exact ⟨by first|rfl|(simp;done)|simp [h],rfl⟩

/-! ### Probe -/
structure Probe where
 cell_ : Int
 phase_ : Int
 ver_ : Int
 val_ : Int
deriving Inhabited,DecidableEq
def Probe.cells (s : Probe) : List Value:=[.int .i64 s.cell_,.int .i64 s.phase_,.int .i64 s.ver_,.int .i64 s.val_]
theorem Probe.cells_length (s : Probe) : s.cells.length = 4:=rfl
def Probe.good (s : Probe) : Prop:=(Lit.int .i64 s.cell_).wf = true ∧ (Lit.int .i64 s.phase_).wf = true ∧ (Lit.int .i64 s.ver_).wf = true ∧ (Lit.int .i64 s.val_).wf = true
theorem opens_Probe : Opens Tryz.prog 141 (fun _ cs (s : Probe) => cs = s.cells ∧ s.good):=by
 intro H enc w base spare held fuel cs x h
 obtain ⟨hl,m,hf⟩:=trod_fields Tryz.underlying141 (by kernel_rfl) (by kernel_rfl) h
 obtain ⟨v0,y0,e0,t0⟩:=hf 0 _ rfl
 obtain ⟨f0,h0,-,g0⟩:=DataW.trod_int Tryz.underlying3 t0
 injection h0 with h0 _;subst h0
 obtain ⟨v1,y1,e1,t1⟩:=hf 1 _ rfl
 obtain ⟨f1,h1,-,g1⟩:=DataW.trod_int Tryz.underlying3 t1
 injection h1 with h1 _;subst h1
 obtain ⟨v2,y2,e2,t2⟩:=hf 2 _ rfl
 obtain ⟨f2,h2,-,g2⟩:=DataW.trod_int Tryz.underlying3 t2
 injection h2 with h2 _;subst h2
 obtain ⟨v3,y3,e3,t3⟩:=hf 3 _ rfl
 obtain ⟨f3,h3,-,g3⟩:=DataW.trod_int Tryz.underlying3 t3
 injection h3 with h3 _;subst h3
 refine ⟨⟨f0,f1,f2,f3⟩,?_,⟨g0,g1,g2,g3⟩⟩
 match cs,hl with
 | [c0,c1,c2,c3],_ =>
  simp only [List.getElem?_cons_succ,List.getElem?_cons_zero,Option.some.injEq] at e0 e1 e2 e3
  subst e0 e1 e2 e3
  rfl

theorem toProbe_any (f0 : Int) (f1 : Int) (f2 : Int) (f3 : Int) (w : World) :
  Calls Tryz.prog 145 #[.agg #[.int .i64 f0,.int .i64 f1,.int .i64 f2,.int .i64 f3]] w fun e w' => e = .returned (.agg #[.int .i64 f0,.int .i64 f1,.int .i64 f2,.int .i64 f3]) ∧ Ext w w':=by
 go_enter Tryz.func145,Tryz.ntmps145
 go_wp2
 refine bodyPost_ret (v:=.agg #[.int .i64 f0,.int .i64 f1,.int .i64 f2,.int .i64 f3]) (by simp [results,Tryz.results145,go_sem]) rfl ⟨rfl,?_⟩
 repeat (first|exact Ext.refl' _|refine Ext.al ?_ _|refine Ext.sc ?_ (by simp) _)

theorem eqProbe_same (f0 : Int) (f1 : Int) (f2 : Int) (f3 : Int) (w : World) :
  Calls Tryz.prog 166 #[.agg #[.int .i64 f0,.int .i64 f1,.int .i64 f2,.int .i64 f3],.agg #[.int .i64 f0,.int .i64 f1,.int .i64 f2,.int .i64 f3]] w fun e w' => e = .returned (.bool true) ∧ Ext w w':=by
 go_enter Tryz.func166,Tryz.ntmps166
 go_wp2
 go_ret
 refine ⟨rfl,?_⟩
 repeat (first|exact Ext.refl' _|refine Ext.al ?_ _)


end Go.Proofs.YtoegjiigaoanbaaGreat
namespace Go.Proofs.YtoegjiigaoanbaaGreat
open Go.RowKit Go.Deep
set_option linter.unnecessarySimpa false
set_option maxHeartbeats 400000000
open Go.Lib (hid)

/-! ### Mark -/
structure Mark where
 pc_ : Int
 reads_ : Int
 writes_ : Int
 undos_ : Int
 regs_ : List Int
deriving Inhabited
def Mark.wt (x : Mark) : Nat:=x.regs_.length
def Mark.R (w : World) (S : Nat → Prop) (cs : List Value) (x : Mark) : Prop:=∃ (A0 : Option Addr) (n0 c0 : Nat),cs = [.int .i64 x.pc_,.int .i64 x.reads_,.int .i64 x.writes_,.int .i64 x.undos_,.slice A0 n0 c0] ∧ (n0 ≤ c0 ∧ n0 ≤ 9223372036854775807 ∧ Sl w S 1 A0 n0 (ints x.regs_))
def Mark.W (w : World) (S : Nat → Prop) (cs : List Value) (x : Mark) : Prop:=∃ (A0 : Option Addr) (n0 c0 : Nat) (lab : Nat → Nat),cs = [.int .i64 x.pc_,.int .i64 x.reads_,.int .i64 x.writes_,.int .i64 x.undos_,.slice A0 n0 c0] ∧ (n0 ≤ c0 ∧ n0 ≤ 9223372036854775807 ∧ OwS w (fun g => S g ∧ lab g = 0) 3 1 A0 n0 c0 (ints x.regs_))
theorem Mark.R_good : Good Mark.R 5:=⟨fun {_ _ _ _} h => by
  obtain ⟨A0,n0,c0,rfl,⟨kh0,mh0,h0⟩⟩:=h
  rfl,
 fun {_ _ _ _ _ _} h k hd => by
  obtain ⟨A0,n0,c0,rfl,⟨kh0,mh0,h0⟩⟩:=h
  exact ⟨_,_,_,rfl,⟨kh0,mh0,h0.chg k hd⟩⟩,
 fun {_ _ _ _ _} h hs => by
  obtain ⟨A0,n0,c0,rfl,⟨kh0,mh0,h0⟩⟩:=h
  exact ⟨_,_,_,rfl,⟨kh0,mh0,h0.mono hs⟩⟩⟩
theorem Mark.W_good : Good Mark.W 5:=⟨fun {_ _ _ _} h => by
  obtain ⟨A0,n0,c0,lab,rfl,⟨kh0,mh0,h0⟩⟩:=h
  rfl,
 fun {_ _ _ _ _ _} h k hd => by
  obtain ⟨A0,n0,c0,lab,rfl,⟨kh0,mh0,h0⟩⟩:=h
  exact ⟨_,_,_,lab,rfl,⟨kh0,mh0,h0.chg k fun i hi => hd i hi.1⟩⟩,
 fun {_ _ _ _ _} h hs => by
  obtain ⟨A0,n0,c0,lab,rfl,⟨kh0,mh0,h0⟩⟩:=h
  exact ⟨_,_,_,lab,rfl,⟨kh0,mh0,h0.mono fun i _ hi => ⟨hs i hi.1,hi.2⟩⟩⟩⟩
theorem Mark.W_R {w : World} {S : Nat → Prop} {cs : List Value} {x : Mark} (h : Mark.W w S cs x) : Mark.R w S cs x:=by
 obtain ⟨A0,n0,c0,lab,rfl,⟨kh0,mh0,h0⟩⟩:=h
 exact ⟨_,_,_,rfl,⟨kh0,mh0,h0.sl.mono fun i hi => hi.1⟩⟩
theorem Mark.R_cells {w : World} {S : Nat → Prop} {cs : List Value} {x : Mark} (h : Mark.R w S cs x) : ∃ (A0 : Option Addr) (n0 c0 : Nat),cs = [.int .i64 x.pc_,.int .i64 x.reads_,.int .i64 x.writes_,.int .i64 x.undos_,.slice A0 n0 c0]:=by
 obtain ⟨A0,n0,c0,rfl,⟨kh0,mh0,h0⟩⟩:=h
 exact ⟨A0,n0,c0,rfl⟩
theorem Mark.W_cells {w : World} {S : Nat → Prop} {cs : List Value} {x : Mark} (h : Mark.W w S cs x) : ∃ (A0 : Option Addr) (n0 c0 : Nat),cs = [.int .i64 x.pc_,.int .i64 x.reads_,.int .i64 x.writes_,.int .i64 x.undos_,.slice A0 n0 c0]:=by
 obtain ⟨A0,n0,c0,lab,rfl,⟨kh0,mh0,h0⟩⟩:=h
 exact ⟨A0,n0,c0,rfl⟩
set_option maxRecDepth 8000 in
theorem opens_Mark : Opens Tryz.prog 260 (fun w cs (x : Mark) => Mark.R w (fun _ => True) cs x):=by
 intro H enc w base spare held fuel cs x h
 obtain ⟨xs,n,_,_,hlen,hxl,hf⟩:=DataW.trod_struct Tryz.underlying260 h
 rw [show Tryz.prog.cellsOf 260 = 5 from by kernel_rfl] at hlen
 have hxl' : xs.length = 5:=hxl
 have h0 : DataW.trod enc Tryz.prog w base spare held n 3 ((cs.drop 0).take (Tryz.prog.cellsOf 3)) = xs[0]?:=hf 0 _ rfl
 rw [show Tryz.prog.cellsOf 3 = 1 from by kernel_rfl,List.getElem?_eq_getElem (show 0 < xs.length by omega)] at h0
 obtain ⟨f0,e0,-,-⟩:=DataW.trod_int Tryz.underlying3 h0
 have h1 : DataW.trod enc Tryz.prog w base spare held n 3 ((cs.drop 1).take (Tryz.prog.cellsOf 3)) = xs[1]?:=hf 1 _ rfl
 rw [show Tryz.prog.cellsOf 3 = 1 from by kernel_rfl,List.getElem?_eq_getElem (show 1 < xs.length by omega)] at h1
 obtain ⟨f1,e1,-,-⟩:=DataW.trod_int Tryz.underlying3 h1
 have h2 : DataW.trod enc Tryz.prog w base spare held n 3 ((cs.drop 2).take (Tryz.prog.cellsOf 3)) = xs[2]?:=hf 2 _ rfl
 rw [show Tryz.prog.cellsOf 3 = 1 from by kernel_rfl,List.getElem?_eq_getElem (show 2 < xs.length by omega)] at h2
 obtain ⟨f2,e2,-,-⟩:=DataW.trod_int Tryz.underlying3 h2
 have h3 : DataW.trod enc Tryz.prog w base spare held n 3 ((cs.drop 3).take (Tryz.prog.cellsOf 3)) = xs[3]?:=hf 3 _ rfl
 rw [show Tryz.prog.cellsOf 3 = 1 from by kernel_rfl,List.getElem?_eq_getElem (show 3 < xs.length by omega)] at h3
 obtain ⟨f3,e3,-,-⟩:=DataW.trod_int Tryz.underlying3 h3
 have h4 : DataW.trod enc Tryz.prog w base spare held n 22 ((cs.drop 4).take (Tryz.prog.cellsOf 22)) = xs[4]?:=hf 4 _ rfl
 rw [show Tryz.prog.cellsOf 22 = 1 from by kernel_rfl,List.getElem?_eq_getElem (show 4 < xs.length by omega)] at h4
 obtain ⟨f4,A4,n4,c4,e4,g4,g4',-,-,s4⟩:=opens_ints Tryz.underlying22 Tryz.underlying3 (by kernel_rfl) H enc w base spare held n _ _ h4
 clear h0 h1 h2 h3 h4 hf h hxl hxl'
 match cs,hlen with
 | [q0,q1,q2,q3,q4],_ =>
  simp only [List.drop_succ_cons,List.drop_zero,List.take_succ_cons,List.take_zero,List.cons.injEq,and_true] at e0 e1 e2 e3 e4
  subst e0
  subst e1
  subst e2
  subst e3
  subst e4
  exact ⟨⟨f0,f1,f2,f3,f4⟩,_,_,_,rfl,⟨g4,Nat.le_trans g4 g4',s4⟩⟩
set_option maxRecDepth 8000 in
theorem szMark_any (x : Mark) (cs : List Value) (q : Int) (w : World) (S : Nat → Prop) (h : Mark.R w S cs x) (hq0 : 0 ≤ q) (hq2 : q ≤ 1048576) :
  Calls Tryz.prog 182 #[.agg cs.toArray,.int .i64 q] w fun e w' => ∃ r : Int,e = .returned (.int .i64 r) ∧ Left r q (Mark.wt x) ∧ Ext w w':=by
 obtain ⟨A0,n0,c0,rfl,⟨kh0,mh0,h0⟩⟩:=h
 have H0:=hid h0
 clear h0
 show Calls Tryz.prog _ #[.agg #[.int .i64 x.pc_,.int .i64 x.reads_,.int .i64 x.writes_,.int .i64 x.undos_,.slice A0 n0 c0],.int .i64 q] w _
 go_enter Tryz.func182,Tryz.ntmps182
 go_wp2_with fail
 have L0:=hid (H0.out.len)
 refine (szIntS_any _ _ _ (q) _ hq0 hq2 mh0).mono ?_
 rintro e w1 ⟨rfl,xq⟩
 have x1:=Ext.of_eq xq
 clear xq
 have Q0 : Hid (Left (if (n0 : Int) ≤ q then q - n0 else -1) q (x.regs_.length)):=by show Left _ _ _;rw [L0.out];exact Left.of_if
 generalize (if (n0 : Int) ≤ q then q - n0 else -1) = r0 at Q0
 have X1 : Ext w w1:=Ext.tr (((Ext.refl' w).al _)) x1
 have b1 : Hid (Bx w1 w.heap.size 260 #[.int .i64 x.pc_,.int .i64 x.reads_,.int .i64 x.writes_,.int .i64 x.undos_,.slice A0 n0 c0]):=Bx.ext (Bx.new' _ _ _ rfl) x1
 clear x1
 have R0 : Hid (Left r0 q (x.regs_.length)):=Q0
 by_cases g0 : 0 ≤ r0
 rotate_left
 ·have e0 : r0 = -1:=by have a:=R0.out;unfold Left at a;omega
  subst e0
  clear g0
  go_wp2
  go_ret
  exact ⟨-1,rfl,by have a:=R0.out;unfold Left Mark.wt at *;omega,X1⟩
 have u0 : r0 ≤ 1048576:=by have a:=R0.out;unfold Left at a;omega
 go_wp2
 go_ret
 exact ⟨r0,rfl,R0.out,X1⟩
theorem Mark.size_info : (Tryz.prog.info? 241).map (·.size) = some 5:=by kernel_rfl
theorem Mark.size_laws : (Tryz.prog.info? 260).map (·.size) = some 5:=by kernel_rfl
theorem Mark.W_one {w : World} {S : Nat → Prop} {cs : List Value} {x : Mark} (h : Mark.W w S cs x) : ∀ v ∈ cs,v.oneCell' = true:=by
 obtain ⟨A0,n0,c0,rfl⟩:=Mark.W_cells h
 simp [Value.oneCell']
set_option maxRecDepth 8000 in
theorem szMarkS_any (A : Option Addr) (n c : Nat) (l : List Mark) (q : Int) (w : World) (S : Nat → Prop) (hs : SlR Mark.R 5 w S A n l) (hm : n ≤ 9223372036854775807) (hq0 : 0 ≤ q) (hq2 : q ≤ 1048576) :
  Calls Tryz.prog 126 #[.slice A n c,.int .i64 q] w fun e w' => ∃ r : Int,e = .returned (.int .i64 r) ∧ Left r q (wtl Mark.wt l) ∧ Ext w w':=by
 have H:=hid hs.1
 have HL:=hid (wtl_len Mark.wt l)
 by_cases hn : (n : Int) ≤ q
 rotate_left
 ·go_enter Tryz.func126,Tryz.ntmps126
  go_wp2
  go_ret
  exact ⟨-1,by first|rfl|(simp;done)|simp [hn],.inr ⟨by have a:=H.out;have b:=HL.out;omega,rfl⟩,Ext.refl' _⟩
 have HS:=hid hs
 clear hs
 go_enter Tryz.func126,Tryz.ntmps126
 go_wp2
 go_loopw [1,5] (fun u i wr => ∃ (k : Nat) (r : Int),k ≤ n ∧ i = .int .i64 k ∧ u = .int .i64 r ∧ 0 ≤ r ∧ r ≤ 1048576 ∧ Hid (r = q - n + k - wtl Mark.wt (l.take k)) ∧ Ext w wr) (fun _ i _ => n - (intOf i).toNat)
 case atStart => exact ⟨0,q - n,Nat.zero_le _,rfl,rfl,by omega,by omega,by show _ = _;simp [wtl],Ext.refl' _⟩
 case round =>
  obtain ⟨k,r,hk,rfl,rfl,hr0,hr2,HR,hx⟩:=hrel
  have HX:=hid hx
  clear hx
  by_cases hlt : (k : Int) < (n : Int)
  rotate_left
  ·have e : Hid (k = n):=by show k = n;omega
   go_wp2
   go_ret
   exact ⟨r,rfl,.inl (by have h1:=HR.out;rw [e.out,← H.out,List.take_length] at h1;have h2:=H.out;omega),HX.out⟩
  obtain ⟨b,o,rfl⟩:=HS.out.addr (by omega)
  obtain ⟨x,row,hxk,-,hrw,hc⟩:=(HS.out.ext Mark.R_good HX.out).at_ (k:=k) (by omega)
  have hrg:=hid (SlR.range Mark.R_good hrw hc)
  have hln : Hid ((Tryz.prog.info? 260).map (·.size) = some row.length):=by show _ = _;rw [Mark.R_good.len hrw];exact Mark.size_laws
  have HRW:=hid hrw
  have HW:=hid (wtl_take Mark.wt hxk)
  have HLE:=hid (wtl_le Mark.wt l (k + 1))
  have HTL:=hid (wtl_len Mark.wt (l.drop (k + 1)))
  clear hrw hc hxk
  go_wp2_with (refine wpList_load_mid rfl 260 _ rfl b (o + k * 5) rfl row _ hrg.out Tryz.underlying260 rfl hln.out ?_)
  refine (szMark_any x _ r _ S HRW.out hr0 hr2).mono ?_
  rintro e w2 ⟨r2,rfl,Q,x2⟩
  have X2:=hid (HX.out.tr x2)
  have HQ:=hid Q
  clear x2 Q
  by_cases g : 0 ≤ r2
  rotate_left
  ·have e : r2 = -1:=by have a:=HQ.out;unfold Left at a;omega
   subst e
   clear g
   go_wp2
   go_ret
   exact ⟨-1,rfl,.inr ⟨by have a:=HQ.out;have b:=HW.out;have c:=HR.out;have d:=HLE.out;have e:=H.out;have f:=wtl_rest Mark.wt l (k + 1);unfold Left at a;omega,rfl⟩,X2.out⟩
  have g2 : r2 ≤ 1048576:=by have a:=HQ.out;unfold Left at a;omega
  go_wp2
  go_roundw
  case rel => exact ⟨k + 1,r2,by omega,by go_num,rfl,g,g2,by show _ = _;have a:=HQ.out;have b:=HW.out;have c:=HR.out;unfold Left at a;omega,X2.out⟩
  case measure => simp [intOf];omega
set_option maxRecDepth 8000 in
theorem toMark_any (x : Mark) (cs : List Value) (w : World) (S : Nat → Prop) (h : Mark.R w S cs x) (hw : Mark.wt x ≤ 1048576) :
  Calls Tryz.prog 193 #[.agg cs.toArray] w fun e w' => ∃ cs',e = .returned (.agg cs'.toArray) ∧ Mark.W w' (fun g => w.heap.size ≤ g ∧ g < w'.heap.size) cs' x ∧ Ext w w':=by
 obtain ⟨A0,n0,c0,rfl,⟨kh0,mh0,h0⟩⟩:=h
 unfold Mark.wt at hw
 have l0:=h0.len
 have n_0 : n0 ≤ 1048576:=by omega
 have H0:=hid h0
 clear h0 hw l0
 show Calls Tryz.prog _ #[.agg #[.int .i64 x.pc_,.int .i64 x.reads_,.int .i64 x.writes_,.int .i64 x.undos_,.slice A0 n0 c0]] w _
 go_enter Tryz.func193,Tryz.ntmps193
 go_wp2_with fail
 refine (toIntS_any _ _ _ _ _ S (H0.out.ext ((((Ext.refl' w).al _).al _).al _)) n_0).mono ?_
 rintro e w1 ⟨B0,d0,rfl,o0,x1⟩
 have K0 : Hid (n0 ≤ d0):=own_cap o0
 replace o0:=hid (OwS.of_own o0)
 have z1 : w.heap.size + 3 ≤ w1.heap.size:=by have h:=x1.size;(try simp at h);omega
 have ba1 : Hid (Bx w1 (w.heap.size) 260 #[.int .i64 x.pc_,.int .i64 x.reads_,.int .i64 x.writes_,.int .i64 x.undos_,.slice A0 n0 c0]):=Bx.ext (((Bx.new' _ _ _ rfl).al _).al _) x1
 have br1 : Hid (Bx w1 (w.heap.size + 1) 241 #[.int .i64 0,.int .i64 0,.int .i64 0,.int .i64 0,.slice none 0 0]):=Bx.ext ((Bx.new' _ _ _ (by simp)).al _) x1
 have bo1 : Hid (Bx w1 (w.heap.size + 2) 241 #[.int .i64 x.pc_,.int .i64 x.reads_,.int .i64 x.writes_,.int .i64 x.undos_,.slice none 0 0]):=Bx.ext (Bx.new' _ _ _ (by simp)) x1
 have X1 : Ext w w1:=Ext.tr ((((Ext.refl' w).al _).al _).al _) x1
 replace o0 : Hid (OwS w1 (fun g => w.heap.size + 3 ≤ g ∧ g < w1.heap.size) 3 1 B0 n0 d0 (ints x.regs_)):=o0.out.mono (fun g _ hg => by have h1:=hg.1;have h2:=hg.2;constructor <;> (try simp at h1) <;> omega)
 clear x1
 have co1_0 : w1.cell? ⟨w.heap.size + 2,0,none⟩ = some (.int .i64 x.pc_):=bo1.out.cell 0
 have co1_1 : w1.cell? ⟨w.heap.size + 2,1,none⟩ = some (.int .i64 x.reads_):=bo1.out.cell 1
 have co1_2 : w1.cell? ⟨w.heap.size + 2,2,none⟩ = some (.int .i64 x.writes_):=bo1.out.cell 2
 have co1_3 : w1.cell? ⟨w.heap.size + 2,3,none⟩ = some (.int .i64 x.undos_):=bo1.out.cell 3
 have co1_4 : w1.cell? ⟨w.heap.size + 2,4,none⟩ = some (.slice none 0 0):=bo1.out.cell 4
 have fo1_4 : w1.frozen? ⟨w.heap.size + 2,4,none⟩ = false:=bo1.out.frozen 4
 have cr1_0 : w1.cell? ⟨w.heap.size + 1,0,none⟩ = some (.int .i64 0):=br1.out.cell 0
 have fr1_0 : w1.frozen? ⟨w.heap.size + 1,0,none⟩ = false:=br1.out.frozen 0
 have cr1_1 : w1.cell? ⟨w.heap.size + 1,1,none⟩ = some (.int .i64 0):=br1.out.cell 1
 have fr1_1 : w1.frozen? ⟨w.heap.size + 1,1,none⟩ = false:=br1.out.frozen 1
 have cr1_2 : w1.cell? ⟨w.heap.size + 1,2,none⟩ = some (.int .i64 0):=br1.out.cell 2
 have fr1_2 : w1.frozen? ⟨w.heap.size + 1,2,none⟩ = false:=br1.out.frozen 2
 have cr1_3 : w1.cell? ⟨w.heap.size + 1,3,none⟩ = some (.int .i64 0):=br1.out.cell 3
 have fr1_3 : w1.frozen? ⟨w.heap.size + 1,3,none⟩ = false:=br1.out.frozen 3
 have cr1_4 : w1.cell? ⟨w.heap.size + 1,4,none⟩ = some (.slice none 0 0):=br1.out.cell 4
 have fr1_4 : w1.frozen? ⟨w.heap.size + 1,4,none⟩ = false:=br1.out.frozen 4
 go_wp2
 refine bodyPost_ret (v:=.agg #[.int .i64 x.pc_,.int .i64 x.reads_,.int .i64 x.writes_,.int .i64 x.undos_,.slice B0 n0 d0]) (by simp [results,Tryz.results193,go_sem,cr1_0,cr1_1,cr1_2,cr1_3,cr1_4]) rfl ⟨[.int .i64 x.pc_,.int .i64 x.reads_,.int .i64 x.writes_,.int .i64 x.undos_,.slice B0 n0 d0],rfl,?_,?_⟩
 ·refine (?_ : ∀ wz,Chg (fun g => g = w.heap.size + 2 ∨ g = w.heap.size + 1) w1 wz → Mark.W wz (fun g => w.heap.size ≤ g ∧ g < wz.heap.size) [.int .i64 x.pc_,.int .i64 x.reads_,.int .i64 x.writes_,.int .i64 x.undos_,.slice B0 n0 d0] x) _ (((((((Chg.refl (fun g => g = w.heap.size + 2 ∨ g = w.heap.size + 1) _).sc2 _).sc2 _).sc2 _).sc2 _).sc2 _).sc2 _)
  intro wz cc
  have zz:=cc.size
  exact ⟨B0,n0,d0,lb [w1.heap.size],rfl,⟨K0.out,mh0,(o0.out.chg cc (fun g hg q => by have h1:=hg.1;have hq3 : g = w.heap.size + 2 ∨ g = w.heap.size + 1:=q;omega)).mono (fun g _ hg => ⟨⟨by have h1:=hg.1;omega,by have h2:=hg.2;omega⟩,by have h1:=hg.1;have h2:=hg.2;exact lb_here (by omega)⟩)⟩⟩
 ·exact ((((((X1).sc2 _).sc2 _).sc2 _).sc2 _).sc2 _).sc2 _
theorem Tryz.infoMark : (Tryz.prog.info? 241).map (fun i => (i.zero,i.size,i.bytes)) = some (some (.agg #[.int .i64 0,.int .i64 0,.int .i64 0,.int .i64 0,.slice none 0 0]),5,56):=by kernel_rfl
set_option maxRecDepth 8000 in
theorem toMarkS_any (A : Option Addr) (n c : Nat) (l : List Mark) (w : World) (S : Nat → Prop) (hs : SlR Mark.R 5 w S A n l) (hm : n ≤ 1048576) (hw : wtl Mark.wt l ≤ 1048576) :
  Calls Tryz.prog 143 #[.slice A n c] w fun e w' => ∃ B d,e = .returned (.slice B n d) ∧ SlW Mark.W 241 5 w' (fun g => w.heap.size ≤ g ∧ g < w'.heap.size) B n d l ∧ Ext w w':=by
 obtain ⟨w1,cs0,hmk,hown,-,hx1,hlt⟩:=made_row (P:=Tryz.prog) w 86 241 _ _ _ Tryz.underlying86 Tryz.infoMark n (by omega) (by unfold maxLen;omega)
 have HO:=hid hown
 have HX:=hid hx1
 have HS:=hid hs
 have HLL:=hid hs.1
 have HW0:=hid hw
 clear hown hx1 hs hw
 go_enter Tryz.func143,Tryz.ntmps143
 go_wp2
 go_loopw [4] (fun i wr => ∃ (k : Nat) (cs : List Value) (lab : Nat → Nat),k ≤ n ∧ i = .int .i64 k ∧ Hid (wr.ownsRow w.heap.size 241 5 (.slice (some ⟨w.heap.size,0,none⟩) n n) n cs) ∧ Hid (WRows Mark.W 5 wr (fun g => w.heap.size < g ∧ g < wr.heap.size) lab cs l k) ∧ Ext w wr) (fun i _ => n - (intOf i).toNat)
 case atStart => exact ⟨0,_,fun _ => 0,Nat.zero_le _,rfl,HO,WRows.zero _ _ _ _ _ _ _,HX.out⟩
 case round =>
  obtain ⟨k,cs,lab,hk,rfl,HO2,HU,hx⟩:=hrel
  have HX2:=hid hx
  clear hx
  by_cases hlt : (k : Int) < (n : Int)
  rotate_left
  ·have e : Hid (k = n):=by show k = n;omega
   go_wp2
   go_ret
   refine ⟨_,_,rfl,⟨HLL.out,cs,fun g => if w.heap.size < g then lab g else 0,⟨own_base HO2.out (Nat.zero_le _),fun g hg => ?_⟩,fun i hi x hxi => ?_⟩,HX2.out⟩
   ·have e : some w.heap.size = some g:=hg
    injection e with e
    subst e
    exact ⟨⟨Nat.le_refl _,(HO2.out.lt _ rfl).2⟩,if_neg (Nat.lt_irrefl _)⟩
   ·obtain ⟨row,hr,hj⟩:=HU.out i (by have h:=e.out;omega) x hxi
    exact ⟨row,Mark.W_good.mono hr fun g hg => ⟨⟨by have h:=hg.1.1;omega,hg.1.2⟩,(if_pos hg.1.1).trans hg.2⟩,hj⟩
  obtain ⟨b,o,rfl⟩:=HS.out.addr (by omega)
  obtain ⟨x,row,hxk,-,hrw,hc⟩:=(HS.out.ext Mark.R_good HX2.out).at_ (k:=k) (by omega)
  have hrg:=hid (SlR.range Mark.R_good hrw hc)
  have hln : Hid ((Tryz.prog.info? 260).map (·.size) = some row.length):=by show _ = _;rw [Mark.R_good.len hrw];exact Mark.size_laws
  have HRW:=hid hrw
  have HXK:=hid hxk
  have HKW:=hid (Nat.le_trans (wtl_at Mark.wt hxk) HW0.out)
  have HLT : Hid (k < n):=by show k < n;omega
  clear hrw hc hxk
  go_wp2_with (refine wpList_load_mid rfl 260 _ rfl b (o + k * 5) rfl row _ hrg.out Tryz.underlying260 rfl hln.out ?_)
  refine (toMark_any x _ _ S HRW.out HKW.out).mono ?_
  rintro e w2 ⟨cv,rfl,hW,hx2⟩
  have HWW:=hid hW
  have HO3:=hid (own_ext HO2.out hx2)
  have z0 : w.heap.size < wr.heap.size:=(HO2.out.lt _ rfl).2
  have z1 : wr.heap.size ≤ w2.heap.size:=hx2.size
  have HX3:=hid hx2
  have hcz : cv.toArray.size = 5:=Eq.trans (List.size_toArray ..) (Mark.W_good.len hW)
  have hth : Hid (w2.there w.heap.size (k * 5) cv.toArray.size):=by show World.there _ _ _ _;rw [hcz];exact own_there HO3.out HLT.out
  have hsz : Hid ((Tryz.prog.info? 241).map (·.size) = some cv.toArray.size):=by show _ = _;rw [hcz];exact Mark.size_info
  have hon : Hid (cv.toArray.all (·.oneCell') = true):=all_oneCell_toArray (Mark.W_one hW)
  clear hx2 hW hcz
  go_wp2_with (refine wpList_store_mid rfl 241 _ _ rfl w.heap.size (k * 5) cv.toArray rfl rfl hth.out hsz.out hon.out ?_)
  go_roundw
  case rel =>
   have hl3 : cs.length = n * 5:=HO2.out.1
   have hkn:=HLT.out
   have hcl:=Mark.W_good.len HWW.out
   have cc : Chg (fun g => g = w.heap.size) w2 (w2.setCells w.heap.size (k * 5) cv):=Chg.cells (S:=fun g => g = w.heap.size) rfl cv _ (Chg.refl _ _)
   have hsize : w2.heap.size ≤ (w2.setCells w.heap.size (k * 5) cv).heap.size:=cc.size
   refine ⟨k + 1,putAt cs (k * 5) cv,_,by omega,by go_num,hid (own_cells cv (k * 5) HO3.out),hid (WRows.step (b:=wr.heap.size) Mark.W_good HU.out (fun g hg => hg.2) (Chg.trans (HX3.out.chg _) cc) (fun g hg q => by have h1:=hg.1;have h2 : g = w.heap.size:=q;omega) (fun g hg => ⟨hg.1,by have h:=hg.2;show g < (w2.setCells _ _ cv).heap.size;omega⟩) HXK.out (Mark.W_good.mono (Mark.W_good.chg HWW.out cc (fun g hg q => by have h1:=hg.1;have h2 : g = w.heap.size:=q;omega)) (fun g hg => ⟨⟨by have h1:=hg.1;omega,by have h:=hg.2;show g < (w2.setCells _ _ cv).heap.size;omega⟩,hg.1⟩)) (fun j hj => putAt_lt _ _ _ _ hj) (fun j hj => putAt_at _ _ _ _ (by omega) (by omega))),?_⟩
   exact (HX2.out.tr HX3.out).cells (Nat.le_refl _) cv _
  case measure => have h:=HLT.out;simp [intOf];omega
set_option maxRecDepth 8000 in
theorem eqMark_same (x : Mark) (cs cs' : List Value) (w : World) (S S' : Nat → Prop) (h : Mark.R w S cs x) (u : Mark.R w S' cs' x) :
  Calls Tryz.prog 213 #[.agg cs.toArray,.agg cs'.toArray] w fun e w' => e = .returned (.bool true) ∧ Ext w w':=by
 obtain ⟨A0,n0,c0,rfl,⟨kh0,mh0,h0⟩⟩:=h
 obtain ⟨B0,p0,d0,rfl,⟨ku0,mu0,u0⟩⟩:=u
 obtain rfl : n0 = p0:=by have a:=h0.len;have b:=u0.len;omega
 have H0:=hid h0
 have U0:=hid u0
 clear h0 u0
 show Calls Tryz.prog _ #[.agg #[.int .i64 x.pc_,.int .i64 x.reads_,.int .i64 x.writes_,.int .i64 x.undos_,.slice A0 n0 c0],.agg #[.int .i64 x.pc_,.int .i64 x.reads_,.int .i64 x.writes_,.int .i64 x.undos_,.slice B0 n0 d0]] w _
 go_enter Tryz.func213,Tryz.ntmps213
 go_wp2_with fail
 refine (eqIntS_same _ _ _ _ _ _ _ S S' (H0.out.ext (((Ext.refl' w).al _).al _)) (U0.out.ext (((Ext.refl' w).al _).al _)) mh0).mono ?_
 rintro e w1 ⟨rfl,x1⟩
 have z1 : w.heap.size + 2 ≤ w1.heap.size:=by have h:=x1.size;(try simp at h);omega
 have ba1 : Hid (Bx w1 (w.heap.size) 241 #[.int .i64 x.pc_,.int .i64 x.reads_,.int .i64 x.writes_,.int .i64 x.undos_,.slice A0 n0 c0]):=Bx.ext ((Bx.new' _ _ _ rfl).al _) x1
 have bb1 : Hid (Bx w1 (w.heap.size + 1) 241 #[.int .i64 x.pc_,.int .i64 x.reads_,.int .i64 x.writes_,.int .i64 x.undos_,.slice B0 n0 d0]):=Bx.ext (Bx.new' _ _ _ (by simp)) x1
 have X1 : Ext w w1:=Ext.tr (((Ext.refl' w).al _).al _) x1
 clear x1
 go_wp2
 go_ret
 exact ⟨rfl,X1⟩
set_option maxRecDepth 8000 in
theorem eqMarkS_same (A B : Option Addr) (n c d : Nat) (l : List Mark) (w : World) (S S' : Nat → Prop) (ha : SlR Mark.R 5 w S A n l) (hb : SlR Mark.R 5 w S' B n l) (hm : n ≤ 9223372036854775807) :
  Calls Tryz.prog 164 #[.slice A n c,.slice B n d] w fun e w' => e = .returned (.bool true) ∧ Ext w w':=by
 have HA:=hid ha
 have HB:=hid hb
 clear ha hb
 go_enter Tryz.func164,Tryz.ntmps164
 go_wp2
 go_loopw [5] (fun i wr => ∃ (k : Nat),k ≤ n ∧ i = .int .i64 k ∧ Ext w wr) (fun i _ => n - (intOf i).toNat)
 case atStart => exact ⟨0,Nat.zero_le _,rfl,Ext.refl' _⟩
 case round =>
  obtain ⟨k,hk,rfl,hx⟩:=hrel
  have HX:=hid hx
  clear hx
  by_cases hlt : (k : Int) < (n : Int)
  rotate_left
  ·go_wp2
   go_ret
   exact ⟨rfl,HX.out⟩
  obtain ⟨b,o,rfl⟩:=HA.out.addr (by omega)
  obtain ⟨b2,o2,rfl⟩:=HB.out.addr (by omega)
  obtain ⟨x,row,hxk,-,hrw,hc⟩:=(HA.out.ext Mark.R_good HX.out).at_ (k:=k) (by omega)
  obtain ⟨y,row2,hyk,-,hrw2,hc2⟩:=(HB.out.ext Mark.R_good HX.out).at_ (k:=k) (by omega)
  rw [hxk] at hyk
  injection hyk with hyk
  subst hyk
  have rx:=hid (SlR.range Mark.R_good hrw hc)
  have ry:=hid (SlR.range Mark.R_good hrw2 hc2)
  have RX:=hid hrw
  have RY:=hid hrw2
  have l1 : Hid ((Tryz.prog.info? 241).map (·.size) = some row.length):=by show _ = _;rw [Mark.R_good.len hrw];exact Mark.size_info
  have l2 : Hid ((Tryz.prog.info? 241).map (·.size) = some row2.length):=by show _ = _;rw [Mark.R_good.len hrw2];exact Mark.size_info
  have KX : Hid (∀ wq,Ext wr wq → wq.rangeAt b (o + k * 5) row):=fun wq q j v hv => q.co (rx.out j v hv)
  have KY : Hid (∀ wq,Ext wr wq → wq.rangeAt b2 (o2 + k * 5) row2):=fun wq q j v hv => q.co (ry.out j v hv)
  have hk0 : (0 : Int) ≤ (k : Int):=by omega
  clear hrw hrw2 hc hc2 hxk
  go_wp2
  refine region_class (fun w' => Ext wr w') (by kernel_rfl) (by kernel_rfl) ((Ext.refl' _).dr) ?_
  repeat (first|go_big_quiet_skip|(go_big_quiet_want;first|(refine quiet_load 241 _ rfl b (o + k * 5) rfl row _ KX.out Tryz.underlying241 rfl l1.out ?_;(try simp only [Act.put,List.setIfInBounds_toArray,List.set_cons_zero,List.set_cons_succ]);go_big_quiet_on)|(refine quiet_load 241 _ rfl b2 (o2 + k * 5) rfl row2 _ KY.out Tryz.underlying241 rfl l2.out ?_;(try simp only [Act.put,List.setIfInBounds_toArray,List.set_cons_zero,List.set_cons_succ]);go_big_quiet_on)|(unfold Oper.quiet;apply Exists.intro;refine ⟨fun wq hq => ?_,?_⟩;(go_simp;first|done|rfl|(go_at_call 213;exact (eqMark_same x row row2 _ S S' (Mark.R_good.ext RX.out hq) (Mark.R_good.ext RY.out hq)).mono fun e w2 h2 => ⟨h2.1,hq.tr h2.2⟩));(try simp only [Act.put,List.setIfInBounds_toArray,List.set_cons_zero,List.set_cons_succ]);go_big_quiet_on)))
  refine wpQuiet_nil ?_
  intro wq hq
  have XE:=hid hq
  clear hq
  go_wp2
  go_roundw
  case rel => exact ⟨k + 1,by omega,by go_num,HX.out.tr XE.out⟩
  case measure => simp [intOf];omega
/-! ### Commit -/
structure Commit where
 who_ : Int
 rv_ : Int
 phase_ : Int
 at_ : Int
 wv_ : Int
 puts_ : List Row
 reads_ : List Int
deriving Inhabited
def Commit.wt (x : Commit) : Nat:=x.puts_.length + x.reads_.length
def Commit.R (w : World) (S : Nat → Prop) (cs : List Value) (x : Commit) : Prop:=∃ (A0 : Option Addr) (n0 c0 : Nat) (A1 : Option Addr) (n1 c1 : Nat),cs = [.int .i64 x.who_,.int .i64 x.rv_,.int .i64 x.phase_,.int .i64 x.at_,.int .i64 x.wv_,.slice A0 n0 c0,.slice A1 n1 c1] ∧ (n0 ≤ c0 ∧ n0 ≤ 9223372036854775807 ∧ Sl w S 2 A0 n0 (x.puts_.flatMap Row.cells)) ∧ (n1 ≤ c1 ∧ n1 ≤ 9223372036854775807 ∧ Sl w S 1 A1 n1 (ints x.reads_))
def Commit.W (w : World) (S : Nat → Prop) (cs : List Value) (x : Commit) : Prop:=∃ (A0 : Option Addr) (n0 c0 : Nat) (A1 : Option Addr) (n1 c1 : Nat) (lab : Nat → Nat),cs = [.int .i64 x.who_,.int .i64 x.rv_,.int .i64 x.phase_,.int .i64 x.at_,.int .i64 x.wv_,.slice A0 n0 c0,.slice A1 n1 c1] ∧ (n0 ≤ c0 ∧ n0 ≤ 9223372036854775807 ∧ OwS w (fun g => S g ∧ lab g = 0) 239 2 A0 n0 c0 (x.puts_.flatMap Row.cells)) ∧ (n1 ≤ c1 ∧ n1 ≤ 9223372036854775807 ∧ OwS w (fun g => S g ∧ lab g = 1) 3 1 A1 n1 c1 (ints x.reads_))
theorem Commit.R_good : Good Commit.R 7:=⟨fun {_ _ _ _} h => by
  obtain ⟨A0,n0,c0,A1,n1,c1,rfl,⟨kh0,mh0,h0⟩,⟨kh1,mh1,h1⟩⟩:=h
  rfl,
 fun {_ _ _ _ _ _} h k hd => by
  obtain ⟨A0,n0,c0,A1,n1,c1,rfl,⟨kh0,mh0,h0⟩,⟨kh1,mh1,h1⟩⟩:=h
  exact ⟨_,_,_,_,_,_,rfl,⟨kh0,mh0,h0.chg k hd⟩,⟨kh1,mh1,h1.chg k hd⟩⟩,
 fun {_ _ _ _ _} h hs => by
  obtain ⟨A0,n0,c0,A1,n1,c1,rfl,⟨kh0,mh0,h0⟩,⟨kh1,mh1,h1⟩⟩:=h
  exact ⟨_,_,_,_,_,_,rfl,⟨kh0,mh0,h0.mono hs⟩,⟨kh1,mh1,h1.mono hs⟩⟩⟩
theorem Commit.W_good : Good Commit.W 7:=⟨fun {_ _ _ _} h => by
  obtain ⟨A0,n0,c0,A1,n1,c1,lab,rfl,⟨kh0,mh0,h0⟩,⟨kh1,mh1,h1⟩⟩:=h
  rfl,
 fun {_ _ _ _ _ _} h k hd => by
  obtain ⟨A0,n0,c0,A1,n1,c1,lab,rfl,⟨kh0,mh0,h0⟩,⟨kh1,mh1,h1⟩⟩:=h
  exact ⟨_,_,_,_,_,_,lab,rfl,⟨kh0,mh0,h0.chg k fun i hi => hd i hi.1⟩,⟨kh1,mh1,h1.chg k fun i hi => hd i hi.1⟩⟩,
 fun {_ _ _ _ _} h hs => by
  obtain ⟨A0,n0,c0,A1,n1,c1,lab,rfl,⟨kh0,mh0,h0⟩,⟨kh1,mh1,h1⟩⟩:=h
  exact ⟨_,_,_,_,_,_,lab,rfl,⟨kh0,mh0,h0.mono fun i _ hi => ⟨hs i hi.1,hi.2⟩⟩,⟨kh1,mh1,h1.mono fun i _ hi => ⟨hs i hi.1,hi.2⟩⟩⟩⟩
theorem Commit.W_R {w : World} {S : Nat → Prop} {cs : List Value} {x : Commit} (h : Commit.W w S cs x) : Commit.R w S cs x:=by
 obtain ⟨A0,n0,c0,A1,n1,c1,lab,rfl,⟨kh0,mh0,h0⟩,⟨kh1,mh1,h1⟩⟩:=h
 exact ⟨_,_,_,_,_,_,rfl,⟨kh0,mh0,h0.sl.mono fun i hi => hi.1⟩,⟨kh1,mh1,h1.sl.mono fun i hi => hi.1⟩⟩
theorem Commit.R_cells {w : World} {S : Nat → Prop} {cs : List Value} {x : Commit} (h : Commit.R w S cs x) : ∃ (A0 : Option Addr) (n0 c0 : Nat) (A1 : Option Addr) (n1 c1 : Nat),cs = [.int .i64 x.who_,.int .i64 x.rv_,.int .i64 x.phase_,.int .i64 x.at_,.int .i64 x.wv_,.slice A0 n0 c0,.slice A1 n1 c1]:=by
 obtain ⟨A0,n0,c0,A1,n1,c1,rfl,⟨kh0,mh0,h0⟩,⟨kh1,mh1,h1⟩⟩:=h
 exact ⟨A0,n0,c0,A1,n1,c1,rfl⟩
theorem Commit.W_cells {w : World} {S : Nat → Prop} {cs : List Value} {x : Commit} (h : Commit.W w S cs x) : ∃ (A0 : Option Addr) (n0 c0 : Nat) (A1 : Option Addr) (n1 c1 : Nat),cs = [.int .i64 x.who_,.int .i64 x.rv_,.int .i64 x.phase_,.int .i64 x.at_,.int .i64 x.wv_,.slice A0 n0 c0,.slice A1 n1 c1]:=by
 obtain ⟨A0,n0,c0,A1,n1,c1,lab,rfl,⟨kh0,mh0,h0⟩,⟨kh1,mh1,h1⟩⟩:=h
 exact ⟨A0,n0,c0,A1,n1,c1,rfl⟩
set_option maxRecDepth 8000 in
theorem opens_Commit : Opens Tryz.prog 143 (fun w cs (x : Commit) => Commit.R w (fun _ => True) cs x):=by
 intro H enc w base spare held fuel cs x h
 obtain ⟨xs,n,_,_,hlen,hxl,hf⟩:=DataW.trod_struct Tryz.underlying143 h
 rw [show Tryz.prog.cellsOf 143 = 7 from by kernel_rfl] at hlen
 have hxl' : xs.length = 7:=hxl
 have h0 : DataW.trod enc Tryz.prog w base spare held n 3 ((cs.drop 0).take (Tryz.prog.cellsOf 3)) = xs[0]?:=hf 0 _ rfl
 rw [show Tryz.prog.cellsOf 3 = 1 from by kernel_rfl,List.getElem?_eq_getElem (show 0 < xs.length by omega)] at h0
 obtain ⟨f0,e0,-,-⟩:=DataW.trod_int Tryz.underlying3 h0
 have h1 : DataW.trod enc Tryz.prog w base spare held n 3 ((cs.drop 1).take (Tryz.prog.cellsOf 3)) = xs[1]?:=hf 1 _ rfl
 rw [show Tryz.prog.cellsOf 3 = 1 from by kernel_rfl,List.getElem?_eq_getElem (show 1 < xs.length by omega)] at h1
 obtain ⟨f1,e1,-,-⟩:=DataW.trod_int Tryz.underlying3 h1
 have h2 : DataW.trod enc Tryz.prog w base spare held n 3 ((cs.drop 2).take (Tryz.prog.cellsOf 3)) = xs[2]?:=hf 2 _ rfl
 rw [show Tryz.prog.cellsOf 3 = 1 from by kernel_rfl,List.getElem?_eq_getElem (show 2 < xs.length by omega)] at h2
 obtain ⟨f2,e2,-,-⟩:=DataW.trod_int Tryz.underlying3 h2
 have h3 : DataW.trod enc Tryz.prog w base spare held n 3 ((cs.drop 3).take (Tryz.prog.cellsOf 3)) = xs[3]?:=hf 3 _ rfl
 rw [show Tryz.prog.cellsOf 3 = 1 from by kernel_rfl,List.getElem?_eq_getElem (show 3 < xs.length by omega)] at h3
 obtain ⟨f3,e3,-,-⟩:=DataW.trod_int Tryz.underlying3 h3
 have h4 : DataW.trod enc Tryz.prog w base spare held n 3 ((cs.drop 4).take (Tryz.prog.cellsOf 3)) = xs[4]?:=hf 4 _ rfl
 rw [show Tryz.prog.cellsOf 3 = 1 from by kernel_rfl,List.getElem?_eq_getElem (show 4 < xs.length by omega)] at h4
 obtain ⟨f4,e4,-,-⟩:=DataW.trod_int Tryz.underlying3 h4
 have h5 : DataW.trod enc Tryz.prog w base spare held n 138 ((cs.drop 5).take (Tryz.prog.cellsOf 138)) = xs[5]?:=hf 5 _ rfl
 rw [show Tryz.prog.cellsOf 138 = 1 from by kernel_rfl,List.getElem?_eq_getElem (show 5 < xs.length by omega)] at h5
 obtain ⟨f5,A5,n5,c5,e5,g5,g5',-,-,s5⟩:=opens_flat Tryz.underlying138 (by kernel_rfl) (by omega) Row.cells_length opens_Row H enc w base spare held n _ _ h5
 have h6 : DataW.trod enc Tryz.prog w base spare held n 22 ((cs.drop 6).take (Tryz.prog.cellsOf 22)) = xs[6]?:=hf 6 _ rfl
 rw [show Tryz.prog.cellsOf 22 = 1 from by kernel_rfl,List.getElem?_eq_getElem (show 6 < xs.length by omega)] at h6
 obtain ⟨f6,A6,n6,c6,e6,g6,g6',-,-,s6⟩:=opens_ints Tryz.underlying22 Tryz.underlying3 (by kernel_rfl) H enc w base spare held n _ _ h6
 clear h0 h1 h2 h3 h4 h5 h6 hf h hxl hxl'
 match cs,hlen with
 | [q0,q1,q2,q3,q4,q5,q6],_ =>
  simp only [List.drop_succ_cons,List.drop_zero,List.take_succ_cons,List.take_zero,List.cons.injEq,and_true] at e0 e1 e2 e3 e4 e5 e6
  subst e0
  subst e1
  subst e2
  subst e3
  subst e4
  subst e5
  subst e6
  exact ⟨⟨f0,f1,f2,f3,f4,f5,f6⟩,_,_,_,_,_,_,rfl,⟨g5,Nat.le_trans g5 g5',s5⟩,⟨g6,Nat.le_trans g6 g6',s6⟩⟩
set_option maxRecDepth 8000 in
theorem szCommit_any (x : Commit) (cs : List Value) (q : Int) (w : World) (S : Nat → Prop) (h : Commit.R w S cs x) (hq0 : 0 ≤ q) (hq2 : q ≤ 1048576) :
  Calls Tryz.prog 128 #[.agg cs.toArray,.int .i64 q] w fun e w' => ∃ r : Int,e = .returned (.int .i64 r) ∧ Left r q (Commit.wt x) ∧ Ext w w':=by
 obtain ⟨A0,n0,c0,A1,n1,c1,rfl,⟨kh0,mh0,h0⟩,⟨kh1,mh1,h1⟩⟩:=h
 have H0:=hid h0
 have H1:=hid h1
 clear h0 h1
 show Calls Tryz.prog _ #[.agg #[.int .i64 x.who_,.int .i64 x.rv_,.int .i64 x.phase_,.int .i64 x.at_,.int .i64 x.wv_,.slice A0 n0 c0,.slice A1 n1 c1],.int .i64 q] w _
 go_enter Tryz.func128,Tryz.ntmps128
 go_wp2_with fail
 have L0:=hid (H0.out.flen Row.cells_length (by omega))
 refine (szRowS_any _ _ _ (q) _ hq0 hq2 mh0).mono ?_
 rintro e w1 ⟨rfl,xq⟩
 have x1:=Ext.of_eq xq
 clear xq
 have Q0 : Hid (Left (if (n0 : Int) ≤ q then q - n0 else -1) q (x.puts_.length)):=by show Left _ _ _;rw [L0.out];exact Left.of_if
 generalize (if (n0 : Int) ≤ q then q - n0 else -1) = r0 at Q0
 have X1 : Ext w w1:=Ext.tr (((Ext.refl' w).al _)) x1
 have b1 : Hid (Bx w1 w.heap.size 143 #[.int .i64 x.who_,.int .i64 x.rv_,.int .i64 x.phase_,.int .i64 x.at_,.int .i64 x.wv_,.slice A0 n0 c0,.slice A1 n1 c1]):=Bx.ext (Bx.new' _ _ _ rfl) x1
 clear x1
 have R0 : Hid (Left r0 q (x.puts_.length)):=Q0
 by_cases g0 : 0 ≤ r0
 rotate_left
 ·have e0 : r0 = -1:=by have a:=R0.out;unfold Left at a;omega
  subst e0
  clear g0
  go_wp2
  go_ret
  exact ⟨-1,rfl,by have a:=R0.out;unfold Left Commit.wt at *;omega,X1⟩
 have u0 : r0 ≤ 1048576:=by have a:=R0.out;unfold Left at a;omega
 have ca1_6 : w1.cell? ⟨w.heap.size,6,none⟩ = some (.slice A1 n1 c1):=b1.out.cell 6
 go_wp2_with fail
 have L1:=hid (H1.out.len)
 refine (szIntS_any _ _ _ (r0) _ g0 u0 mh1).mono ?_
 rintro e w2 ⟨rfl,xq⟩
 have x2:=Ext.of_eq xq
 clear xq
 have Q1 : Hid (Left (if (n1 : Int) ≤ r0 then r0 - n1 else -1) r0 (x.reads_.length)):=by show Left _ _ _;rw [L1.out];exact Left.of_if
 generalize (if (n1 : Int) ≤ r0 then r0 - n1 else -1) = r1 at Q1
 have X2 : Ext w w2:=Ext.tr (X1) x2
 have b2 : Hid (Bx w2 w.heap.size 143 #[.int .i64 x.who_,.int .i64 x.rv_,.int .i64 x.phase_,.int .i64 x.at_,.int .i64 x.wv_,.slice A0 n0 c0,.slice A1 n1 c1]):=Bx.ext (b1.out) x2
 clear x2
 have R1 : Hid (Left r1 q (x.puts_.length + x.reads_.length)):=by show Left _ _ _;have a:=R0.out;have b:=Q1.out;unfold Left at *;omega
 by_cases g1 : 0 ≤ r1
 rotate_left
 ·have e1 : r1 = -1:=by have a:=R1.out;unfold Left at a;omega
  subst e1
  clear g1
  go_wp2
  go_ret
  exact ⟨-1,rfl,by have a:=R1.out;unfold Left Commit.wt at *;omega,X2⟩
 have u1 : r1 ≤ 1048576:=by have a:=R1.out;unfold Left at a;omega
 go_wp2
 go_ret
 exact ⟨r1,rfl,R1.out,X2⟩
set_option maxRecDepth 8000 in
theorem toCommit_any (x : Commit) (cs : List Value) (w : World) (S : Nat → Prop) (h : Commit.R w S cs x) (hw : Commit.wt x ≤ 1048576) :
  Calls Tryz.prog 146 #[.agg cs.toArray] w fun e w' => ∃ cs',e = .returned (.agg cs'.toArray) ∧ Commit.W w' (fun g => w.heap.size ≤ g ∧ g < w'.heap.size) cs' x ∧ Ext w w':=by
 obtain ⟨A0,n0,c0,A1,n1,c1,rfl,⟨kh0,mh0,h0⟩,⟨kh1,mh1,h1⟩⟩:=h
 unfold Commit.wt at hw
 have l0:=h0.flen Row.cells_length (by omega)
 have n_0 : n0 ≤ 1048576:=by omega
 have l1:=h1.len
 have n_1 : n1 ≤ 1048576:=by omega
 have H0:=hid h0
 have H1:=hid h1
 clear h0 h1 hw l0 l1
 show Calls Tryz.prog _ #[.agg #[.int .i64 x.who_,.int .i64 x.rv_,.int .i64 x.phase_,.int .i64 x.at_,.int .i64 x.wv_,.slice A0 n0 c0,.slice A1 n1 c1]] w _
 go_enter Tryz.func146,Tryz.ntmps146
 go_wp2_with fail
 refine (toRowS_any _ _ _ _ _ S (H0.out.ext ((((Ext.refl' w).al _).al _).al _)) n_0).mono ?_
 rintro e w1 ⟨B0,d0,rfl,o0,x1⟩
 have K0 : Hid (n0 ≤ d0):=own_cap o0
 replace o0:=hid (OwS.of_own o0)
 have z1 : w.heap.size + 3 ≤ w1.heap.size:=by have h:=x1.size;(try simp at h);omega
 have ba1 : Hid (Bx w1 (w.heap.size) 143 #[.int .i64 x.who_,.int .i64 x.rv_,.int .i64 x.phase_,.int .i64 x.at_,.int .i64 x.wv_,.slice A0 n0 c0,.slice A1 n1 c1]):=Bx.ext (((Bx.new' _ _ _ rfl).al _).al _) x1
 have br1 : Hid (Bx w1 (w.heap.size + 1) 91 #[.int .i64 0,.int .i64 0,.int .i64 0,.int .i64 0,.int .i64 0,.slice none 0 0,.slice none 0 0]):=Bx.ext ((Bx.new' _ _ _ (by simp)).al _) x1
 have bo1 : Hid (Bx w1 (w.heap.size + 2) 91 #[.int .i64 x.who_,.int .i64 x.rv_,.int .i64 x.phase_,.int .i64 x.at_,.int .i64 x.wv_,.slice none 0 0,.slice none 0 0]):=Bx.ext (Bx.new' _ _ _ (by simp)) x1
 have X1 : Ext w w1:=Ext.tr ((((Ext.refl' w).al _).al _).al _) x1
 replace o0 : Hid (OwS w1 (fun g => w.heap.size + 3 ≤ g ∧ g < w1.heap.size) 239 2 B0 n0 d0 (x.puts_.flatMap Row.cells)):=o0.out.mono (fun g _ hg => by have h1:=hg.1;have h2:=hg.2;constructor <;> (try simp at h1) <;> omega)
 clear x1
 have ca1_6 : w1.cell? ⟨w.heap.size,6,none⟩ = some (.slice A1 n1 c1):=ba1.out.cell 6
 have co1_5 : w1.cell? ⟨w.heap.size + 2,5,none⟩ = some (.slice none 0 0):=bo1.out.cell 5
 have fo1_5 : w1.frozen? ⟨w.heap.size + 2,5,none⟩ = false:=bo1.out.frozen 5
 go_wp2_with fail
 refine (toIntS_any _ _ _ _ _ S (H1.out.ext ((X1).sc2 _)) n_1).mono ?_
 rintro e w2 ⟨B1,d1,rfl,o1,x2⟩
 have K1 : Hid (n1 ≤ d1):=own_cap o1
 replace o1:=hid (OwS.of_own o1)
 have z2 : w.heap.size + 3 ≤ w2.heap.size:=by have h:=x2.size;(try simp at h);omega
 have y2 : w1.heap.size ≤ w2.heap.size:=by have h:=x2.size;(try simp at h);exact h
 have ba2 : Hid (Bx w2 (w.heap.size) 143 #[.int .i64 x.who_,.int .i64 x.rv_,.int .i64 x.phase_,.int .i64 x.at_,.int .i64 x.wv_,.slice A0 n0 c0,.slice A1 n1 c1]):=Bx.ext ((ba1.out).far2 _) x2
 have br2 : Hid (Bx w2 (w.heap.size + 1) 91 #[.int .i64 0,.int .i64 0,.int .i64 0,.int .i64 0,.int .i64 0,.slice none 0 0,.slice none 0 0]):=Bx.ext ((br1.out).far2 _) x2
 have bo2 : Hid (Bx w2 (w.heap.size + 2) 91 #[.int .i64 x.who_,.int .i64 x.rv_,.int .i64 x.phase_,.int .i64 x.at_,.int .i64 x.wv_,.slice B0 n0 d0,.slice none 0 0]):=Bx.ext (((bo1.out).set_ _ _).cast (by first|rfl|simp only [List.setIfInBounds_toArray,List.set_cons_succ,List.set_cons_zero])) x2
 have X2 : Ext w w2:=Ext.tr ((X1).sc2 _) x2
 replace o0:=hid (o0.out.chg (Chg.trans ((Chg.refl (fun g => g = w.heap.size + 2) _).sc rfl _) (x2.chg _)) (fun g hg q => by have h1:=hg.1;have hq3 : g = w.heap.size + 2:=q;omega))
 replace o1 : Hid (OwS w2 (fun g => w1.heap.size ≤ g ∧ g < w2.heap.size) 3 1 B1 n1 d1 (ints x.reads_)):=o1.out.mono (fun g _ hg => by have h1:=hg.1;have h2:=hg.2;constructor <;> (try simp at h1) <;> omega)
 clear x2
 have co2_0 : w2.cell? ⟨w.heap.size + 2,0,none⟩ = some (.int .i64 x.who_):=bo2.out.cell 0
 have co2_1 : w2.cell? ⟨w.heap.size + 2,1,none⟩ = some (.int .i64 x.rv_):=bo2.out.cell 1
 have co2_2 : w2.cell? ⟨w.heap.size + 2,2,none⟩ = some (.int .i64 x.phase_):=bo2.out.cell 2
 have co2_3 : w2.cell? ⟨w.heap.size + 2,3,none⟩ = some (.int .i64 x.at_):=bo2.out.cell 3
 have co2_4 : w2.cell? ⟨w.heap.size + 2,4,none⟩ = some (.int .i64 x.wv_):=bo2.out.cell 4
 have co2_5 : w2.cell? ⟨w.heap.size + 2,5,none⟩ = some (.slice B0 n0 d0):=bo2.out.cell 5
 have co2_6 : w2.cell? ⟨w.heap.size + 2,6,none⟩ = some (.slice none 0 0):=bo2.out.cell 6
 have fo2_6 : w2.frozen? ⟨w.heap.size + 2,6,none⟩ = false:=bo2.out.frozen 6
 have cr2_0 : w2.cell? ⟨w.heap.size + 1,0,none⟩ = some (.int .i64 0):=br2.out.cell 0
 have fr2_0 : w2.frozen? ⟨w.heap.size + 1,0,none⟩ = false:=br2.out.frozen 0
 have cr2_1 : w2.cell? ⟨w.heap.size + 1,1,none⟩ = some (.int .i64 0):=br2.out.cell 1
 have fr2_1 : w2.frozen? ⟨w.heap.size + 1,1,none⟩ = false:=br2.out.frozen 1
 have cr2_2 : w2.cell? ⟨w.heap.size + 1,2,none⟩ = some (.int .i64 0):=br2.out.cell 2
 have fr2_2 : w2.frozen? ⟨w.heap.size + 1,2,none⟩ = false:=br2.out.frozen 2
 have cr2_3 : w2.cell? ⟨w.heap.size + 1,3,none⟩ = some (.int .i64 0):=br2.out.cell 3
 have fr2_3 : w2.frozen? ⟨w.heap.size + 1,3,none⟩ = false:=br2.out.frozen 3
 have cr2_4 : w2.cell? ⟨w.heap.size + 1,4,none⟩ = some (.int .i64 0):=br2.out.cell 4
 have fr2_4 : w2.frozen? ⟨w.heap.size + 1,4,none⟩ = false:=br2.out.frozen 4
 have cr2_5 : w2.cell? ⟨w.heap.size + 1,5,none⟩ = some (.slice none 0 0):=br2.out.cell 5
 have fr2_5 : w2.frozen? ⟨w.heap.size + 1,5,none⟩ = false:=br2.out.frozen 5
 have cr2_6 : w2.cell? ⟨w.heap.size + 1,6,none⟩ = some (.slice none 0 0):=br2.out.cell 6
 have fr2_6 : w2.frozen? ⟨w.heap.size + 1,6,none⟩ = false:=br2.out.frozen 6
 go_wp2
 refine bodyPost_ret (v:=.agg #[.int .i64 x.who_,.int .i64 x.rv_,.int .i64 x.phase_,.int .i64 x.at_,.int .i64 x.wv_,.slice B0 n0 d0,.slice B1 n1 d1]) (by simp [results,Tryz.results146,go_sem,cr2_0,cr2_1,cr2_2,cr2_3,cr2_4,cr2_5,cr2_6]) rfl ⟨[.int .i64 x.who_,.int .i64 x.rv_,.int .i64 x.phase_,.int .i64 x.at_,.int .i64 x.wv_,.slice B0 n0 d0,.slice B1 n1 d1],rfl,?_,?_⟩
 ·refine (?_ : ∀ wz,Chg (fun g => g = w.heap.size + 2 ∨ g = w.heap.size + 1) w2 wz → Commit.W wz (fun g => w.heap.size ≤ g ∧ g < wz.heap.size) [.int .i64 x.who_,.int .i64 x.rv_,.int .i64 x.phase_,.int .i64 x.at_,.int .i64 x.wv_,.slice B0 n0 d0,.slice B1 n1 d1] x) _ (((((((((Chg.refl (fun g => g = w.heap.size + 2 ∨ g = w.heap.size + 1) _).sc2 _).sc2 _).sc2 _).sc2 _).sc2 _).sc2 _).sc2 _).sc2 _)
  intro wz cc
  have zz:=cc.size
  exact ⟨B0,n0,d0,B1,n1,d1,lb [w1.heap.size,w2.heap.size],rfl,⟨K0.out,mh0,(o0.out.chg cc (fun g hg q => by have h1:=hg.1;have hq3 : g = w.heap.size + 2 ∨ g = w.heap.size + 1:=q;omega)).mono (fun g _ hg => ⟨⟨by have h1:=hg.1;omega,by have h2:=hg.2;omega⟩,by have h1:=hg.1;have h2:=hg.2;exact lb_here (by omega)⟩)⟩,⟨K1.out,mh1,(o1.out.chg cc (fun g hg q => by have h1:=hg.1;have hq3 : g = w.heap.size + 2 ∨ g = w.heap.size + 1:=q;omega)).mono (fun g _ hg => ⟨⟨by have h1:=hg.1;omega,by have h2:=hg.2;omega⟩,by have h1:=hg.1;have h2:=hg.2;exact lb_next (by omega) (lb_here (by omega))⟩)⟩⟩
 ·exact ((((((((X2).sc2 _).sc2 _).sc2 _).sc2 _).sc2 _).sc2 _).sc2 _).sc2 _
set_option maxRecDepth 8000 in
theorem eqCommit_same (x : Commit) (cs cs' : List Value) (w : World) (S S' : Nat → Prop) (h : Commit.R w S cs x) (u : Commit.R w S' cs' x) :
  Calls Tryz.prog 167 #[.agg cs.toArray,.agg cs'.toArray] w fun e w' => e = .returned (.bool true) ∧ Ext w w':=by
 obtain ⟨A0,n0,c0,A1,n1,c1,rfl,⟨kh0,mh0,h0⟩,⟨kh1,mh1,h1⟩⟩:=h
 obtain ⟨B0,p0,d0,B1,p1,d1,rfl,⟨ku0,mu0,u0⟩,⟨ku1,mu1,u1⟩⟩:=u
 obtain rfl : n0 = p0:=by have a:=h0.flen Row.cells_length (by omega);have b:=u0.flen Row.cells_length (by omega);omega
 obtain rfl : n1 = p1:=by have a:=h1.len;have b:=u1.len;omega
 have H0:=hid h0
 have U0:=hid u0
 have H1:=hid h1
 have U1:=hid u1
 clear h0 u0 h1 u1
 show Calls Tryz.prog _ #[.agg #[.int .i64 x.who_,.int .i64 x.rv_,.int .i64 x.phase_,.int .i64 x.at_,.int .i64 x.wv_,.slice A0 n0 c0,.slice A1 n1 c1],.agg #[.int .i64 x.who_,.int .i64 x.rv_,.int .i64 x.phase_,.int .i64 x.at_,.int .i64 x.wv_,.slice B0 n0 d0,.slice B1 n1 d1]] w _
 go_enter Tryz.func167,Tryz.ntmps167
 go_wp2_with fail
 refine (eqRowS_same _ _ _ _ _ _ _ S S' (H0.out.ext (((Ext.refl' w).al _).al _)) (U0.out.ext (((Ext.refl' w).al _).al _)) mh0).mono ?_
 rintro e w1 ⟨rfl,x1⟩
 have z1 : w.heap.size + 2 ≤ w1.heap.size:=by have h:=x1.size;(try simp at h);omega
 have ba1 : Hid (Bx w1 (w.heap.size) 91 #[.int .i64 x.who_,.int .i64 x.rv_,.int .i64 x.phase_,.int .i64 x.at_,.int .i64 x.wv_,.slice A0 n0 c0,.slice A1 n1 c1]):=Bx.ext ((Bx.new' _ _ _ rfl).al _) x1
 have bb1 : Hid (Bx w1 (w.heap.size + 1) 91 #[.int .i64 x.who_,.int .i64 x.rv_,.int .i64 x.phase_,.int .i64 x.at_,.int .i64 x.wv_,.slice B0 n0 d0,.slice B1 n1 d1]):=Bx.ext (Bx.new' _ _ _ (by simp)) x1
 have X1 : Ext w w1:=Ext.tr (((Ext.refl' w).al _).al _) x1
 clear x1
 have ca1_6 : w1.cell? ⟨w.heap.size,6,none⟩ = some (.slice A1 n1 c1):=ba1.out.cell 6
 have cb1_6 : w1.cell? ⟨w.heap.size + 1,6,none⟩ = some (.slice B1 n1 d1):=bb1.out.cell 6
 go_wp2_with fail
 refine (eqIntS_same _ _ _ _ _ _ _ S S' (H1.out.ext (X1)) (U1.out.ext (X1)) mh1).mono ?_
 rintro e w2 ⟨rfl,x2⟩
 have z2 : w.heap.size + 2 ≤ w2.heap.size:=by have h:=x2.size;(try simp at h);omega
 have ba2 : Hid (Bx w2 (w.heap.size) 91 #[.int .i64 x.who_,.int .i64 x.rv_,.int .i64 x.phase_,.int .i64 x.at_,.int .i64 x.wv_,.slice A0 n0 c0,.slice A1 n1 c1]):=Bx.ext (ba1.out) x2
 have bb2 : Hid (Bx w2 (w.heap.size + 1) 91 #[.int .i64 x.who_,.int .i64 x.rv_,.int .i64 x.phase_,.int .i64 x.at_,.int .i64 x.wv_,.slice B0 n0 d0,.slice B1 n1 d1]):=Bx.ext (bb1.out) x2
 have X2 : Ext w w2:=Ext.tr (X1) x2
 clear x2
 go_wp2
 go_ret
 exact ⟨rfl,X2⟩
/-! ### KidMark -/
structure KidMark where
 pc_ : Int
 writes_ : Int
 regs_ : List Int
deriving Inhabited
def KidMark.wt (x : KidMark) : Nat:=x.regs_.length
def KidMark.R (w : World) (S : Nat → Prop) (cs : List Value) (x : KidMark) : Prop:=∃ (A0 : Option Addr) (n0 c0 : Nat),cs = [.int .i64 x.pc_,.int .i64 x.writes_,.slice A0 n0 c0] ∧ (n0 ≤ c0 ∧ n0 ≤ 9223372036854775807 ∧ Sl w S 1 A0 n0 (ints x.regs_))
def KidMark.W (w : World) (S : Nat → Prop) (cs : List Value) (x : KidMark) : Prop:=∃ (A0 : Option Addr) (n0 c0 : Nat) (lab : Nat → Nat),cs = [.int .i64 x.pc_,.int .i64 x.writes_,.slice A0 n0 c0] ∧ (n0 ≤ c0 ∧ n0 ≤ 9223372036854775807 ∧ OwS w (fun g => S g ∧ lab g = 0) 3 1 A0 n0 c0 (ints x.regs_))
theorem KidMark.R_good : Good KidMark.R 3:=⟨fun {_ _ _ _} h => by
  obtain ⟨A0,n0,c0,rfl,⟨kh0,mh0,h0⟩⟩:=h
  rfl,
 fun {_ _ _ _ _ _} h k hd => by
  obtain ⟨A0,n0,c0,rfl,⟨kh0,mh0,h0⟩⟩:=h
  exact ⟨_,_,_,rfl,⟨kh0,mh0,h0.chg k hd⟩⟩,
 fun {_ _ _ _ _} h hs => by
  obtain ⟨A0,n0,c0,rfl,⟨kh0,mh0,h0⟩⟩:=h
  exact ⟨_,_,_,rfl,⟨kh0,mh0,h0.mono hs⟩⟩⟩
theorem KidMark.W_good : Good KidMark.W 3:=⟨fun {_ _ _ _} h => by
  obtain ⟨A0,n0,c0,lab,rfl,⟨kh0,mh0,h0⟩⟩:=h
  rfl,
 fun {_ _ _ _ _ _} h k hd => by
  obtain ⟨A0,n0,c0,lab,rfl,⟨kh0,mh0,h0⟩⟩:=h
  exact ⟨_,_,_,lab,rfl,⟨kh0,mh0,h0.chg k fun i hi => hd i hi.1⟩⟩,
 fun {_ _ _ _ _} h hs => by
  obtain ⟨A0,n0,c0,lab,rfl,⟨kh0,mh0,h0⟩⟩:=h
  exact ⟨_,_,_,lab,rfl,⟨kh0,mh0,h0.mono fun i _ hi => ⟨hs i hi.1,hi.2⟩⟩⟩⟩
theorem KidMark.W_R {w : World} {S : Nat → Prop} {cs : List Value} {x : KidMark} (h : KidMark.W w S cs x) : KidMark.R w S cs x:=by
 obtain ⟨A0,n0,c0,lab,rfl,⟨kh0,mh0,h0⟩⟩:=h
 exact ⟨_,_,_,rfl,⟨kh0,mh0,h0.sl.mono fun i hi => hi.1⟩⟩
theorem KidMark.R_cells {w : World} {S : Nat → Prop} {cs : List Value} {x : KidMark} (h : KidMark.R w S cs x) : ∃ (A0 : Option Addr) (n0 c0 : Nat),cs = [.int .i64 x.pc_,.int .i64 x.writes_,.slice A0 n0 c0]:=by
 obtain ⟨A0,n0,c0,rfl,⟨kh0,mh0,h0⟩⟩:=h
 exact ⟨A0,n0,c0,rfl⟩
theorem KidMark.W_cells {w : World} {S : Nat → Prop} {cs : List Value} {x : KidMark} (h : KidMark.W w S cs x) : ∃ (A0 : Option Addr) (n0 c0 : Nat),cs = [.int .i64 x.pc_,.int .i64 x.writes_,.slice A0 n0 c0]:=by
 obtain ⟨A0,n0,c0,lab,rfl,⟨kh0,mh0,h0⟩⟩:=h
 exact ⟨A0,n0,c0,rfl⟩
set_option maxRecDepth 8000 in
theorem opens_KidMark : Opens Tryz.prog 313 (fun w cs (x : KidMark) => KidMark.R w (fun _ => True) cs x):=by
 intro H enc w base spare held fuel cs x h
 obtain ⟨xs,n,_,_,hlen,hxl,hf⟩:=DataW.trod_struct Tryz.underlying313 h
 rw [show Tryz.prog.cellsOf 313 = 3 from by kernel_rfl] at hlen
 have hxl' : xs.length = 3:=hxl
 have h0 : DataW.trod enc Tryz.prog w base spare held n 3 ((cs.drop 0).take (Tryz.prog.cellsOf 3)) = xs[0]?:=hf 0 _ rfl
 rw [show Tryz.prog.cellsOf 3 = 1 from by kernel_rfl,List.getElem?_eq_getElem (show 0 < xs.length by omega)] at h0
 obtain ⟨f0,e0,-,-⟩:=DataW.trod_int Tryz.underlying3 h0
 have h1 : DataW.trod enc Tryz.prog w base spare held n 3 ((cs.drop 1).take (Tryz.prog.cellsOf 3)) = xs[1]?:=hf 1 _ rfl
 rw [show Tryz.prog.cellsOf 3 = 1 from by kernel_rfl,List.getElem?_eq_getElem (show 1 < xs.length by omega)] at h1
 obtain ⟨f1,e1,-,-⟩:=DataW.trod_int Tryz.underlying3 h1
 have h2 : DataW.trod enc Tryz.prog w base spare held n 22 ((cs.drop 2).take (Tryz.prog.cellsOf 22)) = xs[2]?:=hf 2 _ rfl
 rw [show Tryz.prog.cellsOf 22 = 1 from by kernel_rfl,List.getElem?_eq_getElem (show 2 < xs.length by omega)] at h2
 obtain ⟨f2,A2,n2,c2,e2,g2,g2',-,-,s2⟩:=opens_ints Tryz.underlying22 Tryz.underlying3 (by kernel_rfl) H enc w base spare held n _ _ h2
 clear h0 h1 h2 hf h hxl hxl'
 match cs,hlen with
 | [q0,q1,q2],_ =>
  simp only [List.drop_succ_cons,List.drop_zero,List.take_succ_cons,List.take_zero,List.cons.injEq,and_true] at e0 e1 e2
  subst e0
  subst e1
  subst e2
  exact ⟨⟨f0,f1,f2⟩,_,_,_,rfl,⟨g2,Nat.le_trans g2 g2',s2⟩⟩
set_option maxRecDepth 8000 in
theorem szKidMark_any (x : KidMark) (cs : List Value) (q : Int) (w : World) (S : Nat → Prop) (h : KidMark.R w S cs x) (hq0 : 0 ≤ q) (hq2 : q ≤ 1048576) :
  Calls Tryz.prog 235 #[.agg cs.toArray,.int .i64 q] w fun e w' => ∃ r : Int,e = .returned (.int .i64 r) ∧ Left r q (KidMark.wt x) ∧ Ext w w':=by
 obtain ⟨A0,n0,c0,rfl,⟨kh0,mh0,h0⟩⟩:=h
 have H0:=hid h0
 clear h0
 show Calls Tryz.prog _ #[.agg #[.int .i64 x.pc_,.int .i64 x.writes_,.slice A0 n0 c0],.int .i64 q] w _
 go_enter Tryz.func235,Tryz.ntmps235
 go_wp2_with fail
 have L0:=hid (H0.out.len)
 refine (szIntS_any _ _ _ (q) _ hq0 hq2 mh0).mono ?_
 rintro e w1 ⟨rfl,xq⟩
 have x1:=Ext.of_eq xq
 clear xq
 have Q0 : Hid (Left (if (n0 : Int) ≤ q then q - n0 else -1) q (x.regs_.length)):=by show Left _ _ _;rw [L0.out];exact Left.of_if
 generalize (if (n0 : Int) ≤ q then q - n0 else -1) = r0 at Q0
 have X1 : Ext w w1:=Ext.tr (((Ext.refl' w).al _)) x1
 have b1 : Hid (Bx w1 w.heap.size 313 #[.int .i64 x.pc_,.int .i64 x.writes_,.slice A0 n0 c0]):=Bx.ext (Bx.new' _ _ _ rfl) x1
 clear x1
 have R0 : Hid (Left r0 q (x.regs_.length)):=Q0
 by_cases g0 : 0 ≤ r0
 rotate_left
 ·have e0 : r0 = -1:=by have a:=R0.out;unfold Left at a;omega
  subst e0
  clear g0
  go_wp2
  go_ret
  exact ⟨-1,rfl,by have a:=R0.out;unfold Left KidMark.wt at *;omega,X1⟩
 have u0 : r0 ≤ 1048576:=by have a:=R0.out;unfold Left at a;omega
 go_wp2
 go_ret
 exact ⟨r0,rfl,R0.out,X1⟩
theorem KidMark.size_info : (Tryz.prog.info? 297).map (·.size) = some 3:=by kernel_rfl
theorem KidMark.size_laws : (Tryz.prog.info? 313).map (·.size) = some 3:=by kernel_rfl
theorem KidMark.W_one {w : World} {S : Nat → Prop} {cs : List Value} {x : KidMark} (h : KidMark.W w S cs x) : ∀ v ∈ cs,v.oneCell' = true:=by
 obtain ⟨A0,n0,c0,rfl⟩:=KidMark.W_cells h
 simp [Value.oneCell']
set_option maxRecDepth 8000 in
theorem szKidMarkS_any (A : Option Addr) (n c : Nat) (l : List KidMark) (q : Int) (w : World) (S : Nat → Prop) (hs : SlR KidMark.R 3 w S A n l) (hm : n ≤ 9223372036854775807) (hq0 : 0 ≤ q) (hq2 : q ≤ 1048576) :
  Calls Tryz.prog 231 #[.slice A n c,.int .i64 q] w fun e w' => ∃ r : Int,e = .returned (.int .i64 r) ∧ Left r q (wtl KidMark.wt l) ∧ Ext w w':=by
 have H:=hid hs.1
 have HL:=hid (wtl_len KidMark.wt l)
 by_cases hn : (n : Int) ≤ q
 rotate_left
 ·go_enter Tryz.func231,Tryz.ntmps231
  go_wp2
  go_ret
  exact ⟨-1,by first|rfl|(simp;done)|simp [hn],.inr ⟨by have a:=H.out;have b:=HL.out;omega,rfl⟩,Ext.refl' _⟩
 have HS:=hid hs
 clear hs
 go_enter Tryz.func231,Tryz.ntmps231
 go_wp2
 go_loopw [1,5] (fun u i wr => ∃ (k : Nat) (r : Int),k ≤ n ∧ i = .int .i64 k ∧ u = .int .i64 r ∧ 0 ≤ r ∧ r ≤ 1048576 ∧ Hid (r = q - n + k - wtl KidMark.wt (l.take k)) ∧ Ext w wr) (fun _ i _ => n - (intOf i).toNat)
 case atStart => exact ⟨0,q - n,Nat.zero_le _,rfl,rfl,by omega,by omega,by show _ = _;simp [wtl],Ext.refl' _⟩
 case round =>
  obtain ⟨k,r,hk,rfl,rfl,hr0,hr2,HR,hx⟩:=hrel
  have HX:=hid hx
  clear hx
  by_cases hlt : (k : Int) < (n : Int)
  rotate_left
  ·have e : Hid (k = n):=by show k = n;omega
   go_wp2
   go_ret
   exact ⟨r,rfl,.inl (by have h1:=HR.out;rw [e.out,← H.out,List.take_length] at h1;have h2:=H.out;omega),HX.out⟩
  obtain ⟨b,o,rfl⟩:=HS.out.addr (by omega)
  obtain ⟨x,row,hxk,-,hrw,hc⟩:=(HS.out.ext KidMark.R_good HX.out).at_ (k:=k) (by omega)
  have hrg:=hid (SlR.range KidMark.R_good hrw hc)
  have hln : Hid ((Tryz.prog.info? 313).map (·.size) = some row.length):=by show _ = _;rw [KidMark.R_good.len hrw];exact KidMark.size_laws
  have HRW:=hid hrw
  have HW:=hid (wtl_take KidMark.wt hxk)
  have HLE:=hid (wtl_le KidMark.wt l (k + 1))
  have HTL:=hid (wtl_len KidMark.wt (l.drop (k + 1)))
  clear hrw hc hxk
  go_wp2_with (refine wpList_load_mid rfl 313 _ rfl b (o + k * 3) rfl row _ hrg.out Tryz.underlying313 rfl hln.out ?_)
  refine (szKidMark_any x _ r _ S HRW.out hr0 hr2).mono ?_
  rintro e w2 ⟨r2,rfl,Q,x2⟩
  have X2:=hid (HX.out.tr x2)
  have HQ:=hid Q
  clear x2 Q
  by_cases g : 0 ≤ r2
  rotate_left
  ·have e : r2 = -1:=by have a:=HQ.out;unfold Left at a;omega
   subst e
   clear g
   go_wp2
   go_ret
   exact ⟨-1,rfl,.inr ⟨by have a:=HQ.out;have b:=HW.out;have c:=HR.out;have d:=HLE.out;have e:=H.out;have f:=wtl_rest KidMark.wt l (k + 1);unfold Left at a;omega,rfl⟩,X2.out⟩
  have g2 : r2 ≤ 1048576:=by have a:=HQ.out;unfold Left at a;omega
  go_wp2
  go_roundw
  case rel => exact ⟨k + 1,r2,by omega,by go_num,rfl,g,g2,by show _ = _;have a:=HQ.out;have b:=HW.out;have c:=HR.out;unfold Left at a;omega,X2.out⟩
  case measure => simp [intOf];omega
set_option maxRecDepth 8000 in
theorem toKidMark_any (x : KidMark) (cs : List Value) (w : World) (S : Nat → Prop) (h : KidMark.R w S cs x) (hw : KidMark.wt x ≤ 1048576) :
  Calls Tryz.prog 236 #[.agg cs.toArray] w fun e w' => ∃ cs',e = .returned (.agg cs'.toArray) ∧ KidMark.W w' (fun g => w.heap.size ≤ g ∧ g < w'.heap.size) cs' x ∧ Ext w w':=by
 obtain ⟨A0,n0,c0,rfl,⟨kh0,mh0,h0⟩⟩:=h
 unfold KidMark.wt at hw
 have l0:=h0.len
 have n_0 : n0 ≤ 1048576:=by omega
 have H0:=hid h0
 clear h0 hw l0
 show Calls Tryz.prog _ #[.agg #[.int .i64 x.pc_,.int .i64 x.writes_,.slice A0 n0 c0]] w _
 go_enter Tryz.func236,Tryz.ntmps236
 go_wp2_with fail
 refine (toIntS_any _ _ _ _ _ S (H0.out.ext ((((Ext.refl' w).al _).al _).al _)) n_0).mono ?_
 rintro e w1 ⟨B0,d0,rfl,o0,x1⟩
 have K0 : Hid (n0 ≤ d0):=own_cap o0
 replace o0:=hid (OwS.of_own o0)
 have z1 : w.heap.size + 3 ≤ w1.heap.size:=by have h:=x1.size;(try simp at h);omega
 have ba1 : Hid (Bx w1 (w.heap.size) 313 #[.int .i64 x.pc_,.int .i64 x.writes_,.slice A0 n0 c0]):=Bx.ext (((Bx.new' _ _ _ rfl).al _).al _) x1
 have br1 : Hid (Bx w1 (w.heap.size + 1) 297 #[.int .i64 0,.int .i64 0,.slice none 0 0]):=Bx.ext ((Bx.new' _ _ _ (by simp)).al _) x1
 have bo1 : Hid (Bx w1 (w.heap.size + 2) 297 #[.int .i64 x.pc_,.int .i64 x.writes_,.slice none 0 0]):=Bx.ext (Bx.new' _ _ _ (by simp)) x1
 have X1 : Ext w w1:=Ext.tr ((((Ext.refl' w).al _).al _).al _) x1
 replace o0 : Hid (OwS w1 (fun g => w.heap.size + 3 ≤ g ∧ g < w1.heap.size) 3 1 B0 n0 d0 (ints x.regs_)):=o0.out.mono (fun g _ hg => by have h1:=hg.1;have h2:=hg.2;constructor <;> (try simp at h1) <;> omega)
 clear x1
 have co1_0 : w1.cell? ⟨w.heap.size + 2,0,none⟩ = some (.int .i64 x.pc_):=bo1.out.cell 0
 have co1_1 : w1.cell? ⟨w.heap.size + 2,1,none⟩ = some (.int .i64 x.writes_):=bo1.out.cell 1
 have co1_2 : w1.cell? ⟨w.heap.size + 2,2,none⟩ = some (.slice none 0 0):=bo1.out.cell 2
 have fo1_2 : w1.frozen? ⟨w.heap.size + 2,2,none⟩ = false:=bo1.out.frozen 2
 have cr1_0 : w1.cell? ⟨w.heap.size + 1,0,none⟩ = some (.int .i64 0):=br1.out.cell 0
 have fr1_0 : w1.frozen? ⟨w.heap.size + 1,0,none⟩ = false:=br1.out.frozen 0
 have cr1_1 : w1.cell? ⟨w.heap.size + 1,1,none⟩ = some (.int .i64 0):=br1.out.cell 1
 have fr1_1 : w1.frozen? ⟨w.heap.size + 1,1,none⟩ = false:=br1.out.frozen 1
 have cr1_2 : w1.cell? ⟨w.heap.size + 1,2,none⟩ = some (.slice none 0 0):=br1.out.cell 2
 have fr1_2 : w1.frozen? ⟨w.heap.size + 1,2,none⟩ = false:=br1.out.frozen 2
 go_wp2
 refine bodyPost_ret (v:=.agg #[.int .i64 x.pc_,.int .i64 x.writes_,.slice B0 n0 d0]) (by simp [results,Tryz.results236,go_sem,cr1_0,cr1_1,cr1_2]) rfl ⟨[.int .i64 x.pc_,.int .i64 x.writes_,.slice B0 n0 d0],rfl,?_,?_⟩
 ·refine (?_ : ∀ wz,Chg (fun g => g = w.heap.size + 2 ∨ g = w.heap.size + 1) w1 wz → KidMark.W wz (fun g => w.heap.size ≤ g ∧ g < wz.heap.size) [.int .i64 x.pc_,.int .i64 x.writes_,.slice B0 n0 d0] x) _ (((((Chg.refl (fun g => g = w.heap.size + 2 ∨ g = w.heap.size + 1) _).sc2 _).sc2 _).sc2 _).sc2 _)
  intro wz cc
  have zz:=cc.size
  exact ⟨B0,n0,d0,lb [w1.heap.size],rfl,⟨K0.out,mh0,(o0.out.chg cc (fun g hg q => by have h1:=hg.1;have hq3 : g = w.heap.size + 2 ∨ g = w.heap.size + 1:=q;omega)).mono (fun g _ hg => ⟨⟨by have h1:=hg.1;omega,by have h2:=hg.2;omega⟩,by have h1:=hg.1;have h2:=hg.2;exact lb_here (by omega)⟩)⟩⟩
 ·exact ((((X1).sc2 _).sc2 _).sc2 _).sc2 _
theorem Tryz.infoKidMark : (Tryz.prog.info? 297).map (fun i => (i.zero,i.size,i.bytes)) = some (some (.agg #[.int .i64 0,.int .i64 0,.slice none 0 0]),3,40):=by kernel_rfl
set_option maxRecDepth 8000 in
theorem toKidMarkS_any (A : Option Addr) (n c : Nat) (l : List KidMark) (w : World) (S : Nat → Prop) (hs : SlR KidMark.R 3 w S A n l) (hm : n ≤ 1048576) (hw : wtl KidMark.wt l ≤ 1048576) :
  Calls Tryz.prog 232 #[.slice A n c] w fun e w' => ∃ B d,e = .returned (.slice B n d) ∧ SlW KidMark.W 297 3 w' (fun g => w.heap.size ≤ g ∧ g < w'.heap.size) B n d l ∧ Ext w w':=by
 obtain ⟨w1,cs0,hmk,hown,-,hx1,hlt⟩:=made_row (P:=Tryz.prog) w 246 297 _ _ _ Tryz.underlying246 Tryz.infoKidMark n (by omega) (by unfold maxLen;omega)
 have HO:=hid hown
 have HX:=hid hx1
 have HS:=hid hs
 have HLL:=hid hs.1
 have HW0:=hid hw
 clear hown hx1 hs hw
 go_enter Tryz.func232,Tryz.ntmps232
 go_wp2
 go_loopw [4] (fun i wr => ∃ (k : Nat) (cs : List Value) (lab : Nat → Nat),k ≤ n ∧ i = .int .i64 k ∧ Hid (wr.ownsRow w.heap.size 297 3 (.slice (some ⟨w.heap.size,0,none⟩) n n) n cs) ∧ Hid (WRows KidMark.W 3 wr (fun g => w.heap.size < g ∧ g < wr.heap.size) lab cs l k) ∧ Ext w wr) (fun i _ => n - (intOf i).toNat)
 case atStart => exact ⟨0,_,fun _ => 0,Nat.zero_le _,rfl,HO,WRows.zero _ _ _ _ _ _ _,HX.out⟩
 case round =>
  obtain ⟨k,cs,lab,hk,rfl,HO2,HU,hx⟩:=hrel
  have HX2:=hid hx
  clear hx
  by_cases hlt : (k : Int) < (n : Int)
  rotate_left
  ·have e : Hid (k = n):=by show k = n;omega
   go_wp2
   go_ret
   refine ⟨_,_,rfl,⟨HLL.out,cs,fun g => if w.heap.size < g then lab g else 0,⟨own_base HO2.out (Nat.zero_le _),fun g hg => ?_⟩,fun i hi x hxi => ?_⟩,HX2.out⟩
   ·have e : some w.heap.size = some g:=hg
    injection e with e
    subst e
    exact ⟨⟨Nat.le_refl _,(HO2.out.lt _ rfl).2⟩,if_neg (Nat.lt_irrefl _)⟩
   ·obtain ⟨row,hr,hj⟩:=HU.out i (by have h:=e.out;omega) x hxi
    exact ⟨row,KidMark.W_good.mono hr fun g hg => ⟨⟨by have h:=hg.1.1;omega,hg.1.2⟩,(if_pos hg.1.1).trans hg.2⟩,hj⟩
  obtain ⟨b,o,rfl⟩:=HS.out.addr (by omega)
  obtain ⟨x,row,hxk,-,hrw,hc⟩:=(HS.out.ext KidMark.R_good HX2.out).at_ (k:=k) (by omega)
  have hrg:=hid (SlR.range KidMark.R_good hrw hc)
  have hln : Hid ((Tryz.prog.info? 313).map (·.size) = some row.length):=by show _ = _;rw [KidMark.R_good.len hrw];exact KidMark.size_laws
  have HRW:=hid hrw
  have HXK:=hid hxk
  have HKW:=hid (Nat.le_trans (wtl_at KidMark.wt hxk) HW0.out)
  have HLT : Hid (k < n):=by show k < n;omega
  clear hrw hc hxk
  go_wp2_with (refine wpList_load_mid rfl 313 _ rfl b (o + k * 3) rfl row _ hrg.out Tryz.underlying313 rfl hln.out ?_)
  refine (toKidMark_any x _ _ S HRW.out HKW.out).mono ?_
  rintro e w2 ⟨cv,rfl,hW,hx2⟩
  have HWW:=hid hW
  have HO3:=hid (own_ext HO2.out hx2)
  have z0 : w.heap.size < wr.heap.size:=(HO2.out.lt _ rfl).2
  have z1 : wr.heap.size ≤ w2.heap.size:=hx2.size
  have HX3:=hid hx2
  have hcz : cv.toArray.size = 3:=Eq.trans (List.size_toArray ..) (KidMark.W_good.len hW)
  have hth : Hid (w2.there w.heap.size (k * 3) cv.toArray.size):=by show World.there _ _ _ _;rw [hcz];exact own_there HO3.out HLT.out
  have hsz : Hid ((Tryz.prog.info? 297).map (·.size) = some cv.toArray.size):=by show _ = _;rw [hcz];exact KidMark.size_info
  have hon : Hid (cv.toArray.all (·.oneCell') = true):=all_oneCell_toArray (KidMark.W_one hW)
  clear hx2 hW hcz
  go_wp2_with (refine wpList_store_mid rfl 297 _ _ rfl w.heap.size (k * 3) cv.toArray rfl rfl hth.out hsz.out hon.out ?_)
  go_roundw
  case rel =>
   have hl3 : cs.length = n * 3:=HO2.out.1
   have hkn:=HLT.out
   have hcl:=KidMark.W_good.len HWW.out
   have cc : Chg (fun g => g = w.heap.size) w2 (w2.setCells w.heap.size (k * 3) cv):=Chg.cells (S:=fun g => g = w.heap.size) rfl cv _ (Chg.refl _ _)
   have hsize : w2.heap.size ≤ (w2.setCells w.heap.size (k * 3) cv).heap.size:=cc.size
   refine ⟨k + 1,putAt cs (k * 3) cv,_,by omega,by go_num,hid (own_cells cv (k * 3) HO3.out),hid (WRows.step (b:=wr.heap.size) KidMark.W_good HU.out (fun g hg => hg.2) (Chg.trans (HX3.out.chg _) cc) (fun g hg q => by have h1:=hg.1;have h2 : g = w.heap.size:=q;omega) (fun g hg => ⟨hg.1,by have h:=hg.2;show g < (w2.setCells _ _ cv).heap.size;omega⟩) HXK.out (KidMark.W_good.mono (KidMark.W_good.chg HWW.out cc (fun g hg q => by have h1:=hg.1;have h2 : g = w.heap.size:=q;omega)) (fun g hg => ⟨⟨by have h1:=hg.1;omega,by have h:=hg.2;show g < (w2.setCells _ _ cv).heap.size;omega⟩,hg.1⟩)) (fun j hj => putAt_lt _ _ _ _ hj) (fun j hj => putAt_at _ _ _ _ (by omega) (by omega))),?_⟩
   exact (HX2.out.tr HX3.out).cells (Nat.le_refl _) cv _
  case measure => have h:=HLT.out;simp [intOf];omega
set_option maxRecDepth 8000 in
theorem eqKidMark_same (x : KidMark) (cs cs' : List Value) (w : World) (S S' : Nat → Prop) (h : KidMark.R w S cs x) (u : KidMark.R w S' cs' x) :
  Calls Tryz.prog 237 #[.agg cs.toArray,.agg cs'.toArray] w fun e w' => e = .returned (.bool true) ∧ Ext w w':=by
 obtain ⟨A0,n0,c0,rfl,⟨kh0,mh0,h0⟩⟩:=h
 obtain ⟨B0,p0,d0,rfl,⟨ku0,mu0,u0⟩⟩:=u
 obtain rfl : n0 = p0:=by have a:=h0.len;have b:=u0.len;omega
 have H0:=hid h0
 have U0:=hid u0
 clear h0 u0
 show Calls Tryz.prog _ #[.agg #[.int .i64 x.pc_,.int .i64 x.writes_,.slice A0 n0 c0],.agg #[.int .i64 x.pc_,.int .i64 x.writes_,.slice B0 n0 d0]] w _
 go_enter Tryz.func237,Tryz.ntmps237
 go_wp2_with fail
 refine (eqIntS_same _ _ _ _ _ _ _ S S' (H0.out.ext (((Ext.refl' w).al _).al _)) (U0.out.ext (((Ext.refl' w).al _).al _)) mh0).mono ?_
 rintro e w1 ⟨rfl,x1⟩
 have z1 : w.heap.size + 2 ≤ w1.heap.size:=by have h:=x1.size;(try simp at h);omega
 have ba1 : Hid (Bx w1 (w.heap.size) 297 #[.int .i64 x.pc_,.int .i64 x.writes_,.slice A0 n0 c0]):=Bx.ext ((Bx.new' _ _ _ rfl).al _) x1
 have bb1 : Hid (Bx w1 (w.heap.size + 1) 297 #[.int .i64 x.pc_,.int .i64 x.writes_,.slice B0 n0 d0]):=Bx.ext (Bx.new' _ _ _ (by simp)) x1
 have X1 : Ext w w1:=Ext.tr (((Ext.refl' w).al _).al _) x1
 clear x1
 go_wp2
 go_ret
 exact ⟨rfl,X1⟩
set_option maxRecDepth 8000 in
theorem eqKidMarkS_same (A B : Option Addr) (n c d : Nat) (l : List KidMark) (w : World) (S S' : Nat → Prop) (ha : SlR KidMark.R 3 w S A n l) (hb : SlR KidMark.R 3 w S' B n l) (hm : n ≤ 9223372036854775807) :
  Calls Tryz.prog 234 #[.slice A n c,.slice B n d] w fun e w' => e = .returned (.bool true) ∧ Ext w w':=by
 have HA:=hid ha
 have HB:=hid hb
 clear ha hb
 go_enter Tryz.func234,Tryz.ntmps234
 go_wp2
 go_loopw [5] (fun i wr => ∃ (k : Nat),k ≤ n ∧ i = .int .i64 k ∧ Ext w wr) (fun i _ => n - (intOf i).toNat)
 case atStart => exact ⟨0,Nat.zero_le _,rfl,Ext.refl' _⟩
 case round =>
  obtain ⟨k,hk,rfl,hx⟩:=hrel
  have HX:=hid hx
  clear hx
  by_cases hlt : (k : Int) < (n : Int)
  rotate_left
  ·go_wp2
   go_ret
   exact ⟨rfl,HX.out⟩
  obtain ⟨b,o,rfl⟩:=HA.out.addr (by omega)
  obtain ⟨b2,o2,rfl⟩:=HB.out.addr (by omega)
  obtain ⟨x,row,hxk,-,hrw,hc⟩:=(HA.out.ext KidMark.R_good HX.out).at_ (k:=k) (by omega)
  obtain ⟨y,row2,hyk,-,hrw2,hc2⟩:=(HB.out.ext KidMark.R_good HX.out).at_ (k:=k) (by omega)
  rw [hxk] at hyk
  injection hyk with hyk
  subst hyk
  have rx:=hid (SlR.range KidMark.R_good hrw hc)
  have ry:=hid (SlR.range KidMark.R_good hrw2 hc2)
  have RX:=hid hrw
  have RY:=hid hrw2
  have l1 : Hid ((Tryz.prog.info? 297).map (·.size) = some row.length):=by show _ = _;rw [KidMark.R_good.len hrw];exact KidMark.size_info
  have l2 : Hid ((Tryz.prog.info? 297).map (·.size) = some row2.length):=by show _ = _;rw [KidMark.R_good.len hrw2];exact KidMark.size_info
  have KX : Hid (∀ wq,Ext wr wq → wq.rangeAt b (o + k * 3) row):=fun wq q j v hv => q.co (rx.out j v hv)
  have KY : Hid (∀ wq,Ext wr wq → wq.rangeAt b2 (o2 + k * 3) row2):=fun wq q j v hv => q.co (ry.out j v hv)
  have hk0 : (0 : Int) ≤ (k : Int):=by omega
  clear hrw hrw2 hc hc2 hxk
  go_wp2
  refine region_class (fun w' => Ext wr w') (by kernel_rfl) (by kernel_rfl) ((Ext.refl' _).dr) ?_
  repeat (first|go_big_quiet_skip|(go_big_quiet_want;first|(refine quiet_load 297 _ rfl b (o + k * 3) rfl row _ KX.out Tryz.underlying297 rfl l1.out ?_;(try simp only [Act.put,List.setIfInBounds_toArray,List.set_cons_zero,List.set_cons_succ]);go_big_quiet_on)|(refine quiet_load 297 _ rfl b2 (o2 + k * 3) rfl row2 _ KY.out Tryz.underlying297 rfl l2.out ?_;(try simp only [Act.put,List.setIfInBounds_toArray,List.set_cons_zero,List.set_cons_succ]);go_big_quiet_on)|(unfold Oper.quiet;apply Exists.intro;refine ⟨fun wq hq => ?_,?_⟩;(go_simp;first|done|rfl|(go_at_call 237;exact (eqKidMark_same x row row2 _ S S' (KidMark.R_good.ext RX.out hq) (KidMark.R_good.ext RY.out hq)).mono fun e w2 h2 => ⟨h2.1,hq.tr h2.2⟩));(try simp only [Act.put,List.setIfInBounds_toArray,List.set_cons_zero,List.set_cons_succ]);go_big_quiet_on)))
  refine wpQuiet_nil ?_
  intro wq hq
  have XE:=hid hq
  clear hq
  go_wp2
  go_roundw
  case rel => exact ⟨k + 1,by omega,by go_num,HX.out.tr XE.out⟩
  case measure => simp [intOf];omega

end Go.Proofs.YtoegjiigaoanbaaGreat
