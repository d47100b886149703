/- The laws' helpers on Row, Word, Probe and Job. No condition but sizes. -/
import Derived.Test.YtpmfhfpjiebcjaaGreatE00
import Derived.Test.YtpmfhfpjiebcjaaGreatE01
import Derived.Deep.RegionWith
namespace Go.Proofs.YtpmfhfpjiebcjaaGreat
open Go.RowKit Go.Deep

/-! ### Row -/
structure Row where
 cell_ : Int
 val_ : Int
deriving Inhabited,DecidableEq
def Row.cells (s : Row) : List Value:=[.int .i64 s.cell_,.int .i64 s.val_]
theorem Row.cells_length (s : Row) : s.cells.length = 2:=rfl
/-- Its integers are integers of Go's. -/
def Row.good (s : Row) : Prop:=(Lit.int .i64 s.cell_).wf = true ∧ (Lit.int .i64 s.val_).wf = true
theorem opens_Row : Opens Tryz.prog 143 (fun _ cs (s : Row) => cs = s.cells ∧ s.good):=by
 intro H enc w base spare held fuel cs x h
 obtain ⟨hl,m,hf⟩:=trod_fields Tryz.underlying143 (by kernel_rfl) (by kernel_rfl) h
 obtain ⟨v0,y0,e0,t0⟩:=hf 0 _ rfl
 obtain ⟨f0,h0,-,g0⟩:=DataW.trod_int Tryz.underlying3 t0
 injection h0 with h0 _;subst h0
 obtain ⟨v1,y1,e1,t1⟩:=hf 1 _ rfl
 obtain ⟨f1,h1,-,g1⟩:=DataW.trod_int Tryz.underlying3 t1
 injection h1 with h1 _;subst h1
 refine ⟨⟨f0,f1⟩,?_,⟨g0,g1⟩⟩
 match cs,hl with
 | [c0,c1],_ =>
  simp only [List.getElem?_cons_succ,List.getElem?_cons_zero,Option.some.injEq] at e0 e1
  subst e0 e1
  rfl

theorem toRow_any (f0 : Int) (f1 : Int) (w : World) :
  Calls Tryz.prog 124 #[.agg #[.int .i64 f0,.int .i64 f1]] w fun e w' => e = .returned (.agg #[.int .i64 f0,.int .i64 f1]) ∧ Ext w w':=by
 go_enter Tryz.func124,Tryz.ntmps124
 go_wp2
 refine bodyPost_ret (v:=.agg #[.int .i64 f0,.int .i64 f1]) (by simp [results,Tryz.results124,go_sem]) rfl ⟨rfl,?_⟩
 repeat (first|exact Ext.refl' _|refine Ext.al ?_ _|refine Ext.sc ?_ (by simp) _)

theorem Tryz.infoRow : (Tryz.prog.info? 97).map (fun i => (i.zero,i.size,i.bytes)) = some (some (.agg #[.int .i64 0,.int .i64 0]),2,16):=by kernel_rfl

set_option maxHeartbeats 2000000 in
theorem toRowS_any (A : Option Addr) (n c : Nat) (l : List Row) (w : World) (S : Nat → Prop) (hs : Sl w S 2 A n (l.flatMap Row.cells)) (hm : n ≤ 1048576) :
  Calls Tryz.prog 81 #[.slice A n c] w fun e w' => ∃ B d,e = .returned (.slice B n d) ∧ w'.ownsRow w.heap.size 97 2 (.slice B n d) n (l.flatMap Row.cells) ∧ Ext w w':=by
 obtain ⟨w1,cs0,hmk,hown,-,hx1,hlt⟩:=made_row (P:=Tryz.prog) w 51 97 _ _ _ Tryz.underlying51 Tryz.infoRow n (by omega) (by unfold maxLen;omega)
 have HO:=Lib.hid hown
 have HX:=Lib.hid hx1
 clear hown hx1
 go_enter Tryz.func81,Tryz.ntmps81
 go_wp2
 go_loopw [4] (fun i wr => ∃ (k : Nat) (cs : List Value),k ≤ n ∧ i = .int .i64 k ∧ wr.ownsRow w.heap.size 97 2 (.slice (some ⟨w.heap.size,0,none⟩) n n) n cs ∧ Upto cs (l.flatMap Row.cells) (k * 2) ∧ Ext w wr) (fun i _ => n - (intOf i).toNat)
 case atStart => exact ⟨0,_,Nat.zero_le _,rfl,HO.out,Upto.zero _ _,HX.out⟩
 case round =>
  obtain ⟨k,cs,hk,rfl,ho,hu,hx⟩:=hrel
  by_cases hlt : k < n
  ·obtain ⟨b,o,s,rfl,hb,hxk,hc⟩:=(hs.ext hx).flat_at Row.cells_length (by omega) hlt
   obtain ⟨f0,f1⟩:=s
   have c0:=hc 0 (by omega)
   have c1:=hc 1 (by omega)
   simp only [Row.cells,List.getElem?_cons_zero,List.getElem?_cons_succ,Nat.add_zero] at c0 c1
   have HX2:=Lib.hid hxk
   have HO2:=Lib.hid ho
   have HE2:=Lib.hid hx
   clear hxk ho hx hc
   go_wp2_with fail
   refine (toRow_any _ _ _).mono ?_
   rintro e w2 ⟨rfl,hx2⟩
   have ho2:=own_ext HO2.out hx2
   obtain ⟨g,hA,-,-,hg⟩:=own_flat ho2 hlt
   obtain rfl : w.heap.size = g:=addr_inj hA
   obtain ⟨v0,g0,e0⟩:=hg 0 (by omega)
   obtain ⟨v1,g1,e1⟩:=hg 1 (by omega)
   rw [Nat.add_zero] at g0 e0
   have HX3:=Lib.hid hx2
   have HO3:=Lib.hid ho2
   clear hx2 ho2 hg
   go_wp2
   go_roundw
   case rel =>
    have t0:=HO3.out.stored (k * 2) (.int .i64 f0)
    have t1:=t0.1.stored (k * 2 + 1) (.int .i64 f1)
    have hl3 : cs.length = n * 2:=HO3.out.1
    have q0:=flat_get Row.cells_length l k 0 _ HX2.out (by omega)
    have q1:=flat_get Row.cells_length l k 1 _ HX2.out (by omega)
    refine ⟨k + 1,_,by omega,by go_num,t1.1,?_,?_⟩
    ·rw [show (k + 1) * 2 = k * 2 + 1 + 1 by omega]
     refine Upto.set1 (Upto.set1 hu (by omega) ?_) (by simp;omega) ?_
     ·exact q0
     ·exact q1
    ·exact (((HE2.out.tr HX3.out)).sc (p:=⟨w.heap.size,_,none⟩) (Nat.le_refl _) _).sc (p:=⟨w.heap.size,_,none⟩) (Nat.le_refl _) _
   case measure => simp [intOf];omega
  ·go_wp2
   go_ret
   refine ⟨_,_,rfl,?_,hx⟩
   have : k = n:=by omega
   subst this
   rw [← hu.all ho.1 hs.1]
   exact ho

set_option maxHeartbeats 1000000 in
theorem eqRow_same (f0 : Int) (f1 : Int) (w : World) :
  Calls Tryz.prog 142 #[.agg #[.int .i64 f0,.int .i64 f1],.agg #[.int .i64 f0,.int .i64 f1]] w fun e w' => e = .returned (.bool true) ∧ Ext w w':=by
 go_enter Tryz.func142,Tryz.ntmps142
 go_wp2
 go_ret
 refine ⟨rfl,?_⟩
 repeat (first|exact Ext.refl' _|refine Ext.al ?_ _)

set_option maxHeartbeats 2000000 in
theorem eqRowS_same (A B : Option Addr) (n c d : Nat) (l : List Row) (w : World) (S T : Nat → Prop) (ha : Sl w S 2 A n (l.flatMap Row.cells)) (hb : Sl w T 2 B n (l.flatMap Row.cells)) (hm : n ≤ 9223372036854775807) :
  Calls Tryz.prog 94 #[.slice A n c,.slice B n d] w fun e w' => e = .returned (.bool true) ∧ Ext w w':=by
 go_enter Tryz.func94,Tryz.ntmps94
 go_wp2
 go_loopw [5] (fun i wr => ∃ (k : Nat),k ≤ n ∧ i = .int .i64 k ∧ Ext w wr) (fun i _ => n - (intOf i).toNat)
 case atStart => exact ⟨0,Nat.zero_le _,rfl,Ext.refl' _⟩
 case round =>
  obtain ⟨k,hk,rfl,hx⟩:=hrel
  by_cases hlt : k < n
  ·obtain ⟨b1,o1,s,rfl,hb1,hxk,hc1⟩:=(ha.ext hx).flat_at Row.cells_length (by omega) hlt
   obtain ⟨b2,o2,s',rfl,hb2,hyk,hc2⟩:=(hb.ext hx).flat_at Row.cells_length (by omega) hlt
   rw [hxk] at hyk
   injection hyk with hyk
   subst hyk
   obtain ⟨f0,f1⟩:=s
   have c0:=hc1 0 (by omega)
   have c1:=hc1 1 (by omega)
   have d0:=hc2 0 (by omega)
   have d1:=hc2 1 (by omega)
   simp only [Row.cells,List.getElem?_cons_zero,List.getElem?_cons_succ,Nat.add_zero] at c0 c1 d0 d1
   have HE2:=Lib.hid hx
   clear hxk hx hc1 hc2
   go_wp2
   go_region_with (go_at_call 142;refine (eqRow_same _ _ _).mono ?_;rintro e w2 ⟨rfl,hx2⟩)
   all_goals
    have HE3:=Lib.hid hx2
    clear hx2
    go_wp2
    go_roundw
    case rel => exact ⟨k + 1,by omega,by go_num,HE2.out.tr (Ext.tr (Ext.dr (Ext.refl' _)) HE3.out)⟩
    case measure => simp [intOf];omega
  ·go_wp2
   go_ret
   exact ⟨rfl,hx⟩

theorem szRowS_any (A : Option Addr) (n c : Nat) (q : Int) (w : World) (hq : 0 ≤ q) (hq2 : q ≤ 1048576) (hn : n ≤ 9223372036854775807) :
  Calls Tryz.prog 76 #[.slice A n c,.int .i64 q] w fun e w' => e = .returned (.int .i64 (if (n : Int) ≤ q then q - n else -1)) ∧ w = w':=by
 by_cases h : (n : Int) ≤ q
 ·go_enter Tryz.func76,Tryz.ntmps76
  go_wp2
  go_ret
  exact ⟨by first|rfl|(simp;done)|simp [h],rfl⟩
 ·go_enter Tryz.func76,Tryz.ntmps76
  go_wp2
  go_ret
  exact ⟨by first|rfl|(simp;done)|simp [h],rfl⟩

/-! ### Word -/
structure Word where
 val_ : Int
 ver_ : Int
 owner_ : Int
deriving Inhabited,DecidableEq
def Word.cells (s : Word) : List Value:=[.int .i64 s.val_,.int .i64 s.ver_,.int .i64 s.owner_]
theorem Word.cells_length (s : Word) : s.cells.length = 3:=rfl
/-- Its integers are integers of Go's. -/
def Word.good (s : Word) : Prop:=(Lit.int .i64 s.val_).wf = true ∧ (Lit.int .i64 s.ver_).wf = true ∧ (Lit.int .i64 s.owner_).wf = true

set_option maxHeartbeats 1000000 in
theorem eqWord_same (f0 : Int) (f1 : Int) (f2 : Int) (w : World) :
  Calls Tryz.prog 139 #[.agg #[.int .i64 f0,.int .i64 f1,.int .i64 f2],.agg #[.int .i64 f0,.int .i64 f1,.int .i64 f2]] w fun e w' => e = .returned (.bool true) ∧ Ext w w':=by
 go_enter Tryz.func139,Tryz.ntmps139
 go_wp2
 go_ret
 refine ⟨rfl,?_⟩
 repeat (first|exact Ext.refl' _|refine Ext.al ?_ _)

set_option maxHeartbeats 2000000 in
theorem eqWordS_same (A B : Option Addr) (n c d : Nat) (l : List Word) (w : World) (S T : Nat → Prop) (ha : Sl w S 3 A n (l.flatMap Word.cells)) (hb : Sl w T 3 B n (l.flatMap Word.cells)) (hm : n ≤ 9223372036854775807) :
  Calls Tryz.prog 91 #[.slice A n c,.slice B n d] w fun e w' => e = .returned (.bool true) ∧ Ext w w':=by
 go_enter Tryz.func91,Tryz.ntmps91
 go_wp2
 go_loopw [5] (fun i wr => ∃ (k : Nat),k ≤ n ∧ i = .int .i64 k ∧ Ext w wr) (fun i _ => n - (intOf i).toNat)
 case atStart => exact ⟨0,Nat.zero_le _,rfl,Ext.refl' _⟩
 case round =>
  obtain ⟨k,hk,rfl,hx⟩:=hrel
  by_cases hlt : k < n
  ·obtain ⟨b1,o1,s,rfl,hb1,hxk,hc1⟩:=(ha.ext hx).flat_at Word.cells_length (by omega) hlt
   obtain ⟨b2,o2,s',rfl,hb2,hyk,hc2⟩:=(hb.ext hx).flat_at Word.cells_length (by omega) hlt
   rw [hxk] at hyk
   injection hyk with hyk
   subst hyk
   obtain ⟨f0,f1,f2⟩:=s
   have c0:=hc1 0 (by omega)
   have c1:=hc1 1 (by omega)
   have c2:=hc1 2 (by omega)
   have d0:=hc2 0 (by omega)
   have d1:=hc2 1 (by omega)
   have d2:=hc2 2 (by omega)
   simp only [Word.cells,List.getElem?_cons_zero,List.getElem?_cons_succ,Nat.add_zero] at c0 c1 c2 d0 d1 d2
   have HE2:=Lib.hid hx
   clear hxk hx hc1 hc2
   go_wp2
   go_region_with (go_at_call 139;refine (eqWord_same _ _ _ _).mono ?_;rintro e w2 ⟨rfl,hx2⟩)
   all_goals
    have HE3:=Lib.hid hx2
    clear hx2
    go_wp2
    go_roundw
    case rel => exact ⟨k + 1,by omega,by go_num,HE2.out.tr (Ext.tr (Ext.dr (Ext.refl' _)) HE3.out)⟩
    case measure => simp [intOf];omega
  ·go_wp2
   go_ret
   exact ⟨rfl,hx⟩

/-! ### Probe -/
structure Probe where
 cell_ : Int
 phase_ : Int
 ver_ : Int
 val_ : Int
deriving Inhabited,DecidableEq
def Probe.cells (s : Probe) : List Value:=[.int .i64 s.cell_,.int .i64 s.phase_,.int .i64 s.ver_,.int .i64 s.val_]
theorem Probe.cells_length (s : Probe) : s.cells.length = 4:=rfl
/-- Its integers are integers of Go's. -/
def Probe.good (s : Probe) : Prop:=(Lit.int .i64 s.cell_).wf = true ∧ (Lit.int .i64 s.phase_).wf = true ∧ (Lit.int .i64 s.ver_).wf = true ∧ (Lit.int .i64 s.val_).wf = true

set_option maxHeartbeats 1000000 in
theorem eqProbe_same (f0 : Int) (f1 : Int) (f2 : Int) (f3 : Int) (w : World) :
  Calls Tryz.prog 140 #[.agg #[.int .i64 f0,.int .i64 f1,.int .i64 f2,.int .i64 f3],.agg #[.int .i64 f0,.int .i64 f1,.int .i64 f2,.int .i64 f3]] w fun e w' => e = .returned (.bool true) ∧ Ext w w':=by
 go_enter Tryz.func140,Tryz.ntmps140
 go_wp2
 go_ret
 refine ⟨rfl,?_⟩
 repeat (first|exact Ext.refl' _|refine Ext.al ?_ _)

/-! ### Job -/
structure Job where
 reads_ : List Int
 puts_ : List Row
deriving Inhabited
def Job.wt (x : Job) : Nat:=x.reads_.length + x.puts_.length
def Job.R (w : World) (S : Nat → Prop) (cs : List Value) (x : Job) : Prop:=∃ (A0 : Option Addr) (n0 c0 : Nat) (A1 : Option Addr) (n1 c1 : Nat),cs = [.slice A0 n0 c0,.slice A1 n1 c1] ∧ (n0 ≤ c0 ∧ n0 ≤ 9223372036854775807 ∧ Sl w S 1 A0 n0 (ints x.reads_)) ∧ (n1 ≤ c1 ∧ n1 ≤ 9223372036854775807 ∧ Sl w S 2 A1 n1 (x.puts_.flatMap Row.cells))
def Job.W (w : World) (S : Nat → Prop) (cs : List Value) (x : Job) : Prop:=∃ (A0 : Option Addr) (n0 c0 : Nat) (A1 : Option Addr) (n1 c1 : Nat) (lab : Nat → Nat),cs = [.slice A0 n0 c0,.slice A1 n1 c1] ∧ (n0 ≤ c0 ∧ n0 ≤ 9223372036854775807 ∧ OwS w (fun g => S g ∧ lab g = 0) 3 1 A0 n0 c0 (ints x.reads_)) ∧ (n1 ≤ c1 ∧ n1 ≤ 9223372036854775807 ∧ OwS w (fun g => S g ∧ lab g = 1) 97 2 A1 n1 c1 (x.puts_.flatMap Row.cells))
theorem Job.R_good : Good Job.R 2:=⟨fun {_ _ _ _} h => by
  obtain ⟨A0,n0,c0,A1,n1,c1,rfl,⟨kh0,mh0,h0⟩,⟨kh1,mh1,h1⟩⟩:=h
  rfl,
 fun {_ _ _ _ _ _} h k hd => by
  obtain ⟨A0,n0,c0,A1,n1,c1,rfl,⟨kh0,mh0,h0⟩,⟨kh1,mh1,h1⟩⟩:=h
  exact ⟨_,_,_,_,_,_,rfl,⟨kh0,mh0,h0.chg k hd⟩,⟨kh1,mh1,h1.chg k hd⟩⟩,
 fun {_ _ _ _ _} h hs => by
  obtain ⟨A0,n0,c0,A1,n1,c1,rfl,⟨kh0,mh0,h0⟩,⟨kh1,mh1,h1⟩⟩:=h
  exact ⟨_,_,_,_,_,_,rfl,⟨kh0,mh0,h0.mono hs⟩,⟨kh1,mh1,h1.mono hs⟩⟩⟩
theorem Job.W_good : Good Job.W 2:=⟨fun {_ _ _ _} h => by
  obtain ⟨A0,n0,c0,A1,n1,c1,lab,rfl,⟨kh0,mh0,h0⟩,⟨kh1,mh1,h1⟩⟩:=h
  rfl,
 fun {_ _ _ _ _ _} h k hd => by
  obtain ⟨A0,n0,c0,A1,n1,c1,lab,rfl,⟨kh0,mh0,h0⟩,⟨kh1,mh1,h1⟩⟩:=h
  exact ⟨_,_,_,_,_,_,lab,rfl,⟨kh0,mh0,h0.chg k fun i hi => hd i hi.1⟩,⟨kh1,mh1,h1.chg k fun i hi => hd i hi.1⟩⟩,
 fun {_ _ _ _ _} h hs => by
  obtain ⟨A0,n0,c0,A1,n1,c1,lab,rfl,⟨kh0,mh0,h0⟩,⟨kh1,mh1,h1⟩⟩:=h
  exact ⟨_,_,_,_,_,_,lab,rfl,⟨kh0,mh0,h0.mono fun i _ hi => ⟨hs i hi.1,hi.2⟩⟩,⟨kh1,mh1,h1.mono fun i _ hi => ⟨hs i hi.1,hi.2⟩⟩⟩⟩
theorem Job.W_R {w : World} {S : Nat → Prop} {cs : List Value} {x : Job} (h : Job.W w S cs x) : Job.R w S cs x:=by
 obtain ⟨A0,n0,c0,A1,n1,c1,lab,rfl,⟨kh0,mh0,h0⟩,⟨kh1,mh1,h1⟩⟩:=h
 exact ⟨_,_,_,_,_,_,rfl,⟨kh0,mh0,h0.sl.mono fun i hi => hi.1⟩,⟨kh1,mh1,h1.sl.mono fun i hi => hi.1⟩⟩
theorem Job.R_cells {w : World} {S : Nat → Prop} {cs : List Value} {x : Job} (h : Job.R w S cs x) : ∃ (A0 : Option Addr) (n0 c0 : Nat) (A1 : Option Addr) (n1 c1 : Nat),cs = [.slice A0 n0 c0,.slice A1 n1 c1]:=by
 obtain ⟨A0,n0,c0,A1,n1,c1,rfl,⟨kh0,mh0,h0⟩,⟨kh1,mh1,h1⟩⟩:=h
 exact ⟨A0,n0,c0,A1,n1,c1,rfl⟩
theorem Job.W_cells {w : World} {S : Nat → Prop} {cs : List Value} {x : Job} (h : Job.W w S cs x) : ∃ (A0 : Option Addr) (n0 c0 : Nat) (A1 : Option Addr) (n1 c1 : Nat),cs = [.slice A0 n0 c0,.slice A1 n1 c1]:=by
 obtain ⟨A0,n0,c0,A1,n1,c1,lab,rfl,⟨kh0,mh0,h0⟩,⟨kh1,mh1,h1⟩⟩:=h
 exact ⟨A0,n0,c0,A1,n1,c1,rfl⟩theorem Job.size_info : (Tryz.prog.info? 72).map (·.size) = some 2:=by kernel_rfl
theorem Job.size_laws : (Tryz.prog.info? 59).map (·.size) = some 2:=by kernel_rfl
theorem Job.W_one {w : World} {S : Nat → Prop} {cs : List Value} {x : Job} (h : Job.W w S cs x) : ∀ v ∈ cs,v.oneCell' = true:=by
 obtain ⟨A0,n0,c0,A1,n1,c1,rfl⟩:=Job.W_cells h
 simp [Value.oneCell']
set_option maxRecDepth 8000 in
set_option maxHeartbeats 4000000 in
theorem opens_Job : Opens Tryz.prog 59 (fun w cs (x : Job) => Job.R w (fun _ => True) cs x):=by
 intro H enc w base spare held fuel cs x h
 obtain ⟨xs,n,_,_,hlen,hxl,hf⟩:=DataW.trod_struct Tryz.underlying59 h
 rw [show Tryz.prog.cellsOf 59 = 2 from by kernel_rfl] at hlen
 have hxl' : xs.length = 2:=hxl
 have h0 : DataW.trod enc Tryz.prog w base spare held n 22 ((cs.drop 0).take (Tryz.prog.cellsOf 22)) = xs[0]?:=hf 0 _ rfl
 rw [show Tryz.prog.cellsOf 22 = 1 from by kernel_rfl,List.getElem?_eq_getElem (show 0 < xs.length by omega)] at h0
 obtain ⟨f0,A0,n0,c0,e0,g0,g0',-,-,s0⟩:=opens_ints Tryz.underlying22 Tryz.underlying3 (by kernel_rfl) H enc w base spare held n _ _ h0
 have h1 : DataW.trod enc Tryz.prog w base spare held n 57 ((cs.drop 1).take (Tryz.prog.cellsOf 57)) = xs[1]?:=hf 1 _ rfl
 rw [show Tryz.prog.cellsOf 57 = 1 from by kernel_rfl,List.getElem?_eq_getElem (show 1 < xs.length by omega)] at h1
 obtain ⟨f1,A1,n1,c1,e1,g1,g1',-,-,s1⟩:=opens_flat Tryz.underlying57 (by kernel_rfl) (by omega) Row.cells_length opens_Row H enc w base spare held n _ _ h1
 clear h0 h1 hf h hxl hxl'
 match cs,hlen with
 | [q0,q1],_ =>
  simp only [List.drop_succ_cons,List.drop_zero,List.take_succ_cons,List.take_zero,List.cons.injEq,and_true] at e0 e1
  subst e0
  subst e1
  exact ⟨⟨f0,f1⟩,_,_,_,_,_,_,rfl,⟨g0,Nat.le_trans g0 g0',s0⟩,⟨g1,Nat.le_trans g1 g1',s1⟩⟩
set_option maxRecDepth 8000 in
set_option maxHeartbeats 4000000 in
theorem szJob_any (x : Job) (cs : List Value) (q : Int) (w : World) (S : Nat → Prop) (h : Job.R w S cs x) (hq0 : 0 ≤ q) (hq2 : q ≤ 1048576) :
  Calls Tryz.prog 28 #[.agg cs.toArray,.int .i64 q] w fun e w' => ∃ r : Int,e = .returned (.int .i64 r) ∧ Left r q (Job.wt x) ∧ Ext w w':=by
 obtain ⟨A0,n0,c0,A1,n1,c1,rfl,⟨kh0,mh0,h0⟩,⟨kh1,mh1,h1⟩⟩:=h
 have H0:=Lib.hid h0
 have H1:=Lib.hid h1
 clear h0 h1
 show Calls Tryz.prog _ #[.agg #[.slice A0 n0 c0,.slice A1 n1 c1],.int .i64 q] w _
 go_enter Tryz.func28,Tryz.ntmps28
 go_wp2_with fail
 have L0:=Lib.hid (H0.out.len)
 refine (szIntS_any _ _ _ (q) _ hq0 hq2 mh0).mono ?_
 rintro e w1 ⟨rfl,xq⟩
 have x1:=Ext.of_eq xq
 clear xq
 have Q0 : Hid (Left (if (n0 : Int) ≤ q then q - n0 else -1) q (x.reads_.length)):=by show Left _ _ _;rw [L0.out];exact Left.of_if
 generalize (if (n0 : Int) ≤ q then q - n0 else -1) = r0 at Q0
 have X1 : Ext w w1:=Ext.tr (((Ext.refl' w).al _)) x1
 have b1 : Hid (Bx w1 w.heap.size 59 #[.slice A0 n0 c0,.slice A1 n1 c1]):=Bx.ext (Bx.new' _ _ _ rfl) x1
 clear x1
 have R0 : Hid (Left r0 q (x.reads_.length)):=Q0
 by_cases g0 : 0 ≤ r0
 rotate_left
 ·have e0 : r0 = -1:=by have a:=R0.out;unfold Left at a;omega
  subst e0
  clear g0
  go_wp2
  go_ret
  exact ⟨-1,rfl,by have a:=R0.out;unfold Left Job.wt at *;omega,X1⟩
 have u0 : r0 ≤ 1048576:=by have a:=R0.out;unfold Left at a;omega
 have ca1_1 : w1.cell? ⟨w.heap.size,1,none⟩ = some (.slice A1 n1 c1):=b1.out.cell 1
 go_wp2_with fail
 have L1:=Lib.hid (H1.out.flen Row.cells_length (by omega))
 refine (szRowS_any _ _ _ (r0) _ g0 u0 mh1).mono ?_
 rintro e w2 ⟨rfl,xq⟩
 have x2:=Ext.of_eq xq
 clear xq
 have Q1 : Hid (Left (if (n1 : Int) ≤ r0 then r0 - n1 else -1) r0 (x.puts_.length)):=by show Left _ _ _;rw [L1.out];exact Left.of_if
 generalize (if (n1 : Int) ≤ r0 then r0 - n1 else -1) = r1 at Q1
 have X2 : Ext w w2:=Ext.tr (X1) x2
 have b2 : Hid (Bx w2 w.heap.size 59 #[.slice A0 n0 c0,.slice A1 n1 c1]):=Bx.ext (b1.out) x2
 clear x2
 have R1 : Hid (Left r1 q (x.reads_.length + x.puts_.length)):=by show Left _ _ _;have a:=R0.out;have b:=Q1.out;unfold Left at *;omega
 by_cases g1 : 0 ≤ r1
 rotate_left
 ·have e1 : r1 = -1:=by have a:=R1.out;unfold Left at a;omega
  subst e1
  clear g1
  go_wp2
  go_ret
  exact ⟨-1,rfl,by have a:=R1.out;unfold Left Job.wt at *;omega,X2⟩
 have u1 : r1 ≤ 1048576:=by have a:=R1.out;unfold Left at a;omega
 go_wp2
 go_ret
 exact ⟨r1,rfl,R1.out,X2⟩
set_option maxRecDepth 8000 in
set_option maxHeartbeats 4000000 in
theorem szJobS_any (A : Option Addr) (n c : Nat) (l : List Job) (q : Int) (w : World) (S : Nat → Prop) (hs : SlR Job.R 2 w S A n l) (hm : n ≤ 9223372036854775807) (hq0 : 0 ≤ q) (hq2 : q ≤ 1048576) :
  Calls Tryz.prog 5 #[.slice A n c,.int .i64 q] w fun e w' => ∃ r : Int,e = .returned (.int .i64 r) ∧ Left r q (wtl Job.wt l) ∧ Ext w w':=by
 have H:=Lib.hid hs.1
 have HL:=Lib.hid (wtl_len Job.wt l)
 by_cases hn : (n : Int) ≤ q
 rotate_left
 ·go_enter Tryz.func5,Tryz.ntmps5
  go_wp2
  go_ret
  exact ⟨-1,by first|rfl|(simp;done)|simp [hn],.inr ⟨by have a:=H.out;have b:=HL.out;omega,rfl⟩,Ext.refl' _⟩
 have HS:=Lib.hid hs
 clear hs
 go_enter Tryz.func5,Tryz.ntmps5
 go_wp2
 go_loopw [1,5] (fun u i wr => ∃ (k : Nat) (r : Int),k ≤ n ∧ i = .int .i64 k ∧ u = .int .i64 r ∧ 0 ≤ r ∧ r ≤ 1048576 ∧ Hid (r = q - n + k - wtl Job.wt (l.take k)) ∧ Ext w wr) (fun _ i _ => n - (intOf i).toNat)
 case atStart => exact ⟨0,q - n,Nat.zero_le _,rfl,rfl,by omega,by omega,by show _ = _;simp [wtl],Ext.refl' _⟩
 case round =>
  obtain ⟨k,r,hk,rfl,rfl,hr0,hr2,HR,hx⟩:=hrel
  have HX:=Lib.hid hx
  clear hx
  by_cases hlt : (k : Int) < (n : Int)
  rotate_left
  ·have e : Hid (k = n):=by show k = n;omega
   go_wp2
   go_ret
   exact ⟨r,rfl,.inl (by have h1:=HR.out;rw [e.out,← H.out,List.take_length] at h1;have h2:=H.out;omega),HX.out⟩
  obtain ⟨b,o,rfl⟩:=HS.out.addr (by omega)
  obtain ⟨x,row,hxk,-,hrw,hc⟩:=(HS.out.ext Job.R_good HX.out).at_ (k:=k) (by omega)
  have hrg:=Lib.hid (SlR.range Job.R_good hrw hc)
  have hln : Hid ((Tryz.prog.info? 59).map (·.size) = some row.length):=by show _ = _;rw [Job.R_good.len hrw];exact Job.size_laws
  have HRW:=Lib.hid hrw
  have HW:=Lib.hid (wtl_take Job.wt hxk)
  have HLE:=Lib.hid (wtl_le Job.wt l (k + 1))
  have HTL:=Lib.hid (wtl_len Job.wt (l.drop (k + 1)))
  clear hrw hc hxk
  go_wp2_with (refine wpList_load_mid rfl 59 _ rfl b (o + k * 2) rfl row _ hrg.out Tryz.underlying59 rfl hln.out ?_)
  refine (szJob_any x _ r _ S HRW.out hr0 hr2).mono ?_
  rintro e w2 ⟨r2,rfl,Q,x2⟩
  have X2:=Lib.hid (HX.out.tr x2)
  have HQ:=Lib.hid Q
  clear x2 Q
  by_cases g : 0 ≤ r2
  rotate_left
  ·have e : r2 = -1:=by have a:=HQ.out;unfold Left at a;omega
   subst e
   clear g
   go_wp2
   go_ret
   exact ⟨-1,rfl,.inr ⟨by have a:=HQ.out;have b:=HW.out;have c:=HR.out;have d:=HLE.out;have e:=H.out;have f:=wtl_rest Job.wt l (k + 1);unfold Left at a;omega,rfl⟩,X2.out⟩
  have g2 : r2 ≤ 1048576:=by have a:=HQ.out;unfold Left at a;omega
  go_wp2
  go_roundw
  case rel => exact ⟨k + 1,r2,by omega,by go_num,rfl,g,g2,by show _ = _;have a:=HQ.out;have b:=HW.out;have c:=HR.out;unfold Left at a;omega,X2.out⟩
  case measure => simp [intOf];omega
set_option maxRecDepth 8000 in
set_option maxHeartbeats 8000000 in
theorem toJob_any (x : Job) (cs : List Value) (w : World) (S : Nat → Prop) (h : Job.R w S cs x) (hw : Job.wt x ≤ 1048576) :
  Calls Tryz.prog 32 #[.agg cs.toArray] w fun e w' => ∃ cs',e = .returned (.agg cs'.toArray) ∧ Job.W w' (fun g => w.heap.size ≤ g ∧ g < w'.heap.size) cs' x ∧ Ext w w':=by
 obtain ⟨A0,n0,c0,A1,n1,c1,rfl,⟨kh0,mh0,h0⟩,⟨kh1,mh1,h1⟩⟩:=h
 unfold Job.wt at hw
 have l0:=h0.len
 have n_0 : n0 ≤ 1048576:=by omega
 have l1:=h1.flen Row.cells_length (by omega)
 have n_1 : n1 ≤ 1048576:=by omega
 have H0:=Lib.hid h0
 have H1:=Lib.hid h1
 clear h0 h1 hw l0 l1
 show Calls Tryz.prog _ #[.agg #[.slice A0 n0 c0,.slice A1 n1 c1]] w _
 go_enter Tryz.func32,Tryz.ntmps32
 go_wp2_with fail
 refine (toIntS_any _ _ _ _ _ S (H0.out.ext ((((Ext.refl' w).al _).al _).al _)) n_0).mono ?_
 rintro e w1 ⟨B0,d0,rfl,o0,x1⟩
 have K0 : Hid (n0 ≤ d0):=own_cap o0
 replace o0:=Lib.hid (OwS.of_own o0)
 have z1 : w.heap.size + 3 ≤ w1.heap.size:=by have h:=x1.size;(try simp at h);omega
 have ba1 : Hid (Bx w1 (w.heap.size) 59 #[.slice A0 n0 c0,.slice A1 n1 c1]):=Bx.ext (((Bx.new' _ _ _ rfl).al _).al _) x1
 have br1 : Hid (Bx w1 (w.heap.size + 1) 72 #[.slice none 0 0,.slice none 0 0]):=Bx.ext ((Bx.new' _ _ _ (by simp)).al _) x1
 have bo1 : Hid (Bx w1 (w.heap.size + 2) 72 #[.slice none 0 0,.slice none 0 0]):=Bx.ext (Bx.new' _ _ _ (by simp)) x1
 have X1 : Ext w w1:=Ext.tr ((((Ext.refl' w).al _).al _).al _) x1
 replace o0 : Hid (OwS w1 (fun g => w.heap.size + 3 ≤ g ∧ g < w1.heap.size) 3 1 B0 n0 d0 (ints x.reads_)):=o0.out.mono (fun g _ hg => by have h1:=hg.1;have h2:=hg.2;constructor <;> (try simp at h1) <;> omega)
 clear x1
 have ca1_1 : w1.cell? ⟨w.heap.size,1,none⟩ = some (.slice A1 n1 c1):=ba1.out.cell 1
 have co1_0 : w1.cell? ⟨w.heap.size + 2,0,none⟩ = some (.slice none 0 0):=bo1.out.cell 0
 have fo1_0 : w1.frozen? ⟨w.heap.size + 2,0,none⟩ = false:=bo1.out.frozen 0
 go_wp2_with fail
 refine (toRowS_any _ _ _ _ _ S (H1.out.ext ((X1).sc (by first|(simp;done)|(simp;omega)) _)) n_1).mono ?_
 rintro e w2 ⟨B1,d1,rfl,o1,x2⟩
 have K1 : Hid (n1 ≤ d1):=own_cap o1
 replace o1:=Lib.hid (OwS.of_own o1)
 have z2 : w.heap.size + 3 ≤ w2.heap.size:=by have h:=x2.size;(try simp at h);omega
 have y2 : w1.heap.size ≤ w2.heap.size:=by have h:=x2.size;(try simp at h);exact h
 have ba2 : Hid (Bx w2 (w.heap.size) 59 #[.slice A0 n0 c0,.slice A1 n1 c1]):=Bx.ext ((ba1.out).far (by first|(simp;done)|(simp;omega)) _) x2
 have br2 : Hid (Bx w2 (w.heap.size + 1) 72 #[.slice none 0 0,.slice none 0 0]):=Bx.ext ((br1.out).far (by first|(simp;done)|(simp;omega)) _) x2
 have bo2 : Hid (Bx w2 (w.heap.size + 2) 72 #[.slice B0 n0 d0,.slice none 0 0]):=Bx.ext (((bo1.out).set_ _ _).cast (by first|rfl|simp only [List.setIfInBounds_toArray,List.set_cons_succ,List.set_cons_zero])) x2
 have X2 : Ext w w2:=Ext.tr ((X1).sc (by first|(simp;done)|(simp;omega)) _) x2
 replace o0:=Lib.hid (o0.out.chg (Chg.trans ((Chg.refl (fun g => g = w.heap.size + 2) _).sc rfl _) (x2.chg _)) (fun g hg q => by have h1:=hg.1;have hq3 : g = w.heap.size + 2:=q;omega))
 replace o1 : Hid (OwS w2 (fun g => w1.heap.size ≤ g ∧ g < w2.heap.size) 97 2 B1 n1 d1 (x.puts_.flatMap Row.cells)):=o1.out.mono (fun g _ hg => by have h1:=hg.1;have h2:=hg.2;constructor <;> (try simp at h1) <;> omega)
 clear x2
 have co2_0 : w2.cell? ⟨w.heap.size + 2,0,none⟩ = some (.slice B0 n0 d0):=bo2.out.cell 0
 have co2_1 : w2.cell? ⟨w.heap.size + 2,1,none⟩ = some (.slice none 0 0):=bo2.out.cell 1
 have fo2_1 : w2.frozen? ⟨w.heap.size + 2,1,none⟩ = false:=bo2.out.frozen 1
 have cr2_0 : w2.cell? ⟨w.heap.size + 1,0,none⟩ = some (.slice none 0 0):=br2.out.cell 0
 have fr2_0 : w2.frozen? ⟨w.heap.size + 1,0,none⟩ = false:=br2.out.frozen 0
 have cr2_1 : w2.cell? ⟨w.heap.size + 1,1,none⟩ = some (.slice none 0 0):=br2.out.cell 1
 have fr2_1 : w2.frozen? ⟨w.heap.size + 1,1,none⟩ = false:=br2.out.frozen 1
 go_wp2
 refine bodyPost_ret (v:=.agg #[.slice B0 n0 d0,.slice B1 n1 d1]) (by simp [results,Tryz.results32,go_sem,cr2_0,cr2_1]) rfl ⟨[.slice B0 n0 d0,.slice B1 n1 d1],rfl,?_,?_⟩
 ·refine (?_ : ∀ wz,Chg (fun g => g = w.heap.size + 2 ∨ g = w.heap.size + 1) w2 wz → Job.W wz (fun g => w.heap.size ≤ g ∧ g < wz.heap.size) [.slice B0 n0 d0,.slice B1 n1 d1] x) _ ((((Chg.refl (fun g => g = w.heap.size + 2 ∨ g = w.heap.size + 1) _).sc (by first|(simp;done)|(simp;omega)) _).sc (by first|(simp;done)|(simp;omega)) _).sc (by first|(simp;done)|(simp;omega)) _)
  intro wz cc
  have zz:=cc.size
  exact ⟨B0,n0,d0,B1,n1,d1,lb [w1.heap.size,w2.heap.size],rfl,⟨K0.out,mh0,(o0.out.chg cc (fun g hg q => by have h1:=hg.1;have hq3 : g = w.heap.size + 2 ∨ g = w.heap.size + 1:=q;omega)).mono (fun g _ hg => ⟨⟨by have h1:=hg.1;omega,by have h2:=hg.2;omega⟩,by have h1:=hg.1;have h2:=hg.2;exact lb_here (by omega)⟩)⟩,⟨K1.out,mh1,(o1.out.chg cc (fun g hg q => by have h1:=hg.1;have hq3 : g = w.heap.size + 2 ∨ g = w.heap.size + 1:=q;omega)).mono (fun g _ hg => ⟨⟨by have h1:=hg.1;omega,by have h2:=hg.2;omega⟩,by have h1:=hg.1;have h2:=hg.2;exact lb_next (by omega) (lb_here (by omega))⟩)⟩⟩
 ·exact (((X2).sc (by first|(simp;done)|(simp;omega)) _).sc (by first|(simp;done)|(simp;omega)) _).sc (by first|(simp;done)|(simp;omega)) _
theorem Tryz.infoJob : (Tryz.prog.info? 72).map (fun i => (i.zero,i.size,i.bytes)) = some (some (.agg #[.slice none 0 0,.slice none 0 0]),2,48):=by kernel_rfl
set_option maxRecDepth 8000 in
set_option maxHeartbeats 8000000 in
theorem toJobS_any (A : Option Addr) (n c : Nat) (l : List Job) (w : World) (S : Nat → Prop) (hs : SlR Job.R 2 w S A n l) (hm : n ≤ 1048576) (hw : wtl Job.wt l ≤ 1048576) :
  Calls Tryz.prog 8 #[.slice A n c] w fun e w' => ∃ B d,e = .returned (.slice B n d) ∧ SlW Job.W 72 2 w' (fun g => w.heap.size ≤ g ∧ g < w'.heap.size) B n d l ∧ Ext w w':=by
 obtain ⟨w1,cs0,hmk,hown,-,hx1,hlt⟩:=made_row (P:=Tryz.prog) w 34 72 _ _ _ Tryz.underlying34 Tryz.infoJob n (by omega) (by unfold maxLen;omega)
 have HO:=Lib.hid hown
 have HX:=Lib.hid hx1
 have HS:=Lib.hid hs
 have HLL:=Lib.hid hs.1
 have HW0:=Lib.hid hw
 clear hown hx1 hs hw
 go_enter Tryz.func8,Tryz.ntmps8
 go_wp2
 go_loopw [4] (fun i wr => ∃ (k : Nat) (cs : List Value) (lab : Nat → Nat),k ≤ n ∧ i = .int .i64 k ∧ Hid (wr.ownsRow w.heap.size 72 2 (.slice (some ⟨w.heap.size,0,none⟩) n n) n cs) ∧ Hid (WRows Job.W 2 wr (fun g => w.heap.size < g ∧ g < wr.heap.size) lab cs l k) ∧ Ext w wr) (fun i _ => n - (intOf i).toNat)
 case atStart => exact ⟨0,_,fun _ => 0,Nat.zero_le _,rfl,HO,WRows.zero _ _ _ _ _ _ _,HX.out⟩
 case round =>
  obtain ⟨k,cs,lab,hk,rfl,HO2,HU,hx⟩:=hrel
  have HX2:=Lib.hid hx
  clear hx
  by_cases hlt : (k : Int) < (n : Int)
  rotate_left
  ·have e : Hid (k = n):=by show k = n;omega
   go_wp2
   go_ret
   refine ⟨_,_,rfl,⟨HLL.out,cs,fun g => if w.heap.size < g then lab g else 0,⟨own_base HO2.out (Nat.zero_le _),fun g hg => ?_⟩,fun i hi x hxi => ?_⟩,HX2.out⟩
   ·have e : some w.heap.size = some g:=hg
    injection e with e
    subst e
    exact ⟨⟨Nat.le_refl _,(HO2.out.lt _ rfl).2⟩,if_neg (Nat.lt_irrefl _)⟩
   ·obtain ⟨row,hr,hj⟩:=HU.out i (by have h:=e.out;omega) x hxi
    exact ⟨row,Job.W_good.mono hr fun g hg => ⟨⟨by have h:=hg.1.1;omega,hg.1.2⟩,(if_pos hg.1.1).trans hg.2⟩,hj⟩
  obtain ⟨b,o,rfl⟩:=HS.out.addr (by omega)
  obtain ⟨x,row,hxk,-,hrw,hc⟩:=(HS.out.ext Job.R_good HX2.out).at_ (k:=k) (by omega)
  have hrg:=Lib.hid (SlR.range Job.R_good hrw hc)
  have hln : Hid ((Tryz.prog.info? 59).map (·.size) = some row.length):=by show _ = _;rw [Job.R_good.len hrw];exact Job.size_laws
  have HRW:=Lib.hid hrw
  have HXK:=Lib.hid hxk
  have HKW:=Lib.hid (Nat.le_trans (wtl_at Job.wt hxk) HW0.out)
  have HLT : Hid (k < n):=by show k < n;omega
  clear hrw hc hxk
  go_wp2_with (refine wpList_load_mid rfl 59 _ rfl b (o + k * 2) rfl row _ hrg.out Tryz.underlying59 rfl hln.out ?_)
  refine (toJob_any x _ _ S HRW.out HKW.out).mono ?_
  rintro e w2 ⟨cv,rfl,hW,hx2⟩
  have HWW:=Lib.hid hW
  have HO3:=Lib.hid (own_ext HO2.out hx2)
  have z0 : w.heap.size < wr.heap.size:=(HO2.out.lt _ rfl).2
  have z1 : wr.heap.size ≤ w2.heap.size:=hx2.size
  have HX3:=Lib.hid hx2
  have hcz : cv.toArray.size = 2:=Eq.trans (List.size_toArray ..) (Job.W_good.len hW)
  have hth : Hid (w2.there w.heap.size (k * 2) cv.toArray.size):=by show World.there _ _ _ _;rw [hcz];exact own_there HO3.out HLT.out
  have hsz : Hid ((Tryz.prog.info? 72).map (·.size) = some cv.toArray.size):=by show _ = _;rw [hcz];exact Job.size_info
  have hon : Hid (cv.toArray.all (·.oneCell') = true):=all_oneCell_toArray (Job.W_one hW)
  clear hx2 hW hcz
  go_wp2_with (refine wpList_store_mid rfl 72 _ _ rfl w.heap.size (k * 2) cv.toArray rfl rfl hth.out hsz.out hon.out ?_)
  go_roundw
  case rel =>
   have hl3 : cs.length = n * 2:=HO2.out.1
   have hkn:=HLT.out
   have hcl:=Job.W_good.len HWW.out
   have cc : Chg (fun g => g = w.heap.size) w2 (w2.setCells w.heap.size (k * 2) cv):=Chg.cells (S:=fun g => g = w.heap.size) rfl cv _ (Chg.refl _ _)
   have hsize : w2.heap.size ≤ (w2.setCells w.heap.size (k * 2) cv).heap.size:=cc.size
   refine ⟨k + 1,putAt cs (k * 2) cv,_,by omega,by go_num,Lib.hid (own_cells cv (k * 2) HO3.out),Lib.hid (WRows.step (b:=wr.heap.size) Job.W_good HU.out (fun g hg => hg.2) (Chg.trans (HX3.out.chg _) cc) (fun g hg q => by have h1:=hg.1;have h2 : g = w.heap.size:=q;omega) (fun g hg => ⟨hg.1,by have h:=hg.2;show g < (w2.setCells _ _ cv).heap.size;omega⟩) HXK.out (Job.W_good.mono (Job.W_good.chg HWW.out cc (fun g hg q => by have h1:=hg.1;have h2 : g = w.heap.size:=q;omega)) (fun g hg => ⟨⟨by have h1:=hg.1;omega,by have h:=hg.2;show g < (w2.setCells _ _ cv).heap.size;omega⟩,hg.1⟩)) (fun j hj => putAt_lt _ _ _ _ hj) (fun j hj => putAt_at _ _ _ _ (by omega) (by omega))),?_⟩
   exact (HX2.out.tr HX3.out).cells (Nat.le_refl _) cv _
  case measure => have h:=HLT.out;simp [intOf];omega
set_option maxRecDepth 8000 in
set_option maxHeartbeats 8000000 in
theorem eqJob_same (x : Job) (cs cs' : List Value) (w : World) (S S' : Nat → Prop) (h : Job.R w S cs x) (u : Job.R w S' cs' x) :
  Calls Tryz.prog 40 #[.agg cs.toArray,.agg cs'.toArray] w fun e w' => e = .returned (.bool true) ∧ Ext w w':=by
 obtain ⟨A0,n0,c0,A1,n1,c1,rfl,⟨kh0,mh0,h0⟩,⟨kh1,mh1,h1⟩⟩:=h
 obtain ⟨B0,p0,d0,B1,p1,d1,rfl,⟨ku0,mu0,u0⟩,⟨ku1,mu1,u1⟩⟩:=u
 obtain rfl : n0 = p0:=by have a:=h0.len;have b:=u0.len;omega
 obtain rfl : n1 = p1:=by have a:=h1.flen Row.cells_length (by omega);have b:=u1.flen Row.cells_length (by omega);omega
 have H0:=Lib.hid h0
 have U0:=Lib.hid u0
 have H1:=Lib.hid h1
 have U1:=Lib.hid u1
 clear h0 u0 h1 u1
 show Calls Tryz.prog _ #[.agg #[.slice A0 n0 c0,.slice A1 n1 c1],.agg #[.slice B0 n0 d0,.slice B1 n1 d1]] w _
 go_enter Tryz.func40,Tryz.ntmps40
 go_wp2_with fail
 refine (eqIntS_same _ _ _ _ _ _ _ S S' (H0.out.ext (((Ext.refl' w).al _).al _)) (U0.out.ext (((Ext.refl' w).al _).al _)) mh0).mono ?_
 rintro e w1 ⟨rfl,x1⟩
 have z1 : w.heap.size + 2 ≤ w1.heap.size:=by have h:=x1.size;(try simp at h);omega
 have ba1 : Hid (Bx w1 (w.heap.size) 72 #[.slice A0 n0 c0,.slice A1 n1 c1]):=Bx.ext ((Bx.new' _ _ _ rfl).al _) x1
 have bb1 : Hid (Bx w1 (w.heap.size + 1) 72 #[.slice B0 n0 d0,.slice B1 n1 d1]):=Bx.ext (Bx.new' _ _ _ (by simp)) x1
 have X1 : Ext w w1:=Ext.tr (((Ext.refl' w).al _).al _) x1
 clear x1
 have ca1_1 : w1.cell? ⟨w.heap.size,1,none⟩ = some (.slice A1 n1 c1):=ba1.out.cell 1
 have cb1_1 : w1.cell? ⟨w.heap.size + 1,1,none⟩ = some (.slice B1 n1 d1):=bb1.out.cell 1
 go_wp2_with fail
 refine (eqRowS_same _ _ _ _ _ _ _ S S' (H1.out.ext (X1)) (U1.out.ext (X1)) mh1).mono ?_
 rintro e w2 ⟨rfl,x2⟩
 have z2 : w.heap.size + 2 ≤ w2.heap.size:=by have h:=x2.size;(try simp at h);omega
 have ba2 : Hid (Bx w2 (w.heap.size) 72 #[.slice A0 n0 c0,.slice A1 n1 c1]):=Bx.ext (ba1.out) x2
 have bb2 : Hid (Bx w2 (w.heap.size + 1) 72 #[.slice B0 n0 d0,.slice B1 n1 d1]):=Bx.ext (bb1.out) x2
 have X2 : Ext w w2:=Ext.tr (X1) x2
 clear x2
 go_wp2
 go_ret
 exact ⟨rfl,X2⟩
set_option maxRecDepth 8000 in
set_option maxHeartbeats 8000000 in
theorem eqJobS_same (A B : Option Addr) (n c d : Nat) (l : List Job) (w : World) (S S' : Nat → Prop) (ha : SlR Job.R 2 w S A n l) (hb : SlR Job.R 2 w S' B n l) (hm : n ≤ 9223372036854775807) :
  Calls Tryz.prog 12 #[.slice A n c,.slice B n d] w fun e w' => e = .returned (.bool true) ∧ Ext w w':=by
 have HA:=Lib.hid ha
 have HB:=Lib.hid hb
 clear ha hb
 go_enter Tryz.func12,Tryz.ntmps12
 go_wp2
 go_loopw [5] (fun i wr => ∃ (k : Nat),k ≤ n ∧ i = .int .i64 k ∧ Ext w wr) (fun i _ => n - (intOf i).toNat)
 case atStart => exact ⟨0,Nat.zero_le _,rfl,Ext.refl' _⟩
 case round =>
  obtain ⟨k,hk,rfl,hx⟩:=hrel
  have HX:=Lib.hid hx
  clear hx
  by_cases hlt : (k : Int) < (n : Int)
  rotate_left
  ·go_wp2
   go_ret
   exact ⟨rfl,HX.out⟩
  obtain ⟨b,o,rfl⟩:=HA.out.addr (by omega)
  obtain ⟨b2,o2,rfl⟩:=HB.out.addr (by omega)
  obtain ⟨x,row,hxk,-,hrw,hc⟩:=(HA.out.ext Job.R_good HX.out).at_ (k:=k) (by omega)
  obtain ⟨y,row2,hyk,-,hrw2,hc2⟩:=(HB.out.ext Job.R_good HX.out).at_ (k:=k) (by omega)
  rw [hxk] at hyk
  injection hyk with hyk
  subst hyk
  have rx:=Lib.hid (SlR.range Job.R_good hrw hc)
  have ry:=Lib.hid (SlR.range Job.R_good hrw2 hc2)
  have RX:=Lib.hid hrw
  have RY:=Lib.hid hrw2
  have l1 : Hid ((Tryz.prog.info? 72).map (·.size) = some row.length):=by show _ = _;rw [Job.R_good.len hrw];exact Job.size_info
  have l2 : Hid ((Tryz.prog.info? 72).map (·.size) = some row2.length):=by show _ = _;rw [Job.R_good.len hrw2];exact Job.size_info
  have KX : Hid (∀ wq,Ext wr wq → wq.rangeAt b (o + k * 2) row):=fun wq q j v hv => q.co (rx.out j v hv)
  have KY : Hid (∀ wq,Ext wr wq → wq.rangeAt b2 (o2 + k * 2) row2):=fun wq q j v hv => q.co (ry.out j v hv)
  have hk0 : (0 : Int) ≤ (k : Int):=by omega
  clear hrw hrw2 hc hc2 hxk
  go_wp2
  refine region_class (fun w' => Ext wr w') (by kernel_rfl) (by kernel_rfl) ((Ext.refl' _).dr) ?_
  repeat (first|go_big_quiet_skip|(go_big_quiet_want;first|(refine quiet_load 72 _ rfl b (o + k * 2) rfl row _ KX.out Tryz.underlying72 rfl l1.out ?_;(try simp only [Act.put,List.setIfInBounds_toArray,List.set_cons_zero,List.set_cons_succ]);go_big_quiet_on)|(refine quiet_load 72 _ rfl b2 (o2 + k * 2) rfl row2 _ KY.out Tryz.underlying72 rfl l2.out ?_;(try simp only [Act.put,List.setIfInBounds_toArray,List.set_cons_zero,List.set_cons_succ]);go_big_quiet_on)|(unfold Oper.quiet;apply Exists.intro;refine ⟨fun wq hq => ?_,?_⟩;(go_simp;first|done|rfl|(go_at_call 40;exact (eqJob_same x row row2 _ S S' (Job.R_good.ext RX.out hq) (Job.R_good.ext RY.out hq)).mono fun e w2 h2 => ⟨h2.1,hq.tr h2.2⟩));(try simp only [Act.put,List.setIfInBounds_toArray,List.set_cons_zero,List.set_cons_succ]);go_big_quiet_on)))
  refine wpQuiet_nil ?_
  intro wq hq
  have XE:=Lib.hid hq
  clear hq
  go_wp2
  go_roundw
  case rel => exact ⟨k + 1,by omega,by go_num,HX.out.tr XE.out⟩
  case measure => simp [intOf];omega

end Go.Proofs.YtpmfhfpjiebcjaaGreat
