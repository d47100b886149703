/- Words for memory: what may have changed between two worlds; a slice that shows a list; rows of the call's own. No condition. How the arguments read: slices of flat elements. No condition. Data with depth: structs with slices inside, slices of such structs: how they read, and how they are owned. No condition. Whole variables, read and written at one go. No condition. What a call owns: rows and boxes, all of them new since a world, no two in one block. No condition. The walk over what a call owns: reads, new variables. No condition. No condition but lengths. -/
import Derived.Test.YtoegjiigaoanbaaGreatRows
import Derived.WalkKit
import Derived.Lib.Hide
import Derived.Deep.LoopGhost
import Derived.Deep.Cut
import Derived.Deep.Light
import Derived.Deep.Draws
import Derived.Deep.QuietTactic
import Derived.BigQuiet
import Derived.Maps.AppendAt
import Derived.ProofKit
import Derived.OpenShut
import Derived.ShutString
import Derived.ChangeOld
import Derived.Deep.Slices
import Derived.Deep.Fields
import Derived.Deep.MidRow
import Derived.Laws.Tables
import Derived.Deep.Quiet
import Derived.StillTail
import Derived.Deep.RegionHeld
import Derived.OwnWalk
import Derived.Deep.RegionLaw
namespace Go.Proofs.YtoegjiigaoanbaaGreat
open Go.RowKit
set_option linter.unnecessarySimpa false
set_option maxHeartbeats 400000000
open Go.Lib (hid)

structure Chg (S : Nat → Prop) (w w' : World) : Prop where
 os : w'.os = w.os
 tape : w'.tape = w.tape
 output : w'.output = w.output
 size : w.heap.size ≤ w'.heap.size
 block : ∀ k,k < w.heap.size → ¬ S k → w'.heap[k]? = w.heap[k]?

abbrev Ext (w w' : World) : Prop:=Below w.heap.size w w'

theorem Ext.refl' (w : World) : Ext w w:=Below.refl _ _
theorem Ext.of_eq {a b : World} (h : a = b) : Ext a b:=by subst h;exact Below.refl _ _
theorem Ext.tr {a b c : World} (h : Ext a b) (k : Ext b c) : Ext a c:=h.trans (k.mono h.size)
theorem Ext.al {a b : World} (h : Ext a b) (o : Obj) : Ext a (b.alloc o):=h.alloc h.size o
theorem Ext.dr {a b : World} (h : Ext a b) : Ext a b.drew:=h.drew
theorem Ext.drN {a b : World} (h : Ext a b) (n : Nat) : Ext a (b.drewN n):=⟨h.os,h.tape,h.output,h.size,h.block⟩
theorem Ext.sc {a b : World} (h : Ext a b) {p : Addr} (hp : a.heap.size ≤ p.block) (u : Value) : Ext a (b.setCell p u):=h.setCell hp u
theorem Ext.chg {a b : World} (h : Ext a b) (S : Nat → Prop) : Chg S a b:=⟨h.os,h.tape,h.output,h.size,fun k hk _ => h.block k hk⟩
theorem Chg.refl (S : Nat → Prop) (w : World) : Chg S w w:=⟨rfl,rfl,rfl,Nat.le_refl _,fun _ _ _ => rfl⟩
theorem Chg.trans {S : Nat → Prop} {a b c : World} (h : Chg S a b) (k : Chg S b c) : Chg S a c :=
 ⟨k.os.trans h.os,k.tape.trans h.tape,k.output.trans h.output,Nat.le_trans h.size k.size,fun i hi hn => (k.block i (Nat.lt_of_lt_of_le hi h.size) hn).trans (h.block i hi hn)⟩
theorem Chg.mono {S T : Nat → Prop} {a b : World} (h : Chg S a b) (hs : ∀ k,S k → T k) : Chg T a b :=
 ⟨h.os,h.tape,h.output,h.size,fun i hi hn => h.block i hi (fun hk => hn (hs i hk))⟩
theorem Chg.dr {S : Nat → Prop} {a b : World} (h : Chg S a b) : Chg S a b.drew:=⟨h.os,h.tape,h.output,h.size,h.block⟩
theorem Chg.drN {S : Nat → Prop} {a b : World} (h : Chg S a b) (n : Nat) : Chg S a (b.drewN n):=⟨h.os,h.tape,h.output,h.size,h.block⟩
theorem Chg.al {S : Nat → Prop} {a b : World} (h : Chg S a b) (o : Obj) : Chg S a (b.alloc o) :=
 h.trans ((Below.refl b.heap.size b).alloc (Nat.le_refl _) o |> fun (x : Ext b _) => x.chg S)
theorem Chg.grown {S : Nat → Prop} {a b c : World} {row : Option Nat} (h : Chg S a b) (g : b.grownBy c row) (hr : ∀ k,row = some k → S k ∨ a.heap.size ≤ k) : Chg S a c :=
 ⟨g.os.trans h.os,g.tape.trans h.tape,g.output.trans h.output,Nat.le_trans h.size g.size,fun i hi hn =>
  (g.block i (Nat.lt_of_lt_of_le hi h.size) (fun e => by rcases hr i e.symm with q|q;exact hn q;omega)).trans (h.block i hi hn)⟩
theorem Chg.ext {S : Nat → Prop} {a b c : World} (h : Chg S b c) (k : Ext a b) (hs : ∀ i,S i → a.heap.size ≤ i) : Ext a c :=
 ⟨h.os.trans k.os,h.tape.trans k.tape,h.output.trans k.output,Nat.le_trans k.size h.size,fun i hi => (h.block i (Nat.lt_of_lt_of_le hi k.size) (fun q => by have:=hs i q;omega)).trans (k.block i hi)⟩
theorem Ext.grown' {a b c : World} {row : Option Nat} (h : Ext a b) (g : b.grownBy c row) (hr : ∀ k,row = some k → a.heap.size ≤ k) : Ext a c:=h.grown g h.size hr

def Sl (w : World) (S : Nat → Prop) (size : Nat) (A : Option Addr) (n : Nat) (xs : List Value) : Prop :=
 xs.length = n * size ∧ (0 < n → ∃ b o,A = some ⟨b,o,none⟩ ∧ S b ∧ b < w.heap.size ∧ ∀ j,j < n * size → w.cell? ⟨b,o + j,none⟩ = xs[j]?)

section
variable {w w' : World} {S T : Nat → Prop} {size n : Nat} {A : Option Addr} {xs : List Value}
theorem Sl.chg (h : Sl w S size A n xs) (k : Chg T w w') (hd : ∀ i,S i → ¬ T i) : Sl w' S size A n xs :=
 ⟨h.1,fun hn => by
  obtain ⟨b,o,e,hs,hb,hc⟩:=h.2 hn
  exact ⟨b,o,e,hs,Nat.lt_of_lt_of_le hb k.size,fun j hj => (World.cell?_of_block (w:=w) (a:=⟨b,o + j,none⟩) (k.block b hb (hd b hs))).trans (hc j hj)⟩⟩
theorem Sl.ext (h : Sl w S size A n xs) (k : Ext w w') : Sl w' S size A n xs:=h.chg (k.chg fun _ => False) fun _ _ q => q
theorem Sl.mono (h : Sl w S size A n xs) (hs : ∀ i,S i → T i) : Sl w T size A n xs :=
 ⟨h.1,fun hn => by
  obtain ⟨b,o,e,hs',hb,hc⟩:=h.2 hn
  exact ⟨b,o,e,hs _ hs',hb,hc⟩⟩
theorem Sl.of_own {base : Nat} {e : TypeId} {c : Nat} (h : w.ownsRow base e size (.slice A n c) n xs) : Sl w (fun k => base ≤ k ∧ k < w.heap.size) size A n xs:=by
 refine ⟨h.1,fun hn => ?_⟩
 rcases h.2 with ⟨hv,h0⟩|⟨g,cap,cur,hv,hb,hg,hnc,hcm,hcs,htake⟩
 ·omega
 ·injection hv with h1 h2 h3
  subst h1
  have hlt : g < w.heap.size:=(Array.getElem?_eq_some_iff.1 hg).1
  refine ⟨g,0,rfl,⟨hb,hlt⟩,hlt,fun j hj => ?_⟩
  rw [Nat.zero_add]
  rw [cell_of_row w g j cur e (0,0) hg,← htake,List.getElem?_take,if_pos hj]
  simp
end

def ints (zs : List Int) : List Value:=zs.map (Value.int .i64)
theorem ints_length (zs : List Int) : (ints zs).length = zs.length:=by simp [ints]
theorem ints_get (zs : List Int) (k : Nat) : (ints zs)[k]? = zs[k]?.map (Value.int .i64):=by simp [ints]

theorem Sl.int_at {w : World} {S : Nat → Prop} {A : Option Addr} {n k : Nat} {zs : List Int} (h : Sl w S 1 A n (ints zs)) (hk : k < n) :
  ∃ b o x,A = some ⟨b,o,none⟩ ∧ b < w.heap.size ∧ zs[k]? = some x ∧ w.cell? ⟨b,o + k,none⟩ = some (.int .i64 x):=by
 obtain ⟨b,o,e,_,hb,hc⟩:=h.2 (by omega)
 have hl : k < zs.length:=by have:=h.1;simp [ints] at this;omega
 refine ⟨b,o,zs[k],e,hb,List.getElem?_eq_getElem hl,?_⟩
 rw [hc k (by omega)]
 simp [ints,hl]

theorem Sl.len {w : World} {S : Nat → Prop} {A : Option Addr} {n : Nat} {zs : List Int} (h : Sl w S 1 A n (ints zs)) : zs.length = n:=by
 have:=h.1;simp [ints] at this;exact this

theorem made_row {P : Program} (w : World) (t e : TypeId) (z : Value) (size bytes : Nat) (ht : P.underlying t = some (.slice e)) (hi : (P.info? e).map (fun i => (i.zero,i.size,i.bytes)) = some (some z,size,bytes))
  (n : Nat) (hb : bytes * n ≤ 281474976710656) (h63 : n ≤ maxLen) :
  ∃ w' cs,(Instr.makeSlice t (.int .i64 (n : Int)) (.int .i64 (n : Int))).run P w = .ok (.slice (some ⟨w.heap.size,0,none⟩) n n) w' ∧
   w'.ownsRow w.heap.size e size (.slice (some ⟨w.heap.size,0,none⟩) n n) n cs ∧ cs = (madeCells z.cells (n * size)).toList ∧ Ext w w' ∧ w.heap.size < w'.heap.size:=by
 obtain ⟨i0,hi,hz0,hz1,hz2⟩:=info_parts hi
 obtain ⟨w1,hmk,hown,hg⟩:=run_make_full (P:=P) w w.heap.size t e i0 z size ht hi hz0 hz1 .i64 .i64 n (by rw [hz2];exact hb) h63 (Nat.le_refl _)
 exact ⟨w1,_,hmk,hown,rfl,(Ext.refl' w).grown' hg (by simp),(hown.lt w.heap.size rfl).2⟩

theorem own_at {w : World} {base : Nat} {e : TypeId} {A : Option Addr} {n c k : Nat} {cs : List Value} (h : w.ownsRow base e 1 (.slice A n c) n cs) (hk : k < n) :
  ∃ g v,A = some ⟨g,0,none⟩ ∧ base ≤ g ∧ w.cell? ⟨g,k,none⟩ = some v ∧ w.frozen? ⟨g,k,none⟩ = false:=by
 obtain ⟨g,rfl⟩ : ∃ g,A = some ⟨g,0,none⟩:=by
  rcases h.2 with ⟨hv,h0⟩|⟨g,cap,cur,hv,_⟩
  ·omega
  ·injection hv with h1;exact ⟨g,h1⟩
 have hcl : cs.length = n:=by have:=h.1;omega
 refine ⟨g,cs[k],rfl,(h.lt g rfl).1,?_,h.frozenAt k⟩
 rw [h.cellAt k (by omega),List.getElem?_eq_getElem (by omega)]
theorem own_len {w : World} {base : Nat} {e : TypeId} {v : Value} {n : Nat} {cs : List Value} (h : w.ownsRow base e 1 v n cs) : cs.length = n:=by have:=h.1;omega
theorem ownSl {w : World} {base : Nat} {e : TypeId} {size n c : Nat} {A : Option Addr} {xs : List Value} (h : w.ownsRow base e size (.slice A n c) n xs) : Sl w (fun _ => True) size A n xs :=
 (Sl.of_own h).mono fun _ _ => trivial
theorem own_cap {w : World} {base : Nat} {e : TypeId} {size n c : Nat} {A : Option Addr} {xs : List Value} (h : w.ownsRow base e size (.slice A n c) n xs) : n ≤ c:=by
 rcases h.2 with ⟨hv,h0⟩|⟨g,cap,cur,hv,_,_,hnc,_⟩
 ·omega
 ·injection hv with _ _ h3;omega
theorem own_base {w : World} {b b' : Nat} {e : TypeId} {size n : Nat} {v : Value} {xs : List Value} (h : w.ownsRow b e size v n xs) (hb : b' ≤ b) : w.ownsRow b' e size v n xs:=by
 refine ⟨h.1,?_⟩
 rcases h.2 with h0|⟨g,cap,cur,hv,hg,rest⟩
 ·exact .inl h0
 ·exact .inr ⟨g,cap,cur,hv,by omega,rest⟩
theorem own_chg {w w' : World} {S : Nat → Prop} {b : Nat} {e : TypeId} {size n : Nat} {v : Value} {xs : List Value} (h : w.ownsRow b e size v n xs) (k : Chg S w w') (hd : ∀ g,v.ownBlock = some g → ¬ S g) : w'.ownsRow b e size v n xs:=by
 refine ⟨h.1,?_⟩
 rcases h.2 with h0|⟨g,cap,cur,rfl,hg,hh,rest⟩
 ·exact .inl h0
 ·exact .inr ⟨g,cap,cur,rfl,hg,by rw [k.block g (Array.getElem?_eq_some_iff.1 hh).1 (hd g rfl)];exact hh,rest⟩
theorem own_ext {w w' : World} {b : Nat} {e : TypeId} {size n : Nat} {v : Value} {xs : List Value} (h : w.ownsRow b e size v n xs) (k : Ext w w') : w'.ownsRow b e size v n xs :=
 own_chg h (k.chg fun _ => False) fun _ _ q => q

theorem wp_push {P : Program} {ops : Array Oper} {rest : List Oper} {o : Oper} {a : Act} {Q : Exit → Act → World → Prop} {w : World} (hgd : o.guard = none) (s x : Operand) (t : TypeId)
  (ho : o.op = .call { callee:=.builtin .append,args:=#[s,x],argTypes:=#[t,t] })
  (base : Nat) (e : TypeId) (z : Value) (size bytes : Nat) (ht : P.underlying t = some (.slice e)) (hi : (P.info? e).map (fun i => (i.zero,i.size,i.bytes)) = some (some z,size,bytes)) (hzs : z.cells.size = size) (hsz : 0 < size)
  (A : Option Addr) (n c : Nat) (xs : List Value) (hs : a.eval s = .slice A n c) (hown : w.ownsRow base e size (.slice A n c) n xs)
  (news : List Value) (gn : Nat) (hgn : gn = w.heap.size) (hx : a.eval x = .slice (some ⟨gn,0,none⟩) 1 1) (hl : news.length = size) (h1 : ∀ u ∈ news,u.oneCell' = true)
  (hbytes : (n + 1) * bytes ≤ 140737488355328) (h63 : n + 1 ≤ maxLen) (hbase : base ≤ w.heap.size)
  (h : ∀ A' c' w',w'.ownsRow base e size (.slice A' (n + 1) c') (n + 1) (xs ++ news) → Chg (fun k => (Value.slice A n c).ownBlock = some k) w w' → ((Value.slice A' (n + 1) c').ownBlock = (Value.slice A n c).ownBlock ∨ ∃ g,(Value.slice A' (n + 1) c').ownBlock = some g ∧ w.heap.size ≤ g) →
   wpList P ops Q rest (a.put o.dst (.slice A' (n + 1) c')) w') :
  wpList P ops Q (o::rest) a (w.alloc (.cells news.toArray e)):=by
 subst hgn
 obtain ⟨i0,hi,hz0,hz1,hz2⟩:=info_parts hi
 refine wpList_append_own_at (w:=w.alloc (.cells news.toArray e)) hgd s x t ho base e i0 z size bytes ht hi hz0 hz1 hz2 hzs hsz (.slice A n c) n xs hs (hown.alloc _) ⟨w.heap.size,0,none⟩ 1 1 news hx (by omega) ?_ h1 h63 hbytes (by simp;omega) ?_
 ·intro j u hu
  have hadd : (⟨w.heap.size,0,none⟩ : Addr).add j = ⟨w.heap.size,j,none⟩:=by unfold Addr.add;split <;> simp_all
  rw [hadd,cell_of_row _ w.heap.size j news.toArray e (0,0) (heap_alloc_new w _)]
  simpa using hu
 ·intro v' w' h2 h3 h4 h5
  obtain ⟨A',c',rfl⟩ : ∃ A' c',v' = .slice A' (n + 1) c':=by
   rcases h2.2 with ⟨_,h0⟩|⟨g,cap,cur,hv,_⟩
   ·omega
   ·exact ⟨_,_,hv⟩
  refine h A' c' w' h2 ?_ ?_
  ·exact ((Chg.refl _ w).al _).grown h3 (fun k hk => .inl hk)
  ·rcases h5 with h5|h5
   ·exact .inl h5
   ·exact .inr ⟨_,h5,by simp⟩

theorem World.heap_alloc_size (w : World) (o : Obj) : (w.alloc o).heap.size = w.heap.size + 1:=by simp
theorem addr_inj {a b : Nat} (h : some (⟨a,0,none⟩ : Addr) = some ⟨b,0,none⟩) : a = b:=congrArg (fun x : Option Addr => (x.getD ⟨0,0,none⟩).block) h

/-! ### A block that is known whole -/
def Bx (w : World) (g : Nat) (t : TypeId) (cs : Array Value) : Prop:=w.heap[g]? = some (.cells cs t (0,0))
section
variable {w w' : World} {g : Nat} {t : TypeId} {cs cs' : Array Value}
theorem Bx.lt (h : Bx w g t cs) : g < w.heap.size:=(Array.getElem?_eq_some_iff.1 h).1
theorem Bx.cell (h : Bx w g t cs) (i : Nat) : w.cell? ⟨g,i,none⟩ = cs[i]?:=cell_of_row w g i cs t (0,0) h
theorem Bx.frozen (h : Bx w g t cs) (i : Nat) : w.frozen? ⟨g,i,none⟩ = false:=frozen_of_row w g i cs t h
theorem Bx.new' (w : World) (t : TypeId) (cs : Array Value) (hg : g = w.heap.size) : Bx (w.alloc (.cells cs t)) g t cs:=by subst hg;exact heap_alloc_new w _
theorem Bx.al (h : Bx w g t cs) (o : Obj) : Bx (w.alloc o) g t cs:=(Below.heap_alloc w o g h.lt).trans h
theorem Bx.dr (h : Bx w g t cs) : Bx w.drew g t cs:=h
theorem Bx.drN (h : Bx w g t cs) (n : Nat) : Bx (w.drewN n) g t cs:=h
theorem Bx.far (h : Bx w g t cs) {p : Addr} (hp : g ≠ p.block) (u : Value) : Bx (w.setCell p u) g t cs:=(Below.heap_setCell w p u g hp).trans h
theorem Bx.set_ (h : Bx w g t cs) (i : Nat) (u : Value) : Bx (w.setCell ⟨g,i,none⟩ u) g t (cs.setIfInBounds i u):=heap_setCell_same w g i cs t u h
theorem Bx.cast (h : Bx w g t cs) (e : cs = cs') : Bx w g t cs':=e ▸ h
theorem Bx.chg {S : Nat → Prop} (h : Bx w g t cs) (k : Chg S w w') (hg : ¬ S g) : Bx w' g t cs:=(k.block g h.lt hg).trans h
theorem Bx.ext (h : Bx w g t cs) (k : Ext w w') : Bx w' g t cs:=(k.block g h.lt).trans h
end
theorem Chg.sc {S : Nat → Prop} {a b : World} (h : Chg S a b) {p : Addr} (hp : S p.block) (u : Value) : Chg S a (b.setCell p u) :=
 h.trans ⟨rfl,rfl,rfl,by simp [World.setCell],fun k _ hn => Below.heap_setCell b p u k (fun e => hn (by rw [e];exact hp))⟩
def Apart (v v' : Value) : Prop:=∀ g,v.ownBlock = some g → v'.ownBlock = some g → False
theorem Apart.symm {v v' : Value} (h : Apart v v') : Apart v' v:=fun g a b => h g b a
noncomputable def dec (p : Prop) : Bool:=@decide p (Classical.propDecidable p)
theorem dec_yes {p : Prop} (h : p) : dec p = true:=by simp [dec,h]
theorem dec_no {p : Prop} (h : ¬ p) : dec p = false:=by simp [dec,h]
theorem dec_true {p : Prop} (h : dec p = true) : p:=by simpa [dec] using h
theorem dec_false {p : Prop} (h : dec p = false) : ¬ p:=by simpa [dec] using h
def AllTo {α : Type} (p : Nat → α → Prop) (l : List α) (k : Nat) : Prop:=∀ i,i < k → ∀ a,l[i]? = some a → p i a
theorem AllTo.zero {α : Type} (p : Nat → α → Prop) (l : List α) : AllTo p l 0:=fun _ h => absurd h (Nat.not_lt_zero _)
theorem AllTo.succ {α : Type} {p : Nat → α → Prop} {l : List α} {k : Nat} {a : α} (h : AllTo p l k) (ha : l[k]? = some a) (hp : p k a) : AllTo p l (k + 1):=by
 intro i hi b hb
 by_cases e : i = k
 ·subst e;rw [ha] at hb;injection hb with hb;subst hb;exact hp
 ·exact h i (by omega) b hb
theorem AllTo.not {α : Type} {p : Nat → α → Prop} {l : List α} {k n : Nat} {a : α} (ha : l[k]? = some a) (hk : k < n) (hp : ¬ p k a) : ¬ AllTo p l n:=fun h => hp (h k hk a ha)

theorem Ext.co {w w' : World} (h : Ext w w') {a : Addr} {v : Value} (hc : w.cell? a = some v) : w'.cell? a = some v:=by
 rw [h.cell (World.block_lt_of_cell? w a hc)];exact hc
theorem zN {P : Program} {ops : Array Oper} {rest : List Oper} {d : Option Tmp} {o : Op} {t : TypeId} {p : String} {f : Array Edge} {a : Act} {Q : Exit → Act → World → Prop} {w : World} (h : wpList P ops Q (⟨d,o,t,p,f,none⟩::rest) a w) : wpList P ops Q (⟨d,o,t,p,f,none⟩::rest) a w:=h
theorem Ext.sc2 {a b : World} (h : Ext a b) {p : Addr} (u : Value) (hp : a.heap.size ≤ p.block:=by first|(simp;done)|(simp;omega)) : Ext a (b.setCell p u):=h.sc hp u
theorem Chg.sc2 {S : Nat → Prop} {a b : World} (h : Chg S a b) {p : Addr} (u : Value) (hp : S p.block:=by first|(simp;done)|(simp;omega)) : Chg S a (b.setCell p u):=h.sc hp u
theorem Bx.far2 {w : World} {g : Nat} {t : TypeId} {cs : Array Value} (h : Bx w g t cs) {p : Addr} (u : Value) (hp : g ≠ p.block:=by first|(simp;done)|(simp;omega)) : Bx (w.setCell p u) g t cs:=h.far hp u
end Go.Proofs.YtoegjiigaoanbaaGreat
namespace Go.Proofs.YtoegjiigaoanbaaGreat
open Go.ChangeShapes Go.WideShapes Go.ChangeAt Go.RowKit Go.Deep
set_option linter.unnecessarySimpa false
set_option maxHeartbeats 400000000
open Go.Lib (hid)

section
variable {H : Type} {enc : TypeId × Value → H} {P : Program} {w : World} {base : Nat} {spare : Nat → Bool} {held : Bool}

def Opens {α : Type} (P : Program) (t : TypeId) (R : World → List Value → α → Prop) : Prop :=
 ∀ (H : Type) (enc : TypeId × Value → H) (w : World) (base : Nat) (spare : Nat → Bool) (held : Bool) (fuel : Nat) (cs : List Value) (x : DataW H × List MemPlace),
  DataW.trod enc P w base spare held fuel t cs = some x → ∃ a,R w cs a

theorem opens_int {t : TypeId} {k : IntKind} (ht : P.underlying t = some (.int k)) : Opens P t (fun _ cs (z : Int) => cs = [.int k z] ∧ (Lit.int k z).wf = true):=by
 intro H enc w base spare held fuel cs x h
 obtain ⟨n,h1,_,h3⟩:=DataW.trod_int ht h
 exact ⟨n,h1,h3⟩
theorem flat_length {α : Type} {size : Nat} {cells : α → List Value} (hs : ∀ a,(cells a).length = size) (l : List α) : (l.flatMap cells).length = l.length * size:=by
 induction l with
 | nil => simp
 | cons a l ih => simp [List.flatMap_cons,ih,hs,Nat.add_mul,Nat.add_comm]
theorem flat_get {α : Type} {size : Nat} {cells : α → List Value} (hs : ∀ a,(cells a).length = size) : ∀ (l : List α) (i j : Nat) (a : α),l[i]? = some a → j < size → (l.flatMap cells)[i * size + j]? = (cells a)[j]?:=by
 intro l
 induction l with
 | nil => intro i j a h;simp at h
 | cons b l ih =>
  intro i j a h hj
  cases i with
  | zero =>
   simp at h
   subst h
   rw [List.flatMap_cons,Nat.zero_mul,Nat.zero_add,List.getElem?_append_left (by rw [hs];exact hj)]
  | succ i =>
   simp at h
   rw [List.flatMap_cons,List.getElem?_append_right (by rw [hs,Nat.succ_mul];omega),hs]
   rw [show (i + 1) * size + j - size = i * size + j by rw [Nat.succ_mul];omega]
   exact ih i j a h hj

theorem opens_flat {α : Type} [Inhabited α] {t e : TypeId} {size : Nat} {cells : α → List Value} {good : α → Prop} (ht : P.underlying t = some (.slice e)) (hc : P.cellsOf e = size)
  (hpos : 0 < size) (hlen : ∀ a,(cells a).length = size) (he : Opens P e (fun _ cs a => cs = cells a ∧ good a)) :
  Opens P t (fun w cs (l : List α) => ∃ A n c,cs = [.slice A n c] ∧ n ≤ c ∧ c ≤ maxLen ∧ l.length = n ∧ (∀ a ∈ l,good a) ∧ Sl w (fun _ => True) size A n (l.flatMap cells)):=by
 intro H enc w base spare held fuel cs x h
 rcases open_slice ht h with ⟨rfl,-⟩|⟨a,len,cap,m,n,D,Pl,rfl,-,hl,hm,hmm,-,hi⟩
 ·exact ⟨[],none,0,0,rfl,Nat.le_refl _,by simp [maxLen],rfl,by simp,by simp,fun hn => absurd hn (Nat.lt_irrefl _)⟩
 have hlm : len ≤ m:=by rw [hmm];split <;> omega
 obtain ⟨f,hf⟩:=choose_lt (n:=len) (p:=fun i s => w.cells? base (a.add (i * size)) size = some (cells s) ∧ good s) (fun i hil => by
  obtain ⟨cs',hc',ht'⟩:=hi i (by omega)
  obtain ⟨s,rfl,hg⟩:=he H enc w base spare held n cs' _ ht'
  rw [hc] at hc'
  exact ⟨s,hc',hg⟩)
 refine ⟨(List.range len).map f,some a,len,cap,rfl,hl,hm,by simp,?_,?_,?_⟩
 ·intro s hs
  obtain ⟨i,hi',rfl⟩:=List.mem_map.1 hs
  exact (hf i (List.mem_range.1 hi')).2
 ·rw [flat_length hlen];simp
 ·intro hn
  have hget : ∀ i j,i < len → j < size → w.cell? (a.add (i * size + j)) = (cells (f i))[j]?:=by
   intro i j hil hj
   obtain ⟨_,hcl,hat⟩:=World.cells?_some (hf i hil).1
   have:=hat j hj
   rw [← Go.Deep.add_add]
   exact this
  have h0:=hget 0 0 hn (by omega)
  rw [show 0 * size + 0 = 0 by omega] at h0
  have hsome : (cells (f 0))[0]? = some ((cells (f 0))[0]'(by rw [hlen];omega)):=List.getElem?_eq_getElem _
  rw [hsome] at h0
  obtain ⟨b,o,sp⟩:=a
  have hsp : sp = none:=by simpa [Addr.add] using World.cell?_spot h0
  subst hsp
  have hblk : b < w.heap.size:=World.block_lt_of_cell? _ _ (by simpa [Addr.add] using h0)
  refine ⟨b,o,rfl,trivial,hblk,fun j hj => ?_⟩
  have hq : j / size < len:=(Nat.div_lt_iff_lt_mul (by omega)).2 hj
  have hr : j % size < size:=Nat.mod_lt _ (by omega)
  have h1:=hget (j / size) (j % size) hq hr
  have hd : j / size * size + j % size = j:=by rw [Nat.mul_comm];exact Nat.div_add_mod _ _
  have h2:=flat_get (cells:=cells) hlen ((List.range len).map f) (j / size) (j % size) (f (j / size)) (by simp [hq]) hr
  rw [hd] at h1 h2
  rw [h2,← h1]
  congr 1
  unfold Addr.add
  split <;> simp_all

theorem flat_ints (l : List Int) : l.flatMap (fun z => [Value.int .i64 z]) = ints l:=by
 induction l with
 | nil => rfl
 | cons a l ih => simp [List.flatMap_cons,ih,ints]
theorem opens_ints {t e : TypeId} (ht : P.underlying t = some (.slice e)) (he : P.underlying e = some (.int .i64)) (hc : P.cellsOf e = 1) :
  Opens P t (fun w cs (l : List Int) => ∃ A n c,cs = [.slice A n c] ∧ n ≤ c ∧ c ≤ maxLen ∧ l.length = n ∧ (∀ a ∈ l,(Lit.int .i64 a).wf = true) ∧ Sl w (fun _ => True) 1 A n (ints l)):=by
 intro H enc w base spare held fuel cs x h
 obtain ⟨l,A,n,c,h1,h2,h3,h4,h5,h6⟩:=opens_flat (cells:=fun z : Int => [Value.int .i64 z]) ht hc (by omega) (fun _ => rfl) (opens_int he) H enc w base spare held fuel cs x h
 exact ⟨l,A,n,c,h1,h2,h3,h4,h5,by rw [← flat_ints];exact h6⟩

theorem trod_fields {t : TypeId} {fs : Array Field} {fuel : Nat} {cs : List Value} {x : DataW H × List MemPlace} (ht : P.underlying t = some (.struct fs)) (hone : oneCellFields P fs = true) (hC : P.cellsOf t = fs.size)
  (h : DataW.trod enc P w base spare held fuel t cs = some x) :
  cs.length = fs.size ∧ ∃ n,∀ (j : Nat) (f : Field),fs[j]? = some f → ∃ v y,cs[j]? = some v ∧ DataW.trod enc P w base spare held n f.type [v] = some y:=by
 obtain ⟨ys,n,_,_,hlen,hyl,hf⟩:=DataW.trod_struct ht h
 refine ⟨hlen.trans hC,n,fun j f hj => ?_⟩
 obtain ⟨ho,hk⟩:=hone_of hone j f hj
 have hjl : j < fs.size:=(Array.getElem?_eq_some_iff.1 hj).1
 have hcl : j < cs.length:=by omega
 have h1:=hf j f hj
 rw [ho,hk,List.drop_eq_getElem_cons hcl] at h1
 have hys : ys[j]? = some (ys[j]'(by omega)):=List.getElem?_eq_getElem (by omega)
 exact ⟨_,_,List.getElem?_eq_getElem hcl,h1.trans hys⟩
end

theorem Sl.flat_at {α : Type} {cells : α → List Value} {size : Nat} (hc : ∀ a,(cells a).length = size) (hp : 0 < size) {w : World} {S : Nat → Prop} {A : Option Addr} {n k : Nat} {l : List α} (h : Sl w S size A n (l.flatMap cells)) (hk : k < n) :
  ∃ b o s,A = some ⟨b,o,none⟩ ∧ b < w.heap.size ∧ l[k]? = some s ∧ ∀ j,j < size → w.cell? ⟨b,o + k * size + j,none⟩ = (cells s)[j]?:=by
 obtain ⟨b,o,e,_,hb,hcell⟩:=h.2 (by omega)
 have hl : l.length = n:=by
  have h1:=h.1
  rw [flat_length hc] at h1
  exact Nat.eq_of_mul_eq_mul_right hp h1
 have hx : l[k]? = some (l[k]'(by omega)):=List.getElem?_eq_getElem (by omega)
 refine ⟨b,o,l[k]'(by omega),e,hb,hx,fun j hj => ?_⟩
 have hm : k * size + j < n * size:=by
  have : (k + 1) * size ≤ n * size:=Nat.mul_le_mul_right _ hk
  rw [Nat.succ_mul] at this
  omega
 rw [Nat.add_assoc,hcell _ hm,flat_get hc l k j _ hx hj]

theorem own_flat {w : World} {base : Nat} {e : TypeId} {size : Nat} {A : Option Addr} {n c k : Nat} {cs : List Value} (h : w.ownsRow base e size (.slice A n c) n cs) (hk : k < n) :
  ∃ g,A = some ⟨g,0,none⟩ ∧ base ≤ g ∧ g < w.heap.size ∧ ∀ j,j < size → ∃ v,w.cell? ⟨g,k * size + j,none⟩ = some v ∧ w.frozen? ⟨g,k * size + j,none⟩ = false:=by
 obtain ⟨g,rfl⟩ : ∃ g,A = some ⟨g,0,none⟩:=by
  rcases h.2 with ⟨hv,h0⟩|⟨g,cap,cur,hv,_⟩
  ·omega
  ·injection hv with h1;exact ⟨g,h1⟩
 refine ⟨g,rfl,(h.lt g rfl).1,(h.lt g rfl).2,fun j hj => ?_⟩
 have hm : k * size + j < n * size:=by
  have : (k + 1) * size ≤ n * size:=Nat.mul_le_mul_right _ hk
  rw [Nat.succ_mul] at this
  omega
 refine ⟨cs[k * size + j]'(by rw [h.1];exact hm),?_,h.frozenAt _⟩
 rw [h.cellAt _ hm]
 exact List.getElem?_eq_getElem _

def Upto (cs ds : List Value) (k : Nat) : Prop:=∀ j,j < k → cs[j]? = ds[j]?
theorem Upto.zero (cs ds : List Value) : Upto cs ds 0:=fun _ hj => absurd hj (Nat.not_lt_zero _)
theorem Upto.set1 {cs ds : List Value} {k : Nat} {v : Value} (h : Upto cs ds k) (hk : k < cs.length) (hv : ds[k]? = some v) : Upto (cs.set k v) ds (k + 1):=by
 intro j hj
 rw [List.getElem?_set]
 by_cases e : k = j
 ·subst e;simp [hk,hv]
 ·rw [if_neg e];exact h j (by omega)
theorem Upto.all {cs ds : List Value} {k : Nat} (h : Upto cs ds k) (h1 : cs.length = k) (h2 : ds.length = k) : cs = ds:=by
 apply List.ext_getElem?
 intro j
 by_cases hj : j < k
 ·exact h j hj
 ·rw [List.getElem?_eq_none (by omega),List.getElem?_eq_none (by omega)]

theorem Sl.addr {w : World} {S : Nat → Prop} {A : Option Addr} {size n : Nat} {xs : List Value} (h : Sl w S size A n xs) (hn : 0 < n) : ∃ b o,A = some ⟨b,o,none⟩:=by
 obtain ⟨b,o,e,_⟩:=h.2 hn
 exact ⟨b,o,e⟩
theorem Sl.flen {α : Type} {cells : α → List Value} {size : Nat} (hc : ∀ a,(cells a).length = size) (hp : 0 < size) {w : World} {S : Nat → Prop} {A : Option Addr} {n : Nat} {l : List α} (h : Sl w S size A n (l.flatMap cells)) : l.length = n:=by
 have h1:=h.1
 rw [flat_length hc] at h1
 exact Nat.eq_of_mul_eq_mul_right hp h1
theorem Sl.flat_cell {α : Type} {cells : α → List Value} {size : Nat} (hc : ∀ a,(cells a).length = size) (hp : 0 < size) {w : World} {S : Nat → Prop} {b o n k : Nat} {l : List α} (h : Sl w S size (some ⟨b,o,none⟩) n (l.flatMap cells)) (hk : k < n) :
  ∃ s,l[k]? = some s ∧ b < w.heap.size ∧ ∀ j,j < size → w.cell? ⟨b,o + k * size + j,none⟩ = (cells s)[j]?:=by
 obtain ⟨b',o',s,e,hb,hx,hcell⟩:=h.flat_at hc hp hk
 injection e with e
 injection e with e1 e2
 subst e1 e2
 exact ⟨s,hx,hb,hcell⟩
theorem Sl.int_cell {w : World} {S : Nat → Prop} {b o n k : Nat} {l : List Int} (h : Sl w S 1 (some ⟨b,o,none⟩) n (ints l)) (hk : k < n) :
  ∃ x,l[k]? = some x ∧ b < w.heap.size ∧ w.cell? ⟨b,o + k,none⟩ = some (.int .i64 x):=by
 obtain ⟨b',o',x,e,hb,hx,hcell⟩:=h.int_at hk
 injection e with e
 injection e with e1 e2
 subst e1 e2
 exact ⟨x,hx,hb,hcell⟩

end Go.Proofs.YtoegjiigaoanbaaGreat
namespace Go.Proofs.YtoegjiigaoanbaaGreat
open Go.ChangeShapes Go.WideShapes Go.ChangeAt Go.RowKit Go.Deep
set_option linter.unnecessarySimpa false
set_option maxHeartbeats 400000000
open Go.Lib (hid)

abbrev Rd (α : Type):=World → (Nat → Prop) → List Value → α → Prop

structure Good {α : Type} (R : Rd α) (size : Nat) : Prop where
 len : ∀ {w : World} {S : Nat → Prop} {cs : List Value} {a : α},R w S cs a → cs.length = size
 chg : ∀ {w w' : World} {S T : Nat → Prop} {cs : List Value} {a : α},R w S cs a → Chg T w w' → (∀ i,S i → ¬ T i) → R w' S cs a
 mono : ∀ {w : World} {S T : Nat → Prop} {cs : List Value} {a : α},R w S cs a → (∀ i,S i → T i) → R w T cs a

section
variable {α : Type} {R W : Rd α} {size n c : Nat} {w w' : World} {S T U : Nat → Prop} {A : Option Addr} {l : List α} {e : TypeId} {cs xs : List Value}
theorem Good.ext {a : α} (G : Good R size) (h : R w S cs a) (k : Ext w w') : R w' S cs a:=G.chg h (k.chg fun _ => False) fun _ _ q => q

def SlR (R : Rd α) (size : Nat) (w : World) (S : Nat → Prop) (A : Option Addr) (n : Nat) (l : List α) : Prop :=
 l.length = n ∧ (0 < n → ∃ b o,A = some ⟨b,o,none⟩ ∧ S b ∧ b < w.heap.size ∧ ∀ k x,l[k]? = some x → ∃ row,R w S row x ∧ ∀ j,j < size → w.cell? ⟨b,o + k * size + j,none⟩ = row[j]?)
theorem SlR.chg (G : Good R size) (h : SlR R size w S A n l) (k : Chg T w w') (hd : ∀ i,S i → ¬ T i) : SlR R size w' S A n l :=
 ⟨h.1,fun hn => by
  obtain ⟨b,o,e,hs,hb,hc⟩:=h.2 hn
  refine ⟨b,o,e,hs,Nat.lt_of_lt_of_le hb k.size,fun i x hx => ?_⟩
  obtain ⟨row,hr,hj⟩:=hc i x hx
  exact ⟨row,G.chg hr k hd,fun j hjs => (World.cell?_of_block (w:=w) (a:=⟨b,o + i * size + j,none⟩) (k.block b hb (hd b hs))).trans (hj j hjs)⟩⟩
theorem SlR.ext (G : Good R size) (h : SlR R size w S A n l) (k : Ext w w') : SlR R size w' S A n l:=h.chg G (k.chg fun _ => False) fun _ _ q => q
theorem SlR.mono (G : Good R size) (h : SlR R size w S A n l) (hs : ∀ i,S i → T i) : SlR R size w T A n l :=
 ⟨h.1,fun hn => by
  obtain ⟨b,o,e,hs',hb,hc⟩:=h.2 hn
  refine ⟨b,o,e,hs _ hs',hb,fun i x hx => ?_⟩
  obtain ⟨row,hr,hj⟩:=hc i x hx
  exact ⟨row,G.mono hr hs,hj⟩⟩
theorem SlR.addr (h : SlR R size w S A n l) (hn : 0 < n) : ∃ b o,A = some ⟨b,o,none⟩:=by
 obtain ⟨b,o,e,_⟩:=h.2 hn
 exact ⟨b,o,e⟩
theorem SlR.at_ {b o k : Nat} (h : SlR R size w S (some ⟨b,o,none⟩) n l) (hk : k < n) :
  ∃ x row,l[k]? = some x ∧ b < w.heap.size ∧ R w S row x ∧ ∀ j,j < size → w.cell? ⟨b,o + k * size + j,none⟩ = row[j]?:=by
 obtain ⟨b',o',e,_,hb,hc⟩:=h.2 (by omega)
 injection e with e
 injection e with e1 e2
 subst e1 e2
 have hl : k < l.length:=by have:=h.1;omega
 obtain ⟨row,hr,hj⟩:=hc k l[k] (List.getElem?_eq_getElem hl)
 exact ⟨l[k],row,List.getElem?_eq_getElem hl,hb,hr,hj⟩

def OwS (w : World) (S : Nat → Prop) (e : TypeId) (size : Nat) (A : Option Addr) (n c : Nat) (xs : List Value) : Prop :=
 w.ownsRow 0 e size (.slice A n c) n xs ∧ ∀ g,(Value.slice A n c).ownBlock = some g → S g
theorem OwS.of_own {b : Nat} (h : w.ownsRow b e size (.slice A n c) n xs) : OwS w (fun g => b ≤ g ∧ g < w.heap.size) e size A n c xs :=
 ⟨own_base h (Nat.zero_le _),fun g hg => h.lt g hg⟩
theorem OwS.chg (h : OwS w S e size A n c xs) (k : Chg T w w') (hd : ∀ i,S i → ¬ T i) : OwS w' S e size A n c xs :=
 ⟨own_chg h.1 k fun g hg => hd g (h.2 g hg),h.2⟩
theorem OwS.mono (h : OwS w S e size A n c xs) (hs : ∀ i,i < w.heap.size → S i → T i) : OwS w T e size A n c xs:=⟨h.1,fun g hg => hs g (h.1.lt g hg).2 (h.2 g hg)⟩
theorem OwS.sl (h : OwS w S e size A n c xs) : Sl w S size A n xs:=by
 have h1:=Sl.of_own h.1
 refine ⟨h1.1,fun hn => ?_⟩
 obtain ⟨b,o,e1,hb,hlt,hc⟩:=h1.2 hn
 refine ⟨b,o,e1,?_,hlt,hc⟩
 rcases h.1.2 with ⟨_,h0⟩|⟨g,cap,cur,hv,_⟩
 ·omega
 ·injection hv with hv1
  rw [e1] at hv1
  injection hv1 with hv1
  injection hv1 with hv1 hv2
  subst hv1 hv2
  exact h.2 b (by subst e1;rfl)

def WRows (W : Rd α) (size : Nat) (w : World) (S : Nat → Prop) (lab : Nat → Nat) (cs : List Value) (l : List α) (k : Nat) : Prop :=
 ∀ i,i < k → ∀ x,l[i]? = some x → ∃ row,W w (fun g => S g ∧ lab g = i + 1) row x ∧ ∀ j,j < size → cs[i * size + j]? = row[j]?
def SlW (W : Rd α) (e : TypeId) (size : Nat) (w : World) (S : Nat → Prop) (A : Option Addr) (n c : Nat) (l : List α) : Prop :=
 l.length = n ∧ ∃ (cs : List Value) (lab : Nat → Nat),OwS w (fun g => S g ∧ lab g = 0) e size A n c cs ∧ WRows W size w S lab cs l n
theorem SlW.chg (G : Good W size) (h : SlW W e size w S A n c l) (k : Chg T w w') (hd : ∀ i,S i → ¬ T i) : SlW W e size w' S A n c l:=by
 obtain ⟨h1,cs,lab,ho,hr⟩:=h
 refine ⟨h1,cs,lab,ho.chg k fun i hi => hd i hi.1,fun i hi x hx => ?_⟩
 obtain ⟨row,hw,hj⟩:=hr i hi x hx
 exact ⟨row,G.chg hw k fun i hi => hd i hi.1,hj⟩
theorem SlW.ext (G : Good W size) (h : SlW W e size w S A n c l) (k : Ext w w') : SlW W e size w' S A n c l:=h.chg G (k.chg fun _ => False) fun _ _ q => q
theorem SlW.mono (G : Good W size) (h : SlW W e size w S A n c l) (hs : ∀ i,S i → T i) : SlW W e size w T A n c l:=by
 obtain ⟨h1,cs,lab,ho,hr⟩:=h
 refine ⟨h1,cs,lab,ho.mono fun i _ hi => ⟨hs i hi.1,hi.2⟩,fun i hi x hx => ?_⟩
 obtain ⟨row,hw,hj⟩:=hr i hi x hx
 exact ⟨row,G.mono hw fun i hi => ⟨hs i hi.1,hi.2⟩,hj⟩
theorem SlW.slr (G : Good R size) (hWR : ∀ {w : World} {S : Nat → Prop} {cs : List Value} {a : α},W w S cs a → R w S cs a) (h : SlW W e size w S A n c l) : SlR R size w S A n l:=by
 obtain ⟨h1,cs,lab,ho,hr⟩:=h
 refine ⟨h1,fun hn => ?_⟩
 obtain ⟨b,o,e1,hb,hlt,hc⟩:=ho.sl.2 hn
 refine ⟨b,o,e1,hb.1,hlt,fun i x hx => ?_⟩
 have hi : i < n:=by have:=(List.getElem?_eq_some_iff.1 hx).1;omega
 obtain ⟨row,hw,hj⟩:=hr i hi x hx
 refine ⟨row,G.mono (hWR hw) fun g hg => hg.1,fun j hjs => ?_⟩
 have hm : i * size + j < n * size:=by
  have : (i + 1) * size ≤ n * size:=Nat.mul_le_mul_right _ hi
  rw [Nat.succ_mul] at this
  omega
 rw [Nat.add_assoc,hc _ hm,hj j hjs]
theorem SlW.cap (h : SlW W e size w S A n c l) : n ≤ c:=by
 obtain ⟨_,cs,lab,ho,_⟩:=h
 exact own_cap ho.1
theorem WRows.zero (W : Rd α) (size : Nat) (w : World) (S : Nat → Prop) (lab : Nat → Nat) (cs : List Value) (l : List α) : WRows W size w S lab cs l 0:=fun _ h => absurd h (Nat.not_lt_zero _)
theorem WRows.step {lab : Nat → Nat} {cs cs' row : List Value} {k b : Nat} {x : α} {S' : Nat → Prop} (G : Good W size) (h : WRows W size w S lab cs l k) (hb : ∀ g,S g → g < b) (k1 : Chg T w w') (hT : ∀ g,S g → ¬ T g) (hSS : ∀ g,S g → S' g)
  (hx : l[k]? = some x) (hrow : W w' (fun g => S' g ∧ b ≤ g) row x) (hold : ∀ j,j < k * size → cs'[j]? = cs[j]?) (hnew : ∀ j,j < size → cs'[k * size + j]? = row[j]?) :
  WRows W size w' S' (fun g => if g < b then lab g else k + 1) cs' l (k + 1):=by
 intro i hi y hy
 by_cases e : i = k
 ·subst e
  rw [hx] at hy
  injection hy with hy
  subst hy
  exact ⟨row,G.mono hrow fun g hg => ⟨hg.1,if_neg (by have:=hg.2;omega)⟩,hnew⟩
 ·obtain ⟨r,hr,hj⟩:=h i (by omega) y hy
  refine ⟨r,G.mono (G.chg hr k1 fun g hg => hT g hg.1) fun g hg => ⟨hSS g hg.1,?_⟩,fun j hjs => ?_⟩
  ·exact (if_pos (hb g hg.1)).trans hg.2
  ·have hm : i * size + j < k * size:=by
    have : (i + 1) * size ≤ k * size:=Nat.mul_le_mul_right _ (by omega)
    rw [Nat.succ_mul] at this
    omega
   rw [hold _ hm]
   exact hj j hjs
end

def Put (cs : List Value) (p : Nat) (row : List Value) (j : Nat) (cs' : List Value) : Prop:=cs'.length = cs.length ∧ (∀ i,i < p → cs'[i]? = cs[i]?) ∧ ∀ i,i < j → cs'[p + i]? = row[i]?
theorem Put.zero (cs : List Value) (p : Nat) (row : List Value) : Put cs p row 0 cs:=⟨rfl,fun _ _ => rfl,fun _ h => absurd h (Nat.not_lt_zero _)⟩
theorem Put.next {cs cs' row : List Value} {p j q : Nat} {v : Value} (h : Put cs p row j cs') (hq : q = p + j) (hp : p + j < cs.length) (hv : row[j]? = some v) : Put cs p row (j + 1) (cs'.set q v):=by
 subst hq
 refine ⟨by rw [List.length_set];exact h.1,fun i hi => ?_,fun i hi => ?_⟩
 ·rw [List.getElem?_set_ne (by omega)];exact h.2.1 i hi
 ·rw [List.getElem?_set]
  by_cases e : i = j
  ·subst e;rw [if_pos rfl,if_pos (by rw [h.1];exact hp),hv]
  ·rw [if_neg (by omega)];exact h.2.2 i (by omega)

def lb : List Nat → Nat → Nat
 | [],_ => 0
 | b::bs,g => if g < b then 0 else lb bs g + 1
theorem lb_here {b g : Nat} {bs : List Nat} (h : g < b) : lb (b::bs) g = 0:=if_pos h
theorem lb_next {b g j : Nat} {bs : List Nat} (h : b ≤ g) (k : lb bs g = j) : lb (b::bs) g = j + 1:=by simp only [lb];rw [if_neg (by omega),k]

def wtl {α : Type} (f : α → Nat) : List α → Nat
 | [] => 0
 | a::l => f a + 1 + wtl f l
theorem wtl_len {α : Type} (f : α → Nat) (l : List α) : l.length ≤ wtl f l:=by
 induction l with
 | nil => exact Nat.le_refl _
 | cons a l ih => simp only [wtl,List.length_cons];omega
theorem wtl_at {α : Type} (f : α → Nat) {l : List α} {k : Nat} {a : α} (h : l[k]? = some a) : f a ≤ wtl f l:=by
 induction l generalizing k with
 | nil => simp at h
 | cons b l ih =>
  simp only [wtl]
  rcases k with _|k
  ·simp at h;subst h;omega
  ·simp only [List.getElem?_cons_succ] at h;have:=ih h;omega
theorem wtl_take {α : Type} (f : α → Nat) {l : List α} {k : Nat} {a : α} (h : l[k]? = some a) : wtl f (l.take (k + 1)) = wtl f (l.take k) + f a + 1:=by
 induction l generalizing k with
 | nil => simp at h
 | cons b l ih =>
  rcases k with _|k
  ·simp at h;subst h;simp [wtl]
  ·simp only [List.getElem?_cons_succ] at h
   simp only [List.take_succ_cons,wtl,ih h]
   omega
theorem wtl_le {α : Type} (f : α → Nat) (l : List α) (k : Nat) : wtl f (l.take k) ≤ wtl f l:=by
 induction l generalizing k with
 | nil => simp [wtl]
 | cons b l ih =>
  rcases k with _|k
  ·simp [wtl]
  ·simp only [List.take_succ_cons,wtl];have:=ih k;omega
theorem wtl_rest {α : Type} (f : α → Nat) (l : List α) (k : Nat) : wtl f (l.take k) + (l.length - k) ≤ wtl f l:=by
 induction l generalizing k with
 | nil => simp [wtl]
 | cons b l ih =>
  rcases k with _|k
  ·simp only [List.take_zero,wtl,List.length_cons];have:=wtl_len f l;omega
  ·simp only [List.take_succ_cons,wtl,List.length_cons];have:=ih k;omega
def Left (r q : Int) (k : Nat) : Prop:=((k : Int) ≤ q ∧ r = q - k) ∨ (q < k ∧ r = -1)
theorem Left.of_if {q : Int} {k : Nat} : Left (if (k : Int) ≤ q then q - k else -1) q k:=by
 by_cases h : (k : Int) ≤ q
 ·exact .inl ⟨h,if_pos h⟩
 ·exact .inr ⟨by omega,if_neg h⟩

section
variable {H : Type} {enc : TypeId × Value → H} {P : Program} {w : World} {base : Nat} {spare : Nat → Bool} {held : Bool}
theorem opens_deep {α : Type} [Inhabited α] {t e : TypeId} {size : Nat} {R : Rd α} (G : Good R size) (ht : P.underlying t = some (.slice e)) (hc : P.cellsOf e = size)
  (hpos : 0 < size) (he : Opens P e (fun w cs a => R w (fun _ => True) cs a)) :
  Opens P t (fun w cs (l : List α) => ∃ A n c,cs = [.slice A n c] ∧ n ≤ c ∧ c ≤ maxLen ∧ SlR R size w (fun _ => True) A n l):=by
 intro H enc w base spare held fuel cs x h
 rcases open_slice ht h with ⟨rfl,-⟩|⟨a,len,cap,m,n,D,Pl,rfl,-,hl,hm,hmm,-,hi⟩
 ·exact ⟨[],none,0,0,rfl,Nat.le_refl _,by simp [maxLen],rfl,fun hn => absurd hn (Nat.lt_irrefl _)⟩
 have hlm : len ≤ m:=by rw [hmm];split <;> omega
 obtain ⟨f,hf⟩:=choose_lt (n:=len) (p:=fun i s => ∃ row,w.cells? base (a.add (i * size)) size = some row ∧ R w (fun _ => True) row s) (fun i hil => by
  obtain ⟨cs',hc',ht'⟩:=hi i (by omega)
  obtain ⟨s,hg⟩:=he H enc w base spare held n cs' _ ht'
  rw [hc] at hc'
  exact ⟨s,cs',hc',hg⟩)
 refine ⟨(List.range len).map f,some a,len,cap,rfl,hl,hm,by simp,?_⟩
 intro hn
 have hget : ∀ i,i < len → ∃ row,R w (fun _ => True) row (f i) ∧ ∀ j,j < size → w.cell? (a.add (i * size + j)) = row[j]?:=by
  intro i hil
  obtain ⟨row,hcs,hr⟩:=hf i hil
  refine ⟨row,hr,fun j hj => ?_⟩
  obtain ⟨_,hcl,hat⟩:=World.cells?_some hcs
  have:=hat j hj
  rw [← Go.Deep.add_add]
  exact this
 obtain ⟨row0,hr0,h0⟩:=hget 0 hn
 have h00:=h0 0 hpos
 rw [show 0 * size + 0 = 0 by omega] at h00
 have hsome : row0[0]? = some (row0[0]'(by rw [G.len hr0];exact hpos)):=List.getElem?_eq_getElem _
 rw [hsome] at h00
 obtain ⟨b,o,sp⟩:=a
 have hsp : sp = none:=by simpa [Addr.add] using World.cell?_spot h00
 subst hsp
 have hblk : b < w.heap.size:=World.block_lt_of_cell? _ _ (by simpa [Addr.add] using h00)
 refine ⟨b,o,rfl,trivial,hblk,fun k x hx => ?_⟩
 obtain ⟨hk1,hk2⟩:=List.getElem?_eq_some_iff.1 hx
 have hk : k < len:=by simpa using hk1
 obtain ⟨row,hr,hj⟩:=hget k hk
 have hxe : f k = x:=by simpa using hk2
 subst hxe
 refine ⟨row,hr,fun j hjs => ?_⟩
 rw [← hj j hjs]
 congr 1
 unfold Addr.add
 split <;> simp_all [Nat.add_assoc]
end
end Go.Proofs.YtoegjiigaoanbaaGreat
namespace Go.Proofs.YtoegjiigaoanbaaGreat
open Go.RowKit Go.Deep
set_option linter.unnecessarySimpa false
set_option maxHeartbeats 400000000
open Go.Lib (hid)

theorem Bx.row {w : World} {g : Nat} {t : TypeId} {cs : Array Value} (h : Bx w g t cs) (cs' : Array Value) : Bx (w.setRow g cs') g t cs':=setRow_heap w g cs cs' t (0,0) h
theorem Chg.row {S : Nat → Prop} {a b : World} (h : Chg S a b) {g : Nat} (hg : S g) (cs : Array Value) : Chg S a (b.setRow g cs) :=
 h.trans ⟨rfl,rfl,rfl,by simp,fun k _ hn => setRow_other b g k cs (fun e => hn (by rw [e];exact hg))⟩
theorem Ext.row {a b : World} (h : Ext a b) {g : Nat} (hg : a.heap.size ≤ g) (cs : Array Value) : Ext a (b.setRow g cs) :=
 ((Chg.refl (fun k => a.heap.size ≤ k) b).row hg cs).ext h fun _ q => q
theorem Chg.cells {S : Nat → Prop} {a : World} {g : Nat} (hg : S g) : ∀ (vs : List Value) (o : Nat) {b : World},Chg S a b → Chg S a (b.setCells g o vs)
 | [],_,_,h => h
 | v::r,o,_,h => Chg.cells hg r (o + 1) (h.sc (p:=⟨g,o,none⟩) hg v)
theorem Ext.cells {a b : World} (h : Ext a b) {g : Nat} (hg : a.heap.size ≤ g) (vs : List Value) (o : Nat) : Ext a (b.setCells g o vs) :=
 (Chg.cells (S:=fun k => a.heap.size ≤ k) hg vs o (Chg.refl _ b)).ext h fun _ q => q
def putAt (cs : List Value) (p : Nat) : List Value → List Value
 | [] => cs
 | v::r => putAt (cs.set p v) (p + 1) r
theorem putAt_lt : ∀ (row cs : List Value) (p i : Nat),i < p → (putAt cs p row)[i]? = cs[i]?
 | [],_,_,_,_ => rfl
 | v::r,cs,p,i,h => by rw [putAt,putAt_lt r _ _ _ (by omega),List.getElem?_set_ne (by omega)]
theorem putAt_at : ∀ (row cs : List Value) (p j : Nat),j < row.length → p + row.length ≤ cs.length → (putAt cs p row)[p + j]? = row[j]?
 | [],_,_,_,h,_ => absurd h (Nat.not_lt_zero _)
 | v::r,cs,p,j,h,hp => by
  simp only [List.length_cons] at h hp
  rcases j with _|j
  ·rw [putAt,putAt_lt r _ _ _ (by omega),Nat.add_zero,List.getElem?_set_self (by omega)]
   rfl
  ·rw [putAt,show p + (j + 1) = p + 1 + j by omega,putAt_at r _ _ _ (by omega) (by rw [List.length_set];omega)]
   rfl
theorem own_cells {base g : Nat} {e : TypeId} {size n c : Nat} : ∀ (vs : List Value) (o : Nat) {w : World} {xs : List Value},w.ownsRow base e size (.slice (some ⟨g,0,none⟩) n c) n xs → (w.setCells g o vs).ownsRow base e size (.slice (some ⟨g,0,none⟩) n c) n (putAt xs o vs)
 | [],_,_,_,h => h
 | v::r,o,_,_,h => own_cells r (o + 1) (h.stored o v).1
theorem own_there {w : World} {base g : Nat} {e : TypeId} {size n c k : Nat} {xs : List Value} (h : w.ownsRow base e size (.slice (some ⟨g,0,none⟩) n c) n xs) (hk : k < n) : w.there g (k * size) size:=fun j hj => by
 have hm : k * size + j < n * size:=by
  have : (k + 1) * size ≤ n * size:=Nat.mul_le_mul_right _ hk
  rw [Nat.succ_mul] at this
  omega
 refine ⟨?_,h.frozenAt _⟩
 rw [h.cellAt _ hm,List.getElem?_eq_getElem (by rw [h.1];exact hm)]
 rfl
theorem SlR.range {α : Type} {R : Rd α} {size : Nat} (G : Good R size) {w : World} {S : Nat → Prop} {b p : Nat} {row : List Value} {x : α} (hr : R w S row x) (h : ∀ j,j < size → w.cell? ⟨b,p + j,none⟩ = row[j]?) : w.rangeAt b p row:=fun j v hv => by
 have hj : j < size:=by have:=(List.getElem?_eq_some_iff.1 hv).1;rw [G.len hr] at this;exact this
 rw [h j hj]
 exact hv
theorem quiet_load {P : Program} {C : World → Prop} {K : Act → Prop} {o : Oper} {a : Act} (ty : TypeId) (x : Operand) (ho : o.op = .load ty x) (b off : Nat) (hx : a.eval x = .pointer (some ⟨b,off,none⟩)) (row : List Value) (d : TypeDesc)
  (hS : ∀ w,C w → w.rangeAt b off row) (hu : P.underlying ty = some d) (hd : d.isRow = true) (hi : (P.info? ty).map (·.size) = some row.length) (h : K (a.put o.dst (.agg row.toArray))) : o.quiet P a C K :=
 ⟨_,fun w hw => by
  unfold Oper.quietAt execOp
  simp only [ho,hx,Instr.loadAt,Instr.sureAddr,Sem.run_bind,Sem.run_pure,Result.andThen_ok,run_loadVar_mid w b off ty row d (hS w hw) hu hd hi]
  exact ⟨rfl,rfl⟩,h⟩
end Go.Proofs.YtoegjiigaoanbaaGreat
namespace Go.Proofs.YtoegjiigaoanbaaGreat
open Go.RowKit Go.Deep
set_option linter.unnecessarySimpa false
set_option maxHeartbeats 400000000
open Go.Lib (hid)
set_option linter.unusedSimpArgs false
set_option linter.unusedVariables false

inductive Res where
 | row (e : TypeId) (size : Nat) (A : Option Addr) (n c : Nat) (xs : List Value)
 | box (g : Nat) (t : TypeId) (cs : Array Value)
def Res.block : Res → Option Nat
 | .row _ _ A n c _ => (Value.slice A n c).ownBlock
 | .box g _ _ => some g
def Res.at_ (w : World) (b : Nat) : Res → Prop
 | .row e size A n c xs => w.ownsRow b e size (.slice A n c) n xs
 | .box g t cs => b ≤ g ∧ Bx w g t cs
def Res.far (r s : Res) : Prop:=∀ g,r.block = some g → s.block = some g → False
theorem Res.far_symm {r s : Res} (h : r.far s) : s.far r:=fun g a b => h g b a
theorem Res.at_lt {w : World} {b : Nat} : ∀ {r : Res},r.at_ w b → ∀ g,r.block = some g → b ≤ g ∧ g < w.heap.size
 | .row ..,h,g,hg => World.ownsRow.lt h g hg
 | .box _ _ _,h,k,hk => by injection hk with hk;subst hk;exact ⟨h.1,h.2.lt⟩
theorem Res.at_chg {w w' : World} {S : Nat → Prop} {b : Nat} : ∀ {r : Res},r.at_ w b → Chg S w w' → (∀ g,r.block = some g → ¬ S g) → r.at_ w' b
 | .row ..,h,k,hd => own_chg h k hd
 | .box _ _ _,h,k,hd => ⟨h.1,h.2.chg k (hd _ rfl)⟩
theorem Res.at_base {w : World} {b b' : Nat} (hb : b' ≤ b) : ∀ {r : Res},r.at_ w b → r.at_ w b'
 | .row ..,h => own_base h hb
 | .box _ _ _,h => ⟨Nat.le_trans hb h.1,h.2⟩

structure Mine (b w : World) (rs : List Res) : Prop where
 ext : Ext b w
 all : ∀ r ∈ rs,r.at_ w b.heap.size
 far : rs.Pairwise Res.far

section
variable {b w w' : World} {rs rs' : List Res} {r r' : Res} {S : Nat → Prop} {i : Nat}
theorem Mine.refl (w : World) : Mine w w []:=⟨Ext.refl' w,by simp,List.Pairwise.nil⟩
theorem Mine.of (h : Ext b w) : Mine b w []:=⟨h,by simp,List.Pairwise.nil⟩
theorem Mine.sub (h : Mine b w rs) (k : rs'.Sublist rs) : Mine b w rs':=⟨h.ext,fun r hr => h.all r (k.subset hr),h.far.sublist k⟩
theorem Mine.perm (h : Mine b w rs) (k : rs.Perm rs') : Mine b w rs':=⟨h.ext,fun r hr => h.all r (k.symm.subset hr),h.far.perm k fun {_ _} q => Res.far_symm q⟩
theorem Mine.on (h : Mine b w rs) (k : Ext w w') : Mine b w' rs:=⟨h.ext.tr k,fun r hr => Res.at_chg (h.all r hr) (k.chg fun _ => False) fun _ _ q => q,h.far⟩
theorem Mine.al (h : Mine b w rs) (o : Obj) : Mine b (w.alloc o) rs:=h.on ((Ext.refl' w).al o)
theorem Mine.dr (h : Mine b w rs) : Mine b w.drew rs:=h.on (Ext.refl' w).dr
theorem Mine.drN (h : Mine b w rs) (n : Nat) : Mine b (w.drewN n) rs:=h.on ((Ext.refl' w).drN n)
theorem Mine.size (h : Mine b w rs) : b.heap.size ≤ w.heap.size:=h.ext.size
theorem Mine.add (h : Mine b w rs) (k : Ext w w') (hr : r.at_ w' w.heap.size) : Mine b w' (r::rs):=by
 have h':=h.on k
 refine ⟨h'.ext,fun s hs => ?_,List.pairwise_cons.2 ⟨fun s hs g hg hg' => ?_,h'.far⟩⟩
 ·rcases List.mem_cons.1 hs with e|e
  ·subst e;exact Res.at_base h.size hr
  ·exact h'.all s e
 ·have h1:=Res.at_lt hr g hg
  have h2:=Res.at_lt (h.all s hs) g hg'
  omega
theorem Mine.box (h : Mine b w rs) (t : TypeId) (cs : Array Value) : Mine b (w.alloc (.cells cs t)) (.box w.heap.size t cs::rs) :=
 h.add ((Ext.refl' w).al _) ⟨Nat.le_refl _,Bx.new' _ _ _ rfl⟩
theorem Mine.call (h : Mine b w rs) (k : Mine w w' rs') : Mine b w' (rs' ++ rs):=by
 have h':=h.on k.ext
 refine ⟨h'.ext,fun s hs => ?_,List.pairwise_append.2 ⟨k.far,h'.far,fun r hr s hs g hg hg' => ?_⟩⟩
 ·rcases List.mem_append.1 hs with e|e
  ·exact Res.at_base h.size (k.all s e)
  ·exact h'.all s e
 ·have h1:=Res.at_lt (k.all r hr) g hg
  have h2:=Res.at_lt (h.all s hs) g hg'
  omega
theorem Mine.own (h : Mine b w rs) {e : TypeId} {size n c : Nat} {A : Option Addr} {xs : List Value} (hk : w'.ownsRow w.heap.size e size (.slice A n c) n xs) (k : Ext w w') : Mine b w' (.row e size A n c xs::rs) :=
 h.add k hk
theorem Mine.far_of (h : Mine b w rs) {i j : Nat} {r s : Res} (hi : rs[i]? = some r) (hj : rs[j]? = some s) (hij : i ≠ j) : r.far s:=by
 obtain ⟨i1,i2⟩:=List.getElem?_eq_some_iff.1 hi
 obtain ⟨j1,j2⟩:=List.getElem?_eq_some_iff.1 hj
 have hp:=List.pairwise_iff_getElem.1 h.far
 by_cases e : i < j
 ·have:=hp i j i1 j1 e;rw [i2,j2] at this;exact this
 ·have:=hp j i j1 i1 (by omega);rw [i2,j2] at this;exact Res.far_symm this
theorem Mine.swap (h : Mine b w rs) (hi : rs[i]? = some r) (k : Chg S w w') (hS : ∀ g,S g → r.block = some g) (hr : r'.at_ w' b.heap.size) (hb : ∀ g,r'.block = some g → r.block = some g ∨ w.heap.size ≤ g) : Mine b w' (rs.set i r'):=by
 obtain ⟨i1,i2⟩:=List.getElem?_eq_some_iff.1 hi
 have hlt:=Res.at_lt (h.all r (List.mem_of_getElem? hi))
 have hkeep : ∀ (j : Nat) (s : Res),rs[j]? = some s → i ≠ j → s.at_ w' b.heap.size:=fun j s hj hij => Res.at_chg (h.all s (List.mem_of_getElem? hj)) k fun g hg hs => h.far_of hi hj hij g (hS g hs) hg
 refine ⟨k.ext h.ext fun g hg => (hlt g (hS g hg)).1,fun s hs => ?_,?_⟩
 ·obtain ⟨j,hj⟩:=List.mem_iff_getElem?.1 hs
  rw [List.getElem?_set] at hj
  by_cases e : i = j
  ·rw [if_pos e,if_pos i1] at hj;injection hj with hj;subst hj;exact hr
  ·rw [if_neg e] at hj;exact hkeep j s hj e
 ·rw [List.pairwise_iff_getElem]
  intro p q hp hq hpq
  rw [List.length_set] at hp hq
  have hgp : rs[p]? = some rs[p]:=List.getElem?_eq_getElem hp
  have hgq : rs[q]? = some rs[q]:=List.getElem?_eq_getElem hq
  rw [List.getElem_set,List.getElem_set]
  by_cases e1 : i = p
  ·rw [if_pos e1,if_neg (by omega)]
   intro g hg hg'
   have h2:=Res.at_lt (h.all _ (List.mem_of_getElem? hgq)) g hg'
   rcases hb g hg with q1|q1
   ·exact h.far_of hi hgq (by omega) g q1 hg'
   ·omega
  ·by_cases e2 : i = q
   ·rw [if_neg e1,if_pos e2]
    intro g hg hg'
    have h2:=Res.at_lt (h.all _ (List.mem_of_getElem? hgp)) g hg
    rcases hb g hg' with q1|q1
    ·exact h.far_of hi hgp (by omega) g q1 hg
    ·omega
   ·rw [if_neg e1,if_neg e2]
    exact h.far_of hgp hgq (by omega)
variable {e t : TypeId} {size n c g j : Nat} {A : Option Addr} {xs : List Value} {cs : Array Value}
theorem Mine.row_at (h : Mine b w rs) (i : Nat) (hi : rs[i]? = some (.row e size A n c xs)) : w.ownsRow b.heap.size e size (.slice A n c) n xs:=h.all _ (List.mem_of_getElem? hi)
theorem Mine.box_at (h : Mine b w rs) (i : Nat) (hi : rs[i]? = some (.box g t cs)) : Bx w g t cs:=(h.all _ (List.mem_of_getElem? hi)).2
theorem Mine.box_le (h : Mine b w rs) (i : Nat) (hi : rs[i]? = some (.box g t cs)) : b.heap.size ≤ g:=(h.all _ (List.mem_of_getElem? hi)).1
theorem Mine.row_sl (h : Mine b w rs) (i : Nat) (hi : rs[i]? = some (.row e size A n c xs)) : Sl w (fun _ => True) size A n xs:=ownSl (h.row_at i hi)
theorem Mine.put (h : Mine b w rs) (i : Nat) (hi : rs[i]? = some (.row e size (some ⟨g,0,none⟩) n c xs)) (j : Nat) (u : Value) : Mine b (w.setCell ⟨g,j,none⟩ u) (rs.set i (.row e size (some ⟨g,0,none⟩) n c (xs.set j u))) :=
 h.swap hi ((Chg.refl (fun k => k = g) w).sc (p:=⟨g,j,none⟩) rfl u) (fun k hk => by rw [hk];rfl) ((h.row_at i hi).stored j u).1 (fun k hk => .inl hk)
theorem Mine.set (h : Mine b w rs) (i : Nat) (hi : rs[i]? = some (.box g t cs)) (j : Nat) (u : Value) : Mine b (w.setCell ⟨g,j,none⟩ u) (rs.set i (.box g t (cs.setIfInBounds j u))) :=
 h.swap hi ((Chg.refl (fun k => k = g) w).sc (p:=⟨g,j,none⟩) rfl u) (fun k hk => by rw [hk];rfl) ⟨h.box_le i hi,(h.box_at i hi).set_ j u⟩ (fun k hk => .inl hk)
theorem Mine.setRow (h : Mine b w rs) (i : Nat) (hi : rs[i]? = some (.box g t cs)) (cs' : Array Value) : Mine b (w.setRow g cs') (rs.set i (.box g t cs')) :=
 h.swap hi ((Chg.refl (fun k => k = g) w).row rfl cs') (fun k hk => by rw [hk];rfl) ⟨h.box_le i hi,(h.box_at i hi).row cs'⟩ (fun k hk => .inl hk)
theorem own_cut (h : w.ownsRow i e size (.slice A n c) n xs) {m : Nat} (hm : m ≤ n) : w.ownsRow i e size (.slice A m c) m (xs.take (m * size)):=by
 have hms : m * size ≤ n * size:=Nat.mul_le_mul_right _ hm
 refine ⟨by rw [List.length_take,h.1];omega,?_⟩
 rcases h.2 with ⟨hv,h0⟩|⟨g,cap,cur,hv,hb,hh,hnc,hcm,hcs,htake⟩
 ·injection hv with h1 h2 h3
  subst h1 h2 h3
  obtain rfl : m = 0:=by omega
  exact .inl ⟨rfl,rfl⟩
 ·injection hv with h1 h2 h3
  subst h1 h3
  exact .inr ⟨g,c,cur,rfl,hb,hh,by omega,hcm,hcs,by rw [← htake,List.take_take];congr 1;omega⟩
theorem Mine.swap0 (h : Mine b w rs) (hi : rs[i]? = some r) (hr : r'.at_ w b.heap.size) (hb : r'.block = r.block) : Mine b w (rs.set i r') :=
 h.swap hi (Chg.refl (fun _ => False) w) (fun _ q => q.elim) hr fun g hg => .inl (by rw [← hb];exact hg)
theorem Mine.cut (h : Mine b w rs) (i : Nat) (hi : rs[i]? = some (.row e size A n c xs)) {m : Nat} (hm : m ≤ n) : Mine b w (rs.set i (.row e size A m c (xs.take (m * size)))) :=
 h.swap0 hi (own_cut (h.row_at i hi) hm) (by cases A <;> rfl)
theorem Mine.addr (h : Mine b w rs) (i : Nat) (hi : rs[i]? = some (.row e size A n c xs)) (hn : 0 < n) : ∃ g,A = some ⟨g,0,none⟩:=by
 rcases (h.row_at i hi).2 with ⟨_,h0⟩|⟨g,cap,cur,hv,_⟩
 ·omega
 ·injection hv with h1;exact ⟨g,h1⟩
theorem Mine.cap (h : Mine b w rs) (i : Nat) (hi : rs[i]? = some (.row e size A n c xs)) : n ≤ c:=own_cap (h.row_at i hi)
theorem Mine.len (h : Mine b w rs) (i : Nat) (hi : rs[i]? = some (.row e size A n c xs)) : xs.length = n * size:=(h.row_at i hi).1
theorem Mine.len1 (h : Mine b w rs) (i : Nat) (hi : rs[i]? = some (.row e 1 A n c xs)) : xs.length = n:=by have:=h.len i hi;omega
end

/-! ### The walk's rules -/
theorem run_storeVar_cell {P : Program} (w : World) (b o : Nat) (ty : TypeId) (v : Value) (ht : w.there b o 1) (hi : (P.info? ty).map (·.size) = some 1) (h1 : v.oneCell' = true) :
  (storeVar ty ⟨b,o,none⟩ v).run P w = .ok () (w.setCell ⟨b,o,none⟩ v):=by
 have hc : v.cells = #[v]:=by cases v <;> first|rfl|cases h1
 have:=run_storeCells_cells (P:=P) b o [v] 0 w (fun j hj => by simpa using (ht j (by simpa using hj)).1) (fun j hj => by simpa using (ht j (by simpa using hj)).2)
  (fun u hu => by simp at hu;subst hu;exact h1)
 cases hq : P.info? ty with
 | none => simp [hq] at hi
 | some i =>
  have hs : i.size = 1:=by simpa [hq] using hi
  simp only [Nat.add_zero] at this
  simp [storeVar,sizeOf,typeInfo,hq,hc,hs,this,World.setCells]
theorem there_row {w : World} {b g : Nat} {e : TypeId} {size n c : Nat} {xs : List Value} (h : w.ownsRow b e size (.slice (some ⟨g,0,none⟩) n c) n xs) {p m : Nat} (hp : p + m ≤ n * size) : w.there g p m:=fun j hj => by
 refine ⟨?_,h.frozenAt _⟩
 rw [h.cellAt _ (by omega),List.getElem?_eq_getElem (by rw [h.1];omega)]
 rfl
theorem there_box {w : World} {g : Nat} {t : TypeId} {cs : Array Value} (h : Bx w g t cs) {p m : Nat} (hp : p + m ≤ cs.size) : w.there g p m:=fun j hj => by
 refine ⟨?_,h.frozen _⟩
 rw [h.cell,Array.getElem?_eq_getElem (by omega)]
 rfl
theorem Bx.cells {w : World} {g : Nat} {t : TypeId} : ∀ (vs cs : List Value) (o : Nat),Bx w g t cs.toArray → Bx (w.setCells g o vs) g t (putAt cs o vs).toArray
 | [],_,_,h => h
 | v::r,cs,o,h => by
  have h1:=h.set_ o v
  rw [List.setIfInBounds_toArray] at h1
  have h2:=Bx.cells r (cs.set o v) (o + 1) h1
  exact h2
section
variable {P : Program} {ops : Array Oper} {rest : List Oper} {o : Oper} {a : Act} {Q : Exit → Act → World → Prop} {b w : World} {rs : List Res}
theorem Mine.wp_put (M : Mine b w rs) (hgd : o.guard = none) (ty : TypeId) (x y : Operand) (ho : o.op = .store ty x y) (hd : o.dst = none) (i : Nat) (j : Nat) {g : Nat} {e : TypeId} {size n c : Nat} {xs : List Value} (hi : rs[i]? = some (.row e size (some ⟨g,0,none⟩) n c xs))
  (hx : a.eval x = .pointer (some ⟨g,j,none⟩)) (u : Value) (hy : a.eval y = u) (hj : j < n * size) (h1 : u.oneCell' = true) (hu : (P.info? ty).map (·.size) = some 1)
  (h : ∀ w',Mine b w' (rs.set i (.row e size (some ⟨g,0,none⟩) n c (xs.set j u))) → wpList P ops Q rest a w') : wpList P ops Q (o::rest) a w :=
 wpList_plain hgd fun _ hK => by
  unfold Oper.wp execOp
  simp only [ho,hx,hy,Instr.storeAt,Instr.sureAddr,Sem.run_bind,Sem.run_pure,Result.andThen_ok,run_storeVar_cell w g j ty u (there_row (M.row_at i hi) (by omega)) hu h1]
  have:=h _ (M.put i hi j u)
  exact hK _ _ (by rw [hd];exact this)
theorem Mine.wp_set (M : Mine b w rs) (hgd : o.guard = none) (ty : TypeId) (x y : Operand) (ho : o.op = .store ty x y) (hd : o.dst = none) (i : Nat) (j : Nat) {g : Nat} {t : TypeId} {cs : Array Value} (hi : rs[i]? = some (.box g t cs))
  (hx : a.eval x = .pointer (some ⟨g,j,none⟩)) (u : Value) (hy : a.eval y = u) (hj : j < cs.size) (h1 : u.oneCell' = true) (hu : (P.info? ty).map (·.size) = some 1)
  (h : ∀ w',Mine b w' (rs.set i (.box g t (cs.setIfInBounds j u))) → wpList P ops Q rest a w') : wpList P ops Q (o::rest) a w :=
 wpList_plain hgd fun _ hK => by
  unfold Oper.wp execOp
  simp only [ho,hx,hy,Instr.storeAt,Instr.sureAddr,Sem.run_bind,Sem.run_pure,Result.andThen_ok,run_storeVar_cell w g j ty u (there_box (M.box_at i hi) (by omega)) hu h1]
  have:=h _ (M.set i hi j u)
  exact hK _ _ (by rw [hd];exact this)
theorem Mine.wp_sets (M : Mine b w rs) (hgd : o.guard = none) (ty : TypeId) (x y : Operand) (ho : o.op = .store ty x y) (hd : o.dst = none) (i : Nat) (j : Nat) {g : Nat} {t : TypeId} {cs : List Value} (hi : rs[i]? = some (.box g t cs.toArray))
  (hx : a.eval x = .pointer (some ⟨g,j,none⟩)) (vs : List Value) (hy : a.eval y = .agg vs.toArray) (hj : j + vs.length ≤ cs.length) (h1 : ∀ u ∈ vs,u.oneCell' = true) (hu : (P.info? ty).map (·.size) = some vs.length)
  (h : ∀ w',Mine b w' (rs.set i (.box g t (putAt cs j vs).toArray)) → wpList P ops Q rest a w') : wpList P ops Q (o::rest) a w:=by
 refine wpList_store_mid hgd ty x y ho g j vs.toArray hx hy (there_box (M.box_at i hi) (by simpa using hj)) (by simpa using hu) (all_oneCell_toArray h1) ?_
 rw [hd]
 refine h _ ?_
 have k : Chg (fun k => k = g) w (w.setCells g j vs.toArray.toList):=Chg.cells (S:=fun k => k = g) rfl _ _ (Chg.refl _ w)
 exact M.swap hi k (fun k hk => by rw [hk];rfl) ⟨M.box_le i hi,Bx.cells vs cs j (M.box_at i hi)⟩ (fun k hk => .inl hk)
theorem Mine.wp_push (M : Mine b w rs) (hgd : o.guard = none) (s x : Operand) (t : TypeId) (ho : o.op = .call { callee:=.builtin .append,args:=#[s,x],argTypes:=#[t,t] })
  (e : TypeId) (z : Value) (size bytes : Nat) (ht : P.underlying t = some (.slice e)) (hf : (P.info? e).map (fun i => (i.zero,i.size,i.bytes)) = some (some z,size,bytes)) (hzs : z.cells.size = size) (hsz : 0 < size)
  (i : Nat) {A : Option Addr} {n c : Nat} {xs : List Value} (hi : rs[i]? = some (.row e size A n c xs)) (hs : a.eval s = .slice A n c)
  (news : List Value) (gn : Nat) (hgn : gn = w.heap.size) (hx : a.eval x = .slice (some ⟨gn,0,none⟩) 1 1) (hl : news.length = size) (h1 : ∀ u ∈ news,u.oneCell' = true)
  (hbytes : (n + 1) * bytes ≤ 140737488355328) (h63 : n + 1 ≤ maxLen)
  (h : ∀ A' c' w',Mine b w' (rs.set i (.row e size A' (n + 1) c' (xs ++ news))) → wpList P ops Q rest (a.put o.dst (.slice A' (n + 1) c')) w') :
  wpList P ops Q (o::rest) a (w.alloc (.cells news.toArray e)):=by
 refine YtoegjiigaoanbaaGreat.wp_push hgd s x t ho b.heap.size e z size bytes ht hf hzs hsz A n c xs hs (M.row_at i hi) news gn hgn hx hl h1 hbytes h63 M.size ?_
 intro A' c' w' hown hchg hat
 refine h A' c' w' (M.swap hi hchg (fun g hg => hg) hown fun g hg => ?_)
 rcases hat with q|⟨g',q1,q2⟩
 ·exact .inl (by show (Value.slice A n c).ownBlock = some g;rw [← q];exact hg)
 ·right
  have hg' : (Value.slice A' (n + 1) c').ownBlock = some g:=hg
  rw [q1] at hg'
  injection hg' with hg'
  omega
end
end Go.Proofs.YtoegjiigaoanbaaGreat
namespace Go.Proofs.YtoegjiigaoanbaaGreat
open Go.RowKit Go.Deep
set_option linter.unnecessarySimpa false
set_option maxHeartbeats 400000000
open Go.Lib (hid)
set_option linter.unusedSimpArgs false
set_option linter.unusedVariables false

theorem run_loadVar_cell {P : Program} (w : World) (p : Addr) (ty : TypeId) (v : Value) (d : TypeDesc) (hc : w.cell? p = some v) (hu : P.underlying ty = some d) (hd : d.isRow = false) : (loadVar ty p).run P w = .ok v w:=by
 have hagg : (isAgg ty).run P w = .ok false w:=by
  unfold isAgg
  rw [Sem.run_bind,run_underlying hu w]
  cases d <;> simp_all [TypeDesc.isRow]
 simp [loadVar,Sem.run_bind,hagg,hc]
section
variable {P : Program} {ops : Array Oper} {rest : List Oper} {o : Oper} {a : Act} {Q : Exit → Act → World → Prop} {b w : World} {rs : List Res}
theorem wpList_load_cell (hgd : o.guard = none) (ty : TypeId) (x : Operand) (ho : o.op = .load ty x) (p : Addr) (hx : a.eval x = .pointer (some p)) (v : Value) (hc : w.cell? p = some v) (d : TypeDesc) (hu : P.underlying ty = some d) (hd : d.isRow = false)
  (h : wpList P ops Q rest (a.put o.dst v) w) : wpList P ops Q (o::rest) a w :=
 wpList_plain hgd fun _ hK => by
  unfold Oper.wp execOp
  simp only [ho,hx,Instr.loadAt,Instr.sureAddr,Sem.run_bind,Sem.run_pure,Result.andThen_ok,run_loadVar_cell w p ty v d hc hu hd]
  exact hK _ _ h
theorem Mine.wp_get (M : Mine b w rs) (hgd : o.guard = none) (ty : TypeId) (x : Operand) (ho : o.op = .load ty x) (i j : Nat) {g : Nat} {t : TypeId} {cs : Array Value} (hi : rs[i]? = some (.box g t cs)) (hx : a.eval x = .pointer (some ⟨g,j,none⟩)) (v : Value) (hv : cs[j]? = some v)
  (d : TypeDesc) (hu : P.underlying ty = some d) (hd : d.isRow = false) (h : wpList P ops Q rest (a.put o.dst v) w) : wpList P ops Q (o::rest) a w :=
 wpList_load_cell hgd ty x ho _ hx v (((M.box_at i hi).cell j).trans hv) d hu hd h
theorem Mine.wp_gets (M : Mine b w rs) (hgd : o.guard = none) (ty : TypeId) (x : Operand) (ho : o.op = .load ty x) (i j m : Nat) {g : Nat} {t : TypeId} {cs : List Value} (hi : rs[i]? = some (.box g t cs.toArray)) (hx : a.eval x = .pointer (some ⟨g,j,none⟩)) (hm : j + m ≤ cs.length)
  (d : TypeDesc) (hu : P.underlying ty = some d) (hd : d.isRow = true) (hf : (P.info? ty).map (·.size) = some m) (h : wpList P ops Q rest (a.put o.dst (.agg ((cs.drop j).take m).toArray)) w) : wpList P ops Q (o::rest) a w:=by
 refine wpList_load_mid hgd ty x ho g j hx _ d (fun k v hv => ?_) hu hd (by rw [hf,List.length_take,List.length_drop];congr 1;omega) h
 rw [(M.box_at i hi).cell]
 rw [List.getElem?_take] at hv
 split at hv
 ·rw [List.getElem?_drop] at hv;simpa using hv
 ·cases hv
theorem Mine.wp_getr (M : Mine b w rs) (hgd : o.guard = none) (ty : TypeId) (x : Operand) (ho : o.op = .load ty x) (i j : Nat) {g : Nat} {e : TypeId} {size n c : Nat} {xs : List Value} (hi : rs[i]? = some (.row e size (some ⟨g,0,none⟩) n c xs)) (hx : a.eval x = .pointer (some ⟨g,j,none⟩)) (v : Value) (hv : xs[j]? = some v)
  (d : TypeDesc) (hu : P.underlying ty = some d) (hd : d.isRow = false) (h : wpList P ops Q rest (a.put o.dst v) w) : wpList P ops Q (o::rest) a w :=
 wpList_load_cell hgd ty x ho _ hx v (((M.row_at i hi).cellAt j (by have h1:=(M.row_at i hi).1;have h2:=(List.getElem?_eq_some_iff.1 hv).1;omega)).trans hv) d hu hd h
theorem Mine.wp_getrs (M : Mine b w rs) (hgd : o.guard = none) (ty : TypeId) (x : Operand) (ho : o.op = .load ty x) (i j : Nat) {g : Nat} {e : TypeId} {size n c : Nat} {xs : List Value} (hi : rs[i]? = some (.row e size (some ⟨g,0,none⟩) n c xs)) (hx : a.eval x = .pointer (some ⟨g,j,none⟩)) (vs : List Value) (hv : ∀ k,k < vs.length → xs[j + k]? = vs[k]?)
  (d : TypeDesc) (hu : P.underlying ty = some d) (hd : d.isRow = true) (hf : (P.info? ty).map (·.size) = some vs.length) (h : wpList P ops Q rest (a.put o.dst (.agg vs.toArray)) w) : wpList P ops Q (o::rest) a w:=by
 refine wpList_load_mid hgd ty x ho g j hx vs d (fun k v hk => ?_) hu hd hf h
 have hkl:=(List.getElem?_eq_some_iff.1 hk).1
 have h1:=(hv k hkl).trans hk
 rw [(M.row_at i hi).cellAt _ (by have h2:=(M.row_at i hi).1;have h3:=(List.getElem?_eq_some_iff.1 h1).1;omega)]
 exact h1
theorem Mine.wp_alloc (M : Mine b w rs) (hgd : o.guard = none) (ty : TypeId) (ho : o.op = .alloc ty) (z : Value) (hz : (P.info? ty).map (·.zero) = some (some z)) (h : ∀ g w',Mine b w' (.box g ty z.cells::rs) → wpList P ops Q rest (a.put o.dst (.pointer (some ⟨g,0,none⟩))) w') : wpList P ops Q (o::rest) a w :=
 wpList_plain hgd fun _ hK => by
  cases hq : P.info? ty with
  | none => simp [hq] at hz
  | some i =>
   have hz' : i.zero = some z:=by simpa [hq] using hz
   have:=h _ _ (M.box ty z.cells)
   unfold Oper.wp execOp
   simp [ho,Instr.alloc,zeroValue,typeInfo,hq,hz',newVar,newRow]
   exact hK _ _ this
end
end Go.Proofs.YtoegjiigaoanbaaGreat
namespace Go.Proofs.YtoegjiigaoanbaaGreat
open Go.RowKit
set_option linter.unnecessarySimpa false
set_option maxHeartbeats 400000000
open Go.Lib (hid)
theorem region_class {P : Program} {id : Nat} {Q : Exit → Act → World → Prop} {a : Act} {w : World} {l : List Oper} (C : World → Prop) (hm : P.follows .mixedOrders = true) (hB : Region.lexB .any l.toArray = true) (hC : C w.drew)
  (h : wpQuiet P l.toArray C (fun a' => ∀ w',C w' → Q .normal a' w') l a) : (Code.region id l.toArray true).wp P Q a w :=
 wp_region_quiet hm hB hC (by simpa using h)
end Go.Proofs.YtoegjiigaoanbaaGreat
namespace Go.Proofs.YtoegjiigaoanbaaGreat
open Go
open Go.Lib (hid)
set_option linter.unusedSimpArgs false
set_option linter.unusedVariables false

section
variable {P : Program} {ops : Array Oper} {md : Region.Mode} {C : World → Prop}
def wpAnyT (P : Program) (md : Region.Mode) (ops : Array Oper) (C : World → Prop) (n : Nat) (L : Array Bool → Act → Prop) : Nat → Array Bool → Act → Prop
 | 0,listed,a => L listed a
 | f + 1,listed,a => Region.ready md ops listed ≠ [] ∧ ∀ i ∈ Region.ready md ops listed,i < n ∧ qOp P ops C i (wpAnyT P md ops C n L f (listed.setIfInBounds i true)) a
theorem wpAny_of_wpAnyT {n g : Nat} {L : Array Bool → Act → Prop} {Q' : Exit → Act → World → Prop} (hL : ∀ listed a w,C w → L listed a → wpAny P md ops Q' g listed a w) :
  ∀ (f : Nat) (listed : Array Bool) (a : Act) (w : World),C w → wpAnyT P md ops C n L f listed a → wpAny P md ops Q' (f + g) listed a w
 | 0,_,_,_,hw,h => by rw [Nat.zero_add];exact hL _ _ _ hw h
 | f + 1,_,_,_,hw,h => by
  rw [show f + 1 + g = (f + g) + 1 by omega]
  exact ⟨fun h0 => absurd h0 h.1,fun i hi => wpOp_of_qOp hw (fun a' w' hw' h' => wpAny_of_wpAnyT hL f _ a' w' hw' h') (h.2 i hi).2⟩
theorem wpAnyT_first {n i : Nat} {oi : Oper} {v : Value} {L : Array Bool → Act → Prop} (hi : ops[i]? = some oi) (hsel : ∀ (j : Nat) (o : Oper) cs b,ops[j]? = some o → o.op ≠ .select cs b)
  (hs : Region.sinkB md ops n = true) (hc : Region.chainB md ops n = true) (hn : n < ops.size) (hin : i < n)
  (hdone : ∀ listed a,L listed a → ∀ j ∈ Region.ready md ops listed,n ≤ j) :
  ∀ (f : Nat) (listed : Array Bool) (a : Act),HeadInv md ops n listed →
   (∀ j oj,ops[j]? = some oj → j ≠ i → listed.getD j true = false → (∀ e ∈ oj.after,Region.binds md e = true → e.on ≠ i) → oi.apart ops oj = true) →
   i ∈ Region.ready md ops listed → YieldsIn P ops C oi v a →
   wpAnyT P md ops C n L f (listed.setIfInBounds i true) (a.put oi.dst v) → wpAnyT P md ops C n L (f + 1) listed a:=by
 intro f
 induction f with
 | zero =>
  intro listed a inv _ hr hy H
  have hun:=(mem_ready.1 hr).1
  refine ⟨fun h => (by rw [h] at hr;cases hr),fun j hj => ?_⟩
  have hjn : j < n:=by
   rcases Nat.lt_or_ge j n with h|h
   ·exact h
   ·exact absurd hj (tail_waits hs hc hn inv _ i rfl hin hun j h)
  refine ⟨hjn,?_⟩
  by_cases hji : j = i
  ·subst hji;exact hy.qOp hi H
  ·have:=hdone _ _ H j (ready_mono hj hji)
   omega
 | succ f ih =>
  intro listed a inv hfree hr hy H
  have hun:=(mem_ready.1 hr).1
  refine ⟨fun h => (by rw [h] at hr;cases hr),fun j hj => ?_⟩
  have hjn : j < n:=by
   rcases Nat.lt_or_ge j n with h|h
   ·exact h
   ·exact absurd hj (tail_waits hs hc hn inv _ i rfl hin hun j h)
  refine ⟨hjn,?_⟩
  by_cases hji : j = i
  ·subst hji;exact hy.qOp hi H
  ·have h1:=(H.2 j (ready_mono hj hji)).2
   obtain ⟨hjun,oj,hoj,hall⟩:=mem_ready.1 hj
   have hnot : ∀ e ∈ oj.after,Region.binds md e = true → e.on ≠ i:=fun e he hb heq => by
    have h1:=hall e he hb
    rw [heq,getD_both hun] at h1
    cases h1
   have h2:=qOp_put hoj (hfree j oj hoj hji hjun hnot) (fun cs b => hsel i oi cs b hi) (fun cs b => hsel j oj cs b hoj) hy h1
   have hfree' : ∀ k ok,ops[k]? = some ok → k ≠ i → (listed.setIfInBounds j true).getD k true = false →
     (∀ e ∈ ok.after,Region.binds md e = true → e.on ≠ i) → oi.apart ops ok = true:=fun k ok hk hki hun hno => by
    refine hfree k ok hk hki ?_ hno
    by_cases hjk : j = k
    ·subst hjk;exact hjun
    ·rw [getD_set_ne true hjk] at hun;exact hun
   refine qOp_mono (fun a' h3 => ih (listed.setIfInBounds j true) a' (inv.set hj hjn) hfree' (ready_mono hr (Ne.symm hji)) h3.1 ?_) h2
   rw [Array.setIfInBounds_comm _ _ hji]
   exact h3.2
theorem wpAnyT_lex {n g : Nat} {Lq : Act → Prop} (hsel : Region.noSelect ops = true) (hs : Region.sinkB md ops n = true) (hc : Region.chainB md ops n = true) (hn : n < ops.size) :
  ∀ (l : List Oper) (k : Nat) (listed : Array Bool) (a : Act),(∀ j,j < l.length → l[j]? = ops[k + j]?) → k + l.length = n → HeadInv md ops n listed →
  Region.lexHead md ops g l.length k listed = true → wpQuiet P ops C Lq l a →
  wpAnyT P md ops C n (fun listed' a' => Region.seqB md ops g n listed' = true ∧ Lq a') l.length listed a
 | [],k,listed,a,_,hk,_,hB,h => by
  have : k = n:=by simpa using hk
  subst this
  exact ⟨by simpa [Region.lexHead] using hB,h⟩
 | o::l,k,listed,a,hl,hk,inv,hB,h => by
  have h0 : ops[k]? = some o:=by simpa using (hl 0 (by simp)).symm
  simp only [List.length_cons,Region.lexHead,Bool.and_eq_true] at hB
  obtain ⟨⟨hr,hf⟩,hB'⟩:=hB
  have hkn : k < n:=by simp only [List.length_cons] at hk;omega
  have hr' : k ∈ Region.ready md ops listed:=by simpa using hr
  have hst : qOp P ops C k (wpQuiet P ops C Lq l) a:=by unfold qOp;simp only [h0];exact h
  obtain ⟨v,hy,hK⟩:=yieldsIn_of_qOp h0 hst
  exact wpAnyT_first h0 (Region.noSelect_spec hsel) hs hc hn hkn (fun listed' a' hL => seqB_ready hL.1) l.length listed a inv (Region.free_spec h0 hf) hr' hy
   (wpAnyT_lex hsel hs hc hn l (k + 1) _ _ (fun j hj => by have:=hl (j + 1) (by simp;omega);simpa [Nat.add_assoc,Nat.add_comm 1 j] using this) (by simp only [List.length_cons] at hk;omega) (inv.set hr' hkn) hB' hK)
theorem region_tail {id : Nat} {Q : Exit → Act → World → Prop} {a : Act} {w : World} {l : List Oper} (n : Nat) (C : World → Prop) (hm : P.follows .mixedOrders = true) (hB : Region.lexTailB .any l.toArray n = true) (hC : C w.drew)
  (h : wpQuiet P l.toArray C (fun a' => ∀ w',C w' → wpList P l.toArray Q (l.drop n) a' w') (l.take n) a) : (Code.region id l.toArray true).wp P Q a w:=by
 simp only [Region.lexTailB,Bool.and_eq_true,decide_eq_true_eq] at hB
 obtain ⟨⟨⟨⟨hsel,hn⟩,hs⟩,hc⟩,hlex⟩:=hB
 have hn' : n < l.length:=by simpa using hn
 have htl : (l.take n).length = n:=by simp;omega
 have hdl : (l.drop n).length = l.toArray.size - n:=by simp
 have inv0 : HeadInv .any l.toArray n (Array.replicate l.toArray.size false) :=
  ⟨by simp,fun j oj _ hl => (by rw [getD_replicate_false] at hl;cases hl),fun t _ ht => getD_in (by simpa using ht) (getD_replicate_false _ _)⟩
 have H:=wpAnyT_lex (md:=.any) (g:=l.toArray.size - n) hsel hs hc hn (l.take n) 0 _ a (fun j hj => by
  have hj' : j < n:=by rw [htl] at hj;exact hj
  simp [hj']) (by simpa using htl) inv0 (by rw [htl];exact hlex) h
 refine wp_region_any hm ?_
 have:=wpAny_of_wpAnyT (Q':=Q) (C:=C) (g:=l.toArray.size - n) (fun listed a' w' hw' hL => by
  have:=wpAny_of_seq (md:=.any) (Q':=Q) (l.drop n) n listed a' w' (fun j => by simp [List.getElem?_drop]) (by rw [hdl];exact hL.1) (hL.2 w' hw')
  rwa [hdl] at this) _ _ _ _ hC H
 rw [htl,show n + (l.toArray.size - n) = l.toArray.size by omega] at this
 exact this
end
end Go.Proofs.YtoegjiigaoanbaaGreat
namespace Go.Proofs.YtoegjiigaoanbaaGreat
open Go.RowKit Go.Deep
set_option linter.unnecessarySimpa false
set_option maxHeartbeats 400000000
open Go.Lib (hid)
set_option linter.unusedSimpArgs false
set_option linter.unusedVariables false

section
variable {P : Program} {ops : Array Oper} {rest : List Oper} {o : Oper} {a : Act} {b w : World} {rs : List Res}
theorem Mine.region_quiet {id : Nat} {Q : Exit → Act → World → Prop} {l : List Oper} (M : Mine b w rs) (hm : P.follows .mixedOrders = true) (hB : Region.lexB .any l.toArray = true)
  (h : wpQuiet P l.toArray (fun w' => Mine b w' rs) (fun a' => ∀ w',Mine b w' rs → Q .normal a' w') l a) : (Code.region id l.toArray true).wp P Q a w:=region_class _ hm hB M.dr h
theorem Mine.region_tail {id : Nat} {Q : Exit → Act → World → Prop} {l : List Oper} (M : Mine b w rs) (n : Nat) (hm : P.follows .mixedOrders = true) (hB : Region.lexTailB .any l.toArray n = true)
  (h : wpQuiet P l.toArray (fun w' => Mine b w' rs) (fun a' => ∀ w',Mine b w' rs → wpList P l.toArray Q (l.drop n) a' w') (l.take n) a) : (Code.region id l.toArray true).wp P Q a w:=YtoegjiigaoanbaaGreat.region_tail n _ hm hB M.dr h
variable {Q : Act → Prop}
theorem wanted_none (h : o.guard = none) (t : Array Value) : Region.wanted o (yielded ops t) = true:=by simp [Region.wanted,h]
theorem Mine.oq_get {K : Act → Prop} (ty : TypeId) (x : Operand) (ho : o.op = .load ty x) (i j : Nat) {g : Nat} {t : TypeId} {cs : Array Value} (hi : rs[i]? = some (.box g t cs)) (hx : a.eval x = .pointer (some ⟨g,j,none⟩)) (v : Value) (hv : cs[j]? = some v)
  (d : TypeDesc) (hu : P.underlying ty = some d) (hd : d.isRow = false) (h : K (a.put o.dst v)) : Oper.quiet P o a (fun w' => Mine b w' rs) K :=
 ⟨v,fun w' M => by
  unfold Oper.quietAt execOp
  simp only [ho,hx,Instr.loadAt,Instr.sureAddr,Sem.run_bind,Sem.run_pure,Result.andThen_ok,run_loadVar_cell w' _ ty v d (((M.box_at i hi).cell j).trans hv) hu hd]
  exact ⟨rfl,rfl⟩,h⟩
theorem Mine.oq_getr {K : Act → Prop} (ty : TypeId) (x : Operand) (ho : o.op = .load ty x) (i j : Nat) {g : Nat} {e : TypeId} {size n c : Nat} {xs : List Value} (hi : rs[i]? = some (.row e size (some ⟨g,0,none⟩) n c xs)) (hx : a.eval x = .pointer (some ⟨g,j,none⟩)) (v : Value) (hv : xs[j]? = some v)
  (d : TypeDesc) (hu : P.underlying ty = some d) (hd : d.isRow = false) (h : K (a.put o.dst v)) : Oper.quiet P o a (fun w' => Mine b w' rs) K :=
 ⟨v,fun w' M => by
  unfold Oper.quietAt execOp
  simp only [ho,hx,Instr.loadAt,Instr.sureAddr,Sem.run_bind,Sem.run_pure,Result.andThen_ok,run_loadVar_cell w' _ ty v d (((M.row_at i hi).cellAt j (by have h1:=(M.row_at i hi).1;have h2:=(List.getElem?_eq_some_iff.1 hv).1;omega)).trans hv) hu hd]
  exact ⟨rfl,rfl⟩,h⟩
end
end Go.Proofs.YtoegjiigaoanbaaGreat
namespace Go.Proofs.YtoegjiigaoanbaaGreat
open Go Go.RowKit Go.Deep
open Go.Lib (hid)
set_option linter.unusedSimpArgs false
set_option linter.unusedVariables false

section
variable {P : Program} {ops : Array Oper} {md : Region.Mode} {Q : Exit → Act → World → Prop} {S : World → Prop} {n : Nat} {L : Array Bool → Act → World → Prop}
def wpHead (P : Program) (md : Region.Mode) (ops : Array Oper) (Q : Exit → Act → World → Prop) (S : World → Prop) (n : Nat) (L : Array Bool → Act → World → Prop) : Nat → Array Bool → Act → World → Prop
 | 0,listed,a,w => L listed a w
 | f + 1,listed,a,w => Region.ready md ops listed ≠ [] ∧ ∀ i ∈ Region.ready md ops listed,i < n ∧ wpOp P ops Q i (fun a' w' => S w' ∧ wpHead P md ops Q S n L f (listed.setIfInBounds i true) a' w') a w
theorem wpAny_of_wpHead {g : Nat} (hL : ∀ listed a w,L listed a w → wpAny P md ops Q g listed a w) :
  ∀ (f : Nat) (listed : Array Bool) (a : Act) (w : World),wpHead P md ops Q S n L f listed a w → wpAny P md ops Q (f + g) listed a w
 | 0,_,_,_,h => by rw [Nat.zero_add];exact hL _ _ _ h
 | f + 1,_,_,_,h => by
  rw [show f + 1 + g = (f + g) + 1 by omega]
  exact ⟨fun h0 => absurd h0 h.1,fun i hi => wpOp_mono (fun a' w' h' => wpAny_of_wpHead hL f _ a' w' h'.2) (h.2 i hi).2⟩
theorem wpHead_first {i : Nat} {oi : Oper} {v : Value} (hi : ops[i]? = some oi) (hsel : ∀ (j : Nat) (o : Oper) cs b,ops[j]? = some o → o.op ≠ .select cs b)
  (hs : Region.sinkB md ops n = true) (hc : Region.chainB md ops n = true) (hn : n < ops.size) (hin : i < n)
  (hdone : ∀ listed a w,L listed a w → ∀ j ∈ Region.ready md ops listed,n ≤ j) (hQ : ∀ c a w,Q (.panic c) (a.put oi.dst v) w → Q (.panic c) a w) :
  ∀ (f : Nat) (listed : Array Bool) (a : Act) (w : World),HeadInv md ops n listed →
   (∀ j oj,ops[j]? = some oj → j ≠ i → listed.getD j true = false → (∀ e ∈ oj.after,Region.binds md e = true → e.on ≠ i) → oi.apart ops oj = true) →
   i ∈ Region.ready md ops listed → YieldsIf P ops S oi v a → S w →
   wpHead P md ops Q S n L f (listed.setIfInBounds i true) (a.put oi.dst v) w → wpHead P md ops Q S n L (f + 1) listed a w:=by
 intro f
 induction f with
 | zero =>
  intro listed a w inv _ hr hy hS H
  have hun:=(mem_ready.1 hr).1
  refine ⟨fun h => (by rw [h] at hr;cases hr),fun j hj => ?_⟩
  have hjn : j < n:=by
   rcases Nat.lt_or_ge j n with h|h
   ·exact h
   ·exact absurd hj (tail_waits hs hc hn inv _ i rfl hin hun j h)
  refine ⟨hjn,?_⟩
  by_cases hji : j = i
  ·subst hji;exact hy.wpOp hi hS ⟨hS,H⟩
  ·have:=hdone _ _ _ H j (ready_mono hj hji)
   omega
 | succ f ih =>
  intro listed a w inv hfree hr hy hS H
  have hun:=(mem_ready.1 hr).1
  refine ⟨fun h => (by rw [h] at hr;cases hr),fun j hj => ?_⟩
  have hjn : j < n:=by
   rcases Nat.lt_or_ge j n with h|h
   ·exact h
   ·exact absurd hj (tail_waits hs hc hn inv _ i rfl hin hun j h)
  refine ⟨hjn,?_⟩
  by_cases hji : j = i
  ·subst hji;exact hy.wpOp hi hS ⟨hS,H⟩
  ·have h1:=(H.2 j (ready_mono hj hji)).2
   obtain ⟨hjun,oj,hoj,hall⟩:=mem_ready.1 hj
   have hnot : ∀ e ∈ oj.after,Region.binds md e = true → e.on ≠ i:=fun e he hb heq => by
    have h1:=hall e he hb
    rw [heq,getD_both hun] at h1
    cases h1
   have h2:=wpOp_putIf hoj (hfree j oj hoj hji hjun hnot) (fun cs b => hsel i oi cs b hi) (fun cs b => hsel j oj cs b hoj) hQ hy h1
   have hfree' : ∀ k ok,ops[k]? = some ok → k ≠ i → (listed.setIfInBounds j true).getD k true = false →
     (∀ e ∈ ok.after,Region.binds md e = true → e.on ≠ i) → oi.apart ops ok = true:=fun k ok hk hki hun hno => by
    refine hfree k ok hk hki ?_ hno
    by_cases hjk : j = k
    ·subst hjk;exact hjun
    ·rw [getD_set_ne true hjk] at hun;exact hun
   refine wpOp_mono (fun a' w' h3 => ⟨h3.2.1,ih (listed.setIfInBounds j true) a' w' (inv.set hj hjn) hfree' (ready_mono hr (Ne.symm hji)) h3.1 h3.2.1 ?_⟩) h2
   rw [Array.setIfInBounds_comm _ _ hji]
   exact h3.2.2
def seqL (P : Program) (Q : Exit → Act → World → Prop) (md : Region.Mode) (l : List Oper) (n : Nat) (listed : Array Bool) (a : Act) (w : World) : Prop:=Region.seqB md l.toArray (l.toArray.size - n) n listed = true ∧ wpList P l.toArray Q (l.drop n) a w
def headB (md : Region.Mode) (l : List Oper) (n : Nat) : Bool:=Region.noSelect l.toArray && decide (n < l.toArray.size) && Region.sinkB md l.toArray n && Region.chainB md l.toArray n
def HQ (P : Program) (md : Region.Mode) (l : List Oper) (Q : Exit → Act → World → Prop) (S : World → Prop) (n f : Nat) (listed : Array Bool) (a : Act) (w : World) : Prop :=
 HeadInv md l.toArray n listed → S w → wpHead P md l.toArray Q S n (seqL P Q md l n) f listed a w
def Reads (P : Program) (o : Oper) (a : Act) (S : World → Prop) (K : Act → Prop) : Prop:=∃ v,(∀ w,S w → (execOp a.eval o).run P w = .ok (.value v) w) ∧ K (a.put o.dst v)
variable {l : List Oper} {f : Nat} {listed : Array Bool} {a : Act} {w : World}
theorem HQ.take {i : Nat} {oi : Oper} (hi : l.toArray[i]? = some oi) (hB : headB md l n = true) (hf : Region.free md l.toArray listed i = true) (hr : (Region.ready md l.toArray listed).contains i = true) (hin : i < n) (hg : oi.guard = none)
  (hQ : ∀ v c a w,Q (.panic c) (a.put oi.dst v) w → Q (.panic c) a w) (h : ∀ K : Act → Prop,(∀ a',HQ P md l Q S n f (listed.setIfInBounds i true) a' w → K a') → Reads P oi a S K) : HQ P md l Q S n (f + 1) listed a w:=by
 intro inv hS
 simp only [headB,Bool.and_eq_true,decide_eq_true_eq] at hB
 obtain ⟨⟨⟨hsel,hn⟩,hs⟩,hc⟩:=hB
 obtain ⟨v,hv,hK⟩:=h (fun a' => HQ P md l Q S n f (listed.setIfInBounds i true) a' w) fun _ h => h
 have hr' : i ∈ Region.ready md l.toArray listed:=by simpa using hr
 exact wpHead_first hi (Region.noSelect_spec hsel) hs hc hn hin (fun listed' a' w' hL => seqB_ready hL.1) (fun c a w => hQ v c a w) f listed a w inv (Region.free_spec hi hf) hr' (.inl ⟨wanted_none hg _,hv⟩) hS (hK (inv.set hr' hin) hS)
def AllG (P : Program) (md : Region.Mode) (l : List Oper) (Q : Exit → Act → World → Prop) (S : World → Prop) (n f : Nat) (listed : Array Bool) (a : Act) (w : World) (rs : List Nat) : Prop :=
 ∀ i ∈ rs,i < n ∧ wpOp P l.toArray Q i (fun a' w' => S w' ∧ HQ P md l Q S n f (listed.setIfInBounds i true) a' w') a w
theorem AllG.nil : AllG P md l Q S n f listed a w []:=fun _ h => by cases h
theorem AllG.cons {i : Nat} {o : Oper} {rs : List Nat} (ho : l.toArray[i]? = some o) (hin : i < n)
  (h : ∀ K' : Act → World → Prop,Shut (∀ a w,S w → HQ P md l Q S n f (listed.setIfInBounds i true) a w → K' a w) → if Region.wanted o (yielded l.toArray a.tmps) = true then Oper.wp P o a w K' Q else K' (a.put o.dst undef) w)
  (hs : AllG P md l Q S n f listed a w rs) : AllG P md l Q S n f listed a w (i::rs):=fun j hj => by
 rcases List.mem_cons.1 hj with rfl|hj
 ·exact ⟨hin,wpOp_step ho (fun K' hK => h K' (fun a w hS hW => hK a w ⟨hS,hW⟩))⟩
 ·exact hs j hj
theorem HQ.noisy {rs : List Nat} (hr : Region.ready md l.toArray listed = rs) (hne : rs ≠ []) (h : AllG P md l Q S n f listed a w rs) : HQ P md l Q S n (f + 1) listed a w:=by
 intro inv hS
 refine ⟨fun h0 => hne (hr ▸ h0),fun i hi => ?_⟩
 have hi':=hi
 rw [hr] at hi'
 have h1:=h i hi'
 exact ⟨h1.1,wpOp_mono (fun a' w' h2 => ⟨h2.1,h2.2 (inv.set hi h1.1) h2.1⟩) h1.2⟩
theorem HQ.end_ (hB : Region.seqB md l.toArray (l.toArray.size - n) n listed = true) (h : wpList P l.toArray Q (l.drop n) a w) : HQ P md l Q S n 0 listed a w:=fun _ _ => ⟨hB,h⟩
theorem region_head {id : Nat} (n : Nat) (S : World → Prop) (hm : P.follows .mixedOrders = true) (hB : headB .any l n = true) (hS : S w.drew)
  (h : HQ P .any l Q S n n (Array.replicate l.toArray.size false) a w.drew) : (Code.region id l.toArray true).wp P Q a w:=by
 have hB':=hB
 simp only [headB,Bool.and_eq_true,decide_eq_true_eq] at hB'
 obtain ⟨⟨⟨hsel,hn⟩,hs⟩,hc⟩:=hB'
 have hn' : n < l.length:=by simpa using hn
 have hdl : (l.drop n).length = l.toArray.size - n:=by simp
 have inv0 : HeadInv .any l.toArray n (Array.replicate l.toArray.size false) :=
  ⟨by simp,fun j oj _ hl => (by rw [getD_replicate_false] at hl;cases hl),fun t _ ht => getD_in (by simpa using ht) (getD_replicate_false _ _)⟩
 refine wp_region_any hm ?_
 have:=wpAny_of_wpHead (P:=P) (md:=.any) (ops:=l.toArray) (Q:=Q) (S:=S) (n:=n) (L:=seqL P Q .any l n) (g:=l.toArray.size - n) (fun listed a' w' hL => by
  have:=wpAny_of_seq (md:=.any) (Q':=Q) (l.drop n) n listed a' w' (fun j => by simp [List.getElem?_drop]) (by rw [hdl];exact hL.1) hL.2
  rwa [hdl] at this) _ _ _ _ (h inv0 hS)
 rw [show n + (l.toArray.size - n) = l.toArray.size by omega] at this
 exact this
end
section
variable {P : Program} {o : Oper} {a : Act} {b w : World} {rs : List Res}
theorem Mine.region_head {Q : Exit → Act → World → Prop} {l : List Oper} {id : Nat} (M : Mine b w rs) (n : Nat) (hm : P.follows .mixedOrders = true) (hB : headB .any l n = true)
  (h : ∀ w',Mine b w' rs → HQ P .any l Q (fun w' => Mine b w' rs) n n (Array.replicate l.toArray.size false) a w') : (Code.region id l.toArray true).wp P Q a w:=YtoegjiigaoanbaaGreat.region_head n _ hm hB M.dr (h _ M.dr)
theorem Mine.rd_get {K : Act → Prop} (ty : TypeId) (x : Operand) (ho : o.op = .load ty x) (i j : Nat) {g : Nat} {t : TypeId} {cs : Array Value} (hi : rs[i]? = some (.box g t cs)) (hx : a.eval x = .pointer (some ⟨g,j,none⟩)) (v : Value) (hv : cs[j]? = some v)
  (d : TypeDesc) (hu : P.underlying ty = some d) (hd : d.isRow = false) (h : K (a.put o.dst v)) : Reads P o a (fun w' => Mine b w' rs) K :=
 ⟨v,fun w' M => by
  unfold execOp
  simp only [ho,hx,Instr.loadAt,Instr.sureAddr,Sem.run_bind,Sem.run_pure,Result.andThen_ok,run_loadVar_cell w' _ ty v d (((M.box_at i hi).cell j).trans hv) hu hd],h⟩
theorem Mine.rd_getr {K : Act → Prop} (ty : TypeId) (x : Operand) (ho : o.op = .load ty x) (i j : Nat) {g : Nat} {e : TypeId} {size n c : Nat} {xs : List Value} (hi : rs[i]? = some (.row e size (some ⟨g,0,none⟩) n c xs)) (hx : a.eval x = .pointer (some ⟨g,j,none⟩)) (v : Value) (hv : xs[j]? = some v)
  (d : TypeDesc) (hu : P.underlying ty = some d) (hd : d.isRow = false) (h : K (a.put o.dst v)) : Reads P o a (fun w' => Mine b w' rs) K :=
 ⟨v,fun w' M => by
  unfold execOp
  simp only [ho,hx,Instr.loadAt,Instr.sureAddr,Sem.run_bind,Sem.run_pure,Result.andThen_ok,run_loadVar_cell w' _ ty v d (((M.row_at i hi).cellAt j (by have h1:=(M.row_at i hi).1;have h2:=(List.getElem?_eq_some_iff.1 hv).1;omega)).trans hv) hu hd],h⟩
theorem Mine.rd_gets {K : Act → Prop} (ty : TypeId) (x : Operand) (ho : o.op = .load ty x) (i j m : Nat) {g : Nat} {t : TypeId} {cs : List Value} (hi : rs[i]? = some (.box g t cs.toArray)) (hx : a.eval x = .pointer (some ⟨g,j,none⟩)) (hm : j + m ≤ cs.length)
  (d : TypeDesc) (hu : P.underlying ty = some d) (hd : d.isRow = true) (hf : (P.info? ty).map (·.size) = some m) (h : K (a.put o.dst (.agg ((cs.drop j).take m).toArray))) : Reads P o a (fun w' => Mine b w' rs) K :=
 ⟨.agg ((cs.drop j).take m).toArray,fun w' M => by
  have hrun:=run_loadVar_mid (P:=P) w' g j ty ((cs.drop j).take m) d (fun k v hv => by
   rw [(M.box_at i hi).cell]
   rw [List.getElem?_take] at hv
   split at hv
   ·rw [List.getElem?_drop] at hv;simpa using hv
   ·cases hv) hu hd (by rw [hf,List.length_take,List.length_drop];congr 1;omega)
  unfold execOp
  simp only [ho,hx,Instr.loadAt,Instr.sureAddr,Sem.run_bind,Sem.run_pure,Result.andThen_ok,hrun],h⟩
end
end Go.Proofs.YtoegjiigaoanbaaGreat
namespace Go.Proofs.YtoegjiigaoanbaaGreat
open Go.RowKit Go.Deep
set_option linter.unnecessarySimpa false
set_option maxHeartbeats 400000000
open Go.Lib (hid)
set_option linter.unusedSimpArgs false
set_option linter.unusedVariables false

section
variable {P : Program} {ops : Array Oper} {rest : List Oper} {o : Oper} {a : Act} {Q : Exit → Act → World → Prop} {b w : World} {rs : List Res}
theorem Mine.wp_box (M : Mine b w rs) (hgd : o.guard = none) (ty : TypeId) (x : Operand) (ho : o.op = .box ty x) (vs : List Value) (hx : a.eval x = .agg vs.toArray)
  (h : ∀ g w',Mine b w' (.box g ty vs.toArray::rs) → wpList P ops Q rest (a.put o.dst (.pointer (some ⟨g,0,none⟩))) w') : wpList P ops Q (o::rest) a w :=
 wpList_plain hgd fun _ hK => by
  have:=h _ _ (M.box ty vs.toArray)
  unfold Oper.wp execOp
  simp [ho,hx,Instr.box,newVar,newRow,Value.cells]
  exact hK _ _ this
theorem Mine.wp_make (M : Mine b w rs) (hgd : o.guard = none) (l c : Operand) (t : TypeId) (ho : o.op = .makeSlice t l c) (e : TypeId) (z : Value) (size bytes : Nat) (ht : P.underlying t = some (.slice e))
  (hf : (P.info? e).map (fun i => (i.zero,i.size,i.bytes)) = some (some z,size,bytes)) (n : Nat) (hl : a.eval l = .int .i64 n) (hc : a.eval c = .int .i64 n) (hb : bytes * n ≤ 281474976710656) (hn : n ≤ maxLen)
  (h : ∀ g w',Mine b w' (.row e size (some ⟨g,0,none⟩) n n (madeCells z.cells (n * size)).toList::rs) → wpList P ops Q rest (a.put o.dst (.slice (some ⟨g,0,none⟩) n n)) w') : wpList P ops Q (o::rest) a w:=by
 obtain ⟨i,hi,hz,hs,hby⟩:=info_parts hf
 subst hby
 refine wpList_make_full w hgd l c t ho w.heap.size e i z size ht hi hz hs .i64 .i64 n n n hl hc rfl rfl hb hn (Nat.le_refl _) ?_
 intro w' hown hg
 exact h _ _ (M.own hown ((Ext.refl' w).grown' hg (fun k hk => by cases hk)))
theorem Mine.results_cell {fn : Func} {s : Tmp} {ty : TypeId} (hr : fn.results = #[.cell s ty]) (M : Mine b w rs) (tmps : Array Value) (i : Nat) {g : Nat} {t : TypeId} {vs : List Value} (hi : rs[i]? = some (.box g t vs.toArray)) (hx : tmps.getD s undef = .pointer (some ⟨g,0,none⟩))
  (d : TypeDesc) (hu : P.underlying ty = some d) (hd : d.isRow = true) (hf : (P.info? ty).map (·.size) = some vs.length) : (results fn tmps).run P w = .ok (.agg vs.toArray) w:=by
 have hrun:=run_loadVar_mid (P:=P) w g 0 ty vs d (fun k v hv => by rw [Nat.zero_add,(M.box_at i hi).cell];simpa using hv) hu hd hf
 have hx' : tmps[s]?.getD undef = .pointer (some ⟨g,0,none⟩):=by simpa using hx
 simp [results,hr,asAddr,hx',hrun]
theorem wpList_load_cellg (hw : Region.wanted o (yielded ops a.tmps) = true) (ty : TypeId) (x : Operand) (ho : o.op = .load ty x) (p : Addr) (hx : a.eval x = .pointer (some p)) (v : Value) (hc : w.cell? p = some v) (d : TypeDesc) (hu : P.underlying ty = some d) (hd : d.isRow = false)
  (h : wpList P ops Q rest (a.put o.dst v) w) : wpList P ops Q (o::rest) a w :=
 BigFrame.wpList_want hw fun _ hK => by
  unfold Oper.wp execOp
  simp only [ho,hx,Instr.loadAt,Instr.sureAddr,Sem.run_bind,Sem.run_pure,Result.andThen_ok,run_loadVar_cell w p ty v d hc hu hd]
  exact hK _ _ h
theorem Mine.wp_getg (M : Mine b w rs) (hw : Region.wanted o (yielded ops a.tmps) = true) (ty : TypeId) (x : Operand) (ho : o.op = .load ty x) (i j : Nat) {g : Nat} {t : TypeId} {cs : Array Value} (hi : rs[i]? = some (.box g t cs)) (hx : a.eval x = .pointer (some ⟨g,j,none⟩)) (v : Value) (hv : cs[j]? = some v)
  (d : TypeDesc) (hu : P.underlying ty = some d) (hd : d.isRow = false) (h : wpList P ops Q rest (a.put o.dst v) w) : wpList P ops Q (o::rest) a w :=
 wpList_load_cellg hw ty x ho _ hx v (((M.box_at i hi).cell j).trans hv) d hu hd h
theorem Mine.wp_getrg (M : Mine b w rs) (hw : Region.wanted o (yielded ops a.tmps) = true) (ty : TypeId) (x : Operand) (ho : o.op = .load ty x) (i j : Nat) {g : Nat} {e : TypeId} {size n c : Nat} {xs : List Value} (hi : rs[i]? = some (.row e size (some ⟨g,0,none⟩) n c xs)) (hx : a.eval x = .pointer (some ⟨g,j,none⟩)) (v : Value) (hv : xs[j]? = some v)
  (d : TypeDesc) (hu : P.underlying ty = some d) (hd : d.isRow = false) (h : wpList P ops Q rest (a.put o.dst v) w) : wpList P ops Q (o::rest) a w :=
 wpList_load_cellg hw ty x ho _ hx v (((M.row_at i hi).cellAt j (by have h1:=(M.row_at i hi).1;have h2:=(List.getElem?_eq_some_iff.1 hv).1;omega)).trans hv) d hu hd h
theorem Mine.nil (M : Mine b w rs) (e : TypeId) (size : Nat) : Mine b w (.row e size none 0 0 []::rs) :=
 ⟨M.ext,fun r hr => by
  rcases List.mem_cons.1 hr with q|q
  ·subst q;exact ⟨by simp,.inl ⟨rfl,rfl⟩⟩
  ·exact M.all r q,List.pairwise_cons.2 ⟨fun r _ g hg => (by cases hg),M.far⟩⟩
end
end Go.Proofs.YtoegjiigaoanbaaGreat
namespace Go.Proofs.YtoegjiigaoanbaaGreat
open Go.RowKit Go.Deep
set_option linter.unnecessarySimpa false
set_option maxHeartbeats 400000000
open Go.Lib (hid)
end Go.Proofs.YtoegjiigaoanbaaGreat
namespace Go.Proofs.YtoegjiigaoanbaaGreat
open Go.RowKit Go.Deep
set_option linter.unnecessarySimpa false
set_option maxHeartbeats 400000000
open Go.Lib (hid)

theorem Bx.range {w : World} {g : Nat} {t : TypeId} {cs : List Value} (h : Bx w g t cs.toArray) : w.rangeAt g 0 cs:=fun j v hv => by
 rw [Nat.zero_add,h.cell]
 simpa using hv
end Go.Proofs.YtoegjiigaoanbaaGreat
namespace Go.Proofs.YtoegjiigaoanbaaGreat
open Go.RowKit Go.Deep
set_option linter.unnecessarySimpa false
set_option maxHeartbeats 400000000
open Go.Lib (hid)
set_option linter.unusedSimpArgs false
set_option linter.unusedVariables false

section
variable {P : Program} {ops : Array Oper} {rest : List Oper} {o : Oper} {a : Act} {Q : Exit → Act → World → Prop} {b w : World} {rs : List Res}
theorem Mine.wp_setall (M : Mine b w rs) (hgd : o.guard = none) (ty : TypeId) (x y : Operand) (ho : o.op = .store ty x y) (hd : o.dst = none) (i : Nat) {g : Nat} {t : TypeId} {cs : Array Value} (hi : rs[i]? = some (.box g t cs))
  (hx : a.eval x = .pointer (some ⟨g,0,none⟩)) (vs : List Value) (hy : a.eval y = .agg vs.toArray) (hl : cs.size = vs.length) (h1 : ∀ u ∈ vs,u.oneCell' = true) (hu : (P.info? ty).map (·.size) = some vs.length)
  (h : ∀ w',Mine b w' (rs.set i (.box g t vs.toArray)) → wpList P ops Q rest a w') : wpList P ops Q (o::rest) a w:=by
 refine wpList_store_row hgd ty x y ho g vs.toArray hx hy t cs (M.box_at i hi) (by simpa using hu) (by simpa using hl) (all_oneCell_toArray h1) ?_
 rw [hd]
 exact h _ (M.setRow i hi vs.toArray)
theorem Mine.wp_getall (M : Mine b w rs) (hgd : o.guard = none) (ty : TypeId) (x : Operand) (ho : o.op = .load ty x) (i : Nat) {g : Nat} {t : TypeId} {cs : Array Value} (hi : rs[i]? = some (.box g t cs)) (hx : a.eval x = .pointer (some ⟨g,0,none⟩))
  (d : TypeDesc) (hu : P.underlying ty = some d) (hd : (match d with|.struct _|.array _ _ => true|_ => false) = true) (hf : (P.info? ty).map (·.size) = some cs.size) (h : wpList P ops Q rest (a.put o.dst (.agg cs)) w) : wpList P ops Q (o::rest) a w :=
 wpList_load_row hgd ty x ho g hx t cs (0,0) d (M.box_at i hi) hu hd hf h
theorem Mine.wp_allocany (M : Mine b w rs) (hgd : o.guard = none) (ty : TypeId) (ho : o.op = .alloc ty) (n : Nat) (hz : (P.info? ty).map (fun i => i.zero.map (fun z => z.cells.size)) = some (some n)) (h : ∀ g w' cs,cs.size = n → Mine b w' (.box g ty cs::rs) → wpList P ops Q rest (a.put o.dst (.pointer (some ⟨g,0,none⟩))) w') : wpList P ops Q (o::rest) a w:=by
 cases hq : P.info? ty with
 | none => rw [hq] at hz;cases hz
 | some i =>
  cases hz2 : i.zero with
  | none => simp [hq,hz2] at hz
  | some z =>
   have hn : z.cells.size = n:=by simpa [hq,hz2] using hz
   exact M.wp_alloc hgd ty ho z (by rw [hq];simp [hz2]) fun g w' M' => h g w' z.cells hn M'
theorem Mine.wp_arg (M : Mine b w rs) (hgd : o.guard = none) (ty : TypeId) (x : Operand) (ho : o.op = .load ty x) (g p : Nat) (hx : a.eval x = .pointer (some ⟨g,p,none⟩)) (row : List Value) (hr : b.rangeAt g p row) (hg : g < b.heap.size)
  (d : TypeDesc) (hu : P.underlying ty = some d) (hd : d.isRow = true) (hf : (P.info? ty).map (·.size) = some row.length) (h : wpList P ops Q rest (a.put o.dst (.agg row.toArray)) w) : wpList P ops Q (o::rest) a w :=
 wpList_load_mid hgd ty x ho g p hx row d (fun j v hv => (M.ext.cell (p:=⟨g,p + j,none⟩) hg).trans (hr j v hv)) hu hd hf h
theorem Mine.wp_argc (M : Mine b w rs) (hgd : o.guard = none) (ty : TypeId) (x : Operand) (ho : o.op = .load ty x) (p : Addr) (v : Value) (hc : b.cell? p = some v ∧ p.block < b.heap.size) (hx : a.eval x = .pointer (some p))
  (d : TypeDesc) (hu : P.underlying ty = some d) (hd : d.isRow = false) (h : wpList P ops Q rest (a.put o.dst v) w) : wpList P ops Q (o::rest) a w :=
 wpList_load_cell hgd ty x ho p hx v ((M.ext.cell hc.2).trans hc.1) d hu hd h
variable {K : Act → Prop}
theorem Mine.rd_argall (ty : TypeId) (x : Operand) (ho : o.op = .load ty x) (g p : Nat) (hx : a.eval x = .pointer (some ⟨g,p,none⟩)) (row : List Value) (hr : b.rangeAt g p row) (hg : g < b.heap.size)
  (d : TypeDesc) (hu : P.underlying ty = some d) (hd : d.isRow = true) (hf : (P.info? ty).map (·.size) = some row.length) (h : K (a.put o.dst (.agg row.toArray))) : Reads P o a (fun w' => Mine b w' rs) K :=
 ⟨.agg row.toArray,fun w' M => by
  have hrun:=run_loadVar_mid (P:=P) w' g p ty row d (fun j v hv => (M.ext.cell (p:=⟨g,p + j,none⟩) hg).trans (hr j v hv)) hu hd hf
  unfold execOp
  simp only [ho,hx,Instr.loadAt,Instr.sureAddr,Sem.run_bind,Sem.run_pure,Result.andThen_ok,hrun],h⟩
theorem Mine.oq_getall (ty : TypeId) (x : Operand) (ho : o.op = .load ty x) (i : Nat) {g : Nat} {t : TypeId} {cs : Array Value} (hi : rs[i]? = some (.box g t cs)) (hx : a.eval x = .pointer (some ⟨g,0,none⟩))
  (d : TypeDesc) (hu : P.underlying ty = some d) (hd : d.isRow = true) (hf : (P.info? ty).map (·.size) = some cs.size) (h : K (a.put o.dst (.agg cs))) : Oper.quiet P o a (fun w' => Mine b w' rs) K :=
 ⟨.agg cs,fun w' M => by
  have hrun:=run_loadVar_mid (P:=P) w' g 0 ty cs.toList d (fun k v hv => by rw [Nat.zero_add,(M.box_at i hi).cell];simpa using hv) hu hd (by simpa using hf)
  unfold Oper.quietAt execOp
  simp only [ho,hx,Instr.loadAt,Instr.sureAddr,Sem.run_bind,Sem.run_pure,Result.andThen_ok,hrun]
  exact ⟨rfl,rfl⟩,h⟩
theorem Mine.oq_argall (ty : TypeId) (x : Operand) (ho : o.op = .load ty x) (g p : Nat) (hx : a.eval x = .pointer (some ⟨g,p,none⟩)) (row : List Value) (hr : b.rangeAt g p row) (hg : g < b.heap.size)
  (d : TypeDesc) (hu : P.underlying ty = some d) (hd : d.isRow = true) (hf : (P.info? ty).map (·.size) = some row.length) (h : K (a.put o.dst (.agg row.toArray))) : Oper.quiet P o a (fun w' => Mine b w' rs) K :=
 ⟨.agg row.toArray,fun w' M => by
  have hrun:=run_loadVar_mid (P:=P) w' g p ty row d (fun j v hv => (M.ext.cell (p:=⟨g,p + j,none⟩) hg).trans (hr j v hv)) hu hd hf
  unfold Oper.quietAt execOp
  simp only [ho,hx,Instr.loadAt,Instr.sureAddr,Sem.run_bind,Sem.run_pure,Result.andThen_ok,hrun]
  exact ⟨rfl,rfl⟩,h⟩
theorem Mine.oq_arg (ty : TypeId) (x : Operand) (ho : o.op = .load ty x) (p : Addr) (v : Value) (hc : b.cell? p = some v ∧ p.block < b.heap.size) (hx : a.eval x = .pointer (some p))
  (d : TypeDesc) (hu : P.underlying ty = some d) (hd : d.isRow = false) (h : K (a.put o.dst v)) : Oper.quiet P o a (fun w' => Mine b w' rs) K :=
 ⟨v,fun w' M => by
  unfold Oper.quietAt execOp
  simp only [ho,hx,Instr.loadAt,Instr.sureAddr,Sem.run_bind,Sem.run_pure,Result.andThen_ok,run_loadVar_cell w' _ ty v d ((M.ext.cell hc.2).trans hc.1) hu hd]
  exact ⟨rfl,rfl⟩,h⟩
end
theorem HQ.takeL {P : Program} {md : Region.Mode} {l : List Oper} {Q : Exit → Act → World → Prop} {S : World → Prop} {n f : Nat} {listed : Array Bool} {a : Act} {w : World} {i : Nat} {oi : Oper} (hi : l[i]? = some oi) (hB : headB md l n = true) (hf : Region.free md l.toArray listed i = true) (hr : (Region.ready md l.toArray listed).contains i = true) (hin : i < n) (hg : oi.guard = none)
  (hQ : ∀ v c a w,Q (.panic c) (a.put oi.dst v) w → Q (.panic c) a w) (h : ∀ K : Act → Prop,(∀ a',HQ P md l Q S n f (listed.setIfInBounds i true) a' w → K a') → Reads P oi a S K) : HQ P md l Q S n (f + 1) listed a w :=
 HQ.take (by simpa using hi) hB hf hr hin hg hQ h
end Go.Proofs.YtoegjiigaoanbaaGreat
namespace Go.Proofs.YtoegjiigaoanbaaGreat
open Go Go.RowKit Go.Deep
open Go.Lib (hid)
set_option linter.unusedSimpArgs false
set_option linter.unusedVariables false

section
variable {P : Program} {ops : Array Oper} {md : Region.Mode} {Q : Exit → Act → World → Prop} {S : World → Prop} {n : Nat} {L : Array Bool → Act → World → Prop}
theorem wpHead_firstA {i : Nat} {oi : Oper} {v : Value} (hi : ops[i]? = some oi) (hsel : ∀ (j : Nat) (o : Oper) cs b,ops[j]? = some o → o.op ≠ .select cs b)
  (hn : ops.size ≤ n)
  (hdone : ∀ listed a w,L listed a w → ∀ j ∈ Region.ready md ops listed,n ≤ j) (hQ : ∀ c a w,Q (.panic c) (a.put oi.dst v) w → Q (.panic c) a w) :
  ∀ (f : Nat) (listed : Array Bool) (a : Act) (w : World),True →
   (∀ j oj,ops[j]? = some oj → j ≠ i → listed.getD j true = false → (∀ e ∈ oj.after,Region.binds md e = true → e.on ≠ i) → oi.apart ops oj = true) →
   i ∈ Region.ready md ops listed → YieldsIf P ops S oi v a → S w →
   wpHead P md ops Q S n L f (listed.setIfInBounds i true) (a.put oi.dst v) w → wpHead P md ops Q S n L (f + 1) listed a w:=by
 intro f
 induction f with
 | zero =>
  intro listed a w inv _ hr hy hS H
  have hun:=(mem_ready.1 hr).1
  refine ⟨fun h => (by rw [h] at hr;cases hr),fun j hj => ?_⟩
  have hjn : j < n:=by
   obtain ⟨_,oj0,hoj0,_⟩:=mem_ready.1 hj
   have:=(Array.getElem?_eq_some_iff.1 hoj0).1
   omega
  refine ⟨hjn,?_⟩
  by_cases hji : j = i
  ·subst hji;exact hy.wpOp hi hS ⟨hS,H⟩
  ·have:=hdone _ _ _ H j (ready_mono hj hji)
   omega
 | succ f ih =>
  intro listed a w inv hfree hr hy hS H
  have hun:=(mem_ready.1 hr).1
  refine ⟨fun h => (by rw [h] at hr;cases hr),fun j hj => ?_⟩
  have hjn : j < n:=by
   obtain ⟨_,oj0,hoj0,_⟩:=mem_ready.1 hj
   have:=(Array.getElem?_eq_some_iff.1 hoj0).1
   omega
  refine ⟨hjn,?_⟩
  by_cases hji : j = i
  ·subst hji;exact hy.wpOp hi hS ⟨hS,H⟩
  ·have h1:=(H.2 j (ready_mono hj hji)).2
   obtain ⟨hjun,oj,hoj,hall⟩:=mem_ready.1 hj
   have hnot : ∀ e ∈ oj.after,Region.binds md e = true → e.on ≠ i:=fun e he hb heq => by
    have h1:=hall e he hb
    rw [heq,getD_both hun] at h1
    cases h1
   have h2:=wpOp_putIf hoj (hfree j oj hoj hji hjun hnot) (fun cs b => hsel i oi cs b hi) (fun cs b => hsel j oj cs b hoj) hQ hy h1
   have hfree' : ∀ k ok,ops[k]? = some ok → k ≠ i → (listed.setIfInBounds j true).getD k true = false →
     (∀ e ∈ ok.after,Region.binds md e = true → e.on ≠ i) → oi.apart ops ok = true:=fun k ok hk hki hun hno => by
    refine hfree k ok hk hki ?_ hno
    by_cases hjk : j = k
    ·subst hjk;exact hjun
    ·rw [getD_set_ne true hjk] at hun;exact hun
   refine wpOp_mono (fun a' w' h3 => ⟨h3.2.1,ih (listed.setIfInBounds j true) a' w' trivial hfree' (ready_mono hr (Ne.symm hji)) h3.1 h3.2.1 ?_⟩) h2
   rw [Array.setIfInBounds_comm _ _ hji]
   exact h3.2.2
def allL (P : Program) (Q : Exit → Act → World → Prop) (md : Region.Mode) (l : List Oper) (listed : Array Bool) (a : Act) (w : World) : Prop:=Region.ready md l.toArray listed = [] ∧ Q .normal a w
def HA (P : Program) (md : Region.Mode) (l : List Oper) (Q : Exit → Act → World → Prop) (S : World → Prop) (f : Nat) (listed : Array Bool) (a : Act) (w : World) : Prop :=
 S w → wpHead P md l.toArray Q S l.toArray.size (allL P Q md l) f listed a w
variable {l : List Oper} {f : Nat} {listed : Array Bool} {a : Act} {w : World}
theorem HA.take {i : Nat} {oi : Oper} (hi : l[i]? = some oi) (hB : Region.noSelect l.toArray = true) (hf : Region.free md l.toArray listed i = true) (hr : (Region.ready md l.toArray listed).contains i = true) (hin : i < l.length) (hg : oi.guard = none)
  (hQ : ∀ v c a w,Q (.panic c) (a.put oi.dst v) w → Q (.panic c) a w) (h : ∀ K : Act → Prop,(∀ a',HA P md l Q S f (listed.setIfInBounds i true) a' w → K a') → Reads P oi a S K) : HA P md l Q S (f + 1) listed a w:=by
 intro hS
 have hi' : l.toArray[i]? = some oi:=by simpa using hi
 obtain ⟨v,hv,hK⟩:=h (fun a' => HA P md l Q S f (listed.setIfInBounds i true) a' w) fun _ h => h
 have hr' : i ∈ Region.ready md l.toArray listed:=by simpa using hr
 exact wpHead_firstA hi' (Region.noSelect_spec hB) (Nat.le_refl _) (fun listed' a' w' hL j hj => by rw [hL.1] at hj;cases hj) (fun c a w => hQ v c a w) f listed a w trivial (Region.free_spec hi' hf) hr' (.inl ⟨wanted_none hg _,hv⟩) hS (hK hS)
def AllA (P : Program) (md : Region.Mode) (l : List Oper) (Q : Exit → Act → World → Prop) (S : World → Prop) (f : Nat) (listed : Array Bool) (a : Act) (w : World) (rs : List Nat) : Prop :=
 ∀ i ∈ rs,i < l.toArray.size ∧ wpOp P l.toArray Q i (fun a' w' => S w' ∧ HA P md l Q S f (listed.setIfInBounds i true) a' w') a w
theorem AllA.nil : AllA P md l Q S f listed a w []:=fun _ h => by cases h
theorem AllA.cons {i : Nat} {o : Oper} {rs : List Nat} (ho : l.toArray[i]? = some o) (hin : i < l.length)
  (h : ∀ K' : Act → World → Prop,Shut (∀ a w,S w → HA P md l Q S f (listed.setIfInBounds i true) a w → K' a w) → if Region.wanted o (yielded l.toArray a.tmps) = true then Oper.wp P o a w K' Q else K' (a.put o.dst undef) w)
  (hs : AllA P md l Q S f listed a w rs) : AllA P md l Q S f listed a w (i::rs):=fun j hj => by
 rcases List.mem_cons.1 hj with rfl|hj
 ·exact ⟨by simpa using hin,wpOp_step ho (fun K' hK => h K' (fun a w hS hW => hK a w ⟨hS,hW⟩))⟩
 ·exact hs j hj
theorem HA.noisy {rs : List Nat} (hr : Region.ready md l.toArray listed = rs) (hne : rs ≠ []) (h : AllA P md l Q S f listed a w rs) : HA P md l Q S (f + 1) listed a w:=by
 intro hS
 refine ⟨fun h0 => hne (hr ▸ h0),fun i hi => ?_⟩
 rw [hr] at hi
 have h1:=h i hi
 exact ⟨h1.1,wpOp_mono (fun a' w' h2 => ⟨h2.1,h2.2 h2.1⟩) h1.2⟩
theorem HA.end_ (hB : Region.ready md l.toArray listed = []) (h : Q .normal a w) : HA P md l Q S 0 listed a w:=fun _ => ⟨hB,h⟩
end
end Go.Proofs.YtoegjiigaoanbaaGreat
namespace Go.Proofs.YtoegjiigaoanbaaGreat
open Go.RowKit Go.Deep
set_option linter.unnecessarySimpa false
set_option maxHeartbeats 400000000
open Go.Lib (hid)
set_option linter.unusedSimpArgs false
set_option linter.unusedVariables false

theorem ints_set (l : List Int) (k : Nat) (v : Int) : (ints l).set k (.int .i64 v) = ints (l.set k v):=by simp [ints,List.map_set]
theorem ints_push (l : List Int) (v : Int) : ints l ++ [.int .i64 v] = ints (l ++ [v]):=by simp [ints]
theorem flat_ext {α : Type} {cells : α → List Value} {size : Nat} (hc : ∀ a,(cells a).length = size) (hp : 0 < size) {l : List α} {xs : List Value} (hl : xs.length = l.length * size) (h : ∀ k f a,l[k]? = some a → f < size → xs[k * size + f]? = (cells a)[f]?) : xs = l.flatMap cells:=by
 apply List.ext_getElem?
 intro i
 by_cases hi : i < l.length * size
 ·have hq : i / size < l.length:=(Nat.div_lt_iff_lt_mul hp).2 hi
  have hr : i % size < size:=Nat.mod_lt _ hp
  have hd : i / size * size + i % size = i:=by rw [Nat.mul_comm];exact Nat.div_add_mod _ _
  have h1:=h (i / size) (i % size) _ (List.getElem?_eq_getElem hq) hr
  have h2:=flat_get (cells:=cells) hc l (i / size) (i % size) _ (List.getElem?_eq_getElem hq) hr
  rw [hd] at h1 h2
  rw [h1,h2]
 ·rw [List.getElem?_eq_none (by omega),List.getElem?_eq_none (by rw [flat_length hc];omega)]
theorem Mine.tail {b w : World} {r : Res} {fr : List Res} (M : Mine b w (r::fr)) : Mine b w fr:=M.sub (List.Sublist.cons _ (List.Sublist.refl _))

theorem made_flat {α : Type} {cells : α → List Value} {size : Nat} (hc : ∀ a,(cells a).length = size) (hp : 0 < size) {z : Value} {a : α} (hz : z.cells.toList = cells a) (n : Nat) : (madeCells z.cells (n * size)).toList = (List.replicate n a).flatMap cells:=by
 have hzs : z.cells.size = size:=by rw [← hc a,← hz];simp
 apply flat_ext hc hp (by simp [madeCells])
 intro k f b hb hf
 have e : b = a:=by rw [List.getElem?_replicate] at hb;split at hb <;> simp_all
 subst e
 have hk : k < n:=by rw [List.getElem?_replicate] at hb;split at hb <;> simp_all
 have hlt : k * size + f < n * size:=by
  have : (k + 1) * size ≤ n * size:=Nat.mul_le_mul_right _ hk
  rw [Nat.succ_mul] at this
  omega
 have hm : (k * size + f) % size = f:=by rw [Nat.mul_comm,Nat.mul_add_mod,Nat.mod_eq_of_lt hf]
 simp only [madeCells,Array.toList_map,Array.toList_range,List.getElem?_map,List.getElem?_range hlt,Option.map_some,hzs,hm,← hz]
 rw [getElem!_pos z.cells f (by omega),List.getElem?_eq_getElem (by simp;omega)]
 simp
end Go.Proofs.YtoegjiigaoanbaaGreat
namespace Go.Proofs.YtoegjiigaoanbaaGreat
open Go.RowKit Go.Deep
set_option linter.unnecessarySimpa false
set_option maxHeartbeats 400000000
open Go.Lib (hid)

theorem put_some (a : Act) (d : Tmp) (v : Value) : a.put (some d) v = { a with tmps:=a.tmps.setIfInBounds d v }:=rfl
theorem put_none (a : Act) (v : Value) : a.put none v = a:=rfl
theorem putAt_nil (cs : List Value) (p : Nat) : putAt cs p [] = cs:=rfl
theorem putAt_cons (cs : List Value) (p : Nat) (v : Value) (r : List Value) : putAt cs p (v::r) = putAt (cs.set p v) (p + 1) r:=rfl
theorem zs_ : (type_of% put_some) ∧ (type_of% put_none):=⟨put_some,put_none⟩
theorem zr_ : (type_of% put_some) ∧ (type_of% put_none) ∧ (type_of% putAt_nil) ∧ (type_of% putAt_cons) ∧ (type_of% ints_set) ∧ (type_of% ints_push):=⟨put_some,put_none,putAt_nil,putAt_cons,ints_set,ints_push⟩
theorem zl_.{u} : (type_of% @List.setIfInBounds_toArray.{u}) ∧ (type_of% @List.set_cons_zero.{u}) ∧ (type_of% @List.set_cons_succ.{u}):=⟨@List.setIfInBounds_toArray,@List.set_cons_zero,@List.set_cons_succ⟩
theorem zm_.{u} : (type_of% @List.setIfInBounds_toArray.{u}) ∧ (type_of% @List.set_cons_zero.{u}) ∧ (type_of% @List.set_cons_succ.{u}) ∧ (type_of% @List.drop_succ_cons.{u}) ∧ (type_of% @List.drop_zero.{u}) ∧ (type_of% @List.take_succ_cons.{u}) ∧ (type_of% @List.take_zero.{u}) ∧ (type_of% @List.getElem_toArray.{u}) ∧ (type_of% @List.getElem_cons_zero.{u}) ∧ (type_of% @List.getElem_cons_succ.{u}) :=
 ⟨@List.setIfInBounds_toArray,@List.set_cons_zero,@List.set_cons_succ,@List.drop_succ_cons,@List.drop_zero,@List.take_succ_cons,@List.take_zero,@List.getElem_toArray,@List.getElem_cons_zero,@List.getElem_cons_succ⟩
end Go.Proofs.YtoegjiigaoanbaaGreat
namespace Go.Proofs.YtoegjiigaoanbaaGreat
open Go Go.RowKit Go.Deep
open Go.Lib (hid)
set_option linter.unusedSimpArgs false
set_option linter.unusedVariables false

theorem zG {ops : Array Oper} {rest : List Oper} {o : Oper} {a : Act} {Q : Exit → Act → World → Prop} {b w : World} {rs : List Res} {ty : TypeId} {x : Operand} {j : Nat} {g : Nat} {t : TypeId} {cs : Array Value} {d : TypeDesc} {v : Value} (M : Mine b w rs) (i : Nat) (h : wpList Tryz.prog ops Q rest (a.put o.dst (v)) w) (hgd : o.guard = none:=by rfl) (ho : o.op = .load ty x:=by rfl) (hi : rs[i]? = some (.box g t cs):=by rfl) (hx : a.eval x = .pointer (some ⟨g,j,none⟩):=by rfl) (hv : cs[j]? = some v:=by rfl) (hu : Tryz.prog.underlying ty = some d:=by first|exact Tryz.underlying3|exact Tryz.underlying4|exact Tryz.underlying22|exact Tryz.underlying250|exact Tryz.underlying81|exact Tryz.underlying82|exact Tryz.underlying45|exact Tryz.underlying55|exact Tryz.underlying41|exact Tryz.underlying80|exact Tryz.underlying50|exact Tryz.underlying46|exact Tryz.underlying283|exact Tryz.underlying266) (hd : d.isRow = false:=by rfl) : wpList Tryz.prog ops Q (o::rest) a w :=
 Mine.wp_get M hgd ty x ho i j hi hx v hv d hu hd h
theorem zGs {ops : Array Oper} {rest : List Oper} {o : Oper} {a : Act} {Q : Exit → Act → World → Prop} {b w : World} {rs : List Res} {x : Operand} {j : Nat} {g : Nat} {t : TypeId} {cs : List Value} {d : TypeDesc} (M : Mine b w rs) (ty : TypeId) (i m : Nat) (h : wpList Tryz.prog ops Q rest (a.put o.dst (.agg ((cs.drop j).take m).toArray)) w) (hgd : o.guard = none:=by rfl) (ho : o.op = .load ty x:=by rfl) (hi : rs[i]? = some (.box g t cs.toArray):=by rfl) (hx : a.eval x = .pointer (some ⟨g,j,none⟩):=by rfl) (hm : j + m ≤ cs.length:=by exact Nat.le_of_ble_eq_true rfl) (hu : Tryz.prog.underlying ty = some d:=by first|exact Tryz.underlying237|exact Tryz.underlying42|exact Tryz.underlying111|exact Tryz.underlying209|exact Tryz.underlying84|exact Tryz.underlying48|exact Tryz.underlying58|exact Tryz.underlying52|exact Tryz.underlying53|exact Tryz.underlying285|exact Tryz.underlying268|exact Tryz.underlying99|exact Tryz.underlying193) (hd : d.isRow = true:=by rfl) (hf : (Tryz.prog.info? ty).map (·.size) = some m:=by kernel_rfl) : wpList Tryz.prog ops Q (o::rest) a w :=
 Mine.wp_gets M hgd ty x ho i j m hi hx hm d hu hd hf h
theorem zGg {ops : Array Oper} {rest : List Oper} {o : Oper} {a : Act} {Q : Exit → Act → World → Prop} {b w : World} {rs : List Res} {ty : TypeId} {x : Operand} {j : Nat} {g : Nat} {t : TypeId} {cs : Array Value} {d : TypeDesc} {v : Value} (M : Mine b w rs) (i : Nat) (h : wpList Tryz.prog ops Q rest (a.put o.dst (v)) w) (hgd : Region.wanted o (yielded ops a.tmps) = true:=by rfl) (ho : o.op = .load ty x:=by rfl) (hi : rs[i]? = some (.box g t cs):=by rfl) (hx : a.eval x = .pointer (some ⟨g,j,none⟩):=by rfl) (hv : cs[j]? = some v:=by rfl) (hu : Tryz.prog.underlying ty = some d:=by first|exact Tryz.underlying3|exact Tryz.underlying4|exact Tryz.underlying22|exact Tryz.underlying250|exact Tryz.underlying81|exact Tryz.underlying82|exact Tryz.underlying45|exact Tryz.underlying55|exact Tryz.underlying41|exact Tryz.underlying80|exact Tryz.underlying50|exact Tryz.underlying46|exact Tryz.underlying283|exact Tryz.underlying266) (hd : d.isRow = false:=by rfl) : wpList Tryz.prog ops Q (o::rest) a w :=
 Mine.wp_getg M hgd ty x ho i j hi hx v hv d hu hd h
theorem zQ {o : Oper} {a : Act} {b : World} {rs : List Res} {K : Act → Prop} {ty : TypeId} {x : Operand} {j : Nat} {g : Nat} {t : TypeId} {cs : Array Value} {d : TypeDesc} {v : Value} (i : Nat) (h : K (a.put o.dst (v)))  (ho : o.op = .load ty x:=by rfl) (hi : rs[i]? = some (.box g t cs):=by rfl) (hx : a.eval x = .pointer (some ⟨g,j,none⟩):=by rfl) (hv : cs[j]? = some v:=by rfl) (hu : Tryz.prog.underlying ty = some d:=by first|exact Tryz.underlying3|exact Tryz.underlying4|exact Tryz.underlying22|exact Tryz.underlying250|exact Tryz.underlying81|exact Tryz.underlying82|exact Tryz.underlying45|exact Tryz.underlying55|exact Tryz.underlying41|exact Tryz.underlying80|exact Tryz.underlying50|exact Tryz.underlying46|exact Tryz.underlying283|exact Tryz.underlying266) (hd : d.isRow = false:=by rfl) : Oper.quiet Tryz.prog o a (fun w' => Mine b w' rs) K :=
 Mine.oq_get ty x ho i j hi hx v hv d hu hd h
theorem zD {o : Oper} {a : Act} {b : World} {rs : List Res} {K : Act → Prop} {ty : TypeId} {x : Operand} {j : Nat} {g : Nat} {t : TypeId} {cs : Array Value} {d : TypeDesc} {v : Value} (i : Nat) (h : K (a.put o.dst (v)))  (ho : o.op = .load ty x:=by rfl) (hi : rs[i]? = some (.box g t cs):=by rfl) (hx : a.eval x = .pointer (some ⟨g,j,none⟩):=by rfl) (hv : cs[j]? = some v:=by rfl) (hu : Tryz.prog.underlying ty = some d:=by first|exact Tryz.underlying3|exact Tryz.underlying4|exact Tryz.underlying22|exact Tryz.underlying250|exact Tryz.underlying81|exact Tryz.underlying82|exact Tryz.underlying45|exact Tryz.underlying55|exact Tryz.underlying41|exact Tryz.underlying80|exact Tryz.underlying50|exact Tryz.underlying46|exact Tryz.underlying283|exact Tryz.underlying266) (hd : d.isRow = false:=by rfl) : Reads Tryz.prog o a (fun w' => Mine b w' rs) K :=
 Mine.rd_get ty x ho i j hi hx v hv d hu hd h
theorem zDs {o : Oper} {a : Act} {b : World} {rs : List Res} {K : Act → Prop} {x : Operand} {j : Nat} {g : Nat} {t : TypeId} {cs : List Value} {d : TypeDesc} (ty : TypeId) (i m : Nat) (h : K (a.put o.dst (.agg ((cs.drop j).take m).toArray)))  (ho : o.op = .load ty x:=by rfl) (hi : rs[i]? = some (.box g t cs.toArray):=by rfl) (hx : a.eval x = .pointer (some ⟨g,j,none⟩):=by rfl) (hm : j + m ≤ cs.length:=by exact Nat.le_of_ble_eq_true rfl) (hu : Tryz.prog.underlying ty = some d:=by first|exact Tryz.underlying237|exact Tryz.underlying42|exact Tryz.underlying111|exact Tryz.underlying209|exact Tryz.underlying84|exact Tryz.underlying48|exact Tryz.underlying58|exact Tryz.underlying52|exact Tryz.underlying53|exact Tryz.underlying285|exact Tryz.underlying268|exact Tryz.underlying99|exact Tryz.underlying193) (hd : d.isRow = true:=by rfl) (hf : (Tryz.prog.info? ty).map (·.size) = some m:=by kernel_rfl) : Reads Tryz.prog o a (fun w' => Mine b w' rs) K :=
 Mine.rd_gets ty x ho i j m hi hx hm d hu hd hf h
theorem zS {ops : Array Oper} {rest : List Oper} {o : Oper} {a : Act} {Q : Exit → Act → World → Prop} {b w : World} {rs : List Res} {ty : TypeId} {x y : Operand} {j : Nat} {g : Nat} {t : TypeId} {cs : Array Value} {u : Value} (M : Mine b w rs) (i : Nat) (h : ∀ w',Mine b w' (rs.set i (.box g t (cs.setIfInBounds j u))) → wpList Tryz.prog ops Q rest a w') (hgd : o.guard = none:=by rfl) (ho : o.op = .store ty x y:=by rfl) (hd : o.dst = none:=by rfl) (hi : rs[i]? = some (.box g t cs):=by rfl) (hx : a.eval x = .pointer (some ⟨g,j,none⟩):=by rfl) (hy : a.eval y = u:=by (conv => lhs;whnf) <;> rfl) (hj : j < cs.size:=by exact Nat.le_of_ble_eq_true rfl) (h1 : u.oneCell' = true:=by rfl) (hu : (Tryz.prog.info? ty).map (·.size) = some 1:=by kernel_rfl) : wpList Tryz.prog ops Q (o::rest) a w :=
 Mine.wp_set M hgd ty x y ho hd i j hi hx u hy hj h1 hu h
theorem zSs {ops : Array Oper} {rest : List Oper} {o : Oper} {a : Act} {Q : Exit → Act → World → Prop} {b w : World} {rs : List Res} {x y : Operand} {j : Nat} {g : Nat} {t : TypeId} {cs : List Value} {vs : List Value} (M : Mine b w rs) (ty : TypeId) (i : Nat) (h : ∀ w',Mine b w' (rs.set i (.box g t (putAt cs j vs).toArray)) → wpList Tryz.prog ops Q rest a w') (hgd : o.guard = none:=by rfl) (ho : o.op = .store ty x y:=by rfl) (hd : o.dst = none:=by rfl) (hi : rs[i]? = some (.box g t cs.toArray):=by rfl) (hx : a.eval x = .pointer (some ⟨g,j,none⟩):=by rfl) (hy : a.eval y = .agg vs.toArray:=by rfl) (hj : j + vs.length ≤ cs.length:=by exact Nat.le_of_ble_eq_true rfl) (h1 : ∀ u ∈ vs,u.oneCell' = true:=by simp [Value.oneCell']) (hu : (Tryz.prog.info? ty).map (·.size) = some vs.length:=by kernel_rfl) : wpList Tryz.prog ops Q (o::rest) a w :=
 Mine.wp_sets M hgd ty x y ho hd i j hi hx vs hy hj h1 hu h
theorem zX {P : Program} {o : Oper} {a : Act} {S : World → Prop} {K : Act → Prop} {v : Value} (k : K (a.put o.dst v)) (h : ∀ wq,S wq → (execOp a.eval o).run P wq = .ok (.value v) wq:=by (intro wq hq;clear hq;go_simp;first|done|rfl)) : Reads P o a S K:=⟨v,h,k⟩
section
variable {P : Program} {md : Region.Mode} {l : List Oper} {Q : Exit → Act → World → Prop} {S : World → Prop} {n f : Nat} {listed : Array Bool} {a : Act} {w : World} {oi : Oper}
theorem zT (i : Nat) (h : ∀ K : Act → Prop,(∀ a',HQ P md l Q S n f (listed.setIfInBounds i true) a' w → K a') → Reads P oi a S K) (hi : l.toArray[i]? = some oi:=by rfl) (hB : headB md l n = true:=by kernel_rfl) (hf : Region.free md l.toArray listed i = true:=by kernel_rfl) (hr : (Region.ready md l.toArray listed).contains i = true:=by kernel_rfl) (hin : i < n:=by exact Nat.le_of_ble_eq_true rfl) (hg : oi.guard = none:=by rfl) (hQ : ∀ v c a w,Q (.panic c) (a.put oi.dst v) w → Q (.panic c) a w:=by exact fun _ _ _ _ h => h) : HQ P md l Q S n (f + 1) listed a w:=HQ.take hi hB hf hr hin hg hQ h
theorem zTL (i : Nat) (h : ∀ K : Act → Prop,(∀ a',HQ P md l Q S n f (listed.setIfInBounds i true) a' w → K a') → Reads P oi a S K) (hi : l[i]? = some oi:=by rfl) (hB : headB md l n = true:=by kernel_rfl) (hf : Region.free md l.toArray listed i = true:=by kernel_rfl) (hr : (Region.ready md l.toArray listed).contains i = true:=by kernel_rfl) (hin : i < n:=by exact Nat.le_of_ble_eq_true rfl) (hg : oi.guard = none:=by rfl) (hQ : ∀ v c a w,Q (.panic c) (a.put oi.dst v) w → Q (.panic c) a w:=by exact fun _ _ _ _ h => h) : HQ P md l Q S n (f + 1) listed a w:=HQ.take (by simpa using hi) hB hf hr hin hg hQ h
theorem zXT (i : Nat) {v : Value} (h : HQ P md l Q S n f (listed.setIfInBounds i true) (a.put oi.dst v) w) (hi : l.toArray[i]? = some oi:=by rfl) (hB : headB md l n = true:=by kernel_rfl) (hf : Region.free md l.toArray listed i = true:=by kernel_rfl) (hr : (Region.ready md l.toArray listed).contains i = true:=by kernel_rfl) (hin : i < n:=by exact Nat.le_of_ble_eq_true rfl) (hg : oi.guard = none:=by rfl) (hQ : ∀ v c a w,Q (.panic c) (a.put oi.dst v) w → Q (.panic c) a w:=by exact fun _ _ _ _ h => h) (hv : ∀ wq,S wq → (execOp a.eval oi).run P wq = .ok (.value v) wq:=by (intro wq hq;clear hq;go_simp;first|done|rfl)) : HQ P md l Q S n (f + 1) listed a w:=HQ.take hi hB hf hr hin hg hQ fun K hK => ⟨v,hv,hK _ h⟩
theorem zXL (i : Nat) {v : Value} (h : HQ P md l Q S n f (listed.setIfInBounds i true) (a.put oi.dst v) w) (hi : l[i]? = some oi:=by rfl) (hB : headB md l n = true:=by kernel_rfl) (hf : Region.free md l.toArray listed i = true:=by kernel_rfl) (hr : (Region.ready md l.toArray listed).contains i = true:=by kernel_rfl) (hin : i < n:=by exact Nat.le_of_ble_eq_true rfl) (hg : oi.guard = none:=by rfl) (hQ : ∀ v c a w,Q (.panic c) (a.put oi.dst v) w → Q (.panic c) a w:=by exact fun _ _ _ _ h => h) (hv : ∀ wq,S wq → (execOp a.eval oi).run P wq = .ok (.value v) wq:=by (intro wq hq;clear hq;go_simp;first|done|rfl)) : HQ P md l Q S n (f + 1) listed a w:=HQ.take (by simpa using hi) hB hf hr hin hg hQ fun K hK => ⟨v,hv,hK _ h⟩
theorem zXA (i : Nat) {v : Value} (h : HA P md l Q S f (listed.setIfInBounds i true) (a.put oi.dst v) w) (hi : l[i]? = some oi:=by rfl) (hB : Region.noSelect l.toArray = true:=by kernel_rfl) (hf : Region.free md l.toArray listed i = true:=by kernel_rfl) (hr : (Region.ready md l.toArray listed).contains i = true:=by kernel_rfl) (hin : i < l.length:=by exact Nat.le_of_ble_eq_true rfl) (hg : oi.guard = none:=by rfl) (hQ : ∀ v c a w,Q (.panic c) (a.put oi.dst v) w → Q (.panic c) a w:=by exact fun _ _ _ _ h => h) (hv : ∀ wq,S wq → (execOp a.eval oi).run P wq = .ok (.value v) wq:=by (intro wq hq;clear hq;go_simp;first|done|rfl)) : HA P md l Q S (f + 1) listed a w:=HA.take hi hB hf hr hin hg hQ fun K hK => ⟨v,hv,hK _ h⟩
section
variable {α : Type} {l l' : List α} {a : α}
theorem sk_ (h : l.Sublist l') : (a::l).Sublist (a::l'):=h.cons_cons a
theorem sd_ (h : l.Sublist l') : l.Sublist (a::l'):=h.cons a
theorem s0_ : [].Sublist l:=List.nil_sublist _
theorem s1_ : l.Sublist l:=List.Sublist.refl _
end
end
theorem zC {P : Program} {f : FuncId} {args : Array Value} {b w : World} {rs : List Res} {v : Value} {R : Ending → World → Prop} (M : Hid (Mine b w rs)) (h : Calls P f args w fun e w' => e = .returned v ∧ Ext w w') (k : ∀ w',Hid (Mine b w' rs) → R (.returned v) w') : Calls P f args w R :=
 h.mono fun e w' ⟨he,x⟩ => by subst he;exact k w' (hid (M.out.on x))
theorem zRQ {b w : World} {rs : List Res} {a : Act} {id : Nat} {Q : Exit → Act → World → Prop} {l : List Oper} (M : Mine b w rs) (h : wpQuiet Tryz.prog l.toArray (fun w' => Mine b w' rs) (fun a' => ∀ w',Mine b w' rs → Q .normal a' w') l a) (hm : Tryz.prog.follows .mixedOrders = true:=by kernel_rfl) (hB : Region.lexB .any l.toArray = true:=by kernel_rfl) : (Code.region id l.toArray true).wp Tryz.prog Q a w:=Mine.region_quiet M hm hB h
theorem zRH {b w : World} {rs : List Res} {a : Act} {Q : Exit → Act → World → Prop} {l : List Oper} {id : Nat} (M : Mine b w rs) (n : Nat) (h : ∀ w',Mine b w' rs → HQ Tryz.prog .any l Q (fun w' => Mine b w' rs) n n (Array.replicate l.toArray.size false) a w') (hm : Tryz.prog.follows .mixedOrders = true:=by kernel_rfl) (hB : headB .any l n = true:=by kernel_rfl) : (Code.region id l.toArray true).wp Tryz.prog Q a w:=Mine.region_head M n hm hB h
section
variable {P : Program} {md : Region.Mode} {l : List Oper} {Q : Exit → Act → World → Prop} {S : World → Prop} {n f : Nat} {listed : Array Bool} {a : Act} {w : World}
theorem zNy (i : Nat) {o : Oper} (h : ∀ K' : Act → World → Prop,Shut (∀ a w,S w → HQ P md l Q S n f (listed.setIfInBounds i true) a w → K' a w) → if Region.wanted o (yielded l.toArray a.tmps) = true then Oper.wp P o a w K' Q else K' (a.put o.dst undef) w) (hr : Region.ready md l.toArray listed = [i]:=by kernel_rfl) (ho : l.toArray[i]? = some o:=by rfl) (hin : i < n:=by exact Nat.le_of_ble_eq_true rfl) : HQ P md l Q S n (f + 1) listed a w:=HQ.noisy hr (by simp) (AllG.cons ho hin h AllG.nil)
end
end Go.Proofs.YtoegjiigaoanbaaGreat
namespace Go.Proofs.YtoegjiigaoanbaaGreat
open Go.RowKit
set_option linter.unnecessarySimpa false
set_option maxHeartbeats 400000000
open Go.Lib (hid)

section
variable {P : Program} (w : World)
theorem run_pour_nil (base : Nat) (t ty e : TypeId) (i : TypeInfo) (size : Nat) (ht : P.underlying t = some (.slice e)) (hi : P.info? e = some i)
  (v : Value) (n : Nat) (xs : List Value) (hown : w.ownsRow base e size v n xs) (c : Nat) : (Builtin.append_ #[t,t] ty #[v,.slice none 0 c]).run P w = .ok v w:=by
 rcases hown.2 with ⟨rfl,rfl⟩|⟨g,cap,cur,rfl,_,_,hnc,_⟩
 ·simp [Builtin.append_,run_underlying ht,sizeOf,typeInfo,hi,Builtin.lenOf,Builtin.firstCells]
 ·simp [Builtin.append_,run_underlying ht,sizeOf,typeInfo,hi,Builtin.lenOf,Builtin.firstCells,hnc,storeCells]

theorem run_pour (base : Nat) (t ty e : TypeId) (i : TypeInfo) (z : Value) (size bytes : Nat) (ht : P.underlying t = some (.slice e)) (hi : P.info? e = some i) (hz : i.zero = some z)
  (hsize : i.size = size) (hby : i.bytes = bytes) (hzs : z.cells.size = size) (hsz : 0 < size)
  (v : Value) (n : Nat) (xs : List Value) (hown : w.ownsRow base e size v n xs)
  (S : Nat → Prop) (A : Option Addr) (m c : Nat) (news : List Value) (hr : Sl w S size A m news) (h1 : ∀ u ∈ news,u.oneCell' = true)
  (h63 : n + m ≤ maxLen) (hbytes : (n + m) * bytes ≤ 140737488355328) (hbase : base ≤ w.heap.size) :
  ∃ v' w',(Builtin.append_ #[t,t] ty #[v,.slice A m c]).run P w = .ok v' w' ∧ w'.ownsRow base e size v' (n + m) (xs ++ news) ∧ w.grownBy w' v.ownBlock ∧
   (v'.ownBlock = v.ownBlock ∨ v'.ownBlock = some w.heap.size):=by
 rcases A with _|ad
 ·have hm : m = 0:=by
   rcases Nat.eq_zero_or_pos m with h0|h0
   ·exact h0
   ·obtain ⟨b,o,h,_⟩:=hr.2 h0
    cases h
  subst hm
  have hn : news = []:=List.eq_nil_of_length_eq_zero (by simpa using hr.1)
  subst hn
  exact ⟨v,w,run_pour_nil w base t ty e i size ht hi v n xs hown c,by simpa using hown,World.grownBy.refl w _,.inl rfl⟩
 ·have hcells : ∀ j u,news[j]? = some u → w.cell? (ad.add j) = some u:=by
   intro j u hu
   rcases Nat.eq_zero_or_pos m with h0|h0
   ·subst h0
    have hn : news = []:=List.eq_nil_of_length_eq_zero (by simpa using hr.1)
    subst hn
    simp at hu
   ·obtain ⟨b,o,h,_,_,hc⟩:=hr.2 h0
    injection h with h
    subst h
    have hj : j < m * size:=by rw [← hr.1];exact (List.getElem?_eq_some_iff.1 hu).1
    have hadd : (⟨b,o,none⟩ : Addr).add j = ⟨b,o + j,none⟩:=by unfold Addr.add;split <;> simp_all
    rw [hadd,hc j hj,hu]
  obtain ⟨v',w',hrun,h2,h3,_,h5⟩:=run_append_own_at (P:=P) w base t ty e i z size bytes ht hi hz hsize hby hzs hsz v n xs hown ad m c news hr.1 hcells h1 h63 hbytes hbase
  exact ⟨v',w',hrun,h2,h3,h5⟩
end

theorem wp_pour {P : Program} {w : World} {ops : Array Oper} {rest : List Oper} {o : Oper} {a : Act} {Q : Exit → Act → World → Prop} (hgd : o.guard = none) (s x : Operand) (t : TypeId)
  (ho : o.op = .call { callee:=.builtin .append,args:=#[s,x],argTypes:=#[t,t] })
  (base : Nat) (e : TypeId) (z : Value) (size bytes : Nat) (ht : P.underlying t = some (.slice e)) (hi : (P.info? e).map (fun i => (i.zero,i.size,i.bytes)) = some (some z,size,bytes)) (hzs : z.cells.size = size) (hsz : 0 < size)
  (v : Value) (n : Nat) (xs : List Value) (hs : a.eval s = v) (hown : w.ownsRow base e size v n xs)
  (S : Nat → Prop) (A : Option Addr) (m c : Nat) (news : List Value) (hx : a.eval x = .slice A m c) (hr : Sl w S size A m news) (h1 : ∀ u ∈ news,u.oneCell' = true)
  (hbytes : (n + m) * bytes ≤ 140737488355328) (h63 : n + m ≤ maxLen) (hbase : base ≤ w.heap.size)
  (h : ∀ A' c' w',w'.ownsRow base e size (.slice A' (n + m) c') (n + m) (xs ++ news) → Chg (fun k => v.ownBlock = some k) w w' → ((Value.slice A' (n + m) c').ownBlock = v.ownBlock ∨ (Value.slice A' (n + m) c').ownBlock = some w.heap.size) →
   wpList P ops Q rest (a.put o.dst (.slice A' (n + m) c')) w') :
  wpList P ops Q (o::rest) a w:=by
 obtain ⟨i0,hi,hz0,hz1,hz2⟩:=info_parts hi
 obtain ⟨v',w',hrun,h2,h3,h5⟩:=run_pour (P:=P) w base t o.type e i0 z size bytes ht hi hz0 hz1 hz2 hzs hsz v n xs hown S A m c news hr h1 h63 hbytes hbase
 obtain ⟨A',c',rfl⟩ : ∃ A' c',v' = .slice A' (n + m) c':=by
  rcases h2.2 with ⟨hv,h0⟩|⟨g,cap,cur,hv,_⟩
  ·exact ⟨none,0,by rw [hv,h0]⟩
  ·exact ⟨_,_,hv⟩
 refine wpList_plain hgd fun _ hK => ?_
 unfold Oper.wp execOp
 simp only [ho,resolve,invoke,builtin,Sem.run_bind,Sem.run_pure,Result.andThen_ok,List.map_toArray,List.map_cons,List.map_nil,hs,hx,hrun]
 exact hK _ _ (h A' c' w' h2 ((Chg.refl _ w).grown h3 (fun k hk => .inl hk)) h5)
theorem ints_one (l : List Int) : ∀ u ∈ ints l,u.oneCell' = true:=by
 intro u hu
 obtain ⟨x,_,rfl⟩:=List.mem_map.1 hu
 rfl
theorem Chg.none {w w' : World} (h : Chg (fun k => (Value.slice none 0 0).ownBlock = some k) w w') : Ext w w' :=
 h.ext (Ext.refl' w) (fun k hk => by simp [Value.ownBlock] at hk)
end Go.Proofs.YtoegjiigaoanbaaGreat
namespace Go.Proofs.YtoegjiigaoanbaaGreat
open Go.RowKit Go.Deep
set_option linter.unnecessarySimpa false
set_option maxHeartbeats 400000000
open Go.Lib (hid)
theorem Mine.wp_getsg {P : Program} {ops : Array Oper} {rest : List Oper} {o : Oper} {a : Act} {Q : Exit → Act → World → Prop} {b w : World} {rs : List Res} (M : Mine b w rs) (hw : Region.wanted o (yielded ops a.tmps) = true) (ty : TypeId) (x : Operand) (ho : o.op = .load ty x) (i j m : Nat) {g : Nat} {t : TypeId} {cs : List Value} (hi : rs[i]? = some (.box g t cs.toArray)) (hx : a.eval x = .pointer (some ⟨g,j,none⟩)) (hm : j + m ≤ cs.length)
  (d : TypeDesc) (hu : P.underlying ty = some d) (hd : d.isRow = true) (hf : (P.info? ty).map (·.size) = some m) (h : wpList P ops Q rest (a.put o.dst (.agg ((cs.drop j).take m).toArray)) w) : wpList P ops Q (o::rest) a w :=
 BigFrame.wpList_want hw fun _ hK => by
  have hrun:=run_loadVar_mid (P:=P) w g j ty ((cs.drop j).take m) d (fun k v hv => by
   rw [(M.box_at i hi).cell]
   rw [List.getElem?_take] at hv
   split at hv
   ·rw [List.getElem?_drop] at hv;simpa using hv
   ·cases hv) hu hd (by rw [hf,List.length_take,List.length_drop];congr 1;omega)
  unfold Oper.wp execOp
  simp only [ho,hx,Instr.loadAt,Instr.sureAddr,Sem.run_bind,Sem.run_pure,Result.andThen_ok,hrun]
  exact hK _ _ h
theorem Mine.wp_pour {P : Program} {ops : Array Oper} {rest : List Oper} {o : Oper} {a : Act} {Q : Exit → Act → World → Prop} {b w : World} {rs : List Res} (M : Mine b w rs) (hgd : o.guard = none) (s x : Operand) (t : TypeId) (ho : o.op = .call { callee:=.builtin .append,args:=#[s,x],argTypes:=#[t,t] })
  (e : TypeId) (z : Value) (size bytes : Nat) (ht : P.underlying t = some (.slice e)) (hf : (P.info? e).map (fun i => (i.zero,i.size,i.bytes)) = some (some z,size,bytes)) (hzs : z.cells.size = size) (hsz : 0 < size)
  (i : Nat) {A0 : Option Addr} {n0 c0 : Nat} {xs : List Value} (hi : rs[i]? = some (.row e size A0 n0 c0 xs)) (hs : a.eval s = .slice A0 n0 c0)
  (S : Nat → Prop) (A : Option Addr) (m c : Nat) (news : List Value) (hx : a.eval x = .slice A m c) (hr : Sl w S size A m news) (h1 : ∀ u ∈ news,u.oneCell' = true)
  (hbytes : (n0 + m) * bytes ≤ 140737488355328) (h63 : n0 + m ≤ maxLen)
  (h : ∀ A' c' w',Mine b w' (rs.set i (.row e size A' (n0 + m) c' (xs ++ news))) → wpList P ops Q rest (a.put o.dst (.slice A' (n0 + m) c')) w') : wpList P ops Q (o::rest) a w :=
 wpList_plain hgd fun _ hK => by
 obtain ⟨i0,hf,hz0,hz1,hz2⟩:=info_parts hf
 obtain ⟨v',w',hrun,h2,h3,h5⟩:=run_pour (P:=P) w b.heap.size t o.type e i0 z size bytes ht hf hz0 hz1 hz2 hzs hsz (.slice A0 n0 c0) n0 xs (M.row_at i hi) S A m c news hr h1 h63 hbytes M.size
 obtain ⟨A',c',rfl⟩ : ∃ A' c',v' = .slice A' (n0 + m) c':=by
  rcases h2.2 with ⟨hv,h0⟩|⟨g,cap,cur,hv,_⟩
  ·exact ⟨none,0,by rw [hv,h0]⟩
  ·exact ⟨_,_,hv⟩
 unfold Oper.wp execOp
 simp [ho,resolve,invoke,builtin,hs,hx,hrun,Result.andThen]
 refine hK _ _ (h A' c' w' (M.swap hi ((Chg.refl _ w).grown h3 (fun k hk => .inl hk)) (fun g hg => hg) h2 fun g hg => ?_))
 rcases h5 with q|q
 ·exact .inl (by show (Value.slice A0 n0 c0).ownBlock = some g;rw [← q];exact hg)
 ·right
  have hg' : (Value.slice A' (n0 + m) c').ownBlock = some g:=hg
  rw [q] at hg'
  injection hg' with hg'
  omega

theorem own_lit0 (w : World) (e : TypeId) (size : Nat) : (w.alloc (.cells #[] e)).ownsRow w.heap.size e size (.slice (some ⟨w.heap.size,0,none⟩) 0 0) 0 [] :=
 World.ownsRow_lit w #[] 0 (Nat.le_refl _) (Nat.zero_le _) (by simp)
end Go.Proofs.YtoegjiigaoanbaaGreat
namespace Go.Proofs.YtoegjiigaoanbaaGreat
open Go.RowKit
set_option linter.unnecessarySimpa false
set_option maxHeartbeats 400000000
open Go.Lib (hid)

theorem Tryz.infoInt : (Tryz.prog.info? 3).map (fun i => (i.zero,i.size,i.bytes)) = some (some (.int .i64 0),1,8):=by kernel_rfl

theorem toIntS_any (A : Option Addr) (n c : Nat) (zs : List Int) (w : World) (S : Nat → Prop) (hs : Sl w S 1 A n (ints zs)) (hm : n ≤ 1048576) :
  Calls Tryz.prog 84 #[.slice A n c] w fun e w' => ∃ B d,e = .returned (.slice B n d) ∧ w'.ownsRow w.heap.size 3 1 (.slice B n d) n (ints zs) ∧ Ext w w':=by
 have hl:=hid hs.len
 obtain ⟨w1,cs0,hmk,hown,-,hx1,hlt⟩:=made_row (P:=Tryz.prog) w 22 3 _ _ _ Tryz.underlying22 Tryz.infoInt n (by omega) (by unfold maxLen;omega)
 have HO:=hid hown
 have HX:=hid hx1
 clear hown hx1
 go_enter Tryz.func84,Tryz.ntmps84
 go_wp2
 go_loopw [4] (fun i wr => ∃ (k : Nat) (cs : List Value),k ≤ n ∧ i = .int .i64 k ∧ wr.ownsRow w.heap.size 3 1 (.slice (some ⟨w.heap.size,0,none⟩) n n) n cs ∧ Upto cs (ints zs) k ∧ Ext w wr) (fun i _ => n - (intOf i).toNat)
 case atStart => exact ⟨0,_,Nat.zero_le _,rfl,HO.out,Upto.zero _ _,HX.out⟩
 case round =>
  obtain ⟨k,cs,hk,rfl,ho,hu,hx⟩:=hrel
  by_cases hlt : k < n
  ·obtain ⟨b,o,x,rfl,hb,hxk,hc⟩:=(hs.ext hx).int_at hlt
   have hcl:=own_len ho
   obtain ⟨g,v0,hA,-,hco,hf0⟩:=own_at ho hlt
   obtain rfl : w.heap.size = g:=addr_inj hA
   have HX2:=hid hxk
   have HO2:=hid ho
   have HE2:=hid hx
   have HCL:=hid hcl
   clear hxk ho hx hcl
   go_wp2
   go_roundw
   case rel => 
    have hst:=HO2.out.stored k (.int .i64 x)
    exact ⟨k + 1,_,by omega,by go_num,hst.1,hu.set1 (by rw [HCL.out];exact hlt) (by rw [ints_get,HX2.out];rfl),HE2.out.sc (p:=⟨w.heap.size,k,none⟩) (Nat.le_refl _) _⟩
   case measure => simp [intOf];omega
  ·go_wp2
   go_ret
   refine ⟨_,_,rfl,?_,hx⟩
   have : k = n:=by omega
   subst this
   rw [← hu.all (by have:=ho.1;omega) (by rw [ints_length];exact hl.out)]
   exact ho

theorem eqIntS_same (A B : Option Addr) (n c d : Nat) (zs : List Int) (w : World) (S T : Nat → Prop) (ha : Sl w S 1 A n (ints zs)) (hb : Sl w T 1 B n (ints zs)) (hm : n ≤ 9223372036854775807) :
  Calls Tryz.prog 46 #[.slice A n c,.slice B n d] w fun e w' => e = .returned (.bool true) ∧ Ext w w':=by
 go_enter Tryz.func46,Tryz.ntmps46
 go_wp2
 go_loopw [5] (fun i wr => ∃ (k : Nat),k ≤ n ∧ i = .int .i64 k ∧ Ext w wr) (fun i _ => n - (intOf i).toNat)
 case atStart => exact ⟨0,Nat.zero_le _,rfl,Ext.refl' _⟩
 case round =>
  obtain ⟨k,hk,rfl,hx⟩:=hrel
  by_cases hlt : k < n
  ·obtain ⟨b1,o1,x,rfl,hb1,hxk,hc1⟩:=(ha.ext hx).int_at hlt
   obtain ⟨b2,o2,y,rfl,hb2,hyk,hc2⟩:=(hb.ext hx).int_at hlt
   rw [hxk] at hyk
   injection hyk with hyk
   subst hyk
   have HE2:=hid hx
   clear hxk hx
   go_wp2
   go_quiet (fail)
   go_wp2
   go_roundw
   case rel => exact ⟨k + 1,by omega,by go_num,HE2.out.drN _⟩
   case measure => simp [intOf];omega
  ·go_wp2
   go_ret
   exact ⟨rfl,hx⟩

def marks (k : Int) (n : Nat) : List Int:=(List.range n).map fun i : Nat => k + (i : Int)
end Go.Proofs.YtoegjiigaoanbaaGreat
namespace Go.Proofs.YtoegjiigaoanbaaGreat
open Go.RowKit
set_option linter.unnecessarySimpa false
set_option maxHeartbeats 400000000
open Go.Lib (hid)
theorem copyInts_any (A : Option Addr) (n c : Nat) (l : List Int) (w : World) (S : Nat → Prop) (hs : Sl w S 1 A n (ints l)) (hm : n ≤ 1048576) :
  Calls Tryz.prog 157 #[.slice A n c] w fun e w' => ∃ B d,e = .returned (.slice B n d) ∧ w'.ownsRow w.heap.size 3 1 (.slice B n d) n (ints l) ∧ Ext w w':=by
 go_enter Tryz.func157,Tryz.ntmps157
 go_wp2_with (at_builtin;refine wp_pour rfl _ _ _ rfl w.heap.size 3 _ _ _ Tryz.underlying22 Tryz.infoInt rfl (by omega) (.slice none 0 0) 0 [] rfl (World.ownsRow_nil _ _ _ _) S A n c (ints l) rfl hs (ints_one l) (by omega) (by unfold maxLen;omega) (Nat.le_refl _) ?_;intro A' c' w' hown hchg hat)
 go_ret
 exact ⟨A',c',by simp,by simpa using hown,hchg.none⟩
end Go.Proofs.YtoegjiigaoanbaaGreat
namespace Go.Proofs.YtoegjiigaoanbaaGreat
open Go.RowKit
set_option linter.unnecessarySimpa false
set_option maxHeartbeats 400000000
open Go.Lib (hid)

theorem szIntS_any (A : Option Addr) (n c : Nat) (q : Int) (w : World) (hq : 0 ≤ q) (hq2 : q ≤ 1048576) (hn : n ≤ 9223372036854775807) :
  Calls Tryz.prog 73 #[.slice A n c,.int .i64 q] w fun e w' => e = .returned (.int .i64 (if (n : Int) ≤ q then q - n else -1)) ∧ w = w':=by
 by_cases h : (n : Int) ≤ q
 ·go_enter Tryz.func73,Tryz.ntmps73
  go_wp2
  go_ret
  exact ⟨by first|rfl|(simp;done)|simp [h],rfl⟩
 ·go_enter Tryz.func73,Tryz.ntmps73
  go_wp2
  go_ret
  exact ⟨by first|rfl|(simp;done)|simp [h],rfl⟩
end Go.Proofs.YtoegjiigaoanbaaGreat
