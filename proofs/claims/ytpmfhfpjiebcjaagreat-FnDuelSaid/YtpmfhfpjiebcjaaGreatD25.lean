/- What holds all through a duel of right jobs. No condition. A commit of a duel enters the history. No condition. Steps of a duel that read. No condition. -/
import Derived.Test.YtpmfhfpjiebcjaaGreatD24
import Derived.Test.YtpmfhfpjiebcjaaGreatD00
namespace Go.Proofs.YtpmfhfpjiebcjaaGreat
open Go.RowKit Go.Deep
set_option linter.unnecessarySimpa false
set_option linter.unusedSimpArgs false
set_option linter.unusedVariables false

def heldAt (c : Commit) (a : Nat) : Prop:=(c.phase_ = 1 ∧ (a : Int) < c.at_) ∨ c.phase_ = 2 ∨ c.phase_ = 3 ∨ c.phase_ = 4 ∨ (c.phase_ = 5 ∧ c.at_ ≤ (a : Int)) ∨ (c.phase_ = 7 ∧ (a : Int) ≤ c.at_)
/-- A job has a cell locked. -/
def held (x : JobRun) (i : Nat) : Prop:=x.phase_ = 2 ∧ ∃ (a : Nat) (r : Row),x.commit_.puts_[a]? = some r ∧ r.cell_ = (i : Int) ∧ heldAt x.commit_ a
/-- Its entry is in the history,its words may not all be written. -/
def inH (x : JobRun) : Prop:=x.phase_ = 2 ∧ (x.commit_.phase_ = 4 ∨ x.commit_.phase_ = 5)
/-- It has its stamp,it is not in the history. -/
def ticked (x : JobRun) : Prop:=x.phase_ = 2 ∧ x.commit_.phase_ = 3
def entOf (k : Nat) (x : JobRun) : Wrote:=⟨x.commit_.wv_,(k : Int) + 1,x.commit_.puts_⟩
def HH (xs : List JobRun) (i : Nat) : Prop:=∃ (k : Nat) (x : JobRun),xs[k]? = some x ∧ inH x ∧ held x i
/-- A word of a cell that a job of the history still has locked. -/
def busyW (h : List Wrote) (x : JobRun) (i : Nat) (w : Word) : Prop :=
 w.ver_ < x.commit_.wv_ ∧ (∀ z ∈ h,wrs z i → z.stamp_ ≤ x.commit_.wv_) ∧ ∀ (a : Nat) (r : Row),x.commit_.puts_[a]? = some r → r.cell_ = (i : Int) → w.val_ = r.val_ ∨ (x.commit_.phase_ = 4 ∧ x.commit_.at_ ≤ (a : Int))
/-- A probe that is under way. -/
def PInv (m : Mem) (xs : List JobRun) (rv : Int) (p : Probe) : Prop :=
 (0 ≤ p.cell_ ∧ p.cell_ ≤ 7) ∧ (p.phase_ = 0 ∨ p.phase_ = 1 ∨ p.phase_ = 2) ∧ (p.phase_ ≠ 0 → ∀ w,m.cells_[p.cell_.toNat]? = some w →
  p.ver_ ≤ rv ∧ p.ver_ ≤ w.ver_ ∧ (p.phase_ = 2 → (0 ≤ p.val_ ∧ p.val_ ≤ 65535) ∧ (w.ver_ = p.ver_ → ¬ HH xs p.cell_.toNat → p.val_ = w.val_)))
/-- What a job says of itself. -/
structure JInv (cells : List Int) (jobs : List Job) (m : Mem) (xs : List JobRun) (h : List Wrote) (k : Nat) (x : JobRun) : Prop where
 rv : 0 ≤ x.rv_ ∧ x.rv_ ≤ m.clock_
 idle : x.phase_ = 0 → x.seen_ = [] ∧ x.busy_ = false
 len : (x.seen_.length : Int) ≤ x.at_
 seen : ∀ r ∈ x.seen_,((0 ≤ r.cell_ ∧ r.cell_ ≤ 7) ∧ (0 ≤ r.val_ ∧ r.val_ ≤ 65535)) ∧ ∃ t,AtS cells h x.rv_ r.cell_.toNat r.val_ t
 prb : x.phase_ = 1 → x.busy_ = true → PInv m xs x.rv_ x.probe_
 puts : x.phase_ = 2 → x.commit_.phase_ ≠ 0 → x.commit_.who_ = (k : Int) + 1 ∧ x.commit_.puts_ = netR (jobs.getD k default).puts_ ∧ rowsOk x.commit_.puts_ = true ∧ rising (x.commit_.puts_.map (·.cell_))
structure Inv (cells : List Int) (jobs : List Job) (s : DS) : Prop where
 mem : memP s.m
 xlen : s.xs.length = jobs.length
 hst : ∀ y ∈ s.h,(1 ≤ y.stamp_ ∧ y.stamp_ ≤ s.m.clock_) ∧ rowsOk y.puts_ = true
 dis : s.h.Pairwise fun a b => a.stamp_ ≠ b.stamp_ ∧ a.who_ ≠ b.who_
 who : ∀ y ∈ s.h,∃ (k : Nat) (x : JobRun),s.xs[k]? = some x ∧ y.who_ = (k : Int) + 1 ∧ ((inH x ∧ y = entOf k x) ∨ x.phase_ = 3) ∧ y.puts_ = netR (jobs.getD k default).puts_
 own : ∀ (i : Nat) (w : Word),s.m.cells_[i]? = some w → w.owner_ ≠ 0 → ∃ (k : Nat) (x : JobRun),s.xs[k]? = some x ∧ w.owner_ = (k : Int) + 1 ∧ held x i
 hld : ∀ (k : Nat) (x : JobRun) (i : Nat) (w : Word),s.xs[k]? = some x → held x i → s.m.cells_[i]? = some w → w.owner_ = (k : Int) + 1
 free : ∀ (i : Nat) (w : Word),s.m.cells_[i]? = some w → ¬ HH s.xs i → AtS cells s.h s.m.clock_ i w.val_ w.ver_
 busy : ∀ (k : Nat) (x : JobRun) (i : Nat) (w : Word),s.xs[k]? = some x → inH x → held x i → s.m.cells_[i]? = some w → busyW s.h x i w
 inh : ∀ (k : Nat) (x : JobRun),s.xs[k]? = some x → inH x → entOf k x ∈ s.h
 tick : ∀ (k : Nat) (x : JobRun),s.xs[k]? = some x → ticked x → (1 ≤ x.commit_.wv_ ∧ x.commit_.wv_ ≤ s.m.clock_) ∧ (∀ z ∈ s.h,z.stamp_ ≠ x.commit_.wv_) ∧ (∀ (k' : Nat) (x' : JobRun),k' ≠ k → s.xs[k']? = some x' → ticked x' → x'.commit_.wv_ ≠ x.commit_.wv_) ∧
  ∀ (i : Nat) (w : Word),held x i → s.m.cells_[i]? = some w → w.ver_ < x.commit_.wv_ ∧ ∀ z ∈ s.h,wrs z i → z.stamp_ < x.commit_.wv_
 rd : ∀ (k : Nat) (x : JobRun) (k' : Nat) (x' : JobRun),s.xs[k]? = some x → s.xs[k']? = some x' → ticked x' → ∀ r ∈ x.seen_,lastV x'.commit_.puts_ r.cell_ ≠ none → x.rv_ < x'.commit_.wv_
 job : ∀ (k : Nat) (x : JobRun),s.xs[k]? = some x → JInv cells jobs s.m s.xs s.h k x
theorem inH_held {x : JobRun} (h : ticked x) {i : Nat} : held x i ↔ ∃ (a : Nat) (r : Row),x.commit_.puts_[a]? = some r ∧ r.cell_ = (i : Int):=by
 constructor
 ·rintro ⟨_,a,r,h1,h2,_⟩;exact ⟨a,r,h1,h2⟩
 ·rintro ⟨a,r,h1,h2⟩;exact ⟨h.1,a,r,h1,h2,.inr (.inr (.inl h.2))⟩
theorem set_get {xs : List JobRun} {k q : Nat} {x' y : JobRun} (hy : (xs.set k x')[q]? = some y) (hk : k < xs.length) : (q = k ∧ y = x') ∨ (q ≠ k ∧ xs[q]? = some y):=by
 rw [List.getElem?_set] at hy
 by_cases e : k = q
 ·rw [if_pos e,if_pos hk] at hy;cases hy;exact .inl ⟨e.symm,rfl⟩
 ·rw [if_neg e] at hy;exact .inr ⟨fun z => e z.symm,hy⟩
/-- One job steps,one word may change,the history stays. -/
theorem Inv.step {cells : List Int} {jobs : List Job} {s : DS} (I : Inv cells jobs s) {k : Nat} {x x' : JobRun} {m' : Mem} (hx : s.xs[k]? = some x)
  (hM : memP m') (hc : s.m.clock_ ≤ m'.clock_)
  (hin : inH x' → inH x ∧ entOf k x' = entOf k x)
  (hno : inH x → inH x' ∨ x'.phase_ = 3) (h3 : x.phase_ = 3 → x'.phase_ = 3)
  (hw : ∀ (j : Nat) (w' : Word),m'.cells_[j]? = some w' → ∃ w,s.m.cells_[j]? = some w ∧ w.ver_ ≤ w'.ver_ ∧
   ((w' = w ∧ (held x' j ↔ held x j)) ∨ ((∀ (q : Nat) (y : JobRun),q ≠ k → s.xs[q]? = some y → ¬ held y j) ∧ ((w'.owner_ = 0 ∧ ¬ held x' j) ∨ (w'.owner_ = (k : Int) + 1 ∧ held x' j)) ∧
    (¬ (inH x' ∧ held x' j) → AtS cells s.h s.m.clock_ j w'.val_ w'.ver_) ∧ (w'.ver_ = w.ver_ → ¬ (inH x' ∧ held x' j) → w'.val_ = w.val_ ∧ ¬ (inH x ∧ held x j)))) ∧
   (inH x' → held x' j → busyW s.h x' j w'))
  (ht : ticked x' → (1 ≤ x'.commit_.wv_ ∧ x'.commit_.wv_ ≤ m'.clock_) ∧ (∀ z ∈ s.h,z.stamp_ ≠ x'.commit_.wv_) ∧ (∀ (q : Nat) (y : JobRun),q ≠ k → s.xs[q]? = some y → ticked y → y.commit_.wv_ ≠ x'.commit_.wv_) ∧
   (∀ (i : Nat) (w : Word),held x' i → m'.cells_[i]? = some w → w.ver_ < x'.commit_.wv_ ∧ ∀ z ∈ s.h,wrs z i → z.stamp_ < x'.commit_.wv_) ∧ (∀ (q : Nat) (y : JobRun),q ≠ k → s.xs[q]? = some y → ∀ r ∈ y.seen_,lastV x'.commit_.puts_ r.cell_ ≠ none → y.rv_ < x'.commit_.wv_) ∧ ∀ r ∈ x'.seen_,lastV x'.commit_.puts_ r.cell_ ≠ none → x'.rv_ < x'.commit_.wv_)
  (hs : ∀ (q : Nat) (y : JobRun),q ≠ k → s.xs[q]? = some y → ticked y → ∀ r ∈ x'.seen_,lastV y.commit_.puts_ r.cell_ ≠ none → x'.rv_ < y.commit_.wv_)
  (hj : JInv cells jobs m' (s.xs.set k x') s.h k x') : Inv cells jobs ⟨m',s.xs.set k x',s.h⟩:=by
 have hk : k < s.xs.length:=(List.getElem?_eq_some_iff.1 hx).1
 have hxk : (s.xs.set k x')[k]? = some x':=by rw [List.getElem?_set,if_pos rfl,if_pos hk]
 have hxo : ∀ {q : Nat} {y : JobRun},q ≠ k → s.xs[q]? = some y → (s.xs.set k x')[q]? = some y:=fun hq hy => by rw [List.getElem?_set,if_neg (fun e => hq e.symm)];exact hy
 have hHH : ∀ {j : Nat},¬ HH (s.xs.set k x') j → ∀ (q : Nat) (y : JobRun),q ≠ k → s.xs[q]? = some y → ¬ (inH y ∧ held y j):=fun hn q y hq hy z => hn ⟨q,y,hxo hq hy,z⟩
 refine ⟨hM,by rw [List.length_set];exact I.xlen,fun y hy => ?_,I.dis,fun y hy => ?_,fun i w' hw' ho => ?_,fun q y i w' hy hh hw' => ?_,fun i w' hw' hn => ?_,fun q y i w' hy h1 h2 hw' => ?_,fun q y hy h1 => ?_,fun q y hy h1 => ?_,fun q y q' y' hy hy' h1 r hr hl => ?_,fun q y hy => ?_⟩
 ·have:=I.hst y hy
  exact ⟨⟨this.1.1,by have:=this.1.2;show _ ≤ m'.clock_;omega⟩,this.2⟩
 ·obtain ⟨q,z,hz,h1,h2,h4⟩:=I.who y hy
  by_cases e : q = k
  ·subst e
   rw [hx] at hz;cases hz
   refine ⟨q,x',hxk,h1,?_,h4⟩
   rcases h2 with ⟨h5,h6⟩|h5
   ·rcases hno h5 with h7|h7
    ·exact .inl ⟨h7,h6.trans (hin h7).2.symm⟩
    ·exact .inr h7
   ·exact .inr (h3 h5)
  ·exact ⟨q,z,hxo e hz,h1,h2,h4⟩
 ·obtain ⟨w,hw0,hv,hcs,_⟩:=hw i w' hw'
  rcases hcs with ⟨e,hh⟩|⟨ho',hc',_⟩
  ·subst e
   obtain ⟨q,z,hz,h1,h2⟩:=I.own i _ hw0 ho
   by_cases e : q = k
   ·subst e;rw [hx] at hz;cases hz
    exact ⟨q,x',hxk,h1,hh.2 h2⟩
   ·exact ⟨q,z,hxo e hz,h1,h2⟩
  ·rcases hc' with ⟨h0,_⟩|⟨h1,h2⟩
   ·exact absurd h0 ho
   ·exact ⟨k,x',hxk,h1,h2⟩
 ·obtain ⟨w,hw0,hv,hcs,_⟩:=hw i w' hw'
  rcases set_get hy hk with ⟨rfl,rfl⟩|⟨hq,hy⟩
  ·rcases hcs with ⟨e,hh2⟩|⟨ho',hc',_⟩
   ·subst e;exact I.hld q x i _ hx (hh2.1 hh) hw0
   ·rcases hc' with ⟨_,h2⟩|⟨h1,_⟩
    ·exact absurd hh h2
    ·exact h1
  ·rcases hcs with ⟨e,hh2⟩|⟨ho',_⟩
   ·subst e;exact I.hld q y i _ hy hh hw0
   ·exact absurd hh (ho' q y hq hy)
 ·obtain ⟨w,hw0,hv,hcs,_⟩:=hw i w' hw'
  have hk' : ¬ (inH x' ∧ held x' i):=fun z => hn ⟨k,x',hxk,z⟩
  have hst : ∀ y ∈ s.h,y.stamp_ ≤ s.m.clock_:=fun y hy => (I.hst y hy).1.2
  rcases hcs with ⟨e,hh2⟩|⟨ho',hc',ha,_⟩
  ·subst e
   refine AtS.up (I.free i _ hw0 ?_) hc hst
   rintro ⟨q,z,hz,h1,h2⟩
   by_cases e : q = k
   ·subst e;rw [hx] at hz;cases hz
    rcases hno h1 with h7|h7
    ·exact hk' ⟨h7,hh2.2 h2⟩
    ·have:=(hh2.2 h2).1;omega
   ·exact hHH hn q z e hz ⟨h1,h2⟩
  ·exact AtS.up (ha hk') hc hst
 ·obtain ⟨w,hw0,hv,hcs,hb⟩:=hw i w' hw'
  rcases set_get hy hk with ⟨rfl,rfl⟩|⟨hq,hy⟩
  ·exact hb h1 h2
  ·rcases hcs with ⟨e,hh2⟩|⟨ho',_⟩
   ·subst e;exact I.busy q y i _ hy h1 h2 hw0
   ·exact absurd h2 (ho' q y hq hy)
 ·rcases set_get hy hk with ⟨rfl,rfl⟩|⟨hq,hy⟩
  ·rw [(hin h1).2];exact I.inh q x hx (hin h1).1
  ·exact I.inh q y hy h1
 ·rcases set_get hy hk with ⟨rfl,rfl⟩|⟨hq,hy2⟩
  ·obtain ⟨t1,t2,t3,t4,_⟩:=ht h1
   refine ⟨t1,t2,fun q' y' hq' hy' => ?_,t4⟩
   rcases set_get hy' hk with ⟨rfl,rfl⟩|⟨_,hy'⟩
   ·exact absurd rfl hq'
   ·exact t3 q' y' hq' hy'
  ·obtain ⟨t1,t2,t3,t4⟩:=I.tick q y hy2 h1
   refine ⟨⟨t1.1,by have:=t1.2;show _ ≤ m'.clock_;omega⟩,t2,fun q' y' hq' hy' h1' => ?_,fun i w' hh hw' => ?_⟩
   ·rcases set_get hy' hk with ⟨rfl,rfl⟩|⟨_,hy'⟩
    ·exact fun e => (ht h1').2.2.1 q y hq hy2 h1 e.symm
    ·exact t3 q' y' hq' hy' h1'
   ·obtain ⟨w,hw0,hv,hcs,_⟩:=hw i w' hw'
    rcases hcs with ⟨e,_⟩|⟨ho',_⟩
    ·subst e;exact t4 i _ hh hw0
    ·exact absurd hh (ho' q y hq hy2)
 ·rcases set_get hy hk with ⟨rfl,rfl⟩|⟨hq,hy2⟩
  ·rcases set_get hy' hk with ⟨rfl,rfl⟩|⟨hq',hy'⟩
   ·exact (ht h1).2.2.2.2.2 r hr hl
   ·exact hs q' y' hq' hy' h1 r hr hl
  ·rcases set_get hy' hk with ⟨rfl,rfl⟩|⟨hq',hy'⟩
   ·exact (ht h1).2.2.2.2.1 q y hq hy2 r hr hl
   ·exact I.rd q y q' y' hy2 hy' h1 r hr hl
 ·rcases set_get hy hk with ⟨rfl,rfl⟩|⟨hq,hy⟩
  ·exact hj
  ·have J:=I.job q y hy
   refine ⟨⟨J.rv.1,by have:=J.rv.2;show _ ≤ m'.clock_;omega⟩,J.idle,J.len,J.seen,fun h1 h2 => ?_,J.puts⟩
   obtain ⟨p1,p2,p3⟩:=J.prb h1 h2
   refine ⟨p1,p2,fun h0 w' hw' => ?_⟩
   obtain ⟨w,hw0,hv,hcs,_⟩:=hw _ w' hw'
   obtain ⟨a1,a2,a3⟩:=p3 h0 w hw0
   refine ⟨a1,by omega,fun hp => ⟨(a3 hp).1,fun e hn => ?_⟩⟩
   have e2 : w.ver_ = y.probe_.ver_:=by omega
   have hk' : ¬ (inH x' ∧ held x' y.probe_.cell_.toNat):=fun z => hn ⟨k,x',hxk,z⟩
   have old : ¬ (inH x ∧ held x y.probe_.cell_.toNat) → ¬ HH s.xs y.probe_.cell_.toNat:=by
    rintro hno2 ⟨q',z,hz,h5,h6⟩
    by_cases e : q' = k
    ·subst e;rw [hx] at hz;cases hz;exact hno2 ⟨h5,h6⟩
    ·exact hHH hn q' z e hz ⟨h5,h6⟩
   rcases hcs with ⟨e3,hh2⟩|⟨ho',hc',ha,hpc⟩
   ·subst e3
    refine (a3 hp).2 e2 (old fun z => ?_)
    rcases hno z.1 with h7|h7
    ·exact hk' ⟨h7,hh2.2 z.2⟩
    ·have:=(hh2.2 z.2).1;omega
   ·obtain ⟨b1,b2⟩:=hpc (by omega) hk'
    rw [b1]
    exact (a3 hp).2 e2 (old b2)
end Go.Proofs.YtpmfhfpjiebcjaaGreat
namespace Go.Proofs.YtpmfhfpjiebcjaaGreat
open Go.RowKit Go.Deep
set_option linter.unnecessarySimpa false
set_option linter.unusedSimpArgs false
set_option linter.unusedVariables false

theorem wrs_puts {ps : List Row} {i : Int} (h : lastV ps i ≠ none) : ∃ (a : Nat) (r : Row),ps[a]? = some r ∧ r.cell_ = i:=by
 cases e : lastV ps i with
 | none => exact absurd e h
 | some v =>
  obtain ⟨a,r,h1,h2,_⟩:=lastV_mem e
  exact ⟨a,r,h1,h2⟩
theorem Inv.event {cells : List Int} {jobs : List Job} {s : DS} (I : Inv cells jobs s) {k : Nat} {x x' : JobRun} (hx : s.xs[k]? = some x) (ht : ticked x)
  (h2 : x'.phase_ = 2) (hp : x'.commit_.phase_ = 4) (ha : x'.commit_.at_ = 0) (hwv : x'.commit_.wv_ = x.commit_.wv_) (hps : x'.commit_.puts_ = x.commit_.puts_) (hwho : x'.commit_.who_ = x.commit_.who_)
  (hsn : x'.seen_ = x.seen_) (hrv : x'.rv_ = x.rv_) (hat : x'.at_ = x.at_) : Inv cells jobs ⟨s.m,s.xs.set k x',s.h ++ [entOf k x']⟩:=by
 have hk : k < s.xs.length:=(List.getElem?_eq_some_iff.1 hx).1
 have hxk : (s.xs.set k x')[k]? = some x':=by rw [List.getElem?_set,if_pos rfl,if_pos hk]
 have hxo : ∀ {q : Nat} {y : JobRun},q ≠ k → s.xs[q]? = some y → (s.xs.set k x')[q]? = some y:=fun hq hy => by rw [List.getElem?_set,if_neg (fun e => hq e.symm)];exact hy
 have hi' : inH x':=⟨h2,.inl hp⟩
 have hn : ¬ inH x:=fun z => by have a:=ht.2;rcases z.2 with b|b <;> omega
 have hnt : ¬ ticked x':=fun z => by have a:=z.2;omega
 have hh : ∀ i,held x' i ↔ held x i:=fun i => by
  constructor
  ·rintro ⟨_,a,r,h5,h6,_⟩;rw [hps] at h5;exact (inH_held ht).2 ⟨a,r,h5,h6⟩
  ·intro z
   obtain ⟨a,r,h5,h6⟩:=(inH_held ht).1 z
   exact ⟨h2,a,r,by rw [hps];exact h5,h6,.inr (.inr (.inr (.inl hp)))⟩
 obtain ⟨t1,t2,t3,t4⟩:=I.tick k x hx ht
 have J:=I.job k x hx
 have Jp:=J.puts ht.1 (by have:=ht.2;omega)
 have hw : ∀ i : Nat,wrs (entOf k x') i → held x i:=fun i z => by
  obtain ⟨a,r,h5,h6⟩:=wrs_puts z
  have h5' : x.commit_.puts_[a]? = some r:=by rw [← hps];exact h5
  exact (inH_held ht).2 ⟨a,r,h5',h6⟩
 have hHH : ∀ {i : Nat},HH s.xs i → HH (s.xs.set k x') i:=by
  rintro i ⟨q,z,hz,h5,h6⟩
  by_cases e : q = k
  ·subst e;rw [hx] at hz;cases hz;exact absurd h5 hn
  ·exact ⟨q,z,hxo e hz,h5,h6⟩
 have hmore : ∀ (q : Nat) (y : JobRun),s.xs[q]? = some y → ∀ r ∈ y.seen_,((0 ≤ r.cell_ ∧ r.cell_ ≤ 7) ∧ (0 ≤ r.val_ ∧ r.val_ ≤ 65535)) ∧ ∃ t,AtS cells (s.h ++ [entOf k x']) y.rv_ r.cell_.toNat r.val_ t:=fun q y hy r hr => by
  obtain ⟨h5,t,h6⟩:=(I.job q y hy).seen r hr
  refine ⟨h5,t,h6.more ?_⟩
  by_cases e : lastV x.commit_.puts_ r.cell_ = none
  ·right
   intro z
   have e2 : ((r.cell_.toNat : Nat) : Int) = r.cell_:=by omega
   unfold wrs at z
   rw [e2] at z
   have e3 : lastV (entOf k x').puts_ r.cell_ = lastV x.commit_.puts_ r.cell_:=by show lastV x'.commit_.puts_ _ = _;rw [hps]
   exact z (e3.trans e)
  ·left
   have:=I.rd q y k x hy hx ht r hr e
   show y.rv_ < x'.commit_.wv_
   omega
 refine ⟨I.mem,by rw [List.length_set];exact I.xlen,fun y hy => ?_,?_,fun y hy => ?_,fun i w hw0 ho => ?_,fun q y i w hy hh0 hw0 => ?_,fun i w hw0 hno => ?_,fun q y i w hy h5 h6 hw0 => ?_,fun q y hy h5 => ?_,fun q y hy h5 => ?_,fun q y q' y' hy hy' h5 r hr hl => ?_,fun q y hy => ?_⟩
 ·rcases List.mem_append.1 hy with hy|hy
  ·exact I.hst y hy
  ·rw [List.mem_singleton] at hy;subst hy
   exact ⟨by show 1 ≤ x'.commit_.wv_ ∧ x'.commit_.wv_ ≤ _;rw [hwv];exact t1,by show rowsOk x'.commit_.puts_ = true;rw [hps];exact Jp.2.2.1⟩
 ·refine List.pairwise_append.2 ⟨I.dis,List.pairwise_singleton _ _,fun y hy z hz => ?_⟩
  rw [List.mem_singleton] at hz;subst hz
  refine ⟨by show _ ≠ x'.commit_.wv_;rw [hwv];exact t2 y hy,fun e => ?_⟩
  obtain ⟨q,z,hz,h5,h6,_⟩:=I.who y hy
  have e2 : y.who_ = (k : Int) + 1:=e
  obtain rfl : q = k:=by omega
  rw [hx] at hz;cases hz
  rcases h6 with h6|h6
  ·exact hn h6.1
  ·have:=ht.1;omega
 ·rcases List.mem_append.1 hy with hy|hy
  ·obtain ⟨q,z,hz,h5,h6,h7⟩:=I.who y hy
   by_cases e : q = k
   ·subst e;rw [hx] at hz;cases hz
    rcases h6 with h6|h6
    ·exact absurd h6.1 hn
    ·have:=ht.1;omega
   ·exact ⟨q,z,hxo e hz,h5,h6,h7⟩
  ·rw [List.mem_singleton] at hy;subst hy
   exact ⟨k,x',hxk,rfl,.inl ⟨hi',rfl⟩,by show x'.commit_.puts_ = _;rw [hps];exact Jp.2.1⟩
 ·obtain ⟨q,z,hz,h5,h6⟩:=I.own i w hw0 ho
  by_cases e : q = k
  ·subst e;rw [hx] at hz;cases hz;exact ⟨q,x',hxk,h5,(hh i).2 h6⟩
  ·exact ⟨q,z,hxo e hz,h5,h6⟩
 ·rcases set_get hy hk with ⟨rfl,rfl⟩|⟨hq,hy2⟩
  ·exact I.hld q x i w hx ((hh i).1 hh0) hw0
  ·exact I.hld q y i w hy2 hh0 hw0
 ·refine (I.free i w hw0 fun z => hno (hHH z)).more (.inr fun z => hno ⟨k,x',hxk,hi',(hh i).2 (hw i z)⟩)
 ·rcases set_get hy hk with ⟨rfl,rfl⟩|⟨hq,hy2⟩
  ·obtain ⟨u1,u2⟩:=t4 i w ((hh i).1 h6) hw0
   refine ⟨by rw [hwv];exact u1,fun z hz hwz => ?_,fun a r _ _ => .inr ⟨hp,by rw [ha];omega⟩⟩
   rcases List.mem_append.1 hz with hz|hz
   ·have:=u2 z hz hwz;rw [hwv];omega
   ·rw [List.mem_singleton] at hz;subst hz;exact Int.le_refl _
  ·obtain ⟨u1,u2,u3⟩:=I.busy q y i w hy2 h5 h6 hw0
   refine ⟨u1,fun z hz hwz => ?_,u3⟩
   rcases List.mem_append.1 hz with hz|hz
   ·exact u2 z hz hwz
   ·rw [List.mem_singleton] at hz;subst hz
    have a1:=I.hld q y i w hy2 h6 hw0
    have a2:=I.hld k x i w hx (hw i hwz) hw0
    omega
 ·rcases set_get hy hk with ⟨rfl,rfl⟩|⟨hq,hy2⟩
  ·exact List.mem_append_right _ (List.mem_singleton.2 rfl)
  ·exact List.mem_append_left _ (I.inh q y hy2 h5)
 ·rcases set_get hy hk with ⟨rfl,rfl⟩|⟨hq,hy2⟩
  ·exact absurd h5 hnt
  ·obtain ⟨u1,u2,u3,u4⟩:=I.tick q y hy2 h5
   refine ⟨u1,fun z hz => ?_,fun q' y' hq' hy' h5' => ?_,fun i w h6 hw0 => ⟨(u4 i w h6 hw0).1,fun z hz hwz => ?_⟩⟩
   ·rcases List.mem_append.1 hz with hz|hz
    ·exact u2 z hz
    ·rw [List.mem_singleton] at hz;subst hz
     show x'.commit_.wv_ ≠ _
     rw [hwv]
     exact fun e => t3 q y hq hy2 h5 e.symm
   ·rcases set_get hy' hk with ⟨rfl,rfl⟩|⟨_,hy3⟩
    ·exact absurd h5' hnt
    ·exact u3 q' y' hq' hy3 h5'
   ·rcases List.mem_append.1 hz with hz|hz
    ·exact (u4 i w h6 hw0).2 z hz hwz
    ·rw [List.mem_singleton] at hz;subst hz
     have a1:=I.hld q y i w hy2 h6 hw0
     have a2:=I.hld k x i w hx (hw i hwz) hw0
     omega
 ·rcases set_get hy' hk with ⟨rfl,rfl⟩|⟨hq',hy3⟩
  ·exact absurd h5 hnt
  ·rcases set_get hy hk with ⟨rfl,rfl⟩|⟨hq,hy2⟩
   ·rw [hrv];rw [hsn] at hr;exact I.rd q x q' y' hx hy3 h5 r hr hl
   ·exact I.rd q y q' y' hy2 hy3 h5 r hr hl
 ·rcases set_get hy hk with ⟨rfl,rfl⟩|⟨hq,hy2⟩
  ·refine ⟨by rw [hrv];exact J.rv,fun z => by omega,by rw [hsn,hat];exact J.len,fun r hr => ?_,fun z => by omega,fun _ _ => by rw [hps,hwho];exact Jp⟩
   rw [hsn] at hr
   rw [hrv]
   exact hmore q x hx r hr
  ·have Jq:=I.job q y hy2
   refine ⟨Jq.rv,Jq.idle,Jq.len,hmore q y hy2,fun h5 h6 => ?_,Jq.puts⟩
   obtain ⟨p1,p2,p3⟩:=Jq.prb h5 h6
   exact ⟨p1,p2,fun h0 w hw0 => ⟨(p3 h0 w hw0).1,(p3 h0 w hw0).2.1,fun h7 => ⟨((p3 h0 w hw0).2.2 h7).1,fun e hno => ((p3 h0 w hw0).2.2 h7).2 e fun z => hno (hHH z)⟩⟩⟩
end Go.Proofs.YtpmfhfpjiebcjaaGreat
namespace Go.Proofs.YtpmfhfpjiebcjaaGreat
open Go.RowKit Go.Deep
set_option linter.unnecessarySimpa false
set_option linter.unusedSimpArgs false
set_option linter.unusedVariables false

theorem Inv.memOk {cells : List Int} {jobs : List Job} {s : DS} (I : Inv cells jobs s) : memOk s.m = true:=dec_yes I.mem
theorem Inv.word {cells : List Int} {jobs : List Job} {s : DS} (I : Inv cells jobs s) {i : Nat} (hi : i < 8) : ∃ w,s.m.cells_[i]? = some w ∧ wordAt s.m i = w ∧ Word.fine s.m.clock_ w:=by
 have hl : s.m.cells_.length = 8:=I.mem.2.1
 obtain ⟨w,hw⟩ : ∃ w,s.m.cells_[i]? = some w:=⟨_,List.getElem?_eq_getElem (by omega)⟩
 exact ⟨w,hw,getD_of hw,I.mem.1 i (by omega) w hw⟩
theorem pstep_inv {cells : List Int} {jobs : List Job} {s : DS} (I : Inv cells jobs s) {rv : Int} (hrv : 0 ≤ rv ∧ rv ≤ s.m.clock_) {p : Probe} (hp : PInv s.m s.xs rv p) :
  (pstep s.m rv p).phase_ = 4 ∨
  ((pstep s.m rv p).phase_ = 3 ∧ ((0 ≤ (pstep s.m rv p).cell_ ∧ (pstep s.m rv p).cell_ ≤ 7) ∧ (0 ≤ (pstep s.m rv p).val_ ∧ (pstep s.m rv p).val_ ≤ 65535)) ∧ (∃ t,AtS cells s.h rv (pstep s.m rv p).cell_.toNat (pstep s.m rv p).val_ t) ∧ ∀ (q : Nat) (y : JobRun),s.xs[q]? = some y → ticked y → lastV y.commit_.puts_ (pstep s.m rv p).cell_ = none) ∨
  ((pstep s.m rv p).phase_ ≠ 3 ∧ PInv s.m s.xs rv (pstep s.m rv p)):=by
 obtain ⟨pc,pp,pv,pl⟩:=p
 obtain ⟨hc,hph,h3⟩:=hp
 simp only at hc hph h3
 by_cases hok : probeOk ⟨pc,pp,pv,pl⟩ = true
 rotate_left
 ·rw [pstep_bad fun z => hok z.2]
  exact .inr (.inr ⟨by simp only;omega,hc,hph,h3⟩)
 obtain ⟨i,rfl⟩ : ∃ i : Nat,pc = (i : Int):=⟨pc.toNat,by omega⟩
 rw [Int.toNat_natCast] at h3
 obtain ⟨w,hw,hwa,hf⟩:=I.word (i:=i) (by omega)
 rcases hph with rfl|rfl|rfl
 ·by_cases hz : w.owner_ = 0 ∧ w.ver_ ≤ rv
  ·rw [ps0_yes I.memOk hok hw hz]
   refine .inr (.inr ⟨by simp,hc,.inr (.inl rfl),fun _ w' hw' => ?_⟩)
   simp only [Int.toNat_natCast] at hw'
   rw [hw] at hw';cases hw'
   exact ⟨hz.2,Int.le_refl _,fun z => by simp at z⟩
  ·rw [ps0_no I.memOk hok hw hz];exact .inl rfl
 ·rw [ps1 I.memOk hok hw]
  obtain ⟨a1,a2,_⟩:=h3 (by omega) w hw
  refine .inr (.inr ⟨by simp,hc,.inr (.inr rfl),fun _ w' hw' => ?_⟩)
  simp only [Int.toNat_natCast] at hw'
  rw [hw] at hw';cases hw'
  exact ⟨a1,a2,fun _ => ⟨hf.1,fun _ _ => rfl⟩⟩
 ·obtain ⟨a1,a2,a3⟩:=h3 (by omega) w hw
  by_cases hz : w.owner_ = 0 ∧ w.ver_ = pv
  ·rw [ps2_yes I.memOk hok hw hz]
   have hno : ¬ HH s.xs i:=by
    rintro ⟨q,y,hy,_,h6⟩
    have:=I.hld q y i w hy h6 hw
    omega
   have e:=(a3 rfl).2 hz.2 hno
   refine .inr (.inl ⟨rfl,⟨hc,(a3 rfl).1⟩,⟨w.ver_,?_⟩,fun q y hy hty => ?_⟩)
   ·simp only [Int.toNat_natCast]
    rw [e]
    exact (I.free i w hw hno).cut hrv.2 (by omega)
   ·cases e2 : lastV y.commit_.puts_ (i : Int) with
    | none => rfl
    | some v =>
     obtain ⟨a,r,h5,h6,_⟩:=lastV_mem e2
     have:=I.hld q y i w hy ((inH_held hty).2 ⟨a,r,h5,h6⟩) hw
     omega
  ·rw [ps2_no I.memOk hok hw hz];exact .inl rfl
theorem not_held {x : JobRun} (h : x.phase_ ≠ 2) (i : Nat) : ¬ held x i:=fun z => h z.1
theorem not_inH {x : JobRun} (h : x.phase_ ≠ 2) : ¬ inH x:=fun z => h z.1
theorem not_ticked {x : JobRun} (h : x.phase_ ≠ 2) : ¬ ticked x:=fun z => h z.1
/-- A job that does not commit steps,nothing else changes;or it gives all up. -/
theorem Inv.quiet {cells : List Int} {jobs : List Job} {s : DS} (I : Inv cells jobs s) {k : Nat} {x x' : JobRun} (hx : s.xs[k]? = some x) (h2 : ¬ inH x) (hh : ∀ i,¬ held x i) (h2' : ¬ inH x') (hh' : ∀ i,¬ held x' i) (ht' : ¬ ticked x') (h3 : x.phase_ = 3 → x'.phase_ = 3)
  {c' : Int} (hc : s.m.clock_ ≤ c' ∧ c' ≤ 1000000)
  (hs : ∀ (q : Nat) (y : JobRun),q ≠ k → s.xs[q]? = some y → ticked y → ∀ r ∈ x'.seen_,lastV y.commit_.puts_ r.cell_ ≠ none → x'.rv_ < y.commit_.wv_)
  (hj : JInv cells jobs ⟨c',s.m.cells_⟩ (s.xs.set k x') s.h k x') : Inv cells jobs ⟨⟨c',s.m.cells_⟩,s.xs.set k x',s.h⟩:=by
 have hM : memP ⟨c',s.m.cells_⟩:=⟨fun i hi a ha => by obtain ⟨b1,b2,b3⟩:=I.mem.1 i hi a ha;exact ⟨b1,⟨b2.1,by have:=b2.2;show _ ≤ c';omega⟩,b3⟩,I.mem.2.1,by have:=I.mem.2.2;show 0 ≤ c' ∧ c' ≤ 1000000;omega⟩
 refine I.step hx hM hc.1 (fun z => absurd z h2') (fun z => absurd z h2) h3 (fun j w' hw' => ⟨w',hw',Int.le_refl _,.inl ⟨rfl,⟨fun z => absurd z (hh' j),fun z => absurd z (hh j)⟩⟩,fun z => absurd z h2'⟩) (fun z => absurd z ht') hs hj
/-- HH does not grow when a job that is not of the history takes another's place. -/
theorem HH_set {xs : List JobRun} {k : Nat} {x x' : JobRun} (hx : xs[k]? = some x) (h : ¬ inH x) (h' : ¬ inH x') (i : Nat) : HH (xs.set k x') i ↔ HH xs i:=by
 have hk : k < xs.length:=(List.getElem?_eq_some_iff.1 hx).1
 constructor
 ·rintro ⟨q,y,hy,h1,h2⟩
  rcases set_get hy hk with ⟨rfl,rfl⟩|⟨hq,hy2⟩
  ·exact absurd h1 h'
  ·exact ⟨q,y,hy2,h1,h2⟩
 ·rintro ⟨q,y,hy,h1,h2⟩
  by_cases e : q = k
  ·subst e;rw [hx] at hy;cases hy;exact absurd h1 h
  ·exact ⟨q,y,by rw [List.getElem?_set,if_neg (fun z => e z.symm)];exact hy,h1,h2⟩
theorem JInv.again {cells : List Int} {jobs : List Job} {m : Mem} {xs : List JobRun} {h : List Wrote} {k : Nat} {t : Int} (hm : 0 ≤ m.clock_) : JInv cells jobs m xs h k (again t):=by
 refine ⟨⟨Int.le_refl _,hm⟩,fun _ => ⟨rfl,rfl⟩,by simp [Go.Proofs.YtpmfhfpjiebcjaaGreat.again],fun r hr => by simp [Go.Proofs.YtpmfhfpjiebcjaaGreat.again] at hr,fun z => by simp [Go.Proofs.YtpmfhfpjiebcjaaGreat.again] at z,fun z => by simp [Go.Proofs.YtpmfhfpjiebcjaaGreat.again] at z⟩
theorem Inv.again {cells : List Int} {jobs : List Job} {s : DS} (I : Inv cells jobs s) {k : Nat} {x : JobRun} {t : Int} (hx : s.xs[k]? = some x) (h2 : ¬ inH x) (hh : ∀ i,¬ held x i) (h3 : x.phase_ ≠ 3) : Inv cells jobs ⟨s.m,s.xs.set k (Go.Proofs.YtpmfhfpjiebcjaaGreat.again t),s.h⟩:=by
 have e : (Go.Proofs.YtpmfhfpjiebcjaaGreat.again t).phase_ ≠ 2:=by simp [Go.Proofs.YtpmfhfpjiebcjaaGreat.again]
 exact I.quiet (c':=s.m.clock_) hx h2 hh (not_inH e) (not_held e) (not_ticked e) (fun z => absurd z h3) ⟨Int.le_refl _,I.mem.2.2.2⟩ (fun q y _ _ _ r hr => by simp [Go.Proofs.YtpmfhfpjiebcjaaGreat.again] at hr) (JInv.again I.mem.2.2.1)
end Go.Proofs.YtpmfhfpjiebcjaaGreat
