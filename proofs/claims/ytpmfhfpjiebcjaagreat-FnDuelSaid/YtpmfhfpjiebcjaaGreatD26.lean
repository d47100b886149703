/- Steps of a duel that do not commit. No condition. Steps of a duel within a commit: the two ways in which they change what is there. No condition. -/
import Derived.Test.YtpmfhfpjiebcjaaGreatD25
namespace Go.Proofs.YtpmfhfpjiebcjaaGreat
open Go.RowKit Go.Deep
set_option linter.unnecessarySimpa false
set_option linter.unusedSimpArgs false
set_option linter.unusedVariables false

theorem getD_in {l : List Int} {n : Nat} (h : ∀ x ∈ l,isC x) : 0 ≤ l.getD n default ∧ l.getD n default ≤ 7:=by
 rw [List.getD_eq_getElem?_getD]
 cases e : l[n]? with
 | none => exact ⟨Int.le_refl _,by decide⟩
 | some v => exact h v (List.mem_of_getElem? e)
theorem pnew_inv {m : Mem} {xs : List JobRun} {rv c : Int} (h : 0 ≤ c ∧ c ≤ 7) : PInv m xs rv (pnew c):=by
 unfold pnew
 rw [dec_yes h]
 exact ⟨h,.inl rfl,fun z => absurd rfl z⟩
theorem PInv.set {m : Mem} {xs : List JobRun} {rv : Int} {p : Probe} {k : Nat} {x x' : JobRun} (h : PInv m xs rv p) (hx : xs[k]? = some x) (h1 : ¬ inH x) (h2 : ¬ inH x') : PInv m (xs.set k x') rv p :=
 ⟨h.1,h.2.1,fun h0 w hw => ⟨(h.2.2 h0 w hw).1,(h.2.2 h0 w hw).2.1,fun h3 => ⟨((h.2.2 h0 w hw).2.2 h3).1,fun e hn => ((h.2.2 h0 w hw).2.2 h3).2 e fun z => hn ((HH_set hx h1 h2 _).2 z)⟩⟩⟩
theorem cnew_none (who rv : Int) (ps qs : List Row) (x : JobRun) (hx : x.commit_ = cnew who rv ps qs) : (∀ i,¬ held x i) ∧ ¬ inH x ∧ ¬ ticked x:=by
 unfold cnew at hx
 split at hx
 ·have hp : x.commit_.phase_ = if (netR ps).length = 0 then 2 else 1:=by rw [hx]
  have ha : x.commit_.at_ = 0:=by rw [hx]
  have hq : x.commit_.puts_ = netR ps:=by rw [hx]
  have hp2 : x.commit_.phase_ = 2 ∨ x.commit_.phase_ = 1:=by rw [hp];split;exact .inl rfl;exact .inr rfl
  refine ⟨?_,fun z => by rcases z.2 with a|a <;> omega,fun z => by have:=z.2;omega⟩
  rintro i ⟨_,a,r,h1,_,h2⟩
  rw [hq] at h1
  have hl:=(List.getElem?_eq_some_iff.1 h1).1
  unfold heldAt at h2
  rw [hp,ha] at h2
  rw [if_neg (by omega)] at h2
  omega
 ·have hp : x.commit_.phase_ = 0:=by rw [hx]
  refine ⟨?_,fun z => by rcases z.2 with a|a <;> omega,fun z => by have:=z.2;omega⟩
  rintro i ⟨_,a,r,_,_,h2⟩
  unfold heldAt at h2
  omega
theorem netTo_at {l : List Row} : ∀ {k a : Nat} {r : Row},(netTo l k)[a]? = some r → (0 ≤ r.cell_ ∧ r.cell_ < (k : Int)) ∧ lastV l r.cell_ = some r.val_
 | 0,a,r,h => by simp [netTo] at h
 | k + 1,a,r,h => by
  cases e : lastV l (k : Int) with
  | none =>
   rw [netTo_none e] at h
   have:=netTo_at h
   exact ⟨⟨this.1.1,by omega⟩,this.2⟩
  | some v =>
   rw [netTo_some e] at h
   by_cases q : a < (netTo l k).length
   ·rw [List.getElem?_append_left q] at h
    have:=netTo_at h
    exact ⟨⟨this.1.1,by omega⟩,this.2⟩
   ·rw [List.getElem?_append_right (by omega)] at h
    cases e2 : a - (netTo l k).length with
    | zero => rw [e2] at h;simp at h;subst h;exact ⟨⟨by show (0 : Int) ≤ k;omega,by show (k : Int) < _;omega⟩,e⟩
    | succ n => rw [e2] at h;simp at h
theorem netTo_rising (l : List Row) : ∀ k,rising ((netTo l k).map (·.cell_))
 | 0 => fun i x y hx => by simp [netTo] at hx
 | k + 1 => by
  cases e : lastV l (k : Int) with
  | none => rw [netTo_none e];exact netTo_rising l k
  | some v =>
   rw [netTo_some e]
   intro i x y hx hy
   rw [List.map_append] at hx hy
   have hl : ((netTo l k).map (·.cell_)).length = (netTo l k).length:=List.length_map _
   by_cases q : i + 1 < (netTo l k).length
   ·rw [List.getElem?_append_left (by omega)] at hx hy
    exact netTo_rising l k i x y hx hy
   ·rw [List.getElem?_append_right (by omega)] at hy
    have hi : i + 1 - ((netTo l k).map (·.cell_)).length = 0:=by
     have:=(List.getElem?_eq_some_iff.1 hy).1
     simp at this;omega
    rw [hi] at hy
    simp at hy
    subst hy
    have hil : i < ((netTo l k).map (·.cell_)).length:=by
     have : i < (((netTo l k).map (·.cell_)) ++ ([⟨(k : Int),v⟩] : List Row).map (·.cell_)).length:=(List.getElem?_eq_some_iff.1 hx).1
     simp at this hi ⊢;omega
    rw [List.getElem?_append_left hil,List.getElem?_map] at hx
    obtain ⟨r,hr,rfl⟩:=Option.map_eq_some_iff.1 hx
    exact (netTo_at hr).1.2
theorem net_ok {l : List Row} : rowsOk (netR l) = true:=by
 refine dec_yes ⟨by have:=net_le l;omega,fun i _ r hr => ?_⟩
 obtain ⟨h1,h2⟩:=netTo_at hr
 refine ⟨⟨h1.1,by have:=h1.2;omega⟩,?_⟩
 have hok : rowsOk l = true:=by
  cases q : rowsOk l with
  | true => rfl
  | false => unfold lastV at h2;rw [q] at h2;simp at h2
 obtain ⟨a,s,h3,h4,h5⟩:=lastV_mem h2
 have:=(dec_true hok).2 a (List.getElem?_eq_some_iff.1 h3).1 s h3
 rw [← h5];exact this.2
/-- A step of a job that is not in its commit. -/
theorem Inv.reads {cells : List Int} {jobs : List Job} {s : DS} (I : Inv cells jobs s) {k : Nat} {x : JobRun} (hx : s.xs[k]? = some x) (hp : x.phase_ ≠ 2) (hr : ∀ c ∈ (jobs.getD k default).reads_,isC c) :
  Inv cells jobs ⟨(jstep s.m ((k : Int) + 1) (jobs.getD k default) x).1,s.xs.set k (jstep s.m ((k : Int) + 1) (jobs.getD k default) x).2,s.h⟩:=by
 have J:=I.job k x hx
 have hcl : s.m.clock_ ≤ s.m.clock_ ∧ s.m.clock_ ≤ 1000000:=⟨Int.le_refl _,I.mem.2.2.2⟩
 have q1:=not_inH hp
 have q2:=not_held hp
 have rdk : ∀ (q : Nat) (y : JobRun),q ≠ k → s.xs[q]? = some y → ticked y → ∀ r ∈ x.seen_,lastV y.commit_.puts_ r.cell_ ≠ none → x.rv_ < y.commit_.wv_:=fun q y _ hy hty r hr hl => I.rd k x q y hx hy hty r hr hl
 unfold jstep
 by_cases h0 : x.phase_ = 0
 ·rw [if_pos h0]
  obtain ⟨e1,e2⟩:=J.idle h0
  refine I.quiet (c':=s.m.clock_) hx q1 q2 (not_inH (by simp)) (not_held (by simp)) (not_ticked (by simp)) (fun z => by omega) hcl (fun q y _ _ _ r hr => ?_) ?_
  ·simp only [e1] at hr;cases hr
  ·refine ⟨⟨I.mem.2.2.1,Int.le_refl _⟩,fun z => by simp at z,J.len,fun r hr => ?_,fun _ z => ?_,fun z => by simp at z⟩
   ·simp only [e1] at hr;cases hr
   ·simp only [e2] at z;cases z
 rw [if_neg h0]
 by_cases h1 : x.phase_ = 1
 rotate_left
 ·rw [if_neg h1,if_neg hp]
  refine I.quiet (c':=s.m.clock_) hx q1 q2 q1 q2 (not_ticked hp) id hcl rdk ?_
  exact ⟨J.rv,J.idle,J.len,J.seen,fun z => absurd z h1,J.puts⟩
 rw [if_pos h1]
 by_cases ha : x.at_ = (jobs.getD k default).reads_.length
 ·rw [if_pos ha]
  split
  ·refine I.quiet (c':=s.m.clock_) hx q1 q2 (not_inH (by simp)) (not_held (by simp)) (not_ticked (by simp)) (fun z => by omega) hcl rdk ?_
   exact ⟨J.rv,fun z => by simp at z,J.len,J.seen,fun z => by simp at z,fun z => by simp at z⟩
  ·obtain ⟨n1,n2,n3⟩:=cnew_none ((k : Int) + 1) x.rv_ (jobs.getD k default).puts_ x.seen_ ⟨2,x.tries_,x.rv_,x.at_,x.stamp_,x.seen_,x.busy_,x.probe_,cnew ((k : Int) + 1) x.rv_ (jobs.getD k default).puts_ x.seen_⟩ rfl
   refine I.quiet (c':=s.m.clock_) hx q1 q2 n2 n1 n3 (fun z => by omega) hcl rdk ?_
   refine ⟨J.rv,fun z => by simp at z,J.len,J.seen,fun z => by simp at z,fun _ h5 => ?_⟩
   simp only at h5 ⊢
   unfold cnew at h5 ⊢
   split
   ·exact ⟨rfl,rfl,net_ok,netTo_rising _ 8⟩
   ·rename_i hb;rw [if_neg hb] at h5;exact absurd rfl h5
 rw [if_neg ha]
 have P0 : PInv s.m s.xs x.rv_ (probe0 (jobs.getD k default) x):=by
  unfold probe0
  split
  ·rename_i hb;exact J.prb h1 hb
  ·exact pnew_inv (getD_in hr)
 have P1:=pstep_inv I J.rv P0
 unfold jread
 generalize pstep s.m x.rv_ (probe0 (jobs.getD k default) x) = p at P1 ⊢
 simp only
 by_cases p4 : p.phase_ = 4
 ·rw [if_pos p4]
  exact I.again hx q1 q2 (by omega)
 rw [if_neg p4]
 by_cases p3 : p.phase_ = 3
 ·rw [if_pos p3]
  rcases P1 with z|⟨_,z1,z2,z3⟩|⟨z,_⟩
  ·exact absurd z p4
  ·have n2 : (⟨x.phase_,x.tries_,x.rv_,x.at_ + 1,x.stamp_,x.seen_ ++ [⟨p.cell_,p.val_⟩],false,⟨0,0,0,0⟩,x.commit_⟩ : JobRun).phase_ ≠ 2:=hp
   refine I.quiet (c':=s.m.clock_) hx q1 q2 (not_inH n2) (not_held n2) (not_ticked n2) id hcl (fun q y hq hy hty r hr hl => ?_) ?_
   ·rcases List.mem_append.1 hr with hr|hr
    ·exact rdk q y hq hy hty r hr hl
    ·rw [List.mem_singleton] at hr;subst hr
     exact absurd (z3 q y hy hty) hl
   ·refine ⟨J.rv,fun z => absurd z h0,?_,fun r hr => ?_,fun _ z => by simp at z,fun z => absurd z hp⟩
    ·have:=J.len;simp only [List.length_append,List.length_cons,List.length_nil];omega
    ·rcases List.mem_append.1 hr with hr|hr
     ·exact J.seen r hr
     ·rw [List.mem_singleton] at hr;subst hr
      exact ⟨z1,z2⟩
  ·exact absurd p3 z
 ·rw [if_neg p3]
  rcases P1 with z|z|⟨_,z⟩
  ·exact absurd z p4
  ·exact absurd z.1 p3
  ·have n2 : (⟨x.phase_,x.tries_,x.rv_,x.at_,x.stamp_,x.seen_,true,p,x.commit_⟩ : JobRun).phase_ ≠ 2:=hp
   refine I.quiet (c':=s.m.clock_) hx q1 q2 (not_inH n2) (not_held n2) (not_ticked n2) id hcl rdk ?_
   exact ⟨J.rv,fun z => absurd z h0,J.len,J.seen,fun _ _ => z.set hx q1 (not_inH n2),fun z => absurd z hp⟩
end Go.Proofs.YtpmfhfpjiebcjaaGreat
namespace Go.Proofs.YtpmfhfpjiebcjaaGreat
open Go.RowKit Go.Deep
set_option linter.unnecessarySimpa false
set_option linter.unusedSimpArgs false
set_option linter.unusedVariables false

theorem JInv.keep {cells : List Int} {jobs : List Job} {m m' : Mem} {xs xs' : List JobRun} {h : List Wrote} {k : Nat} {x y : JobRun} (J : JInv cells jobs m xs h k x) (hr : y.rv_ = x.rv_) (hs : y.seen_ = x.seen_) (ha : y.at_ = x.at_) (h0 : y.phase_ ≠ 0) (h1 : y.phase_ ≠ 1)
  (hp : y.phase_ = 2 → y.commit_.who_ = (k : Int) + 1 ∧ y.commit_.puts_ = netR (jobs.getD k default).puts_ ∧ rowsOk y.commit_.puts_ = true ∧ rising (y.commit_.puts_.map (·.cell_))) (hc : m.clock_ ≤ m'.clock_) : JInv cells jobs m' xs' h k y :=
 ⟨by rw [hr];have:=J.rv;omega,fun z => absurd z h0,by rw [hs,ha];exact J.len,by rw [hs,hr];exact J.seen,fun z => absurd z h1,fun z _ => hp z⟩
/-- What has been seen stays,or all is forgotten. -/
def seenK (x y : JobRun) : Prop:=y.seen_ = [] ∨ (y.seen_ = x.seen_ ∧ y.rv_ = x.rv_)
theorem Inv.still {cells : List Int} {jobs : List Job} {s : DS} (I : Inv cells jobs s) {k : Nat} {x y : JobRun} (hx : s.xs[k]? = some x) (hn : ¬ inH x) (hn' : ¬ inH y) (hh : ∀ i,held y i ↔ held x i) (h3 : x.phase_ ≠ 3)
  (ht : ticked y → ticked x ∧ y.commit_.wv_ = x.commit_.wv_ ∧ y.commit_.puts_ = x.commit_.puts_ ∧ y.seen_ = x.seen_ ∧ y.rv_ = x.rv_) (hsn : seenK x y) (hj : JInv cells jobs s.m (s.xs.set k y) s.h k y) : Inv cells jobs ⟨s.m,s.xs.set k y,s.h⟩:=by
 refine I.step hx I.mem (Int.le_refl _) (fun z => absurd z hn') (fun z => absurd z hn) (fun z => absurd z h3) (fun j w' hw' => ⟨w',hw',Int.le_refl _,.inl ⟨rfl,hh j⟩,fun z => absurd z hn'⟩) (fun z => ?_) (fun q z hq hz hty r hr hl => ?_) hj
 ·obtain ⟨t1,t2,t3,t4,t5⟩:=ht z
  obtain ⟨u1,u2,u3,u4⟩:=I.tick k x hx t1
  rw [t2,t3,t4,t5]
  exact ⟨u1,u2,u3,fun i w h1 h2 => u4 i w ((hh i).1 h1) h2,fun q y' hq hy r hr hl => I.rd q y' k x hy hx t1 r hr hl,fun r hr hl => I.rd k x k x hx hx t1 r hr hl⟩
 ·rcases hsn with e|⟨e1,e2⟩
  ·rw [e] at hr;cases hr
  ·rw [e1] at hr;rw [e2];exact I.rd k x q z hx hz hty r hr hl
theorem get_set_word {l : List Word} {i j : Nat} {w' v : Word} (h : (l.set i w')[j]? = some v) : (j = i ∧ v = w') ∨ (j ≠ i ∧ l[j]? = some v):=by
 rw [List.getElem?_set] at h
 by_cases e : i = j
 ·rw [if_pos e] at h
  split at h
  ·cases h;exact .inl ⟨e.symm,rfl⟩
  ·cases h
 ·rw [if_neg e] at h;exact .inr ⟨fun z => e z.symm,h⟩
theorem Inv.wordS {cells : List Int} {jobs : List Job} {s : DS} (I : Inv cells jobs s) {k : Nat} {x y : JobRun} {i : Nat} {w w' : Word} (hx : s.xs[k]? = some x) (hw : s.m.cells_[i]? = some w) (hf : Word.fine s.m.clock_ w')
  (hoth : ∀ (q : Nat) (z : JobRun),q ≠ k → s.xs[q]? = some z → ¬ held z i) (hne : ∀ j,j ≠ i → (held y j ↔ held x j)) (ho : (w'.owner_ = 0 ∧ ¬ held y i) ∨ (w'.owner_ = (k : Int) + 1 ∧ held y i)) (hv : w.ver_ ≤ w'.ver_)
  (hat : ¬ (inH y ∧ held y i) → AtS cells s.h s.m.clock_ i w'.val_ w'.ver_) (hpr : w'.ver_ = w.ver_ → ¬ (inH y ∧ held y i) → w'.val_ = w.val_ ∧ ¬ (inH x ∧ held x i))
  (hb1 : inH y → held y i → busyW s.h y i w') (hb2 : inH y → ∀ (j : Nat) (v : Word),j ≠ i → s.m.cells_[j]? = some v → held y j → busyW s.h y j v)
  (hin : inH y → inH x ∧ entOf k y = entOf k x) (hno : inH x → inH y ∨ y.phase_ = 3) (h3 : x.phase_ ≠ 3) (ht : ¬ ticked y) (hsn : seenK x y) (hj : JInv cells jobs ⟨s.m.clock_,s.m.cells_.set i w'⟩ (s.xs.set k y) s.h k y) :
  Inv cells jobs ⟨⟨s.m.clock_,s.m.cells_.set i w'⟩,s.xs.set k y,s.h⟩:=by
 have hM : memP ⟨s.m.clock_,s.m.cells_.set i w'⟩:=by
  refine ⟨fun j hj' a ha => ?_,by rw [List.length_set];exact I.mem.2.1,I.mem.2.2⟩
  rcases get_set_word ha with ⟨rfl,rfl⟩|⟨hq,ha2⟩
  ·exact hf
  ·exact I.mem.1 j (List.getElem?_eq_some_iff.1 ha2).1 a ha2
 refine I.step hx hM (Int.le_refl _) hin hno (fun z => absurd z h3) (fun j v hv' => ?_) (fun z => absurd z ht) (fun q z hq hz hty r hr hl => ?_) hj
 ·rcases get_set_word hv' with ⟨rfl,rfl⟩|⟨hq,hv2⟩
  ·exact ⟨w,hw,hv,.inr ⟨hoth,ho,hat,hpr⟩,hb1⟩
  ·exact ⟨v,hv2,Int.le_refl _,.inl ⟨rfl,hne j hq⟩,fun z hh => hb2 z j v hq hv2 hh⟩
 ·rcases hsn with e|⟨e1,e2⟩
  ·rw [e] at hr;cases hr
  ·rw [e1] at hr;rw [e2];exact I.rd k x q z hx hz hty r hr hl
/-- The clock ticks;the job has its stamp. -/
theorem Inv.tickS {cells : List Int} {jobs : List Job} {s : DS} (I : Inv cells jobs s) {k : Nat} {x y : JobRun} (hx : s.xs[k]? = some x) (hp : x.phase_ = 2) (hcp : x.commit_.phase_ = 2) (hc : s.m.clock_ ≠ 1000000)
  (hy : y.phase_ = 2) (hy3 : y.commit_.phase_ = 3) (hwv : y.commit_.wv_ = s.m.clock_ + 1) (hps : y.commit_.puts_ = x.commit_.puts_) (hsn : y.seen_ = x.seen_) (hrv : y.rv_ = x.rv_)
  (hj : JInv cells jobs ⟨s.m.clock_ + 1,s.m.cells_⟩ (s.xs.set k y) s.h k y) : Inv cells jobs ⟨⟨s.m.clock_ + 1,s.m.cells_⟩,s.xs.set k y,s.h⟩:=by
 have hcl:=I.mem.2.2
 have hM : memP ⟨s.m.clock_ + 1,s.m.cells_⟩:=⟨fun i hi a ha => by obtain ⟨b1,b2,b3⟩:=I.mem.1 i hi a ha;exact ⟨b1,⟨b2.1,by have:=b2.2;show _ ≤ s.m.clock_ + 1;omega⟩,b3⟩,I.mem.2.1,by show 0 ≤ s.m.clock_ + 1 ∧ s.m.clock_ + 1 ≤ 1000000;omega⟩
 have hn : ¬ inH x:=fun z => by rcases z.2 with a|a <;> omega
 have hn' : ¬ inH y:=fun z => by rcases z.2 with a|a <;> omega
 have hh : ∀ i,held y i ↔ held x i:=fun i => by
  constructor
  ·rintro ⟨_,a,r,h1,h2,_⟩;exact ⟨hp,a,r,by rw [← hps];exact h1,h2,.inr (.inl hcp)⟩
  ·rintro ⟨_,a,r,h1,h2,_⟩;exact ⟨hy,a,r,by rw [hps];exact h1,h2,.inr (.inr (.inl hy3))⟩
 have hwl : ∀ (i : Nat) (w : Word),s.m.cells_[i]? = some w → w.ver_ ≤ s.m.clock_:=fun i w hw => (I.mem.1 i (List.getElem?_eq_some_iff.1 hw).1 w hw).2.1.2
 refine I.step hx hM (by show s.m.clock_ ≤ s.m.clock_ + 1;omega) (fun z => absurd z hn') (fun z => absurd z hn) (fun z => by omega) (fun j w' hw' => ⟨w',hw',Int.le_refl _,.inl ⟨rfl,hh j⟩,fun z => absurd z hn'⟩) (fun _ => ?_) (fun q z hq hz hty r hr hl => ?_) hj
 ·rw [hwv]
  refine ⟨by show 1 ≤ s.m.clock_ + 1 ∧ s.m.clock_ + 1 ≤ s.m.clock_ + 1;omega,fun z hz => by have:=(I.hst z hz).1.2;omega,fun q z hq hz hty => by have:=(I.tick q z hz hty).1.2;omega,fun i w _ hw => ⟨by have:=hwl i w hw;omega,fun z hz _ => by have:=(I.hst z hz).1.2;omega⟩,fun q z hq hz r hr hl => by have:=(I.job q z hz).rv.2;omega,fun r hr hl => by rw [hrv];have:=(I.job k x hx).rv.2;omega⟩
 ·rw [hsn] at hr;rw [hrv];exact I.rd k x q z hx hz hty r hr hl
theorem Inv.same {cells : List Int} {jobs : List Job} {s : DS} (I : Inv cells jobs s) {k : Nat} {x : JobRun} (hx : s.xs[k]? = some x) : Inv cells jobs ⟨s.m,s.xs.set k x,s.h⟩:=by
 have e : s.xs.set k x = s.xs:=by
  apply List.ext_getElem?
  intro i
  rw [List.getElem?_set]
  by_cases q : k = i
  ·subst q;rw [if_pos rfl,if_pos (List.getElem?_eq_some_iff.1 hx).1,hx]
  ·rw [if_neg q]
 rw [e];exact I
end Go.Proofs.YtpmfhfpjiebcjaaGreat
