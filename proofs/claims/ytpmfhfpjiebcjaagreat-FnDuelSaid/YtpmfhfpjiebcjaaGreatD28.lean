/- What holds all through a duel: every state that picks lead to. No condition. Plain laws on states: the entries in the order of their stamps, put over one behind the other; what a family sees. No condition. What a history says of a cell is what the state of that stamp has there. No condition. -/
import Derived.Test.YtpmfhfpjiebcjaaGreatD27
import Derived.Test.YtpmfhfpjiebcjaaGreatD04
namespace Go.Proofs.YtpmfhfpjiebcjaaGreat
open Go.RowKit Go.Deep
set_option linter.unnecessarySimpa false
set_option linter.unusedSimpArgs false
set_option linter.unusedVariables false

theorem jobsOk_reads {cells : List Int} {jobs : List Job} (h : jobsOk cells jobs = true) (k : Nat) : ∀ c ∈ (jobs.getD k default).reads_,isC c:=by
 intro c hc
 rw [List.getD_eq_getElem?_getD] at hc
 cases e : jobs[k]? with
 | none => rw [e] at hc;exact absurd hc (by simp [show (default : Job).reads_ = [] from rfl])
 | some j =>
  rw [e] at hc
  have hj:=(dec_true h).2.2 k (List.getElem?_eq_some_iff.1 e).1 j e
  obtain ⟨i,hi⟩:=List.mem_iff_getElem?.1 hc
  exact hj.2.2.2 i (List.getElem?_eq_some_iff.1 hi).1 c hi
theorem Inv.dstep {cells : List Int} {jobs : List Job} {s : DS} (I : Inv cells jobs s) (hj : jobsOk cells jobs = true) {k : Nat} (hk : k < jobs.length) : Inv cells jobs (dstep jobs s k):=by
 obtain ⟨x,hx⟩ : ∃ x,s.xs[k]? = some x:=⟨_,List.getElem?_eq_getElem (by rw [I.xlen];exact hk)⟩
 have hg : s.xs.getD k JobRun.zero = x:=by rw [List.getD_eq_getElem?_getD,hx];rfl
 unfold Go.Proofs.YtpmfhfpjiebcjaaGreat.dstep
 simp only [hg]
 by_cases hp : x.phase_ = 2
 ·have e : jstep s.m ((k : Int) + 1) (jobs.getD k default) x = (⟨(cstepS s.m x.commit_).k,(cstepS s.m x.commit_).xs⟩,jcommit s.m x):=by
   unfold jstep
   rw [if_neg (by omega),if_neg (by omega),if_pos hp]
  rw [e]
  exact I.commits hx hp
 ·have e : evS s.m x = false:=by unfold evS;exact dec_no fun z => hp z.1
  rw [e]
  exact I.reads hx hp (jobsOk_reads hj k)
theorem Inv.zero {cells : List Int} {jobs : List Job} (hv : valsOk cells = true) : Inv cells jobs ⟨⟨0,cells.map mkW⟩,List.replicate jobs.length JobRun.zero,[]⟩:=by
 have hx : ∀ {k : Nat} {x : JobRun},(List.replicate jobs.length JobRun.zero)[k]? = some x → x = JobRun.zero:=fun h => by
  have:=List.mem_of_getElem? h
  rw [List.mem_replicate] at this
  exact this.2
 have hz : JobRun.zero.phase_ ≠ 2:=by simp [JobRun.zero]
 have hl:=(dec_true hv).1
 have hw : ∀ {i : Nat} {w : Word},(cells.map mkW)[i]? = some w → ∃ v,cells[i]? = some v ∧ w = mkW v:=fun h => by
  rw [List.getElem?_map] at h
  obtain ⟨v,hv,e⟩:=Option.map_eq_some_iff.1 h
  exact ⟨v,hv,e.symm⟩
 refine ⟨⟨fun i _ w h => ?_,by simpa using hl,by show (0 : Int) ≤ 0 ∧ (0 : Int) ≤ 1000000;omega⟩,by simp,fun y hy => (by cases hy),List.Pairwise.nil,fun y hy => (by cases hy),fun i w h ho => ?_,fun k x i w h1 h2 => ?_,fun i w h _ => ?_,fun k x i w h1 h2 => ?_,fun k x h1 h2 => ?_,fun k x h1 h2 => ?_,fun k x k' x' h1 h2 h3 => ?_,fun k x h => ?_⟩
 ·obtain ⟨v,h1,rfl⟩:=hw h
  have:=(dec_true hv).2 i (List.getElem?_eq_some_iff.1 h1).1 v h1
  exact ⟨this,by show (0 : Int) ≤ 0 ∧ (0 : Int) ≤ 0;omega,by show (0 : Int) ≤ 0 ∧ (0 : Int) ≤ 99;omega⟩
 ·obtain ⟨v,h1,rfl⟩:=hw h;exact absurd rfl ho
 ·rw [hx h1] at h2;exact absurd h2 (not_held hz i)
 ·obtain ⟨v,h1,rfl⟩:=hw h;exact .inl ⟨rfl,h1,fun y hy => by cases hy⟩
 ·rw [hx h1] at h2;exact absurd h2 (not_inH hz)
 ·rw [hx h1] at h2;exact absurd h2 (not_inH hz)
 ·rw [hx h1] at h2;exact absurd h2 (not_ticked hz)
 ·rw [hx h2] at h3;exact absurd h3 (not_ticked hz)
 ·rw [hx h]
  exact ⟨⟨Int.le_refl _,Int.le_refl _⟩,fun _ => ⟨rfl,rfl⟩,by simp [JobRun.zero],fun r hr => by simp [JobRun.zero] at hr,fun z => by simp [JobRun.zero] at z,fun z => by simp [JobRun.zero] at z⟩
theorem Inv.to {cells picks : List Int} {jobs : List Job} (hj : jobsOk cells jobs = true) : ∀ q,Inv cells jobs (dto jobs ⟨⟨0,cells.map mkW⟩,List.replicate jobs.length JobRun.zero,[]⟩ picks q)
 | 0 => Inv.zero (dec_true hj).1
 | q + 1 => by
  unfold dto
  split
  ·rename_i v hv
   by_cases hz : 0 ≤ v ∧ v ≤ (jobs.length : Int) - 1
   ·rw [dec_yes hz];exact (Inv.to hj q).dstep hj (by omega)
   ·rw [dec_no hz];exact Inv.to hj q
  ·exact Inv.to hj q
theorem Inv.play {cells picks : List Int} {jobs : List Job} (hj : jobsOk cells jobs = true) (hp : picks.length ≤ 400) : Inv cells jobs (duelPlay cells jobs picks):=by
 unfold duelPlay
 rw [dec_yes ⟨hj,hp⟩]
 exact Inv.to hj _
/-- All is done: the memory is as the history says. -/
theorem Inv.over {cells : List Int} {jobs : List Job} {s : DS} (I : Inv cells jobs s) (ho : ∀ x ∈ s.xs,x.phase_ = 3) {i : Nat} {w : Word} (hw : s.m.cells_[i]? = some w) : AtS cells s.h s.m.clock_ i w.val_ w.ver_ :=
 I.free i w hw fun ⟨q,y,hy,h1,_⟩ => by have:=ho y (List.mem_of_getElem? hy);have:=h1.1;omega
theorem pigeon : ∀ (n : Nat) (l : List Int),l.Pairwise (· ≠ ·) → (∀ x ∈ l,1 ≤ x ∧ x ≤ (n : Int)) → l.length ≤ n
 | 0,l,_,h => by
  cases l with
  | nil => simp
  | cons a l => have:=h a (by simp);omega
 | n + 1,l,hp,h => by
  by_cases hm : ((n : Int) + 1) ∈ l
  ·have hp2 : (l.erase ((n : Int) + 1)).Pairwise (· ≠ ·):=hp.sublist List.erase_sublist
   have h2:=pigeon n (l.erase ((n : Int) + 1)) hp2 fun x hx => by
    have h3:=h x (List.mem_of_mem_erase hx)
    have h4 : x ≠ (n : Int) + 1:=fun e => by
     have hn : l.Nodup:=hp
     exact (List.Nodup.not_mem_erase hn) (e ▸ hx)
    omega
   rw [List.length_erase_of_mem hm] at h2
   omega
  ·have:=pigeon n l hp fun x hx => by
    have h3:=h x hx
    have h4 : x ≠ (n : Int) + 1:=fun e => hm (e ▸ hx)
    omega
   omega
theorem Inv.hlen {cells : List Int} {jobs : List Job} {s : DS} (I : Inv cells jobs s) : s.h.length ≤ jobs.length:=by
 have:=pigeon jobs.length (s.h.map (·.who_)) (by rw [List.pairwise_map];exact I.dis.imp fun h => h.2) fun x hx => by
  obtain ⟨y,hy,rfl⟩:=List.mem_map.1 hx
  obtain ⟨k,x,h1,h2,_⟩:=I.who y hy
  have:=(List.getElem?_eq_some_iff.1 h1).1
  rw [I.xlen] at this
  omega
 simpa using this
end Go.Proofs.YtpmfhfpjiebcjaaGreat
namespace Go.Proofs.YtpmfhfpjiebcjaaGreat
open Go.RowKit Go.Deep
set_option linter.unnecessarySimpa false
set_option linter.unusedSimpArgs false
set_option linter.unusedVariables false

theorem vals_at {l : List Int} (h : valsOk l = true) {k : Nat} {x : Int} (hx : l[k]? = some x) : 0 ≤ x ∧ x ≤ 65535:=(dec_true h).2 k (List.getElem?_eq_some_iff.1 hx).1 x hx
theorem setTo_ok {l : List Int} {rs : List Row} (hv : valsOk l = true) (hr : rowsOk rs = true) : ∀ k,k ≤ rs.length → valsOk (setTo l rs k) = true
 | 0,_ => hv
 | k + 1,hk => by
  have ih:=setTo_ok hv hr k (by omega)
  have hx:=List.getElem?_eq_getElem (show k < rs.length by omega)
  generalize rs[k] = x at hx
  have hok:=(dec_true hr).2 k (by omega) x hx
  rw [setTo_succ hx]
  refine dec_yes ⟨by rw [List.length_set];exact valsOk_len ih,fun i hi y hy => ?_⟩
  rw [List.getElem?_set] at hy
  by_cases e : x.cell_.toNat = i
  ·rw [if_pos e] at hy
   split at hy
   ·injection hy with hy;rw [← hy];exact hok.2
   ·cases hy
  ·rw [if_neg e] at hy
   exact vals_at ih hy
theorem over_ok {now : List Int} {ps : List Row} (hv : valsOk now = true) (h : rowsOk ps = true) : valsOk (overlayOf now ps) = true:=by
 unfold overlayOf
 rw [dec_yes ⟨hv,h⟩]
 exact setTo_ok hv h _ (Nat.le_refl _)
theorem stamp_once {l : List Wrote} (h : histOk l = true) {i j : Nat} {x y : Wrote} (hx : l[i]? = some x) (hy : l[j]? = some y) (e : x.stamp_ = y.stamp_) : i = j:=by
 rcases Nat.lt_trichotomy i j with c|c|c
 ·exact absurd e ((hist_one h hy).2.2.2 i x c hx)
 ·exact c
 ·exact absurd e.symm ((hist_one h hx).2.2.2 j y c hy)
theorem ovAll_is {l : List Wrote} (h : histOk l = true) {s : Int} {V : List Int} {p : Nat} {y : Wrote} (hy : l[p]? = some y) (hs : y.stamp_ = s) : ∀ j,j ≤ l.length → ovAll l s V j = if j ≤ p then V else overlayOf V y.puts_
 | 0,_ => by rw [if_pos (Nat.zero_le _)];rfl
 | j + 1,hj => by
  have ih:=ovAll_is (V:=V) h hy hs j (by omega)
  have hx:=List.getElem?_eq_getElem (show j < l.length by omega)
  generalize l[j] = x at hx
  by_cases e : x.stamp_ = s
  ·obtain rfl : j = p:=stamp_once h hx hy (by rw [e,hs])
   rw [ovAll_yes hx e,ih,if_pos (Nat.le_refl _),if_neg (by omega)]
   rw [hy] at hx
   injection hx with hx
   rw [hx]
  ·have : j ≠ p:=fun q => e (by subst q;rw [hy] at hx;injection hx with hx;rw [← hx];exact hs)
   rw [ovAll_no hx e,ih]
   by_cases c : j ≤ p
   ·rw [if_pos c,if_pos (by omega)]
   ·rw [if_neg c,if_neg (by omega)]
theorem stamps_is {l : List Wrote} (h : histOk l = true) : stampsOf l = sorted l:=by unfold stampsOf;rw [if_pos h]
theorem st_ok {l : List Wrote} (h : histOk l = true) {cells : List Int} (hv : valsOk cells = true) : ∀ i,i ≤ l.length → valsOk (stTo l (stampsOf l) cells i) = true
 | 0,_ => hv
 | i + 1,hi => by
  have ih:=st_ok h hv i (by omega)
  obtain ⟨s,hx⟩ : ∃ s,(stampsOf l)[i]? = some s:=⟨_,List.getElem?_eq_getElem (show i < (stampsOf l).length by rw [stamps_is h,sorted_len];omega)⟩
  obtain ⟨p,y,hy,hs⟩:=sorted_mem.1 (by rw [← stamps_is h];exact List.mem_of_getElem? hx : s ∈ sorted l)
  have hp:=(List.getElem?_eq_some_iff.1 hy).1
  rw [stTo_next hx,ovAll_is h hy hs _ (Nat.le_refl _),if_neg (by omega)]
  exact over_ok ih (hist_one h hy).2.2.1
theorem cnt_le (S : List Int) (n : Int) : cntLe S n ≤ S.length:=by unfold cntLe;exact (List.takeWhile_sublist _).length_le
theorem cnt_lt {S : List Int} {n s : Int} : ∀ {i : Nat},(∀ (p q : Nat) (x y : Int),p < q → S[p]? = some x → S[q]? = some y → x < y) → S[i]? = some s → (i < cntLe S n ↔ s ≤ n):=by
 induction S with
 | nil => intro i _ h;simp at h
 | cons x S ih =>
  intro i hs h
  unfold cntLe at ih ⊢
  rw [List.takeWhile_cons]
  cases i with
  | zero =>
   simp at h
   subst h
   by_cases c : x ≤ n <;> simp [c]
  | succ i =>
   have h' : S[i]? = some s:=by simpa using h
   have hlt:=hs 0 (i + 1) x s (by omega) rfl h
   have ih':=ih (i:=i) (fun p q a b hpq ha hb => hs (p + 1) (q + 1) a b (by omega) (by simpa using ha) (by simpa using hb)) h'
   by_cases c : x ≤ n
   ·simp only [c,decide_true,if_true,List.length_cons]
    rw [← ih']
    omega
   ·simp only [c,decide_false,Bool.false_eq_true,if_false,List.length_nil]
    omega
theorem stampsL {l : List Wrote} (h : histOk l = true) (p q : Nat) (x y : Int) (hpq : p < q) (hx : (stampsOf l)[p]? = some x) (hy : (stampsOf l)[q]? = some y) : x < y:=by
 rw [stamps_is h] at hx hy
 exact sorted_lt h hpq hx hy
/-- The entries that stand no later than N among the first k,put over. -/
noncomputable def runTo (L : List Wrote) (N : Int) (cells : List Int) : Nat → List Int
 | 0 => cells
 | k + 1 => match L[k]? with
  | some y => if dec (y.stamp_ ≤ N) = true then overlayOf (runTo L N cells k) y.puts_ else runTo L N cells k
  | none => runTo L N cells k
theorem runTo_yes {L : List Wrote} {N : Int} {cells : List Int} {k : Nat} {y : Wrote} (hy : L[k]? = some y) (h : y.stamp_ ≤ N) : runTo L N cells (k + 1) = overlayOf (runTo L N cells k) y.puts_:=by
 rw [runTo,hy];simp only;rw [dec_yes h];rfl
theorem runTo_no {L : List Wrote} {N : Int} {cells : List Int} {k : Nat} {y : Wrote} (hy : L[k]? = some y) (h : ¬ y.stamp_ ≤ N) : runTo L N cells (k + 1) = runTo L N cells k:=by
 rw [runTo,hy];simp only;rw [dec_no h];rfl
theorem runTo_le {L : List Wrote} {N : Int} {cells : List Int} (h : cells.length ≤ 8) : ∀ k,(runTo L N cells k).length ≤ 8
 | 0 => h
 | k + 1 => by
  have ih:=runTo_le (L:=L) (N:=N) h k
  rw [runTo]
  cases L[k]? with
  | none => exact ih
  | some y =>
   simp only
   split
   ·exact overlay_le _ _
   ·exact ih
theorem uniq_sorted : ∀ {a b : List Int},a.Perm b → a.Pairwise (· < ·) → b.Pairwise (· < ·) → a = b
 | [],b,h,_,_ => (List.nil_perm.1 h).symm
 | x::a,[],h,_,_ => by have:=h.length_eq;simp at this
 | x::a,y::b,h,h1,h2 => by
  have e : x = y:=by
   have m1 : x ∈ y::b:=h.subset (List.mem_cons_self ..)
   have m2 : y ∈ x::a:=h.symm.subset (List.mem_cons_self ..)
   rcases List.mem_cons.1 m1 with e|m1
   ·exact e
   rcases List.mem_cons.1 m2 with e|m2
   ·exact e.symm
   have:=(List.pairwise_cons.1 h1).1 y m2
   have:=(List.pairwise_cons.1 h2).1 x m1
   omega
  subst e
  rw [uniq_sorted (List.Perm.cons_inv h) (List.pairwise_cons.1 h1).2 (List.pairwise_cons.1 h2).2]
theorem order_is {l L : List Wrote} (h : histOk l = true) (hp : L.Perm l) (hs : L.Pairwise (fun x y => ¬ y.stamp_ < x.stamp_)) : L.map (·.stamp_) = stampsOf l:=by
 have hn : (l.map (·.stamp_)).Nodup:=by
  rw [List.Nodup,List.pairwise_iff_getElem]
  intro a b ha hb hab
  simp only [List.length_map] at ha hb
  have:=(hist_one h (List.getElem?_eq_getElem hb)).2.2.2 a _ hab (List.getElem?_eq_getElem ha)
  simpa using this
 have hpm : (L.map (·.stamp_)).Perm (l.map (·.stamp_)):=hp.map _
 have hn2 : (L.map (·.stamp_)).Nodup:=hpm.symm.nodup hn
 refine uniq_sorted ?_ ?_ ?_
 ·rw [stamps_is h];exact hpm.trans (List.mergeSort_perm _ _).symm
 ·have h2 : (L.map (·.stamp_)).Pairwise (fun a b => ¬ b < a):=List.pairwise_map.2 hs
  have h3:=List.Pairwise.and h2 hn2
  exact h3.imp fun {a b} q => by have h1:=q.1;have h2:=q.2;omega
 ·rw [List.pairwise_iff_getElem]
  intro i j hi hj hij
  exact stampsL h i j _ _ hij (List.getElem?_eq_getElem hi) (List.getElem?_eq_getElem hj)
theorem run_is {l L : List Wrote} (h : histOk l = true) (hp : L.Perm l) (hs : L.Pairwise (fun x y => ¬ y.stamp_ < x.stamp_)) (N : Int) (cells : List Int) : ∀ k,k ≤ L.length → runTo L N cells k = stTo l (stampsOf l) cells (min k (cntLe (stampsOf l) N))
 | 0,_ => by rw [Nat.zero_min];rfl
 | k + 1,hk => by
  have ih:=run_is h hp hs N cells k (by omega)
  have hx:=List.getElem?_eq_getElem (show k < L.length by omega)
  generalize L[k] = x at hx
  have hst : (stampsOf l)[k]? = some x.stamp_:=by rw [← order_is h hp hs,List.getElem?_map,hx];rfl
  have hcl:=cnt_lt (n:=N) (stampsL h) hst
  obtain ⟨p,hpx⟩:=List.mem_iff_getElem?.1 (hp.subset (List.mem_of_getElem? hx))
  by_cases c : x.stamp_ ≤ N
  ·have c2:=hcl.2 c
   have:=(List.getElem?_eq_some_iff.1 hpx).1
   rw [runTo_yes hx c,ih,Nat.min_eq_left (Nat.le_of_lt c2),Nat.min_eq_left c2,stTo_next hst,ovAll_is h hpx rfl _ (Nat.le_refl _),if_neg (by omega)]
  ·have c2 : ¬ k < cntLe (stampsOf l) N:=fun q => c (hcl.1 q)
   rw [runTo_no hx c,ih,Nat.min_eq_right (by omega),Nat.min_eq_right (by omega)]
theorem state_run {l L : List Wrote} {cells : List Int} (hv : valsOk cells = true) (h : histOk l = true) (hp : L.Perm l) (hs : L.Pairwise (fun x y => ¬ y.stamp_ < x.stamp_)) (N : Int) : stateOf cells l N = runTo L N cells L.length:=by
 have hc : cntLe (stampsOf l) N ≤ L.length:=by have:=cnt_le (stampsOf l) N;rw [stamps_is h,sorted_len] at this;rw [stamps_is h,hp.length_eq];exact this
 rw [run_is h hp hs N cells _ (Nat.le_refl _),Nat.min_eq_right hc]
 unfold stateOf
 rw [dec_yes ⟨hv,h⟩];rfl
theorem state_vals {l : List Wrote} {cells : List Int} (hv : valsOk cells = true) (h : histOk l = true) (N : Int) : valsOk (stateOf cells l N) = true:=by
 have hc : cntLe (stampsOf l) N ≤ l.length:=by have:=cnt_le (stampsOf l) N;rw [stamps_is h,sorted_len] at this;rw [stamps_is h];exact this
 unfold stateOf
 rw [dec_yes ⟨hv,h⟩]
 exact st_ok h hv _ hc
/-! ### What a family sees -/
end Go.Proofs.YtpmfhfpjiebcjaaGreat
namespace Go.Proofs.YtpmfhfpjiebcjaaGreat
open Go.RowKit Go.Deep
set_option linter.unnecessarySimpa false
set_option linter.unusedSimpArgs false
set_option linter.unusedVariables false

theorem setTo_at {l : List Int} {rs : List Row} {i : Nat} (hi : i < l.length) (hr : rowsOk rs = true) : ∀ k,k ≤ rs.length → (setTo l rs k)[i]? = match lastI rs (i : Int) k with|some v => some v|none => l[i]?
 | 0,_ => by simp [setTo,lastI]
 | k + 1,hk => by
  obtain ⟨r,hrk⟩ : ∃ r,rs[k]? = some r:=⟨_,List.getElem?_eq_getElem (by omega)⟩
  have h0:=((dec_true hr).2 k (by omega) r hrk).1
  rw [setTo_succ hrk,List.getElem?_set]
  by_cases e : r.cell_ = (i : Int)
  ·rw [if_pos (by omega),if_pos (by rw [setTo_len];omega),lastI_hit hrk e]
  ·rw [if_neg (by omega),lastI_miss hrk e,setTo_at hi hr k (by omega)]
theorem overlay_at {l : List Int} {rs : List Row} {i : Nat} (hi : i < 8) (hv : valsOk l = true) (hr : rowsOk rs = true) : (overlayOf l rs)[i]? = match lastV rs (i : Int) with|some v => some v|none => l[i]?:=by
 have hl:=(dec_true hv).1
 unfold overlayOf lastV
 rw [dec_yes ⟨hv,hr⟩,if_pos rfl,if_pos hr]
 exact setTo_at (by omega) hr rs.length (Nat.le_refl _)
theorem overlay_val {l : List Int} {rs : List Row} {i : Nat} {v : Int} (hi : i < 8) (hv : valsOk l = true) (hr : rowsOk rs = true) (h : lastV rs (i : Int) = some v) : (overlayOf l rs)[i]? = some v:=by rw [overlay_at hi hv hr,h]
theorem overlay_old {l : List Int} {rs : List Row} {i : Nat} (hi : i < 8) (hv : valsOk l = true) (hr : rowsOk rs = true) (h : lastV rs (i : Int) = none) : (overlayOf l rs)[i]? = l[i]?:=by rw [overlay_at hi hv hr,h]
theorem runTo_ok {L : List Wrote} {N : Int} {cells : List Int} (hv : valsOk cells = true) (hL : ∀ y ∈ L,rowsOk y.puts_ = true) : ∀ k,k ≤ L.length → valsOk (runTo L N cells k) = true
 | 0,_ => hv
 | k + 1,hk => by
  obtain ⟨y,hy⟩ : ∃ y,L[k]? = some y:=⟨_,List.getElem?_eq_getElem (by omega)⟩
  by_cases h : y.stamp_ ≤ N
  ·rw [runTo_yes hy h];exact over_ok (runTo_ok hv hL k (by omega)) (hL y (List.mem_of_getElem? hy))
  ·rw [runTo_no hy h];exact runTo_ok hv hL k (by omega)
theorem AtS.less {cells : List Int} {L : List Wrote} {N : Int} {i k : Nat} {v t : Int} {y : Wrote} (hy : L[k]? = some y) (A : AtS cells (L.take (k + 1)) N i v t) (h : ¬ y.stamp_ ≤ N ∨ lastV y.puts_ (i : Int) = none) : AtS cells (L.take k) N i v t:=by
 have e : L.take (k + 1) = L.take k ++ [y]:=by rw [List.take_add_one,hy];rfl
 rw [e] at A
 rcases A with ⟨h1,h2,h3⟩|⟨h0,z,hz,h1,h2,h3⟩
 ·exact .inl ⟨h1,h2,fun q hq => h3 q (List.mem_append_left _ hq)⟩
 ·rcases List.mem_append.1 hz with hz|hz
  ·exact .inr ⟨h0,z,hz,h1,h2,fun q hq => h3 q (List.mem_append_left _ hq)⟩
  ·rw [List.mem_singleton] at hz;subst hz
   rcases h with h|h
   ·omega
   ·rw [h2] at h;cases h
theorem run_at {L : List Wrote} {N : Int} {cells : List Int} {i : Nat} (hi : i < 8) (hv : valsOk cells = true) (hL : ∀ y ∈ L,rowsOk y.puts_ = true) (hs : ∀ (p q : Nat) (x y : Wrote),p < q → L[p]? = some x → L[q]? = some y → x.stamp_ < y.stamp_) :
  ∀ k,k ≤ L.length → ∀ v t,AtS cells (L.take k) N i v t → (runTo L N cells k)[i]? = some v
 | 0,_,v,t,A => by
  rcases A with ⟨_,h2,_⟩|⟨_,z,hz,_⟩
  ·exact h2
  ·simp at hz
 | k + 1,hk,v,t,A => by
  obtain ⟨y,hy⟩ : ∃ y,L[k]? = some y:=⟨_,List.getElem?_eq_getElem (by omega)⟩
  have hyr:=hL y (List.mem_of_getElem? hy)
  have hok:=runTo_ok (N:=N) hv hL k (by omega)
  by_cases h : y.stamp_ ≤ N
  ·rw [runTo_yes hy h]
   cases e : lastV y.puts_ (i : Int) with
   | none =>
    rw [overlay_old hi hok hyr e]
    exact run_at hi hv hL hs k (by omega) v t (A.less hy (.inr e))
   | some u =>
    rw [overlay_val hi hok hyr e]
    have hyt : y ∈ L.take (k + 1):=List.mem_of_getElem? (i:=k) (by rw [List.getElem?_take,if_pos (by omega)];exact hy)
    have hw : wrs y i:=by unfold wrs;rw [e];simp
    rcases A with ⟨_,_,h3⟩|⟨_,z,hz,h1,h2,h3⟩
    ·exact absurd hw (h3 y hyt h)
    ·have h4:=h3 y hyt h hw
     obtain ⟨p,hp⟩:=List.mem_iff_getElem?.1 hz
     rw [List.getElem?_take] at hp
     split at hp
     ·rename_i hpk
      by_cases epk : p = k
      ·subst epk;rw [hy] at hp;cases hp;rw [h2] at e;cases e;rfl
      ·have:=hs p k z y (by omega) hp hy;omega
     ·cases hp
  ·rw [runTo_no hy h]
   exact run_at hi hv hL hs k (by omega) v t (A.less hy (.inl h))
theorem AtS.perm {cells : List Int} {h L : List Wrote} {N : Int} {i : Nat} {v t : Int} (A : AtS cells h N i v t) (hp : L.Perm h) : AtS cells L N i v t:=by
 rcases A with ⟨h1,h2,h3⟩|⟨h0,z,hz,h1,h2,h3⟩
 ·exact .inl ⟨h1,h2,fun q hq => h3 q (hp.subset hq)⟩
 ·exact .inr ⟨h0,z,hp.symm.subset hz,h1,h2,fun q hq => h3 q (hp.subset hq)⟩
theorem state_at {cells : List Int} {h : List Wrote} {N : Int} {i : Nat} {v t : Int} (hi : i < 8) (hv : valsOk cells = true) (hh : histOk h = true) (A : AtS cells h N i v t) : (stateOf cells h N)[i]? = some v:=by
 have hp:=List.mergeSort_perm h fun x y => decide (x.stamp_ ≤ y.stamp_)
 have hsort : (h.mergeSort fun x y => decide (x.stamp_ ≤ y.stamp_)).Pairwise fun x y => ¬ y.stamp_ < x.stamp_:=by
  have:=List.pairwise_mergeSort (le:=fun (x y : Wrote) => decide (x.stamp_ ≤ y.stamp_)) (by intro a b c h1 h2;simp at h1 h2 ⊢;omega) (by intro a b;simp;omega) h
  exact this.imp fun h1 => by simp at h1;omega
 generalize (h.mergeSort fun x y => decide (x.stamp_ ≤ y.stamp_)) = L at hp hsort
 rw [state_run hv hh hp hsort N]
 have hL : ∀ y ∈ L,rowsOk y.puts_ = true:=fun y hy => by
  obtain ⟨k,hk⟩:=List.mem_iff_getElem?.1 (hp.subset hy)
  exact (hist_one hh hk).2.2.1
 have hor:=order_is hh hp hsort
 have hs : ∀ (p q : Nat) (x y : Wrote),p < q → L[p]? = some x → L[q]? = some y → x.stamp_ < y.stamp_:=fun p q x y hpq hx hy => by
  refine stampsL hh p q x.stamp_ y.stamp_ hpq ?_ ?_
  ·rw [← hor,List.getElem?_map,hx];rfl
  ·rw [← hor,List.getElem?_map,hy];rfl
 refine run_at hi hv hL hs L.length (Nat.le_refl _) v t ?_
 rw [List.take_length]
 exact A.perm hp
theorem Inv.histOk {cells : List Int} {jobs : List Job} {s : DS} (I : Inv cells jobs s) (hj : jobs.length ≤ 4) : histOk s.h = true:=by
 refine dec_yes ⟨by have:=I.hlen;omega,fun i _ y hy => ?_⟩
 have hm:=List.mem_of_getElem? hy
 obtain ⟨h1,h2⟩:=I.hst y hm
 obtain ⟨k,x,h3,h4,_⟩:=I.who y hm
 have h5:=(List.getElem?_eq_some_iff.1 h3).1
 rw [I.xlen] at h5
 have hcl:=I.mem.2.2
 refine ⟨by omega,by omega,h2,fun q z hq hz e => ?_⟩
 obtain ⟨hi1,rfl⟩:=List.getElem?_eq_some_iff.1 hy
 obtain ⟨hz1,rfl⟩:=List.getElem?_eq_some_iff.1 hz
 exact (List.pairwise_iff_getElem.1 I.dis q i hz1 hi1 hq).1 e
/-- Each job has seen one state. -/
theorem Inv.seen {cells : List Int} {jobs : List Job} {s : DS} (I : Inv cells jobs s) (hv : valsOk cells = true) (hj : jobs.length ≤ 4) {x : JobRun} (hx : x ∈ s.xs) : ∀ r ∈ x.seen_,(0 ≤ r.cell_ ∧ r.cell_ ≤ 7) ∧ (stateOf cells s.h x.rv_)[r.cell_.toNat]? = some r.val_:=fun r hr => by
 obtain ⟨k,hk⟩:=List.mem_iff_getElem?.1 hx
 obtain ⟨⟨h1,_⟩,t,h2⟩:=(I.job k x hk).seen r hr
 exact ⟨h1,state_at (by omega) hv (I.histOk hj) h2⟩
theorem Inv.rows {cells : List Int} {jobs : List Job} {s : DS} (I : Inv cells jobs s) {x : JobRun} (hx : x ∈ s.xs) (ha : x.at_ ≤ 300) : rowsOk x.seen_ = true:=by
 obtain ⟨k,hk⟩:=List.mem_iff_getElem?.1 hx
 have J:=I.job k x hk
 exact dec_yes ⟨by have:=J.len;omega,fun i _ r hr => (J.seen r (List.mem_of_getElem? hr)).1⟩
/-- At the end the memory is the state of the last stamp. -/
theorem Inv.last {cells : List Int} {jobs : List Job} {s : DS} (I : Inv cells jobs s) (hv : valsOk cells = true) (hj : jobs.length ≤ 4) (ho : ∀ x ∈ s.xs,x.phase_ = 3) : s.m.cells_.map (·.val_) = stateOf cells s.h s.m.clock_:=by
 have hl : s.m.cells_.length = 8:=I.mem.2.1
 have hsl : (stateOf cells s.h s.m.clock_).length = 8:=(dec_true (state_vals hv (I.histOk hj) _)).1
 apply List.ext_getElem?
 intro i
 by_cases hi : i < 8
 ·obtain ⟨w,hw,_⟩:=I.word hi
  rw [List.getElem?_map,hw,state_at hi hv (I.histOk hj) (I.over ho hw)]
  rfl
 ·rw [List.getElem?_eq_none (by rw [List.length_map];omega),List.getElem?_eq_none (by omega)]
end Go.Proofs.YtpmfhfpjiebcjaaGreat
