/- Jobs one behind the other in the order of their stamps leave what the duel leaves. No condition. A step of a job in the reference: idle, done. No condition but lengths. -/
import Derived.Test.YtpmfhfpjiebcjaaGreatD28
import Derived.Test.YtpmfhfpjiebcjaaGreatD00
import Derived.Test.YtpmfhfpjiebcjaaGreatD19
namespace Go.Proofs.YtpmfhfpjiebcjaaGreat
open Go.RowKit Go.Deep
set_option linter.unnecessarySimpa false
set_option linter.unusedSimpArgs false
set_option linter.unusedVariables false

theorem netTo_has {l : List Row} {i : Nat} {v : Int} (h : lastV l (i : Int) = some v) : ∀ {k : Nat},i < k → ∃ (a : Nat),(netTo l k)[a]? = some ⟨(i : Int),v⟩
 | 0,hk => by omega
 | k + 1,hk => by
  by_cases e : i = k
  ·subst e
   rw [netTo_some h]
   exact ⟨(netTo l i).length,by rw [List.getElem?_append_right (Nat.le_refl _),Nat.sub_self];rfl⟩
  ·obtain ⟨a,ha⟩:=netTo_has (l:=l) h (k:=k) (by omega)
   have hl:=(List.getElem?_eq_some_iff.1 ha).1
   cases q : lastV l (k : Int) with
   | none => rw [netTo_none q];exact ⟨a,ha⟩
   | some u => rw [netTo_some q];exact ⟨a,by rw [List.getElem?_append_left hl];exact ha⟩
theorem lastV_net (l : List Row) {i : Nat} (hi : i < 8) : lastV (netR l) (i : Int) = lastV l (i : Int):=by
 cases h : lastV l (i : Int) with
 | some v =>
  obtain ⟨a,ha⟩:=netTo_has h hi
  have:=lastV_at (ps:=netR l) net_ok (netTo_rising l 8) ha
  exact this
 | none =>
  cases q : lastV (netR l) (i : Int) with
  | none => rfl
  | some v =>
   obtain ⟨a,r,h1,h2,_⟩:=lastV_mem q
   have:=(netTo_at h1).2
   rw [h2,h] at this
   cases this
theorem overlay_net {V : List Int} {ps : List Row} (hr : rowsOk ps = true) : overlayOf V (netR ps) = overlayOf V ps:=by
 by_cases hv : valsOk V = true
 ·have l1:=(dec_true (over_ok hv (net_ok (l:=ps)))).1
  have l2:=(dec_true (over_ok hv hr)).1
  apply List.ext_getElem?
  intro i
  by_cases hi : i < 8
  ·rw [overlay_at hi hv net_ok,overlay_at hi hv hr,lastV_net ps hi]
  ·rw [List.getElem?_eq_none (by omega),List.getElem?_eq_none (by omega)]
 ·unfold overlayOf
  rw [dec_no fun z => hv z.1,dec_no fun z => hv z.1];rfl
noncomputable def turnF (jobs : List Job) (V : List Int) (k : Int) : List Int:=if dec (0 ≤ k ∧ k ≤ (jobs.length : Int) - 1) = true then overlayOf V (jobs.getD k.toNat default).puts_ else V
noncomputable def turn (jobs : List Job) (V : List Int) (o : List Int) : List Int:=o.foldl (turnF jobs) V
noncomputable def jobsTurn (cells : List Int) (jobs : List Job) (o : List Int) : List Int:=if jobsOk cells jobs = true then turn jobs cells o else []
noncomputable def ordIn (h : List Wrote) (s : Int) : Nat → List Int
 | 0 => []
 | j + 1 => match h[j]? with
  | some y => if dec (y.stamp_ = s) = true then ordIn h s j ++ [y.who_ - 1] else ordIn h s j
  | none => ordIn h s j
noncomputable def ordTo (h : List Wrote) (S : List Int) : Nat → List Int
 | 0 => []
 | i + 1 => match S[i]? with
  | some s => ordTo h S i ++ ordIn h s h.length
  | none => ordTo h S i
theorem ordIn_yes {h : List Wrote} {s : Int} {j : Nat} {y : Wrote} (hy : h[j]? = some y) (e : y.stamp_ = s) : ordIn h s (j + 1) = ordIn h s j ++ [y.who_ - 1]:=by
 rw [ordIn,hy];simp only;rw [dec_yes e];rfl
theorem ordIn_no {h : List Wrote} {s : Int} {j : Nat} {y : Wrote} (hy : h[j]? = some y) (e : ¬ y.stamp_ = s) : ordIn h s (j + 1) = ordIn h s j:=by
 rw [ordIn,hy];simp only;rw [dec_no e];rfl
theorem ordTo_next {h : List Wrote} {S : List Int} {i : Nat} {s : Int} (hs : S[i]? = some s) : ordTo h S (i + 1) = ordTo h S i ++ ordIn h s h.length:=by rw [ordTo,hs]
theorem turn_in {jobs : List Job} {h : List Wrote} {s : Int} (H : ∀ y ∈ h,(0 ≤ y.who_ - 1 ∧ y.who_ - 1 ≤ (jobs.length : Int) - 1) ∧ ∀ V,overlayOf V (jobs.getD (y.who_ - 1).toNat default).puts_ = overlayOf V y.puts_) (V : List Int) : ∀ j,j ≤ h.length → turn jobs V (ordIn h s j) = ovAll h s V j
 | 0,_ => rfl
 | j + 1,hj => by
  obtain ⟨y,hy⟩ : ∃ y,h[j]? = some y:=⟨_,List.getElem?_eq_getElem (by omega)⟩
  have ih:=turn_in (s:=s) H V j (by omega)
  by_cases e : y.stamp_ = s
  ·rw [ovAll_yes hy e,← ih,ordIn_yes hy e]
   unfold turn
   rw [List.foldl_append]
   obtain ⟨h1,h2⟩:=H y (List.mem_of_getElem? hy)
   show turnF jobs _ _ = _
   conv => lhs;unfold turnF
   rw [dec_yes h1,if_pos rfl,h2];rfl
  ·rw [ovAll_no hy e,← ih,ordIn_no hy e]
theorem turn_to {jobs : List Job} {h : List Wrote} {S cells : List Int} (H : ∀ y ∈ h,(0 ≤ y.who_ - 1 ∧ y.who_ - 1 ≤ (jobs.length : Int) - 1) ∧ ∀ V,overlayOf V (jobs.getD (y.who_ - 1).toNat default).puts_ = overlayOf V y.puts_) : ∀ i,i ≤ S.length → turn jobs cells (ordTo h S i) = stTo h S cells i
 | 0,_ => rfl
 | i + 1,hi => by
  obtain ⟨s,hs⟩ : ∃ s,S[i]? = some s:=⟨_,List.getElem?_eq_getElem (by omega)⟩
  have ih:=turn_to (S:=S) (cells:=cells) H i (by omega)
  rw [stTo_next hs,← ih,← turn_in H _ _ (Nat.le_refl _),ordTo_next hs]
  unfold turn
  rw [List.foldl_append]
theorem Inv.turns {cells : List Int} {jobs : List Job} {s : DS} (I : Inv cells jobs s) (hj : jobsOk cells jobs = true) (ho : ∀ x ∈ s.xs,x.phase_ = 3) : jobsTurn cells jobs (ordTo s.h (stampsOf s.h) (stampsOf s.h).length) = s.m.cells_.map (·.val_):=by
 have hv:=(dec_true hj).1
 have h4 : jobs.length ≤ 4:=(dec_true hj).2.1
 have hh:=I.histOk h4
 rw [I.last hv h4 ho]
 unfold jobsTurn
 rw [if_pos hj,state_yes ⟨hv,hh⟩]
 have hc : cntLe (stampsOf s.h) s.m.clock_ = (stampsOf s.h).length:=by
  refine cnt_is (fun q t _ ht => ?_) (Nat.le_refl _) (fun t ht => by rw [List.getElem?_eq_none (Nat.le_refl _)] at ht;cases ht)
  have hm:=List.mem_of_getElem? ht
  rw [stamps_is hh,sorted_mem] at hm
  obtain ⟨i,y,hy,e⟩:=hm
  have:=(I.hst y (List.mem_of_getElem? hy)).1.2
  omega
 rw [hc]
 refine turn_to (fun y hy => ?_) _ (Nat.le_refl _)
 obtain ⟨k,x,h1,h2,_,h3⟩:=I.who y hy
 have hk:=(List.getElem?_eq_some_iff.1 h1).1
 rw [I.xlen] at hk
 have e : (y.who_ - 1).toNat = k:=by omega
 refine ⟨by omega,fun V => ?_⟩
 rw [e,h3]
 have hr : rowsOk (jobs.getD k default).puts_ = true:=by
  rw [List.getD_eq_getElem?_getD,List.getElem?_eq_getElem hk]
  exact ((dec_true hj).2.2 k hk _ (List.getElem?_eq_getElem hk)).2.2.1
 exact (overlay_net hr).symm
end Go.Proofs.YtpmfhfpjiebcjaaGreat
namespace Go.Proofs.YtpmfhfpjiebcjaaGreat
open Go.RowKit Go.Deep
set_option linter.unnecessarySimpa false
set_option linter.unusedSimpArgs false
set_option linter.unusedVariables false
end Go.Proofs.YtpmfhfpjiebcjaaGreat
