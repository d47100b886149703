/- Indices of the roots that have a property. No condition. The order of the ranks, and what a stable merge is: plain lists. No condition. Places in a row that is sorted in parts. No condition. slices.SortStableFunc at an owned row of indices, with the comparison of Ranks. No condition but lengths. slices.rotateCmpFunc. No condition but lengths. slices.insertionSortCmpFunc. No condition but lengths. The comparison of Ranks. No condition. Words of Replay. No condition. Slots: SlotsOk and SlotGet of both. No condition but lengths. MapOf of both. No condition but lengths. -/
import Derived.Test.YtoegjiigaoanbaaGreatS09
import Derived.Test.YtoegjiigaoanbaaGreatS04
import Derived.Test.YtoegjiigaoanbaaGreatS00
import Derived.IntWalk
import Derived.Test.YtoegjiigaoanbaaGreatS06
namespace Go.Proofs.YtoegjiigaoanbaaGreat
open Go.RowKit Go.Deep
set_option linter.unnecessarySimpa false
set_option maxHeartbeats 400000000
open Go.Lib (hid)
set_option linter.unusedSimpArgs false
set_option linter.unusedVariables false

def pickTo (p : Root → Bool) (l : List Root) : Nat → List Int
 | 0 => []
 | k + 1 => match l[k]? with
  | some r => if p r = true then pickTo p l k ++ [(k : Int)] else pickTo p l k
  | none => pickTo p l k
theorem pick_yes {p : Root → Bool} {l : List Root} {k : Nat} {r : Root} (h : l[k]? = some r) (hp : p r = true) : pickTo p l (k + 1) = pickTo p l k ++ [(k : Int)]:=by simp [pickTo,h,hp]
theorem pick_no {p : Root → Bool} {l : List Root} {k : Nat} {r : Root} (h : l[k]? = some r) (hp : p r = false) : pickTo p l (k + 1) = pickTo p l k:=by simp [pickTo,h,hp]
theorem pick_len (p : Root → Bool) (l : List Root) : ∀ k,(pickTo p l k).length ≤ k
 | 0 => Nat.le_refl _
 | k + 1 => by
  have ih:=pick_len p l k
  rw [pickTo]
  split
  ·split
   ·rw [List.length_append];simp;omega
   ·omega
  ·omega
theorem pick_mem {p : Root → Bool} {l : List Root} {x : Int} : ∀ {k : Nat},x ∈ pickTo p l k ↔ ∃ (i : Nat) (r : Root),i < k ∧ x = (i : Int) ∧ l[i]? = some r ∧ p r = true
 | 0 => by simp [pickTo]
 | k + 1 => by
  have ih:=pick_mem (p:=p) (l:=l) (x:=x) (k:=k)
  constructor
  ·intro h
   rw [pickTo] at h
   split at h
   ·rename_i r hr
    split at h
    ·rename_i hp
     rcases List.mem_append.1 h with q|q
     ·obtain ⟨i,s,a,b,c,d⟩:=ih.1 q
      exact ⟨i,s,by omega,b,c,d⟩
     ·simp at q;exact ⟨k,r,by omega,q,hr,hp⟩
    ·obtain ⟨i,s,a,b,c,d⟩:=ih.1 h
     exact ⟨i,s,by omega,b,c,d⟩
   ·obtain ⟨i,s,a,b,c,d⟩:=ih.1 h
    exact ⟨i,s,by omega,b,c,d⟩
  ·rintro ⟨i,r,hi,hx,hr,hp⟩
   by_cases e : i = k
   ·subst e;rw [pick_yes hr hp];exact List.mem_append_right _ (by rw [hx];exact List.mem_singleton.2 rfl)
   ·have h1:=ih.2 ⟨i,r,by omega,hx,hr,hp⟩
    rw [pickTo]
    split
    ·split
     ·exact List.mem_append_left _ h1
     ·exact h1
    ·exact h1
theorem pick_asc (p : Root → Bool) (l : List Root) : ∀ k,(pickTo p l k).Pairwise (· < ·)
 | 0 => List.Pairwise.nil
 | k + 1 => by
  have ih:=pick_asc p l k
  rw [pickTo]
  split
  ·split
   ·rw [List.pairwise_append]
    refine ⟨ih,by simp,fun a ha b hb => ?_⟩
    obtain ⟨i,r,h1,h2,_⟩:=pick_mem.1 ha
    simp at hb;omega
   ·exact ih
  ·exact ih
theorem own_emptyI (w : World) : (w.alloc (.cells #[] 3)).ownsRow w.heap.size 3 1 (.slice (some ⟨w.heap.size,0,none⟩) 0 0) 0 (ints []) :=
 World.ownsRow_lit w #[] 0 (Nat.le_refl _) (Nat.zero_le _) (by simp [ints])
theorem Root.first {w : World} {S : Nat → Prop} {row : List Value} {r : Root} (h : Root.R w S row r) : row.toArray[0]? = some (.int .i64 r.phase_):=by
 obtain ⟨A0,n0,c0,A1,n1,c1,A2,n2,c2,A3,n3,c3,A4,n4,c4,A5,n5,c5,A6,n6,c6,A7,n7,c7,A8,n8,c8,A9,n9,c9,A10,n10,c10,A11,n11,c11,A12,n12,c12,A13,n13,c13,rfl⟩:=Root.R_cells h
 rfl
theorem Root.R_one {w : World} {S : Nat → Prop} {row : List Value} {r : Root} (h : Root.R w S row r) : ∀ v ∈ row,v.oneCell' = true:=by
 obtain ⟨A0,n0,c0,A1,n1,c1,A2,n2,c2,A3,n3,c3,A4,n4,c4,A5,n5,c5,A6,n6,c6,A7,n7,c7,A8,n8,c8,A9,n9,c9,A10,n10,c10,A11,n11,c11,A12,n12,c12,A13,n13,c13,rfl⟩:=Root.R_cells h
 simp [Value.oneCell']
theorem root_at {w : World} {S : Nat → Prop} {b o n k : Nat} {l : List Root} (h : SlR Root.R 40 w S (some ⟨b,o,none⟩) n l) (hk : k < n) : ∃ (r : Root) (row : List Value),l[k]? = some r ∧ b < w.heap.size ∧ Root.R w S row r ∧ row.length = 40 ∧ w.rangeAt b (o + k * 40) row:=by
 obtain ⟨r,row,hr,hb,hrw,hc⟩:=h.at_ hk
 exact ⟨r,row,hr,hb,hrw,Root.R_good.len hrw,SlR.range Root.R_good hrw hc⟩
theorem roots_le (x : GWorld) (h : GWorld.wt x ≤ 1048576) : x.roots_.length ≤ 1048576:=by
 have h1:=wtl_len Root.wt x.roots_
 unfold GWorld.wt at h
 omega
end Go.Proofs.YtoegjiigaoanbaaGreat
namespace Go.Proofs.YtoegjiigaoanbaaGreat
open Go.RowKit
set_option linter.unnecessarySimpa false
set_option maxHeartbeats 400000000
open Go.Lib (hid)
set_option linter.unusedSimpArgs false
set_option linter.unusedVariables false

/-! ### The order of the ranks: three keys,then the place -/
structure Keys where
 a : Int → Int
 b : Int → Int
 c : Int → Int
def Keys.lt (K : Keys) (x y : Int) : Prop:=K.a x < K.a y ∨ (K.a x = K.a y ∧ (K.b x < K.b y ∨ (K.b x = K.b y ∧ K.c x < K.c y)))
def Keys.T (K : Keys) (x y : Int) : Prop:=K.lt x y ∨ (¬ K.lt y x ∧ x < y)
theorem Keys.T_trans {K : Keys} {x y z : Int} (h : K.T x y) (k : K.T y z) : K.T x z:=by unfold Keys.T Keys.lt at *;omega
theorem Keys.T_total {K : Keys} {x y : Int} (h : x ≠ y) : K.T x y ∨ K.T y x:=by unfold Keys.T Keys.lt at *;omega
theorem Keys.T_irrefl {K : Keys} {x : Int} : ¬ K.T x x:=by unfold Keys.T Keys.lt;omega
theorem Keys.T_asymm {K : Keys} {x y : Int} (h : K.T x y) : ¬ K.T y x:=by unfold Keys.T Keys.lt at *;omega
theorem Keys.T_of {K : Keys} {x y : Int} (h : ¬ K.lt y x) (k : x < y) : K.T x y:=.inr ⟨h,k⟩
theorem Keys.T_lt {K : Keys} {x y : Int} (h : K.lt x y) : K.T x y:=.inl h

/-! ### Insertion -/
theorem ins_sorted {K : Keys} {S1 S2 : List Int} {x : Int} (hs : (S1 ++ S2).Pairwise K.T) (h1 : ∀ s ∈ S1,K.T s x) (h2 : ∀ s ∈ S2,K.T x s) : (S1 ++ x::S2).Pairwise K.T:=by
 rw [List.pairwise_append] at hs ⊢
 refine ⟨hs.1,List.pairwise_cons.2 ⟨h2,hs.2.1⟩,fun a ha b hb => ?_⟩
 rcases List.mem_cons.1 hb with q|q
 ·subst q;exact h1 a ha
 ·exact hs.2.2 a ha b q
theorem last_all {K : Keys} {S : List Int} {y x : Int} (hs : (S ++ [y]).Pairwise K.T) (h : K.T y x) : ∀ s ∈ S ++ [y],K.T s x:=by
 intro s hm
 rcases List.mem_append.1 hm with q|q
 ·exact Keys.T_trans ((List.pairwise_append.1 hs).2.2 s q y (List.mem_singleton.2 rfl)) h
 ·simp at q;subst q;exact h
/-! ### Places in a list that is put together -/
theorem pair_at {R : Int → Int → Prop} {X : List Int} (h : X.Pairwise R) {i j : Nat} {x y : Int} (hij : i < j) (hi : X[i]? = some x) (hj : X[j]? = some y) : R x y:=by
 obtain ⟨i1,rfl⟩:=List.getElem?_eq_some_iff.1 hi
 obtain ⟨j1,rfl⟩:=List.getElem?_eq_some_iff.1 hj
 exact List.pairwise_iff_getElem.1 h i j i1 j1 hij
theorem mem_take_at {X : List Int} {i : Nat} {x : Int} (h : x ∈ X.take i) : ∃ j,j < i ∧ X[j]? = some x:=by
 obtain ⟨j,hj⟩:=List.mem_iff_getElem?.1 h
 rw [List.getElem?_take] at hj
 split at hj
 ·exact ⟨j,by omega,hj⟩
 ·cases hj
theorem mem_drop_at {X : List Int} {i : Nat} {x : Int} (h : x ∈ X.drop i) : ∃ j,i ≤ j ∧ X[j]? = some x:=by
 obtain ⟨j,hj⟩:=List.mem_iff_getElem?.1 h
 rw [List.getElem?_drop] at hj
 exact ⟨i + j,by omega,hj⟩
/-! ### The merge of two sorted lists,the one ahead of the other -/
structure Two (K : Keys) (L R : List Int) : Prop where
 l : L.Pairwise K.T
 r : R.Pairwise K.T
 lr : ∀ x ∈ L,∀ y ∈ R,x < y
structure Merged (K : Keys) (L R X : List Int) : Prop where
 perm : X.Perm (L ++ R)
 sorted : X.Pairwise K.T
theorem Two.take {K : Keys} {L R : List Int} (h : Two K L R) (p q : Nat) : Two K (L.take p) (R.take q) :=
 ⟨h.l.sublist (List.take_sublist _ _),h.r.sublist (List.take_sublist _ _),fun x hx y hy => h.lr x (List.mem_of_mem_take hx) y (List.mem_of_mem_take hy)⟩
theorem Two.drop {K : Keys} {L R : List Int} (h : Two K L R) (p q : Nat) : Two K (L.drop p) (R.drop q) :=
 ⟨h.l.sublist (List.drop_sublist _ _),h.r.sublist (List.drop_sublist _ _),fun x hx y hy => h.lr x (List.mem_of_mem_drop hx) y (List.mem_of_mem_drop hy)⟩
theorem sorted_unique' {K : Keys} {l r : List Int} (hp : l.Perm r) (hl : l.Pairwise K.T) (hr : r.Pairwise K.T) : l = r :=
 List.Perm.eq_of_pairwise (le:=K.T) (fun a b _ _ h1 h2 => absurd h2 (Keys.T_asymm h1)) hl hr hp
noncomputable def ahead (K : Keys) (l : List Int) (x : Int) : Nat:=(l.filter fun y => @decide (K.T y x) (Classical.propDecidable _)).length
theorem ahead_perm {K : Keys} {l r : List Int} (h : l.Perm r) (x : Int) : ahead K l x = ahead K r x:=(h.filter _).length_eq
theorem ahead_at {K : Keys} {l : List Int} (h : l.Pairwise K.T) {i : Nat} {x : Int} (hx : l[i]? = some x) : ahead K l x = i:=by
 obtain ⟨hi,e⟩:=List.getElem?_eq_some_iff.1 hx
 have h1 : l = l.take i ++ x::l.drop (i + 1):=by rw [← e,List.getElem_cons_drop,List.take_append_drop]
 have hf1 : (l.take i).filter (fun y => @decide (K.T y x) (Classical.propDecidable _)) = l.take i:=by
  rw [List.filter_eq_self]
  intro y hy
  obtain ⟨j,hj,ej⟩:=mem_take_at hy
  simpa using pair_at h hj ej hx
 have hf2 : (x::l.drop (i + 1)).filter (fun y => @decide (K.T y x) (Classical.propDecidable _)) = []:=by
  rw [List.filter_eq_nil_iff]
  intro y hy
  rcases List.mem_cons.1 hy with q|q
  ·subst q;simpa using Keys.T_irrefl
  ·obtain ⟨j,hj,ej⟩:=mem_drop_at q
   simpa using Keys.T_asymm (pair_at h (by omega) hx ej)
 unfold ahead
 rw [h1,List.filter_append,hf1,hf2,List.append_nil,List.length_take]
 omega
noncomputable def rankList (K : Keys) (l : List Int) : List Int:=l.mergeSort fun a b => !@decide (K.T b a) (Classical.propDecidable _)
theorem rank_perm (K : Keys) (l : List Int) : (rankList K l).Perm l:=List.mergeSort_perm _ _
theorem rank_sorted {K : Keys} {l : List Int} (h : l.Nodup) : (rankList K l).Pairwise K.T:=by
 have h1 : (rankList K l).Pairwise (fun a b => (!@decide (K.T b a) (Classical.propDecidable _)) = true):=List.pairwise_mergeSort (fun a b c h1 h2 => by
  simp at *
  intro q
  by_cases e1 : a = b
  ·subst e1;exact h2 q
  ·by_cases e2 : b = c
   ·subst e2;exact h1 q
   ·have t1:=(Keys.T_total (K:=K) e1).resolve_right h1
    have t2:=(Keys.T_total (K:=K) e2).resolve_right h2
    exact Keys.T_asymm (Keys.T_trans t1 t2) q) (fun a b => by
  simp
  by_cases e1 : a = b
  ·subst e1;exact .inl Keys.T_irrefl
  ·rcases Keys.T_total (K:=K) e1 with q|q
   ·exact .inl (Keys.T_asymm q)
   ·exact .inr (Keys.T_asymm q)) _
 have h2 : (rankList K l).Nodup:=(rank_perm K l).symm.nodup h
 rw [List.pairwise_iff_getElem] at h1 ⊢
 intro i j hi hj hij
 have a:=h1 i j hi hj hij
 have b:=List.pairwise_iff_getElem.1 h2 i j hi hj hij
 simp at a
 exact (Keys.T_total b).resolve_right a
theorem rank_of {K : Keys} {l r : List Int} (hn : l.Nodup) (hp : r.Perm l) (hs : r.Pairwise K.T) : r = rankList K l :=
 sorted_unique' (hp.trans (rank_perm K l).symm) hs (rank_sorted hn)
theorem rank_at {K : Keys} {l : List Int} (hn : l.Nodup) {x : Int} (hx : x ∈ l) : (rankList K l)[ahead K l x]? = some x:=by
 obtain ⟨i,hi⟩:=List.mem_iff_getElem?.1 ((rank_perm K l).symm.subset hx)
 rw [ahead_perm (rank_perm K l).symm x,ahead_at (rank_sorted hn) hi]
 exact hi
end Go.Proofs.YtoegjiigaoanbaaGreat
namespace Go.Proofs.YtoegjiigaoanbaaGreat
open Go.RowKit
set_option linter.unnecessarySimpa false
set_option maxHeartbeats 400000000
open Go.Lib (hid)
set_option linter.unusedSimpArgs false
set_option linter.unusedVariables false

def Swp (D : List Int) (a b q : Nat) (D' : List Int) : Prop:=D'.length = D.length ∧ ∀ j,D'[j]? = if a ≤ j ∧ j < a + q then D[b + (j - a)]? else if b ≤ j ∧ j < b + q then D[a + (j - b)]? else D[j]?
theorem Swp.zero (D : List Int) (a b : Nat) : Swp D a b 0 D:=⟨rfl,fun j => by rw [if_neg (by omega),if_neg (by omega)]⟩
theorem Swp.next {D D' : List Int} {a b q : Nat} {u v : Int} (h : Swp D a b q D') (hab : a + q < b) (hb : b + q < D.length) (hu : D[a + q]? = some u) (hv : D[b + q]? = some v) : Swp D a b (q + 1) ((D'.set (a + q) v).set (b + q) u):=by
 refine ⟨by simp [h.1],fun j => ?_⟩
 rw [List.getElem?_set,List.getElem?_set]
 by_cases e1 : b + q = j
 ·subst e1
  rw [if_pos rfl,if_pos (by simp [h.1];omega),if_neg (by omega),if_pos (by omega),← hu]
  congr 1
  omega
 ·rw [if_neg e1]
  by_cases e2 : a + q = j
  ·subst e2
   rw [if_pos rfl,if_pos (by rw [h.1];omega),if_pos (by omega),← hv]
   congr 1
   omega
  ·rw [if_neg e2,h.2]
   by_cases c1 : a ≤ j ∧ j < a + q
   ·rw [if_pos c1,if_pos (by omega)]
   ·rw [if_neg c1]
    by_cases c2 : b ≤ j ∧ j < b + q
    ·rw [if_pos c2,if_neg (show ¬ (a ≤ j ∧ j < a + (q + 1)) by omega),if_pos (by omega)]
    ·rw [if_neg c2,if_neg (show ¬ (a ≤ j ∧ j < a + (q + 1)) by omega),if_neg (by omega)]
theorem Swp.parts {P X M Y Q D' : List Int} (h : Swp (P ++ (X ++ (M ++ (Y ++ Q)))) P.length (P.length + X.length + M.length) X.length D') (hy : Y.length = X.length) : D' = P ++ (Y ++ (M ++ (X ++ Q))):=by
 apply List.ext_getElem?
 intro j
 rw [h.2]
 simp only [List.getElem?_append,List.length_append]
 by_cases c0 : j < P.length
 ·rw [if_neg (by omega),if_neg (by omega),if_pos c0,if_pos c0]
 by_cases c1 : j < P.length + X.length
 ·rw [if_pos (by omega),if_neg (by omega),if_neg (by omega),if_neg (by omega),if_pos (by omega),if_neg c0,if_pos (by omega)]
  congr 1
  omega
 by_cases c2 : j < P.length + X.length + M.length
 ·rw [if_neg (by omega),if_neg (by omega),if_neg c0,if_neg (by omega),if_pos (by omega),if_neg c0,if_neg (by omega),if_pos (by omega)]
  congr 1
  omega
 by_cases c3 : j < P.length + X.length + M.length + Y.length
 ·rw [if_neg (by omega),if_pos (by omega),if_neg (by omega),if_pos (by omega),if_neg c0,if_neg (by omega),if_neg (by omega),if_pos (by omega)]
  congr 1
  omega
 ·rw [if_neg (by omega),if_neg (by omega),if_neg c0,if_neg (by omega),if_neg (by omega),if_neg (by omega),if_neg c0,if_neg (by omega),if_neg (by omega),if_neg (by omega)]
  congr 1
  omega
theorem swap_parts {P Q : List Int} {x y : Int} {j : Nat} (hj : j = P.length) : ((P ++ (x::y::Q)).set (j + 1) x).set j y = P ++ (y::x::Q):=by
 subst hj
 rw [List.set_append_right _ _ (by omega),Nat.add_sub_cancel_left,List.set_append_right _ _ (Nat.le_refl _),Nat.sub_self]
 rfl
theorem at_mid {P Q : List Int} {x : Int} {j : Nat} (hj : j = P.length) : (P ++ x::Q)[j]? = some x:=by subst hj;simp
theorem at_mid1 {P Q : List Int} {x y : Int} {j : Nat} (hj : j = P.length) : (P ++ x::y::Q)[j + 1]? = some y:=by subst hj;simp
def Seg (D : List Int) (p s : Nat) : List Int:=(D.drop p).take s
theorem seg_len (D : List Int) (p s : Nat) : (Seg D p s).length = min s (D.length - p):=by unfold Seg;rw [List.length_take,List.length_drop]
def RunAt (K : Keys) (E : List Int) (s p : Nat) (D : List Int) : Prop:=(Seg D p s).Pairwise K.T ∧ (Seg D p s).Perm (Seg E p s)
theorem seg_cut (D : List Int) (p s t : Nat) : Seg D p (s + t) = Seg D p s ++ Seg D (p + s) t:=by
 unfold Seg
 rw [← List.drop_drop,List.take_add]
theorem seg_put_lo {P X Q D : List Int} {p s : Nat} (hD : D.take P.length = P) (h : p + s ≤ P.length) : Seg (P ++ X) p s = Seg D p s:=by
 have hP : P.length ≤ D.length:=by have:=congrArg List.length hD;rw [List.length_take] at this;omega
 apply List.ext_getElem?
 intro i
 unfold Seg
 rw [List.getElem?_take,List.getElem?_take]
 split
 ·rw [List.getElem?_drop,List.getElem?_drop,List.getElem?_append_left (by omega)]
  conv => lhs;rw [← hD]
  rw [List.getElem?_take_of_lt (by omega)]
 ·rfl
theorem seg_put_hi {P X Q D : List Int} {p s b : Nat} (hQ : Q = D.drop b) (hb : (P ++ X).length = b) (h : b ≤ p) : Seg (P ++ (X ++ Q)) p s = Seg D p s:=by
 unfold Seg
 congr 1
 rw [← List.append_assoc]
 apply List.ext_getElem?
 intro i
 rw [List.getElem?_drop,List.getElem?_drop,List.getElem?_append_right (by omega),hQ,List.getElem?_drop]
 congr 1
 omega
structure Half (K : Keys) (E : List Int) (s a : Nat) (D : List Int) : Prop where
 len : D.length = E.length
 lo : ∀ p,p < a → 2 * s ∣ p → RunAt K E (2 * s) p D
 hi : ∀ p,a ≤ p → s ∣ p → RunAt K E s p D
theorem Half.start {K : Keys} {E D : List Int} {s : Nat} (h0 : D.length = E.length) (h : ∀ p,s ∣ p → RunAt K E s p D) : Half K E s 0 D:=⟨h0,fun p hp => absurd hp (Nat.not_lt_zero _),fun p _ hp => h p hp⟩
theorem run_out {K : Keys} {E D : List Int} {s p : Nat} (hl : D.length = E.length) (hp : E.length ≤ p) : RunAt K E s p D:=by
 have h1 : Seg D p s = []:=by unfold Seg;rw [List.drop_of_length_le (by omega)];simp
 have h2 : Seg E p s = []:=by unfold Seg;rw [List.drop_of_length_le (by omega)];simp
 unfold RunAt
 rw [h1,h2]
 exact ⟨List.Pairwise.nil,List.Perm.refl _⟩
theorem seg_lt {E : List Int} (hE : E.Pairwise (· < ·)) {p s t : Nat} {x y : Int} (hx : x ∈ Seg E p s) (hy : y ∈ Seg E (p + s) t) : x < y:=by
 unfold Seg at hx hy
 obtain ⟨i,hi,ei⟩:=mem_take_at hx
 obtain ⟨j,hj,ej⟩:=mem_take_at hy
 rw [List.getElem?_drop] at ei ej
 exact pair_at hE (by omega) ei ej
theorem Half.two {K : Keys} {E D : List Int} {s a : Nat} (hE : E.Pairwise (· < ·)) (h : Half K E s a D) (ha : 2 * s ∣ a) : Two K (Seg D a s) (Seg D (a + s) s):=by
 have hsa : s ∣ a:=Nat.dvd_trans (Nat.dvd_mul_left s 2) ha
 have h1:=h.hi a (Nat.le_refl _) hsa
 have h2:=h.hi (a + s) (by omega) (Nat.dvd_add hsa (Nat.dvd_refl s))
 exact ⟨h1.1,h2.1,fun x hx y hy => seg_lt hE (h1.2.subset hx) (h2.2.subset hy)⟩
theorem Half.merge {K : Keys} {E D X : List Int} {s a : Nat} (h : Half K E s a D) (ha : 2 * s ∣ a) (hs : 0 < s) (hal : a ≤ D.length) (hX : Merged K (Seg D a s) (Seg D (a + s) s) X) : Half K E s (a + 2 * s) (D.take a ++ (X ++ D.drop (a + s + s))):=by
 have hXl : X.length = min (2 * s) (D.length - a):=by
  rw [hX.perm.length_eq,List.length_append,seg_len,seg_len];omega
 have hla : (D.take a).length = a:=by rw [List.length_take];omega
 have hsa : s ∣ a:=Nat.dvd_trans (Nat.dvd_mul_left s 2) ha
 have h1:=h.hi a (Nat.le_refl _) hsa
 have h2:=h.hi (a + s) (by omega) (Nat.dvd_add hsa (Nat.dvd_refl s))
 have hlen : (D.take a ++ (X ++ D.drop (a + s + s))).length = E.length:=by
  rw [← h.len,List.length_append,List.length_append,List.length_drop,hla,hXl];omega
 refine ⟨hlen,fun p hp hd => ?_,fun p hp hd => ?_⟩
 ·by_cases e : p = a
  ·subst e
   have e1 : Seg (D.take p ++ (X ++ D.drop (p + s + s))) p (2 * s) = X:=by
    unfold Seg
    rw [List.drop_append_of_le_length (by omega),List.drop_of_length_le (by omega),List.nil_append]
    by_cases c : p + 2 * s ≤ D.length
    ·rw [List.take_append_of_le_length (by omega),List.take_of_length_le (by omega)]
    ·rw [List.drop_of_length_le (by omega : D.length ≤ p + s + s),List.append_nil,List.take_of_length_le (by omega)]
   unfold RunAt
   rw [e1]
   refine ⟨hX.sorted,hX.perm.trans ?_⟩
   rw [Nat.two_mul,seg_cut E p s s]
   exact h1.2.append h2.2
  ·have hpa : p < a:=by
    obtain ⟨u,hu⟩:=hd
    obtain ⟨v,hv⟩:=ha
    have : u ≤ v:=by
     apply Nat.le_of_lt_succ
     apply Nat.lt_of_mul_lt_mul_left (a:=2 * s)
     rw [Nat.mul_succ];omega
    have h3 : u ≠ v:=fun q => e (by rw [hu,hv,q])
    have : 2 * s * u < 2 * s * v:=Nat.mul_lt_mul_of_pos_left (by omega) (by omega)
    omega
   have hpa2 : p + 2 * s ≤ a:=by
    obtain ⟨u,hu⟩:=hd
    obtain ⟨v,hv⟩:=ha
    have : u < v:=by
     apply Nat.lt_of_mul_lt_mul_left (a:=2 * s)
     omega
    have h4 : 2 * s * (u + 1) ≤ 2 * s * v:=Nat.mul_le_mul_left _ this
    rw [Nat.mul_succ] at h4
    omega
   have h3:=h.lo p hpa hd
   unfold RunAt at h3 ⊢
   rw [seg_put_lo (Q:=[]) (D:=D) (by rw [hla]) (by rw [hla];exact hpa2)]
   exact h3
 ·by_cases c : D.length ≤ p
  ·exact run_out hlen (by rw [← h.len];exact c)
  have h3:=h.hi p (by omega) hd
  unfold RunAt at h3 ⊢
  rw [seg_put_hi (b:=a + s + s) rfl (by rw [List.length_append,hla,hXl];omega) (by omega)]
  exact h3
theorem Half.done {K : Keys} {E D : List Int} {s a : Nat} (h : Half K E s a D) (ha : 2 * s ∣ a) (hs : 0 < s) (hl : E.length ≤ a + s) : ∀ p,2 * s ∣ p → RunAt K E (2 * s) p D:=by
 intro p hd
 by_cases c : p < a
 ·exact h.lo p c hd
 by_cases c2 : E.length ≤ p
 ·exact run_out h.len c2
 have hpa : p = a:=by
  obtain ⟨u,hu⟩:=hd
  obtain ⟨v,hv⟩:=ha
  have h1 : v ≤ u:=by
   apply Nat.le_of_lt_succ
   apply Nat.lt_of_mul_lt_mul_left (a:=2 * s)
   rw [Nat.mul_succ];omega
  have h2 : u ≤ v:=by
   apply Nat.le_of_lt_succ
   apply Nat.lt_of_mul_lt_mul_left (a:=2 * s)
   rw [Nat.mul_succ];omega
  rw [hu,hv,Nat.le_antisymm h2 h1]
 subst hpa
 have hsa : s ∣ p:=Nat.dvd_trans (Nat.dvd_mul_left s 2) ha
 have h1:=h.hi p (Nat.le_refl _) hsa
 have e1 : Seg D p (2 * s) = Seg D p s:=by
  unfold Seg
  rw [List.take_of_length_le (by rw [List.length_drop,h.len];omega),List.take_of_length_le (by rw [List.length_drop,h.len];omega)]
 have e2 : Seg E p (2 * s) = Seg E p s:=by
  unfold Seg
  rw [List.take_of_length_le (by rw [List.length_drop];omega),List.take_of_length_le (by rw [List.length_drop];omega)]
 unfold RunAt at h1 ⊢
 rw [e1,e2]
 exact h1
structure Firsts (K : Keys) (E : List Int) (s a : Nat) (D : List Int) : Prop where
 len : D.length = E.length
 lo : ∀ p,p < a → s ∣ p → RunAt K E s p D
 hi : D.drop a = E.drop a
theorem Firsts.next {K : Keys} {E D X : List Int} {s a : Nat} (h : Firsts K E s a D) (ha : s ∣ a) (hs : 0 < s) (hal : a ≤ D.length) (hp : X.Perm (Seg D a s)) (hX : X.Pairwise K.T) : Firsts K E s (a + s) (D.take a ++ (X ++ D.drop (a + s))):=by
 have hXl : X.length = min s (D.length - a):=by rw [hp.length_eq,seg_len]
 have hla : (D.take a).length = a:=by rw [List.length_take];omega
 have hlen : (D.take a ++ (X ++ D.drop (a + s))).length = E.length:=by
  rw [← h.len,List.length_append,List.length_append,List.length_drop,hla,hXl];omega
 have hseg : Seg D a s = Seg E a s:=by unfold Seg;rw [h.hi]
 refine ⟨hlen,fun p hpp hd => ?_,?_⟩
 ·by_cases e : p = a
  ·subst e
   have e1 : Seg (D.take p ++ (X ++ D.drop (p + s))) p s = X:=by
    unfold Seg
    rw [List.drop_append_of_le_length (by omega),List.drop_of_length_le (by omega),List.nil_append]
    by_cases c : p + s ≤ D.length
    ·rw [List.take_append_of_le_length (by omega),List.take_of_length_le (by omega)]
    ·rw [List.drop_of_length_le (by omega : D.length ≤ p + s),List.append_nil,List.take_of_length_le (by omega)]
   unfold RunAt
   rw [e1,← hseg]
   exact ⟨hX,hp⟩
  ·have hpa2 : p + s ≤ a:=by
    obtain ⟨u,hu⟩:=hd
    obtain ⟨v,hv⟩:=ha
    have h1 : u ≤ v:=by
     apply Nat.le_of_lt_succ
     apply Nat.lt_of_mul_lt_mul_left (a:=s)
     rw [Nat.mul_succ];omega
    have h2 : u ≠ v:=fun q => e (by rw [hu,hv,q])
    have h4 : s * (u + 1) ≤ s * v:=Nat.mul_le_mul_left _ (by omega)
    rw [Nat.mul_succ] at h4
    omega
   have h3:=h.lo p (by omega) hd
   unfold RunAt at h3 ⊢
   rw [seg_put_lo (Q:=[]) (D:=D) (by rw [hla]) (by rw [hla];exact hpa2)]
   exact h3
 ·by_cases c : a + s ≤ D.length
  ·rw [← List.append_assoc,List.drop_append_of_le_length (by rw [List.length_append,hla,hXl];omega),List.drop_of_length_le (by rw [List.length_append,hla,hXl];omega),List.nil_append]
   have:=congrArg (List.drop s) h.hi
   rwa [List.drop_drop,List.drop_drop] at this
  ·rw [List.drop_of_length_le (by rw [hlen,← h.len];omega),List.drop_of_length_le (by rw [← h.len];omega)]
theorem Firsts.all {K : Keys} {E D : List Int} {s a : Nat} (h : Firsts K E s a D) (hl : E.length ≤ a) : ∀ p,s ∣ p → RunAt K E s p D:=by
 intro p hd
 by_cases c : p < a
 ·exact h.lo p c hd
 ·exact run_out h.len (by omega)
theorem Firsts.start (K : Keys) (E : List Int) (s : Nat) : Firsts K E s 0 E:=⟨rfl,fun p hp => absurd hp (Nat.not_lt_zero _),rfl⟩
theorem run_all {K : Keys} {E D : List Int} {s : Nat} (hE : E.Pairwise (· < ·)) (hl : D.length = E.length) (hs : E.length ≤ s) (h : RunAt K E s 0 D) : D = rankList K E:=by
 have e1 : Seg D 0 s = D:=by unfold Seg;rw [List.drop_zero,List.take_of_length_le (by omega)]
 have e2 : Seg E 0 s = E:=by unfold Seg;rw [List.drop_zero,List.take_of_length_le (by omega)]
 unfold RunAt at h
 rw [e1,e2] at h
 exact rank_of (hE.imp fun {a b} q e => by subst e;exact Int.lt_irrefl _ q) h.2 h.1
end Go.Proofs.YtoegjiigaoanbaaGreat
namespace Go.Proofs.YtoegjiigaoanbaaGreat
open Go.RowKit Go.Deep
set_option linter.unnecessarySimpa false
set_option maxHeartbeats 400000000
open Go.Lib (hid)
set_option linter.unusedSimpArgs false
set_option linter.unusedVariables false

noncomputable def Keys.z (K : Keys) (i j : Int) : Int:=@ite _ (K.lt i j) (Classical.propDecidable _) (-1) (@ite _ (K.lt j i) (Classical.propDecidable _) 1 0)
theorem Keys.z_yes {K : Keys} {i j : Int} (h : K.lt i j) : decide (K.z i j < 0) = true:=by unfold Keys.z;rw [if_pos h];rfl
theorem Keys.z_no {K : Keys} {i j : Int} (h : ¬ K.lt i j) : decide (K.z i j < 0) = false:=by
 unfold Keys.z
 rw [if_neg h]
 split <;> rfl
abbrev CmpC (b : World) (fr : List Res) (K : Keys) (E : List Int) (gw : Nat) : Prop:=∀ (w : World) (i j : Int),Mine b w fr → i ∈ E → j ∈ E → Calls Tryz.prog 97 #[.int .i64 i,.int .i64 j,.pointer (some ⟨gw,0,none⟩)] w fun e w' => e = .returned (.int .i64 (K.z i j)) ∧ Ext w w'
theorem ints_at {D : List Int} {j : Nat} {x : Int} (h : D[j]? = some x) : (ints D)[j]? = some (.int .i64 x):=by rw [ints_get,h];rfl

end Go.Proofs.YtoegjiigaoanbaaGreat
namespace Go.Proofs.YtoegjiigaoanbaaGreat
open Go.RowKit Go.Deep
set_option linter.unnecessarySimpa false
set_option maxHeartbeats 400000000
open Go.Lib (hid)
set_option linter.unusedSimpArgs false
set_option linter.unusedVariables false

end Go.Proofs.YtoegjiigaoanbaaGreat
namespace Go.Proofs.YtoegjiigaoanbaaGreat
open Go.RowKit Go.Deep
set_option linter.unnecessarySimpa false
set_option maxHeartbeats 400000000
open Go.Lib (hid)
set_option linter.unusedSimpArgs false
set_option linter.unusedVariables false

set_option maxRecDepth 4000 in
theorem insertion_m {b w : World} {g n c gw : Nat} {fr : List Res} {P X Q E : List Int} {K : Keys} {a e0 : Int} (M0 : Mine b w (.row 3 1 (some ⟨g,0,none⟩) n c (ints (P ++ (X ++ Q)))::fr)) (HC0 : CmpC b fr K E gw) (hE : ∀ x ∈ X,x ∈ E) (hX : X.Pairwise (· < ·)) (ha : a = P.length) (he : e0 = P.length + X.length) (hn : n ≤ 1048576) :
  Calls Tryz.prog 203 #[.slice (some ⟨g,0,none⟩) n c,.int .i64 a,.int .i64 e0,.func (.func 97) #[] #[.pointer (some ⟨gw,0,none⟩)]] w fun e w' => e = .returned (.tuple #[]) ∧ ∃ X' : List Int,X'.Perm X ∧ X'.Pairwise K.T ∧ Mine b w' (.row 3 1 (some ⟨g,0,none⟩) n c (ints (P ++ (X' ++ Q)))::fr):=by
 have hl : P.length + X.length + Q.length = n:=by have h:=M0.len1 0 rfl;rw [ints_length] at h;rw [← h];simp;omega
 have M:=hid M0
 have HC:=hid HC0
 have HE:=hid hE
 have HX:=hid hX
 obtain ⟨p,hp⟩ : ∃ p,p = P.length:=⟨_,rfl⟩
 obtain ⟨x,hx⟩ : ∃ x,x = X.length:=⟨_,rfl⟩
 have ha0 : 0 ≤ a:=by omega
 have hae : a ≤ e0:=by omega
 have hen : e0 ≤ n:=by omega
 have HA : Hid (a = (p : Int)):=by show _ = _;omega
 have HP:=hid hp
 have HL : Hid (e0 = (p : Int) + (x : Int)):=by show _ = _;omega
 have HXL:=hid hx
 clear ha he hl hp hx M0 HC0 hE hX
 go_enter Tryz.func203,Tryz.ntmps203
 by_cases hx0 : x = 0
 ·go_wp2
  go_loopw [8] (fun i wr => i = .int .i64 (a + 1) ∧ Hid (Mine b wr (.row 3 1 (some ⟨g,0,none⟩) n c (ints (P ++ (X ++ Q)))::fr))) (fun _ _ => 0)
  case atStart => exact ⟨rfl,M⟩
  case round =>
   clear M
   obtain ⟨rfl,M⟩:=hrel
   have hlt : ¬ a + 1 < e0:=by have:=HL.out;have:=HA.out;omega
   have e : X = []:=List.eq_nil_of_length_eq_zero (by have:=HXL.out;omega)
   have H9 : Hid (X.Perm X ∧ X.Pairwise K.T):=by subst e;exact ⟨List.Perm.refl _,List.Pairwise.nil⟩
   clear e
   go_wp2
   first|refine bodyPost_ret (v:=.tuple #[]) (by simp [results,Tryz.results203,go_sem]) rfl ?_|refine bodyPost_end (v:=.tuple #[]) (by simp [results,Tryz.results203,go_sem]) rfl ?_
   exact ⟨rfl,X,H9.out.1,H9.out.2,M.out⟩
 have hx1 : 1 ≤ x:=by omega
 clear hx0
 go_wp2
 go_loopw [8] (fun i wr => ∃ (k : Nat) (S : List Int) (I : Int),1 ≤ k ∧ k ≤ x ∧ i = .int .i64 I ∧ Hid (I = a + k) ∧ Hid (S.length = k) ∧ Hid (S.Perm (X.take k)) ∧ Hid (S.Pairwise K.T) ∧ Hid (Mine b wr (.row 3 1 (some ⟨g,0,none⟩) n c (ints (P ++ (S ++ (X.drop k ++ Q))))::fr))) (fun i _ => (e0 - intOf i).toNat)
 case atStart => exact ⟨1,X.take 1,a + 1,Nat.le_refl _,hx1,rfl,rfl,by show _ = _;rw [List.length_take];have:=HXL.out;omega,List.Perm.refl _,by (cases hq : X.take 1 with|nil => exact List.Pairwise.nil|cons z zs => (have hz : zs = []:=List.eq_nil_of_length_eq_zero (by have h:=congrArg List.length hq;rw [List.length_take,List.length_cons] at h;omega));subst hz;exact List.pairwise_singleton _ _),by rw [← List.append_assoc (X.take 1),List.take_append_drop];exact M⟩
 case round =>
  clear M hx1
  obtain ⟨k,S,I,hk1,hkx,rfl,HI,HS,HSP,HSO,M⟩:=hrel
  have hI0 : 0 ≤ I:=by have:=HI.out;omega
  by_cases hlt : I < e0
  rotate_left
  ·have ek : k = x:=by have:=HI.out;have:=HL.out;have:=HA.out;omega
   have H9 : Hid (S.Perm X ∧ X.drop k = []):=⟨by have h:=HSP.out;rw [ek,HXL.out,List.take_length] at h;exact h,by rw [ek,HXL.out,List.drop_length]⟩
   have M9:=M.out
   rw [H9.out.2,List.nil_append] at M9
   have M8:=hid M9
   clear M M9 ek
   go_wp2
   first|refine bodyPost_ret (v:=.tuple #[]) (by simp [results,Tryz.results203,go_sem]) rfl ?_|refine bodyPost_end (v:=.tuple #[]) (by simp [results,Tryz.results203,go_sem]) rfl ?_
   exact ⟨rfl,S,H9.out.1,HSO.out,M8.out⟩
  have HLT:=hid hlt
  have HK : Hid (k < x):=by show _ < _;have:=HI.out;have:=HL.out;have:=HA.out;omega
  obtain ⟨y,hy⟩ : ∃ y,X[k]? = some y:=⟨_,List.getElem?_eq_getElem (by have:=HK.out;have:=HXL.out;omega)⟩
  have HY:=hid hy
  have hd : X.drop k = y::X.drop (k + 1):=by obtain ⟨h1,h2⟩:=List.getElem?_eq_some_iff.1 hy;rw [List.drop_eq_getElem_cons h1,h2]
  rw [hd] at M
  have HYE : Hid (y ∈ E):=HE.out y (List.mem_of_getElem? hy)
  have HYL : Hid (∀ s ∈ S,s < y):=fun s hs => by obtain ⟨i,hi,ei⟩:=mem_take_at (HSP.out.subset hs);exact pair_at HX.out hi ei hy
  have HSE : Hid (∀ s ∈ S,s ∈ E):=fun s hs => HE.out s (List.mem_of_mem_take (HSP.out.subset hs))
  clear hd hy
  go_wp2
  go_loopw [9] (fun j wr => ∃ (S1 S2 : List Int) (J : Int),j = .int .i64 J ∧ Hid (J = a + S1.length) ∧ Hid (S1 ++ S2 = S) ∧ Hid (∀ s ∈ S2,K.lt y s) ∧ Hid (Mine b wr (.row 3 1 (some ⟨g,0,none⟩) n c (ints (P ++ (S1 ++ (y::(S2 ++ (X.drop (k + 1) ++ Q))))))::fr))) (fun j _ => (intOf j - a).toNat)
  case atStart => exact ⟨S,[],I,rfl,by show _ = _;rw [HI.out,HS.out],List.append_nil S,fun s hs => (by cases hs),M⟩
  case round =>
   clear M
   obtain ⟨S1,S2,J,rfl,HJ,HSS,HLT2,M⟩:=hrel
   have HLS : Hid (S1.length + S2.length = k):=by have h:=congrArg List.length HSS.out;rw [List.length_append,HS.out] at h;exact h
   rcases List.eq_nil_or_concat S1 with h0|⟨S0,z,h0⟩
   ·have HB : Hid (∀ s ∈ S1,K.T s y):=by subst h0;exact fun s hs => (by cases hs)
    have hJa : ¬ a < J:=by have h:=HJ.out;rw [h0] at h;simp at h;omega
    have hJ0 : 0 ≤ J:=by have h:=HJ.out;omega
    have hJd : decide (a < J) = false:=decide_eq_false hJa
    clear h0
    go_wp2
    refine zRQ M.out ?_
    repeat (first|go_big_quiet_skip|(go_big_quiet_want;first|(unfold Oper.quiet;apply Exists.intro;refine ⟨fun wq hq => ?_,?_⟩;(clear hq;go_simp;first|done|rfl|exact ⟨rfl,rfl⟩);(try simp only [zs_,zl_]);go_big_quiet_on)))
    refine wpQuiet_nil ?_
    intro w' M'
    replace M:=hid M'
    clear M'
    go_wp2
    go_roundw
    case rel =>
     refine ⟨k + 1,S1 ++ y::S2,I + 1,by omega,by have:=HK.out;omega,rfl,by show _ = _;rw [HI.out];omega,by show _ = _;have h9:=HLS.out;simp at h9 ⊢;omega,?_,ins_sorted (by rw [HSS.out];exact HSO.out) (HB.out) (fun s hs => Keys.T_lt (HLT2.out s hs)),by simpa only [List.append_assoc,List.cons_append] using M⟩
     show List.Perm _ _
     have hyy:=HY.out
     obtain ⟨h1,h2⟩:=List.getElem?_eq_some_iff.1 hyy
     rw [List.take_succ_eq_append_getElem h1,h2]
     refine List.perm_middle.trans ?_
     rw [HSS.out]
     exact (HSP.out.cons y).trans (List.perm_append_comm (l₁:=[y]))
    case measure => have:=HLT.out;simp [intOf];omega
   rw [List.concat_eq_append] at h0
   subst h0
   have hJ1 : Hid (J - 1 = a + S0.length):=by have h:=HJ.out;show _ = _;rw [List.length_append] at h;simp at h;omega
   have hJa : a < J:=by have:=hJ1.out;omega
   have hJd : decide (a < J) = true:=decide_eq_true hJa
   have hJ0 : 0 ≤ J:=by omega
   have hJ11 : 1 ≤ J:=by omega
   have hJm : 0 ≤ J - 1:=by omega
   have hJn : J < (n : Int):=by have h1:=hJ1.out;have h2:=HLS.out;have h3:=HL.out;have h4:=HA.out;have h5:=HK.out;rw [List.length_append] at h2;simp at h2;omega
   have hJn1 : J - 1 < (n : Int):=by omega
   have e1 : P ++ (S0 ++ [z] ++ (y::(S2 ++ (X.drop (k + 1) ++ Q)))) = (P ++ S0) ++ (z::y::(S2 ++ (X.drop (k + 1) ++ Q))):=by simp
   rw [e1] at M
   clear e1
   obtain ⟨D,hD⟩ : ∃ D,D = (P ++ S0) ++ (z::y::(S2 ++ (X.drop (k + 1) ++ Q))):=⟨_,rfl⟩
   rw [← hD] at M
   have HD:=hid hD
   clear hD
   have eP : Hid ((J.toNat - 1) = (P ++ S0).length):=by show _ = _;have h1:=hJ1.out;have h2:=HA.out;have h3:=HP.out;rw [List.length_append];omega
   have eJ : Hid (J.toNat = (P ++ S0).length + 1):=by show _ = _;have h1:=hJ1.out;have h2:=HA.out;have h3:=HP.out;rw [List.length_append];omega
   have hz1 : (ints D)[(J.toNat - 1)]? = some (.int .i64 z):=by rw [HD.out];exact ints_at (at_mid eP.out)
   have hy1 : (ints D)[J.toNat]? = some (.int .i64 y):=by rw [HD.out,eJ.out];exact ints_at (at_mid1 rfl)
   have HZE : Hid (z ∈ E):=HSE.out z (by rw [← HSS.out];simp)
   have HZL : Hid (z < y):=HYL.out z (by rw [← HSS.out];simp)
   have WJ : IntKind.i64.wrap (J - 1) = J - 1:=Go.IntWalk.i64_in _ (by omega)
   by_cases hlz : K.lt y z
   rotate_left
   ·have hc:=Keys.z_no hlz
    have HB : Hid (∀ s ∈ S0 ++ [z],K.T s y):=last_all (List.pairwise_append.1 (by rw [HSS.out];exact HSO.out : (S0 ++ [z] ++ S2).Pairwise K.T)).1 (Keys.T_of hlz HZL.out)
    clear hlz
    go_wp2
    refine zRQ M.out ?_
    repeat (first|go_big_quiet_skip|(go_big_quiet_want;first|((first|refine Mine.oq_getr _ _ rfl 0 _ rfl rfl _ (by exact hy1) _ (by first|exact Tryz.underlying3) (by rfl) ?_|refine Mine.oq_getr _ _ rfl 0 _ rfl rfl _ (by exact hz1) _ (by first|exact Tryz.underlying3) (by rfl) ?_);(try simp only [zr_,zm_]);go_big_quiet_on)|(unfold Oper.quiet;apply Exists.intro;refine ⟨fun wq hq => ?_,?_⟩;(go_simp;(with_reducible refine (HC.out wq y z hq.tail HYE.out HZE.out).mono ?_);rintro e w2 ⟨rfl,x2⟩;exact ⟨rfl,hq.on x2⟩);(try simp only [zs_,zl_]);go_big_quiet_on)|(unfold Oper.quiet;apply Exists.intro;refine ⟨fun wq hq => ?_,?_⟩;(clear hq;go_simp;first|done|rfl|exact ⟨rfl,rfl⟩);(try simp only [zs_,zl_]);go_big_quiet_on)))
    refine wpQuiet_nil ?_
    intro w' M'
    replace M:=hid M'
    clear M'
    clear WJ
    go_wp2
    have e1 : D = P ++ (S0 ++ [z] ++ (y::(S2 ++ (X.drop (k + 1) ++ Q)))):=by rw [HD.out];simp
    rw [e1] at M
    go_roundw
    case rel =>
     refine ⟨k + 1,(S0 ++ [z]) ++ y::S2,I + 1,by omega,by have:=HK.out;omega,rfl,by show _ = _;rw [HI.out];omega,by show _ = _;have h9:=HLS.out;simp at h9 ⊢;omega,?_,ins_sorted (by rw [HSS.out];exact HSO.out) (HB.out) (fun s hs => Keys.T_lt (HLT2.out s hs)),by simpa only [List.append_assoc,List.cons_append] using M⟩
     show List.Perm _ _
     have hyy:=HY.out
     obtain ⟨h1,h2⟩:=List.getElem?_eq_some_iff.1 hyy
     rw [List.take_succ_eq_append_getElem h1,h2]
     refine List.perm_middle.trans ?_
     rw [HSS.out]
     exact (HSP.out.cons y).trans (List.perm_append_comm (l₁:=[y]))
    case measure => have:=HLT.out;simp [intOf];omega
   have hc:=Keys.z_yes hlz
   have HZ2:=hid hlz
   clear hlz
   go_wp2
   refine zRQ M.out ?_
   repeat (first|go_big_quiet_skip|(go_big_quiet_want;first|((first|refine Mine.oq_getr _ _ rfl 0 _ rfl rfl _ (by exact hy1) _ (by first|exact Tryz.underlying3) (by rfl) ?_|refine Mine.oq_getr _ _ rfl 0 _ rfl rfl _ (by exact hz1) _ (by first|exact Tryz.underlying3) (by rfl) ?_);(try simp only [zr_,zm_]);go_big_quiet_on)|(unfold Oper.quiet;apply Exists.intro;refine ⟨fun wq hq => ?_,?_⟩;(go_simp;(with_reducible refine (HC.out wq y z hq.tail HYE.out HZE.out).mono ?_);rintro e w2 ⟨rfl,x2⟩;exact ⟨rfl,hq.on x2⟩);(try simp only [zs_,zl_]);go_big_quiet_on)|(unfold Oper.quiet;apply Exists.intro;refine ⟨fun wq hq => ?_,?_⟩;(clear hq;go_simp;first|done|rfl|exact ⟨rfl,rfl⟩);(try simp only [zs_,zl_]);go_big_quiet_on)))
   refine wpQuiet_nil ?_
   intro w' M'
   replace M:=hid M'
   clear M'
   clear hc
   go_wp2
   have q1 : w'.cell? ⟨g,J.toNat,none⟩ = some _:=((M.out.row_at 0 rfl).cellAt _ (by omega)).trans hy1
   have q2 : w'.cell? ⟨g,(J.toNat - 1),none⟩ = some _:=((M.out.row_at 0 rfl).cellAt _ (by omega)).trans hz1
   have f1 : w'.frozen? ⟨g,J.toNat,none⟩ = false:=(M.out.row_at 0 rfl).frozenAt _
   have f2 : w'.frozen? ⟨g,(J.toNat - 1),none⟩ = false:=(M.out.row_at 0 rfl).frozenAt _
   have hne : ¬ J.toNat = (J.toNat - 1):=by omega
   go_region
   all_goals
    have M2:=(M.out.dr.put 0 rfl J.toNat (.int .i64 z)).put 0 rfl (J.toNat - 1) (.int .i64 y)
    simp only [List.set_cons_zero,ints_set] at M2
    have eL : (D.set J.toNat z).set (J.toNat - 1) y = P ++ (S0 ++ (y::((z::S2) ++ (X.drop (k + 1) ++ Q)))):=by
     rw [eP.out,eJ.out,HD.out,swap_parts rfl];simp
    rw [eL] at M2
    replace M2:=hid M2
    go_wp2
    go_roundw
    case rel => exact ⟨S0,z::S2,J - 1,rfl,hJ1,by show _ = _;rw [← HSS.out];simp,fun s hs => (by rcases List.mem_cons.1 hs with h|h;(subst h;exact HZ2.out);exact HLT2.out s h),M2⟩
    case measure => simp [intOf];omega
end Go.Proofs.YtoegjiigaoanbaaGreat
namespace Go.Proofs.YtoegjiigaoanbaaGreat
open Go.RowKit Go.Deep
set_option linter.unnecessarySimpa false
set_option maxHeartbeats 400000000
open Go.Lib (hid)
set_option linter.unusedSimpArgs false
set_option linter.unusedVariables false

theorem Root.at4 {w : World} {S : Nat → Prop} {row : List Value} {r : Root} (h : Root.R w S row r) : row.toArray[4]? = some (.int .i64 r.rv_):=by
 obtain ⟨A0,n0,c0,A1,n1,c1,A2,n2,c2,A3,n3,c3,A4,n4,c4,A5,n5,c5,A6,n6,c6,A7,n7,c7,A8,n8,c8,A9,n9,c9,A10,n10,c10,A11,n11,c11,A12,n12,c12,A13,n13,c13,rfl⟩:=Root.R_cells h
 rfl
theorem Root.at10 {w : World} {S : Nat → Prop} {row : List Value} {r : Root} (h : Root.R w S row r) : row.toArray[10]? = some (.int .i64 r.ended_):=by
 obtain ⟨A0,n0,c0,A1,n1,c1,A2,n2,c2,A3,n3,c3,A4,n4,c4,A5,n5,c5,A6,n6,c6,A7,n7,c7,A8,n8,c8,A9,n9,c9,A10,n10,c10,A11,n11,c11,A12,n12,c12,A13,n13,c13,rfl⟩:=Root.R_cells h
 rfl
def ltR (r s : Root) : Prop:=stampOf r < stampOf s ∨ (stampOf r = stampOf s ∧ ((¬ stampOf r = r.rv_ ∧ stampOf s = s.rv_) ∨ ((stampOf r = r.rv_ ↔ stampOf s = s.rv_) ∧ r.ended_ < s.ended_)))
noncomputable def zR (r s : Root) : Int:=@ite _ (ltR r s) (Classical.propDecidable _) (-1) (@ite _ (ltR s r) (Classical.propDecidable _) 1 0)
def rootAt (x : GWorld) (i : Int) : Root:=x.roots_.getD i.toNat default
theorem rootAt_is {x : GWorld} {k : Nat} {r : Root} (h : x.roots_[k]? = some r) : rootAt x (k : Int) = r:=by unfold rootAt;rw [Int.toNat_natCast,List.getD_eq_getElem?_getD,h];rfl
noncomputable def rkeys (x : GWorld) : Keys:=⟨fun i => stampOf (rootAt x i),fun i => @ite _ (stampOf (rootAt x i) = (rootAt x i).rv_) (Classical.propDecidable _) 1 0,fun i => (rootAt x i).ended_⟩
theorem rkeys_lt (x : GWorld) (i j : Int) : (rkeys x).lt i j ↔ ltR (rootAt x i) (rootAt x j):=by
 unfold Keys.lt rkeys ltR
 simp only
 generalize rootAt x i = r
 generalize rootAt x j = s
 by_cases h1 : stampOf r = r.rv_ <;> by_cases h2 : stampOf s = s.rv_ <;> simp [h1,h2]
theorem rkeys_z (x : GWorld) (i j : Int) : (rkeys x).z i j = zR (rootAt x i) (rootAt x j):=by
 unfold Keys.z zR
 rw [show ((rkeys x).lt i j) = ltR (rootAt x i) (rootAt x j) from propext (rkeys_lt x i j),show ((rkeys x).lt j i) = ltR (rootAt x j) (rootAt x i) from propext (rkeys_lt x j i)]
theorem zR_lt {r s : Root} (h : ltR r s) : zR r s = -1:=by unfold zR;rw [if_pos h]
theorem zR_gt {r s : Root} (h : ltR s r) : zR r s = 1:=by
 have h2 : ¬ ltR r s:=by unfold ltR at *;omega
 unfold zR;rw [if_neg h2,if_pos h]
theorem zR_eq {r s : Root} (h : ¬ ltR r s) (h2 : ¬ ltR s r) : zR r s = 0:=by unfold zR;rw [if_neg h,if_neg h2]
noncomputable def ranksOf (x : GWorld) : List Int:=rankList (rkeys x) (pickTo settledOf x.roots_ x.roots_.length)
theorem ranks_len (x : GWorld) : (ranksOf x).length ≤ x.roots_.length:=by unfold ranksOf;rw [(rank_perm _ _).length_eq];exact pick_len _ _ _

set_option maxRecDepth 8000 in
theorem earlier_any (r s : Root) (row1 row2 : List Value) (w : World) (S S2 : Nat → Prop) (h1 : Root.R w S row1 r) (h2 : Root.R w S2 row2 s) :
  Calls Tryz.prog 98 #[.agg row1.toArray,.agg row2.toArray] w fun e w' => e = .returned (.int .i64 (zR r s)) ∧ Ext w w':=by
 have a4:=Root.at4 h1
 have a10:=Root.at10 h1
 have b4:=Root.at4 h2
 have b10:=Root.at10 h2
 have H1:=hid h1
 have H2:=hid h2
 have L1 : Hid (row1.length = 40):=Root.R_good.len h1
 have L2 : Hid (row2.length = 40):=Root.R_good.len h2
 have M : Hid (Mine w ((w.alloc (.cells row1.toArray 97)).alloc (.cells row2.toArray 97)) [.box (w.heap.size + 1) 97 row2.toArray,.box w.heap.size 97 row1.toArray]):=by
  have h:=((Mine.refl w).box 97 row1.toArray).box 97 row2.toArray
  simp only [World.heap_alloc_size] at h
  exact h
 obtain ⟨X,hX⟩ : ∃ X,X = stampOf r:=⟨_,rfl⟩
 obtain ⟨Y,hY⟩ : ∃ Y,Y = stampOf s:=⟨_,rfl⟩
 have HX:=hid hX
 have HY:=hid hY
 clear h1 h2 hX hY
 by_cases c1 : X < Y
 ·have HZ:=hid (zR_lt (r:=r) (s:=s) (by unfold ltR;rw [← HX.out,← HY.out];omega))
  go_enter Tryz.func98,Tryz.ntmps98
  go_wp2
  refine zRQ M.out ?_
  repeat (first|go_big_quiet_skip|(go_big_quiet_want;first|((first|refine Mine.oq_getall 97 _ rfl 1 rfl rfl _ Tryz.underlying97 (by rfl) (by rw [List.size_toArray,L1.out];kernel_rfl) ?_|refine Mine.oq_getall 97 _ rfl 0 rfl rfl _ Tryz.underlying97 (by rfl) (by rw [List.size_toArray,L2.out];kernel_rfl) ?_);(try simp only [zr_,zm_]);go_big_quiet_on)|(unfold Oper.quiet;apply Exists.intro;refine ⟨fun wq hq => ?_,?_⟩;(go_simp;go_at_call 156;(with_reducible refine (impl_StampOf r row1 _ _ (Root.R_good.ext H1.out hq.ext)).mono ?_);rintro e w2 ⟨rfl,x2⟩;exact ⟨rfl,hq.on x2⟩);(try simp only [zs_,zl_]);go_big_quiet_on)|(unfold Oper.quiet;apply Exists.intro;refine ⟨fun wq hq => ?_,?_⟩;(go_simp;go_at_call 156;(with_reducible refine (impl_StampOf s row2 _ _ (Root.R_good.ext H2.out hq.ext)).mono ?_);rintro e w2 ⟨rfl,x2⟩;exact ⟨rfl,hq.on x2⟩);(try simp only [zs_,zl_]);go_big_quiet_on)|(unfold Oper.quiet;apply Exists.intro;refine ⟨fun wq hq => ?_,?_⟩;(clear hq;go_simp;first|done|rfl|exact ⟨rfl,rfl⟩);(try simp only [zs_,zl_]);go_big_quiet_on)))
  refine wpQuiet_nil ?_
  intro w' M'
  replace M:=hid M'
  clear M'
  rw [← HX.out,← HY.out]
  go_wp2_with (fail)
  go_ret
  exact ⟨by rw [HZ.out];rfl,M.out.ext⟩
 by_cases c2 : Y < X
 ·have HZ:=hid (zR_gt (r:=r) (s:=s) (by unfold ltR;rw [← HX.out,← HY.out];omega))
  go_enter Tryz.func98,Tryz.ntmps98
  go_wp2
  refine zRQ M.out ?_
  repeat (first|go_big_quiet_skip|(go_big_quiet_want;first|((first|refine Mine.oq_getall 97 _ rfl 1 rfl rfl _ Tryz.underlying97 (by rfl) (by rw [List.size_toArray,L1.out];kernel_rfl) ?_|refine Mine.oq_getall 97 _ rfl 0 rfl rfl _ Tryz.underlying97 (by rfl) (by rw [List.size_toArray,L2.out];kernel_rfl) ?_);(try simp only [zr_,zm_]);go_big_quiet_on)|(unfold Oper.quiet;apply Exists.intro;refine ⟨fun wq hq => ?_,?_⟩;(go_simp;go_at_call 156;(with_reducible refine (impl_StampOf r row1 _ _ (Root.R_good.ext H1.out hq.ext)).mono ?_);rintro e w2 ⟨rfl,x2⟩;exact ⟨rfl,hq.on x2⟩);(try simp only [zs_,zl_]);go_big_quiet_on)|(unfold Oper.quiet;apply Exists.intro;refine ⟨fun wq hq => ?_,?_⟩;(go_simp;go_at_call 156;(with_reducible refine (impl_StampOf s row2 _ _ (Root.R_good.ext H2.out hq.ext)).mono ?_);rintro e w2 ⟨rfl,x2⟩;exact ⟨rfl,hq.on x2⟩);(try simp only [zs_,zl_]);go_big_quiet_on)|(unfold Oper.quiet;apply Exists.intro;refine ⟨fun wq hq => ?_,?_⟩;(clear hq;go_simp;first|done|rfl|exact ⟨rfl,rfl⟩);(try simp only [zs_,zl_]);go_big_quiet_on)))
  refine wpQuiet_nil ?_
  intro w' M'
  replace M:=hid M'
  clear M'
  rw [← HX.out,← HY.out]
  go_wp2_with (fail)
  go_ret
  exact ⟨by rw [HZ.out];rfl,M.out.ext⟩
 have hxy : Hid (X = Y):=by show _ = _;omega
 by_cases p : X = r.rv_
 ·have bp : (X != r.rv_) = false:=by simp [p]
  have bp2 : (X == r.rv_) = true:=by simp [p]
  by_cases q : Y = s.rv_
  ·have bq : (Y == s.rv_) = true:=by simp [q]
   have bq2 : (Y != s.rv_) = false:=by simp [q]
   have HPQ : Hid (X = r.rv_ ↔ Y = s.rv_):=by show _ ↔ _;omega
   clear p q
   by_cases e1 : r.ended_ < s.ended_
   ·have HZ:=hid (zR_lt (r:=r) (s:=s) (by unfold ltR;rw [← HX.out,← HY.out];exact .inr ⟨hxy.out,.inr ⟨HPQ.out,e1⟩⟩))
    go_enter Tryz.func98,Tryz.ntmps98
    go_wp2
    refine zRQ M.out ?_
    repeat (first|go_big_quiet_skip|(go_big_quiet_want;first|((first|refine Mine.oq_getall 97 _ rfl 1 rfl rfl _ Tryz.underlying97 (by rfl) (by rw [List.size_toArray,L1.out];kernel_rfl) ?_|refine Mine.oq_getall 97 _ rfl 0 rfl rfl _ Tryz.underlying97 (by rfl) (by rw [List.size_toArray,L2.out];kernel_rfl) ?_);(try simp only [zr_,zm_]);go_big_quiet_on)|(unfold Oper.quiet;apply Exists.intro;refine ⟨fun wq hq => ?_,?_⟩;(go_simp;go_at_call 156;(with_reducible refine (impl_StampOf r row1 _ _ (Root.R_good.ext H1.out hq.ext)).mono ?_);rintro e w2 ⟨rfl,x2⟩;exact ⟨rfl,hq.on x2⟩);(try simp only [zs_,zl_]);go_big_quiet_on)|(unfold Oper.quiet;apply Exists.intro;refine ⟨fun wq hq => ?_,?_⟩;(go_simp;go_at_call 156;(with_reducible refine (impl_StampOf s row2 _ _ (Root.R_good.ext H2.out hq.ext)).mono ?_);rintro e w2 ⟨rfl,x2⟩;exact ⟨rfl,hq.on x2⟩);(try simp only [zs_,zl_]);go_big_quiet_on)|(unfold Oper.quiet;apply Exists.intro;refine ⟨fun wq hq => ?_,?_⟩;(clear hq;go_simp;first|done|rfl|exact ⟨rfl,rfl⟩);(try simp only [zs_,zl_]);go_big_quiet_on)))
    refine wpQuiet_nil ?_
    intro w' M'
    replace M:=hid M'
    clear M'
    rw [← HX.out,← HY.out]
    go_wp2_with (first|((with_reducible refine zN ?_);first|((first|refine Mine.wp_get M.out rfl _ _ rfl 1 _ rfl rfl _ (by assumption) _ (by first|exact Tryz.underlying3) (by rfl) ?_|refine Mine.wp_get M.out rfl _ _ rfl 0 _ rfl rfl _ (by assumption) _ (by first|exact Tryz.underlying3) (by rfl) ?_);(try simp only [zr_,zm_])))|((with_reducible show wpList _ _ _ (⟨_,.load _ _,_,_,_,some _⟩::_) _ _);first|(refine Mine.wp_getg M.out (by rfl) _ _ rfl 0 _ rfl rfl _ (by assumption) _ (by first|exact Tryz.underlying3) (by rfl) ?_;(try simp only [zr_,zm_]))))
    go_ret
    exact ⟨by rw [HZ.out];rfl,M.out.ext⟩
   by_cases e2 : s.ended_ < r.ended_
   ·have HZ:=hid (zR_gt (r:=r) (s:=s) (by unfold ltR;rw [← HX.out,← HY.out];exact .inr ⟨hxy.out.symm,.inr ⟨HPQ.out.symm,e2⟩⟩))
    go_enter Tryz.func98,Tryz.ntmps98
    go_wp2
    refine zRQ M.out ?_
    repeat (first|go_big_quiet_skip|(go_big_quiet_want;first|((first|refine Mine.oq_getall 97 _ rfl 1 rfl rfl _ Tryz.underlying97 (by rfl) (by rw [List.size_toArray,L1.out];kernel_rfl) ?_|refine Mine.oq_getall 97 _ rfl 0 rfl rfl _ Tryz.underlying97 (by rfl) (by rw [List.size_toArray,L2.out];kernel_rfl) ?_);(try simp only [zr_,zm_]);go_big_quiet_on)|(unfold Oper.quiet;apply Exists.intro;refine ⟨fun wq hq => ?_,?_⟩;(go_simp;go_at_call 156;(with_reducible refine (impl_StampOf r row1 _ _ (Root.R_good.ext H1.out hq.ext)).mono ?_);rintro e w2 ⟨rfl,x2⟩;exact ⟨rfl,hq.on x2⟩);(try simp only [zs_,zl_]);go_big_quiet_on)|(unfold Oper.quiet;apply Exists.intro;refine ⟨fun wq hq => ?_,?_⟩;(go_simp;go_at_call 156;(with_reducible refine (impl_StampOf s row2 _ _ (Root.R_good.ext H2.out hq.ext)).mono ?_);rintro e w2 ⟨rfl,x2⟩;exact ⟨rfl,hq.on x2⟩);(try simp only [zs_,zl_]);go_big_quiet_on)|(unfold Oper.quiet;apply Exists.intro;refine ⟨fun wq hq => ?_,?_⟩;(clear hq;go_simp;first|done|rfl|exact ⟨rfl,rfl⟩);(try simp only [zs_,zl_]);go_big_quiet_on)))
    refine wpQuiet_nil ?_
    intro w' M'
    replace M:=hid M'
    clear M'
    rw [← HX.out,← HY.out]
    go_wp2_with (first|((with_reducible refine zN ?_);first|((first|refine Mine.wp_get M.out rfl _ _ rfl 1 _ rfl rfl _ (by assumption) _ (by first|exact Tryz.underlying3) (by rfl) ?_|refine Mine.wp_get M.out rfl _ _ rfl 0 _ rfl rfl _ (by assumption) _ (by first|exact Tryz.underlying3) (by rfl) ?_);(try simp only [zr_,zm_])))|((with_reducible show wpList _ _ _ (⟨_,.load _ _,_,_,_,some _⟩::_) _ _);first|(refine Mine.wp_getg M.out (by rfl) _ _ rfl 0 _ rfl rfl _ (by assumption) _ (by first|exact Tryz.underlying3) (by rfl) ?_;(try simp only [zr_,zm_]))))
    go_ret
    exact ⟨by rw [HZ.out];rfl,M.out.ext⟩
   have HZ:=hid (zR_eq (r:=r) (s:=s) (by unfold ltR;rw [← HX.out,← HY.out];have h1:=HPQ.out;have h2:=hxy.out;omega) (by unfold ltR;rw [← HX.out,← HY.out];have h1:=HPQ.out;have h2:=hxy.out;omega))
   go_enter Tryz.func98,Tryz.ntmps98
   go_wp2
   refine zRQ M.out ?_
   repeat (first|go_big_quiet_skip|(go_big_quiet_want;first|((first|refine Mine.oq_getall 97 _ rfl 1 rfl rfl _ Tryz.underlying97 (by rfl) (by rw [List.size_toArray,L1.out];kernel_rfl) ?_|refine Mine.oq_getall 97 _ rfl 0 rfl rfl _ Tryz.underlying97 (by rfl) (by rw [List.size_toArray,L2.out];kernel_rfl) ?_);(try simp only [zr_,zm_]);go_big_quiet_on)|(unfold Oper.quiet;apply Exists.intro;refine ⟨fun wq hq => ?_,?_⟩;(go_simp;go_at_call 156;(with_reducible refine (impl_StampOf r row1 _ _ (Root.R_good.ext H1.out hq.ext)).mono ?_);rintro e w2 ⟨rfl,x2⟩;exact ⟨rfl,hq.on x2⟩);(try simp only [zs_,zl_]);go_big_quiet_on)|(unfold Oper.quiet;apply Exists.intro;refine ⟨fun wq hq => ?_,?_⟩;(go_simp;go_at_call 156;(with_reducible refine (impl_StampOf s row2 _ _ (Root.R_good.ext H2.out hq.ext)).mono ?_);rintro e w2 ⟨rfl,x2⟩;exact ⟨rfl,hq.on x2⟩);(try simp only [zs_,zl_]);go_big_quiet_on)|(unfold Oper.quiet;apply Exists.intro;refine ⟨fun wq hq => ?_,?_⟩;(clear hq;go_simp;first|done|rfl|exact ⟨rfl,rfl⟩);(try simp only [zs_,zl_]);go_big_quiet_on)))
   refine wpQuiet_nil ?_
   intro w' M'
   replace M:=hid M'
   clear M'
   rw [← HX.out,← HY.out]
   go_wp2_with (first|((with_reducible refine zN ?_);first|((first|refine Mine.wp_get M.out rfl _ _ rfl 1 _ rfl rfl _ (by assumption) _ (by first|exact Tryz.underlying3) (by rfl) ?_|refine Mine.wp_get M.out rfl _ _ rfl 0 _ rfl rfl _ (by assumption) _ (by first|exact Tryz.underlying3) (by rfl) ?_);(try simp only [zr_,zm_])))|((with_reducible show wpList _ _ _ (⟨_,.load _ _,_,_,_,some _⟩::_) _ _);first|(refine Mine.wp_getg M.out (by rfl) _ _ rfl 0 _ rfl rfl _ (by assumption) _ (by first|exact Tryz.underlying3) (by rfl) ?_;(try simp only [zr_,zm_]))))
   go_ret
   exact ⟨by rw [HZ.out];rfl,M.out.ext⟩
  have bq : (Y == s.rv_) = false:=by simp [q]
  have bq2 : (Y != s.rv_) = true:=by simp [q]
  have HZ:=hid (zR_gt (r:=r) (s:=s) (by unfold ltR;rw [← HX.out,← HY.out];exact .inr ⟨hxy.out.symm,.inl ⟨q,p⟩⟩))
  clear p q
  go_enter Tryz.func98,Tryz.ntmps98
  go_wp2
  refine zRQ M.out ?_
  repeat (first|go_big_quiet_skip|(go_big_quiet_want;first|((first|refine Mine.oq_getall 97 _ rfl 1 rfl rfl _ Tryz.underlying97 (by rfl) (by rw [List.size_toArray,L1.out];kernel_rfl) ?_|refine Mine.oq_getall 97 _ rfl 0 rfl rfl _ Tryz.underlying97 (by rfl) (by rw [List.size_toArray,L2.out];kernel_rfl) ?_);(try simp only [zr_,zm_]);go_big_quiet_on)|(unfold Oper.quiet;apply Exists.intro;refine ⟨fun wq hq => ?_,?_⟩;(go_simp;go_at_call 156;(with_reducible refine (impl_StampOf r row1 _ _ (Root.R_good.ext H1.out hq.ext)).mono ?_);rintro e w2 ⟨rfl,x2⟩;exact ⟨rfl,hq.on x2⟩);(try simp only [zs_,zl_]);go_big_quiet_on)|(unfold Oper.quiet;apply Exists.intro;refine ⟨fun wq hq => ?_,?_⟩;(go_simp;go_at_call 156;(with_reducible refine (impl_StampOf s row2 _ _ (Root.R_good.ext H2.out hq.ext)).mono ?_);rintro e w2 ⟨rfl,x2⟩;exact ⟨rfl,hq.on x2⟩);(try simp only [zs_,zl_]);go_big_quiet_on)|(unfold Oper.quiet;apply Exists.intro;refine ⟨fun wq hq => ?_,?_⟩;(clear hq;go_simp;first|done|rfl|exact ⟨rfl,rfl⟩);(try simp only [zs_,zl_]);go_big_quiet_on)))
  refine wpQuiet_nil ?_
  intro w' M'
  replace M:=hid M'
  clear M'
  rw [← HX.out,← HY.out]
  go_wp2_with (first|((with_reducible refine zN ?_);first|(refine Mine.wp_get M.out rfl _ _ rfl 1 _ rfl rfl _ (by assumption) _ (by first|exact Tryz.underlying3) (by rfl) ?_;(try simp only [zr_,zm_])))|((with_reducible show wpList _ _ _ (⟨_,.load _ _,_,_,_,some _⟩::_) _ _);first|(refine Mine.wp_getg M.out (by rfl) _ _ rfl 0 _ rfl rfl _ (by assumption) _ (by first|exact Tryz.underlying3) (by rfl) ?_;(try simp only [zr_,zm_]))))
  go_ret
  exact ⟨by rw [HZ.out];rfl,M.out.ext⟩
 have bp : (X != r.rv_) = true:=by simp [p]
 have bp2 : (X == r.rv_) = false:=by simp [p]
 by_cases q : Y = s.rv_
 ·have bq : (Y == s.rv_) = true:=by simp [q]
  have bq2 : (Y != s.rv_) = false:=by simp [q]
  have HZ:=hid (zR_lt (r:=r) (s:=s) (by unfold ltR;rw [← HX.out,← HY.out];exact .inr ⟨hxy.out,.inl ⟨p,q⟩⟩))
  clear p q
  go_enter Tryz.func98,Tryz.ntmps98
  go_wp2
  refine zRQ M.out ?_
  repeat (first|go_big_quiet_skip|(go_big_quiet_want;first|((first|refine Mine.oq_getall 97 _ rfl 1 rfl rfl _ Tryz.underlying97 (by rfl) (by rw [List.size_toArray,L1.out];kernel_rfl) ?_|refine Mine.oq_getall 97 _ rfl 0 rfl rfl _ Tryz.underlying97 (by rfl) (by rw [List.size_toArray,L2.out];kernel_rfl) ?_);(try simp only [zr_,zm_]);go_big_quiet_on)|(unfold Oper.quiet;apply Exists.intro;refine ⟨fun wq hq => ?_,?_⟩;(go_simp;go_at_call 156;(with_reducible refine (impl_StampOf r row1 _ _ (Root.R_good.ext H1.out hq.ext)).mono ?_);rintro e w2 ⟨rfl,x2⟩;exact ⟨rfl,hq.on x2⟩);(try simp only [zs_,zl_]);go_big_quiet_on)|(unfold Oper.quiet;apply Exists.intro;refine ⟨fun wq hq => ?_,?_⟩;(go_simp;go_at_call 156;(with_reducible refine (impl_StampOf s row2 _ _ (Root.R_good.ext H2.out hq.ext)).mono ?_);rintro e w2 ⟨rfl,x2⟩;exact ⟨rfl,hq.on x2⟩);(try simp only [zs_,zl_]);go_big_quiet_on)|(unfold Oper.quiet;apply Exists.intro;refine ⟨fun wq hq => ?_,?_⟩;(clear hq;go_simp;first|done|rfl|exact ⟨rfl,rfl⟩);(try simp only [zs_,zl_]);go_big_quiet_on)))
  refine wpQuiet_nil ?_
  intro w' M'
  replace M:=hid M'
  clear M'
  rw [← HX.out,← HY.out]
  go_wp2_with (first|((with_reducible refine zN ?_);first|(refine Mine.wp_get M.out rfl _ _ rfl 1 _ rfl rfl _ (by assumption) _ (by first|exact Tryz.underlying3) (by rfl) ?_;(try simp only [zr_,zm_])))|((with_reducible show wpList _ _ _ (⟨_,.load _ _,_,_,_,some _⟩::_) _ _);first|(refine Mine.wp_getg M.out (by rfl) _ _ rfl 0 _ rfl rfl _ (by assumption) _ (by first|exact Tryz.underlying3) (by rfl) ?_;(try simp only [zr_,zm_]))))
  go_ret
  exact ⟨by rw [HZ.out];rfl,M.out.ext⟩
 have bq : (Y == s.rv_) = false:=by simp [q]
 have bq2 : (Y != s.rv_) = true:=by simp [q]
 have HPQ : Hid (X = r.rv_ ↔ Y = s.rv_):=by show _ ↔ _;omega
 clear p q
 by_cases e1 : r.ended_ < s.ended_
 ·have HZ:=hid (zR_lt (r:=r) (s:=s) (by unfold ltR;rw [← HX.out,← HY.out];exact .inr ⟨hxy.out,.inr ⟨HPQ.out,e1⟩⟩))
  go_enter Tryz.func98,Tryz.ntmps98
  go_wp2
  refine zRQ M.out ?_
  repeat (first|go_big_quiet_skip|(go_big_quiet_want;first|((first|refine Mine.oq_getall 97 _ rfl 1 rfl rfl _ Tryz.underlying97 (by rfl) (by rw [List.size_toArray,L1.out];kernel_rfl) ?_|refine Mine.oq_getall 97 _ rfl 0 rfl rfl _ Tryz.underlying97 (by rfl) (by rw [List.size_toArray,L2.out];kernel_rfl) ?_);(try simp only [zr_,zm_]);go_big_quiet_on)|(unfold Oper.quiet;apply Exists.intro;refine ⟨fun wq hq => ?_,?_⟩;(go_simp;go_at_call 156;(with_reducible refine (impl_StampOf r row1 _ _ (Root.R_good.ext H1.out hq.ext)).mono ?_);rintro e w2 ⟨rfl,x2⟩;exact ⟨rfl,hq.on x2⟩);(try simp only [zs_,zl_]);go_big_quiet_on)|(unfold Oper.quiet;apply Exists.intro;refine ⟨fun wq hq => ?_,?_⟩;(go_simp;go_at_call 156;(with_reducible refine (impl_StampOf s row2 _ _ (Root.R_good.ext H2.out hq.ext)).mono ?_);rintro e w2 ⟨rfl,x2⟩;exact ⟨rfl,hq.on x2⟩);(try simp only [zs_,zl_]);go_big_quiet_on)|(unfold Oper.quiet;apply Exists.intro;refine ⟨fun wq hq => ?_,?_⟩;(clear hq;go_simp;first|done|rfl|exact ⟨rfl,rfl⟩);(try simp only [zs_,zl_]);go_big_quiet_on)))
  refine wpQuiet_nil ?_
  intro w' M'
  replace M:=hid M'
  clear M'
  rw [← HX.out,← HY.out]
  go_wp2_with (first|((with_reducible refine zN ?_);first|((first|refine Mine.wp_get M.out rfl _ _ rfl 1 _ rfl rfl _ (by assumption) _ (by first|exact Tryz.underlying3) (by rfl) ?_|refine Mine.wp_get M.out rfl _ _ rfl 0 _ rfl rfl _ (by assumption) _ (by first|exact Tryz.underlying3) (by rfl) ?_);(try simp only [zr_,zm_])))|((with_reducible show wpList _ _ _ (⟨_,.load _ _,_,_,_,some _⟩::_) _ _);first|(refine Mine.wp_getg M.out (by rfl) _ _ rfl 0 _ rfl rfl _ (by assumption) _ (by first|exact Tryz.underlying3) (by rfl) ?_;(try simp only [zr_,zm_]))))
  go_ret
  exact ⟨by rw [HZ.out];rfl,M.out.ext⟩
 by_cases e2 : s.ended_ < r.ended_
 ·have HZ:=hid (zR_gt (r:=r) (s:=s) (by unfold ltR;rw [← HX.out,← HY.out];exact .inr ⟨hxy.out.symm,.inr ⟨HPQ.out.symm,e2⟩⟩))
  go_enter Tryz.func98,Tryz.ntmps98
  go_wp2
  refine zRQ M.out ?_
  repeat (first|go_big_quiet_skip|(go_big_quiet_want;first|((first|refine Mine.oq_getall 97 _ rfl 1 rfl rfl _ Tryz.underlying97 (by rfl) (by rw [List.size_toArray,L1.out];kernel_rfl) ?_|refine Mine.oq_getall 97 _ rfl 0 rfl rfl _ Tryz.underlying97 (by rfl) (by rw [List.size_toArray,L2.out];kernel_rfl) ?_);(try simp only [zr_,zm_]);go_big_quiet_on)|(unfold Oper.quiet;apply Exists.intro;refine ⟨fun wq hq => ?_,?_⟩;(go_simp;go_at_call 156;(with_reducible refine (impl_StampOf r row1 _ _ (Root.R_good.ext H1.out hq.ext)).mono ?_);rintro e w2 ⟨rfl,x2⟩;exact ⟨rfl,hq.on x2⟩);(try simp only [zs_,zl_]);go_big_quiet_on)|(unfold Oper.quiet;apply Exists.intro;refine ⟨fun wq hq => ?_,?_⟩;(go_simp;go_at_call 156;(with_reducible refine (impl_StampOf s row2 _ _ (Root.R_good.ext H2.out hq.ext)).mono ?_);rintro e w2 ⟨rfl,x2⟩;exact ⟨rfl,hq.on x2⟩);(try simp only [zs_,zl_]);go_big_quiet_on)|(unfold Oper.quiet;apply Exists.intro;refine ⟨fun wq hq => ?_,?_⟩;(clear hq;go_simp;first|done|rfl|exact ⟨rfl,rfl⟩);(try simp only [zs_,zl_]);go_big_quiet_on)))
  refine wpQuiet_nil ?_
  intro w' M'
  replace M:=hid M'
  clear M'
  rw [← HX.out,← HY.out]
  go_wp2_with (first|((with_reducible refine zN ?_);first|((first|refine Mine.wp_get M.out rfl _ _ rfl 1 _ rfl rfl _ (by assumption) _ (by first|exact Tryz.underlying3) (by rfl) ?_|refine Mine.wp_get M.out rfl _ _ rfl 0 _ rfl rfl _ (by assumption) _ (by first|exact Tryz.underlying3) (by rfl) ?_);(try simp only [zr_,zm_])))|((with_reducible show wpList _ _ _ (⟨_,.load _ _,_,_,_,some _⟩::_) _ _);first|(refine Mine.wp_getg M.out (by rfl) _ _ rfl 0 _ rfl rfl _ (by assumption) _ (by first|exact Tryz.underlying3) (by rfl) ?_;(try simp only [zr_,zm_]))))
  go_ret
  exact ⟨by rw [HZ.out];rfl,M.out.ext⟩
 have HZ:=hid (zR_eq (r:=r) (s:=s) (by unfold ltR;rw [← HX.out,← HY.out];have h1:=HPQ.out;have h2:=hxy.out;omega) (by unfold ltR;rw [← HX.out,← HY.out];have h1:=HPQ.out;have h2:=hxy.out;omega))
 go_enter Tryz.func98,Tryz.ntmps98
 go_wp2
 refine zRQ M.out ?_
 repeat (first|go_big_quiet_skip|(go_big_quiet_want;first|((first|refine Mine.oq_getall 97 _ rfl 1 rfl rfl _ Tryz.underlying97 (by rfl) (by rw [List.size_toArray,L1.out];kernel_rfl) ?_|refine Mine.oq_getall 97 _ rfl 0 rfl rfl _ Tryz.underlying97 (by rfl) (by rw [List.size_toArray,L2.out];kernel_rfl) ?_);(try simp only [zr_,zm_]);go_big_quiet_on)|(unfold Oper.quiet;apply Exists.intro;refine ⟨fun wq hq => ?_,?_⟩;(go_simp;go_at_call 156;(with_reducible refine (impl_StampOf r row1 _ _ (Root.R_good.ext H1.out hq.ext)).mono ?_);rintro e w2 ⟨rfl,x2⟩;exact ⟨rfl,hq.on x2⟩);(try simp only [zs_,zl_]);go_big_quiet_on)|(unfold Oper.quiet;apply Exists.intro;refine ⟨fun wq hq => ?_,?_⟩;(go_simp;go_at_call 156;(with_reducible refine (impl_StampOf s row2 _ _ (Root.R_good.ext H2.out hq.ext)).mono ?_);rintro e w2 ⟨rfl,x2⟩;exact ⟨rfl,hq.on x2⟩);(try simp only [zs_,zl_]);go_big_quiet_on)|(unfold Oper.quiet;apply Exists.intro;refine ⟨fun wq hq => ?_,?_⟩;(clear hq;go_simp;first|done|rfl|exact ⟨rfl,rfl⟩);(try simp only [zs_,zl_]);go_big_quiet_on)))
 refine wpQuiet_nil ?_
 intro w' M'
 replace M:=hid M'
 clear M'
 rw [← HX.out,← HY.out]
 go_wp2_with (first|((with_reducible refine zN ?_);first|((first|refine Mine.wp_get M.out rfl _ _ rfl 1 _ rfl rfl _ (by assumption) _ (by first|exact Tryz.underlying3) (by rfl) ?_|refine Mine.wp_get M.out rfl _ _ rfl 0 _ rfl rfl _ (by assumption) _ (by first|exact Tryz.underlying3) (by rfl) ?_);(try simp only [zr_,zm_])))|((with_reducible show wpList _ _ _ (⟨_,.load _ _,_,_,_,some _⟩::_) _ _);first|(refine Mine.wp_getg M.out (by rfl) _ _ rfl 0 _ rfl rfl _ (by assumption) _ (by first|exact Tryz.underlying3) (by rfl) ?_;(try simp only [zr_,zm_]))))
 go_ret
 exact ⟨by rw [HZ.out];rfl,M.out.ext⟩
end Go.Proofs.YtoegjiigaoanbaaGreat
namespace Go.Proofs.YtoegjiigaoanbaaGreat
open Go.RowKit Go.Deep
set_option linter.unnecessarySimpa false
set_option maxHeartbeats 400000000
open Go.Lib (hid)
set_option linter.unusedSimpArgs false
set_option linter.unusedVariables false
theorem ranks_ix {x : GWorld} {q : Nat} {y : Int} (h : (ranksOf x)[q]? = some y) : ∃ i : Nat,i < x.roots_.length ∧ y = (i : Int):=by
 obtain ⟨i,r,h1,h2,_⟩:=pick_mem.1 ((rank_perm _ _).subset (List.mem_of_getElem? h))
 exact ⟨i,h1,h2⟩

set_option maxRecDepth 8000 in
theorem Root.at17 {w : World} {S : Nat → Prop} {row : List Value} {x : Root} (h : Root.R w S row x) : ∃ (A : Option Addr) (n c : Nat),row[17]? = some (.slice A n c) ∧ n ≤ c ∧ Sl w S 1 A n (ints x.order_):=by
 obtain ⟨A0,n0,c0,A1,n1,c1,A2,n2,c2,A3,n3,c3,A4,n4,c4,A5,n5,c5,v6,v7,rfl,⟨kh0,mh0,h0⟩,⟨kh1,mh1,h1⟩,⟨kh2,mh2,h2⟩,⟨kh3,mh3,h3⟩,⟨kh4,mh4,h4⟩,⟨kh5,mh5,h5⟩,h6,h7⟩:=h
 obtain ⟨A6,n6,c6,A7,n7,c7,rfl⟩:=Commit.R_cells h6
 obtain ⟨A8,n8,c8,A9,n9,c9,A10,n10,c10,A11,n11,c11,A12,n12,c12,A13,n13,c13,rfl⟩:=Family.R_cells h7
 exact ⟨_,_,_,rfl,kh5,h5⟩
theorem SlR.of_rows {α : Type} {R : Rd α} {size : Nat} (hs : 0 < size) {w : World} {A : Option Addr} {n : Nat} {ps : List (List Value × α)} (hl : ∀ e ∈ ps,e.1.length = size) (h : Sl w (fun _ => True) size A n (ps.flatMap Prod.fst)) (ha : ∀ e ∈ ps,R w (fun _ => True) e.1 e.2) : SlR R size w (fun _ => True) A n (ps.map Prod.snd):=by
 have hlen : (ps.flatMap Prod.fst).length = ps.length * size:=by
  clear h ha
  induction ps with
  | nil => simp
  | cons a l ih => rw [List.flatMap_cons,List.length_append,hl a (List.mem_cons_self ..),ih (fun e he => hl e (List.mem_cons_of_mem _ he)),List.length_cons,Nat.add_mul,Nat.one_mul,Nat.add_comm]
 have hn : ps.length = n:=by have h1:=h.1;rw [hlen] at h1;exact Nat.eq_of_mul_eq_mul_right hs h1
 refine ⟨by simpa using hn,fun h0 => ?_⟩
 obtain ⟨b,o,e,hS,hb,hc⟩:=h.2 h0
 refine ⟨b,o,e,trivial,hb,fun k x hx => ?_⟩
 rw [List.getElem?_map] at hx
 obtain ⟨p,hp,rfl⟩:=Option.map_eq_some_iff.1 hx
 have hk:=(List.getElem?_eq_some_iff.1 hp).1
 refine ⟨p.1,ha p (List.mem_of_getElem? hp),fun j hj => ?_⟩
 have hkn : k * size + j < n * size:=by
  have : (k + 1) * size ≤ n * size:=Nat.mul_le_mul_right _ (by omega)
  rw [Nat.add_mul,Nat.one_mul] at this
  omega
 rw [Nat.add_assoc,hc _ hkn]
 clear hc hkn hlen h ha hx h0 hS hb e
 induction ps generalizing k n with
 | nil => simp at hp
 | cons a l ih =>
  rw [List.flatMap_cons]
  have ha:=hl a (List.mem_cons_self ..)
  cases k with
  | zero =>
   simp only [List.getElem?_cons_zero,Option.some.injEq] at hp
   subst hp
   rw [Nat.zero_mul,Nat.zero_add,List.getElem?_append_left (by omega)]
  | succ k =>
   rw [List.getElem?_cons_succ] at hp
   rw [List.getElem?_append_right (by rw [ha,Nat.add_mul];omega),ha,show (k + 1) * size + j - size = k * size + j by rw [Nat.add_mul];omega]
   exact ih (n:=n - 1) (k:=k) (fun e he => hl e (List.mem_cons_of_mem _ he)) (by first|exact hp|(simp at hn;omega)|(simp at hk;omega)) (by first|exact hp|(simp at hn;omega)|(simp at hk;omega)) (by first|exact hp|(simp at hn;omega)|(simp at hk;omega))
theorem fst_push {α : Type} (ps : List (List Value × α)) (v : List Value) (x : α) : ps.flatMap Prod.fst ++ v = (ps ++ [(v,x)]).flatMap Prod.fst:=by rw [List.flatMap_append];simp
def progAt (x : Script) (k : Int) : Prog:=x.progs_.getD k.toNat default
def ordAt (x : GWorld) (k : Int) : Order:=⟨(rootAt x k).order_⟩
noncomputable def ranked (x0 : Script) (x1 : GWorld) : List (Prog × List Int):=zipO ((ranksOf x1).map (progAt x0)) ((ranksOf x1).map (ordAt x1))
def replayOk (x0 : Script) (x1 : GWorld) : Prop:=scriptOk x0 = true ∧ x1.roots_.length = x0.progs_.length
noncomputable def replayF (x0 : Script) (x1 : GWorld) : List Run × Things:=@ite _ (replayOk x0 x1) (Classical.propDecidable _) (serAll (ranked x0 x1) x0.start_) ([],zThings)
theorem replay_yes {x0 : Script} {x1 : GWorld} (h : replayOk x0 x1) : replayF x0 x1 = serAll (ranked x0 x1) x0.start_:=by unfold replayF;rw [if_pos h]
theorem replay_no {x0 : Script} {x1 : GWorld} (h : ¬ replayOk x0 x1) : replayF x0 x1 = ([],zThings):=by unfold replayF;rw [if_neg h]
theorem progAt_is {x : Script} {k : Nat} {p : Prog} (h : x.progs_[k]? = some p) : progAt x (k : Int) = p:=by unfold progAt;rw [Int.toNat_natCast,List.getD_eq_getElem?_getD,h];rfl
theorem ordAt_is {x : GWorld} {k : Nat} {r : Root} (h : x.roots_[k]? = some r) : ordAt x (k : Int) = ⟨r.order_⟩:=by unfold ordAt;rw [rootAt_is h]
theorem map_take_snoc {α : Type} {l : List Int} {q : Nat} {k : Int} (f : Int → α) (h : l[q]? = some k) : (l.take (q + 1)).map f = (l.take q).map f ++ [f k]:=by rw [take_snoc h,List.map_append];rfl
theorem script_parts {x : Script} (h : scriptOk x = true) : thingsOk x.start_ = true ∧ x.progs_.length ≤ 4 ∧ ∀ p ∈ x.progs_,progOk p = true:=by
 have h1:=dec_true h
 refine ⟨h1.1,h1.2.1,fun p hp => ?_⟩
 obtain ⟨i,hi⟩:=List.mem_iff_getElem?.1 hp
 exact h1.2.2.2 i (List.getElem?_eq_some_iff.1 hi).1 p hi
theorem Tryz.infoProgU : (Tryz.prog.info? 84).map (fun i => (i.zero,i.size,i.bytes)) = some (some (.agg #[.slice none 0 0,.slice none 0 0]),2,48):=by kernel_rfl
theorem Tryz.infoOrderU : (Tryz.prog.info? 99).map (fun i => (i.zero,i.size,i.bytes)) = some (some (.agg #[.slice none 0 0]),1,24):=by kernel_rfl


theorem mem_snoc {α : Type} {p : α → Prop} {l : List α} {a : α} (h : ∀ e ∈ l,p e) (ha : p a) : ∀ e ∈ l ++ [a],p e:=fun e he => by
 rcases List.mem_append.1 he with q|q
 ·exact h e q
 ·simp only [List.mem_cons,List.not_mem_nil,or_false] at q;subst q;exact ha
theorem prog_mem {x0 : Script} {x1 : GWorld} {rk : List Int} {p : Prog} (h : ranksOf x1 = rk) (hl : x1.roots_.length = x0.progs_.length) (hp : p ∈ rk.map (progAt x0)) : p ∈ x0.progs_:=by
 obtain ⟨k,hk,rfl⟩:=List.mem_map.1 hp
 obtain ⟨q,hq⟩:=List.mem_iff_getElem?.1 hk
 obtain ⟨i,hi,rfl⟩:=ranks_ix (x:=x1) (by rw [h];exact hq)
 obtain ⟨p,hp⟩ : ∃ p,x0.progs_[i]? = some p:=⟨_,List.getElem?_eq_getElem (by omega)⟩
 rw [progAt_is hp]
 exact List.mem_of_getElem? hp
theorem ord_wt {x1 : GWorld} {rk : List Int} {o : Order} (h : ranksOf x1 = rk) (hw : ∀ r ∈ x1.roots_,r.order_.length ≤ 1048576) (ho : o ∈ rk.map (ordAt x1)) : o.kids_.length ≤ 1048576:=by
 obtain ⟨k,hk,rfl⟩:=List.mem_map.1 ho
 obtain ⟨q,hq⟩:=List.mem_iff_getElem?.1 hk
 obtain ⟨i,hi,rfl⟩:=ranks_ix (x:=x1) (by rw [h];exact hq)
 obtain ⟨r,hr⟩ : ∃ r,x1.roots_[i]? = some r:=⟨_,List.getElem?_eq_getElem hi⟩
 rw [ordAt_is hr]
 exact hw r (List.mem_of_getElem? hr)
theorem RunsV.front {b w : World} {r1 r2 r3 a1 a2 a3 a4 a5 a6 : Res} {es : List REnt} (M : Mine b w (r1::r2::r3::(es.flatMap rrows ++ [a1,a2,a3,a4,a5,a6]))) : Mine b w (r1::r2::r3::a4::es.flatMap rrows):=by
 refine (M.perm ((List.Perm.cons _ (List.Perm.cons _ (List.Perm.cons _ (List.perm_append_comm)))))).sub ?_
 exact .cons_cons _ (.cons_cons _ (.cons_cons _ (.cons _ (.cons _ (.cons _ (.cons_cons _ (.cons _ (.cons _ s1_))))))))
theorem RunsV.drop {b w : World} {r1 r2 r3 a : Res} {L : List Res} (M : Mine b w (r1::r2::r3::a::L)) : Mine b w (r1::r2::r3::L) :=
 M.sub (.cons_cons _ (.cons_cons _ (.cons_cons _ (.cons _ s1_))))


end Go.Proofs.YtoegjiigaoanbaaGreat
namespace Go.Proofs.YtoegjiigaoanbaaGreat
open Go.RowKit Go.Deep
set_option linter.unnecessarySimpa false
set_option maxHeartbeats 400000000
open Go.Lib (hid)
set_option linter.unusedSimpArgs false
set_option linter.unusedVariables false
set_option linter.unnecessarySimpa false
set_option maxHeartbeats 400000000

def keyZ (s : Int) : Int:=(s - 1) / 65536
def bktZ (k : Int) : Int:=(k * 7 + 3) % 4
def keyOf (s : Int) : Int:=if s = 0 then -1 else keyZ s
def valOf (s : Int) : Int:=if s = 0 then 0 else (s - 1) % 65536
def seenTo (l : List Int) : Nat → List Bool
 | 0 => List.replicate 8 false
 | k + 1 => match l[k]? with
  | some s => if s = 0 then seenTo l k else (seenTo l k).set (keyZ s).toNat true
  | none => seenTo l k
def slotIn (l : List Int) (i : Nat) (s : Int) : Prop:=(0 ≤ s ∧ s ≤ 524288) ∧ (s ≠ 0 → (seenTo l i)[(keyZ s).toNat]? = some false ∧ bktZ (keyZ s) = ((i / 4 : Nat) : Int))
noncomputable def slotsOk (l : List Int) : Bool:=dec (l.length = 16 ∧ AllTo (slotIn l) l l.length)
def bools (l : List Bool) : List Value:=l.map Value.bool
theorem bools_length (l : List Bool) : (bools l).length = l.length:=by simp [bools]
theorem bools_at {l : List Bool} {k : Nat} {b : Bool} (h : l[k]? = some b) : (bools l)[k]? = some (.bool b):=by simp [bools,h]
theorem bools_set (l : List Bool) (k : Nat) (b : Bool) : (bools l).set k (.bool b) = bools (l.set k b):=by unfold bools;rw [List.map_set]
theorem seenTo_len (l : List Int) : ∀ k,(seenTo l k).length = 8
 | 0 => rfl
 | k + 1 => by
  have ih:=seenTo_len l k
  rw [seenTo]
  split
  ·split
   ·exact ih
   ·rw [List.length_set];exact ih
  ·exact ih
theorem seenTo_zero {l : List Int} {k : Nat} (h : l[k]? = some 0) : seenTo l (k + 1) = seenTo l k:=by rw [seenTo,h];simp
theorem seenTo_next {l : List Int} {k : Nat} {s : Int} (h : l[k]? = some s) (h0 : s ≠ 0) : seenTo l (k + 1) = (seenTo l k).set (keyZ s).toNat true:=by rw [seenTo,h];simp [h0]
theorem keyZ_in {s : Int} (h : 0 ≤ s ∧ s ≤ 524288) (h0 : s ≠ 0) : ∃ k : Nat,keyZ s = (k : Int) ∧ k < 8:=⟨(keyZ s).toNat,by unfold keyZ;omega,by unfold keyZ;omega⟩
theorem slots_16 {l : List Int} (h : slotsOk l = true) : l.length = 16:=(dec_true h).1
theorem slots_at {l : List Int} (h : slotsOk l = true) {k : Nat} {s : Int} (hk : l[k]? = some s) : 0 ≤ s ∧ s ≤ 524288:=((dec_true h).2 k (List.getElem?_eq_some_iff.1 hk).1 s hk).1
theorem made_b8 (l : List Int) : (madeCells (Value.bool false).cells (8 * 1)).toList = bools (seenTo l 0):=by kernel_rfl
def findFrom (key : Int) : List Int → Nat → Int
 | [],_ => -1
 | s::l,i => if s ≠ 0 ∧ keyZ s = key then (i : Int) else findFrom key l (i + 1)
def findZ (l : List Int) (key : Int) : Int:=findFrom key l 0
theorem drop_at {α : Type} {l : List α} {k : Nat} {s : α} (h : l[k]? = some s) : l.drop k = s::l.drop (k + 1):=by
 obtain ⟨h1,h2⟩:=List.getElem?_eq_some_iff.1 h
 rw [List.drop_eq_getElem_cons h1,h2]
theorem find_yes {l : List Int} {key : Int} {k : Nat} {s : Int} (hf : findFrom key (l.drop k) k = findZ l key) (h : l[k]? = some s) (h0 : s ≠ 0) (hk : keyZ s = key) : findZ l key = (k : Int):=by
 rw [← hf,drop_at h,findFrom,if_pos ⟨h0,hk⟩]
theorem find_next {l : List Int} {key : Int} {k : Nat} {s : Int} (hf : findFrom key (l.drop k) k = findZ l key) (h : l[k]? = some s) (h0 : ¬ (s ≠ 0 ∧ keyZ s = key)) : findFrom key (l.drop (k + 1)) (k + 1) = findZ l key:=by
 rw [← hf,drop_at h,findFrom,if_neg h0]
theorem find_end {l : List Int} {key : Int} {k : Nat} (hf : findFrom key (l.drop k) k = findZ l key) (h : l.length ≤ k) : findZ l key = -1:=by
 rw [← hf,List.drop_eq_nil_of_le h,findFrom]
theorem findFrom_is (key : Int) : ∀ (l : List Int) (i : Nat),findFrom key l i = -1 ∨ ∃ (j : Nat) (s : Int),findFrom key l i = ((i + j : Nat) : Int) ∧ l[j]? = some s ∧ s ≠ 0 ∧ keyZ s = key
 | [],_ => .inl rfl
 | s::l,i => by
  rw [findFrom]
  by_cases h : s ≠ 0 ∧ keyZ s = key
  ·rw [if_pos h];exact .inr ⟨0,s,rfl,rfl,h.1,h.2⟩
  ·rw [if_neg h]
   rcases findFrom_is key l (i + 1) with q|⟨j,u,q,q2,q3⟩
   ·exact .inl q
   ·exact .inr ⟨j + 1,u,by rw [q];congr 1;omega,q2,q3⟩
theorem find_is (l : List Int) (key : Int) : findZ l key = -1 ∨ ∃ (j : Nat) (s : Int),findZ l key = (j : Int) ∧ l[j]? = some s ∧ s ≠ 0 ∧ keyZ s = key:=by
 have h:=findFrom_is key l 0
 simpa [findZ] using h
def slotVal (l : List Int) (key : Int) : Int:=if findZ l key < 0 then 0 else (gi l (findZ l key) - 1) % 65536
def slotHas (l : List Int) (key : Int) : Bool:=decide (0 ≤ findZ l key)
def mapTo (l : List Int) : Nat → List Int
 | 0 => []
 | k + 1 => mapTo l k ++ [if slotHas l (k : Int) = true then slotVal l (k : Int) + 1 else 0]
noncomputable def mapOfF (l : List Int) : List Int:=if slotsOk l = true then mapTo l 8 else []

theorem l15Slot_any (s : Int) (h : 0 ≤ s ∧ s ≤ 524288) (w : World) :
  Calls Tryz.prog 170 #[.int .i64 s] w fun e w' => e = .returned (.tuple #[.int .i64 (keyOf s),.int .i64 (valOf s)]) ∧ w = w':=by
 obtain ⟨h1,h2⟩:=h
 by_cases h0 : s = 0
 ·have hk : keyOf s = -1:=if_pos h0
  have hv : valOf s = 0:=if_pos h0
  rw [hk,hv]
  clear hk hv
  subst h0
  go_enter Tryz.func170,Tryz.ntmps170
  go_wp2
  go_ret2
  exact ⟨rfl,rfl⟩
 have b0 : (s == 0) = false:=by simpa using h0
 have hk : (s - 1).tdiv 65536 = keyOf s:=by unfold keyOf keyZ;rw [if_neg h0,Int.tdiv_eq_ediv_of_nonneg (by omega)]
 have hv : (s - 1).tmod 65536 = valOf s:=by unfold valOf;rw [if_neg h0,Int.tmod_eq_emod_of_nonneg (by omega)]
 have HK:=hid hk
 have HV:=hid hv
 clear hk hv h0
 have hs : s - 1 ≤ 524287:=by omega
 have hs2 : -1 ≤ s - 1:=by omega
 go_enter Tryz.func170,Tryz.ntmps170
 go_wp2
 go_ret2
 try rw [HK.out,HV.out]
 exact ⟨rfl,rfl⟩
theorem keyIn_any (s : Int) (h : 1 ≤ s ∧ s ≤ 524288) (w : World) :
  Calls Tryz.prog 178 #[.int .i64 s] w fun e w' => e = .returned (.int .i64 (keyZ s)) ∧ w = w':=by
 obtain ⟨h1,h2⟩:=h
 have hk : (s - 1).tdiv 65536 = keyZ s:=by unfold keyZ;rw [Int.tdiv_eq_ediv_of_nonneg (by omega)]
 have HK:=hid hk
 clear hk
 go_enter Tryz.func178,Tryz.ntmps178
 go_wp2
 go_ret
 exact ⟨rfl,rfl⟩
theorem slotMax_any (w : World) :
  Calls Tryz.prog 176 #[.int .i64 7,.int .i64 65535] w fun e w' => e = .returned (.int .i64 524288) ∧ w = w':=by
 go_enter Tryz.func176,Tryz.ntmps176
 go_wp2
 go_ret
 exact ⟨rfl,rfl⟩
theorem l15Key_any (x : Int) (w : World) :
  Calls Tryz.prog 172 #[.int .i64 x] w fun e w' => e = .returned (.bool (decide (0 ≤ x ∧ x ≤ 7))) ∧ w = w':=by
 go_enter Tryz.func172,Tryz.ntmps172
 go_wp2_with (go_at_call 132;refine (l1In_any _ _ _ _).mono ?_;rintro e w' ⟨rfl,rfl⟩)
 go_ret
 simp
theorem spec_BucketOf (k : Nat) (h : k < 8) (w : World) :
  Calls Tryz.prog 171 #[.int .i64 (k : Int)] w fun e w' => e = .returned (.int .i64 (bktZ (k : Int))) ∧ w = w':=by
 have h1 : (k : Int) ≤ 7:=by omega
 have d7 : decide (0 ≤ (k : Int) ∧ (k : Int) ≤ 7) = true:=by simp;omega
 have hk : ((k : Int) * 7 + 3).tmod 4 = bktZ (k : Int):=by unfold bktZ;rw [Int.tmod_eq_emod_of_nonneg (by omega)]
 have HK:=hid hk
 clear hk
 go_enter Tryz.func171,Tryz.ntmps171
 go_wp2_with (go_at_call 172;refine (l15Key_any _ _).mono ?_;rintro e w' ⟨rfl,rfl⟩;rw [d7])
 go_ret
 exact ⟨by first|rfl|(rw [show bktZ (k : Int) = (7 * (k : Int) + 3) % 4 from by unfold bktZ;congr 1;omega];rfl),rfl⟩
theorem impl_BucketOf (k : Nat) (h : k < 8) (w : World) :
  Calls Tryz.prog 177 #[.int .i64 (k : Int)] w fun e w' => e = .returned (.int .i64 (bktZ (k : Int))) ∧ w = w':=by
 have h1 : (k : Int) ≤ 7:=by omega
 have d7 : decide (0 ≤ (k : Int) ∧ (k : Int) ≤ 7) = true:=by simp;omega
 have hk : (7 * (k : Int) + 3).tmod 4 = bktZ (k : Int):=by unfold bktZ;rw [Int.tmod_eq_emod_of_nonneg (by omega)];congr 1;omega
 have HK:=hid hk
 clear hk
 go_enter Tryz.func177,Tryz.ntmps177
 go_wp2_with (go_at_call 179;refine (isKey_any _ _).mono ?_;rintro e w' ⟨rfl,rfl⟩;rw [d7])
 go_ret
 exact ⟨by first|rfl|(rw [show bktZ (k : Int) = (7 * (k : Int) + 3) % 4 from by unfold bktZ;congr 1;omega];rfl),rfl⟩
theorem spec_SlotsOk (A : Option Addr) (n c : Nat) (l : List Int) (w : World) (S : Nat → Prop) (hs : Sl w S 1 A n (ints l)) (hn : n ≤ 1048576) :
  Calls Tryz.prog 116 #[.slice A n c] w fun e w' => e = .returned (.bool (slotsOk l)) ∧ Ext w w':=by
 have hl:=hs.len
 have HL:=hid hl
 have HS:=hid hs
 clear hs
 have M:=hid (Mine.refl w)
 by_cases h16 : n = 16
 rotate_left
 ·have HZ : Hid (slotsOk l = false):=dec_no fun z => h16 (by rw [← HL.out];exact z.1)
  have b16 : ((n : Int) != 16) = true:=by simp;omega
  clear h16 hl
  go_enter Tryz.func116,Tryz.ntmps116
  go_wp2
  go_ret
  exact ⟨by rw [HZ.out];rfl,M.out.ext⟩
 subst h16
 clear hl
 go_enter Tryz.func116,Tryz.ntmps116
 go_wp2_with (((with_reducible refine zN ?_);first|(refine Mine.wp_make M.out rfl _ _ 250 rfl 4 _ _ _ Tryz.underlying250 Tryz.infoBoolU 8 rfl rfl (by omega) (by unfold maxLen;omega) ?_;intro gs w' M';(try simp only [zr_,zm_] at M');replace M:=hid M';clear M';(try simp only [zr_,zm_]))))
 have M9 : Hid (Mine w w' [.row 4 1 (some ⟨gs,0,none⟩) 8 8 (bools (seenTo l 0))]):=by
  have h:=M.out
  rw [made_b8 l] at h
  exact h
 replace M:=M9
 clear M9
 go_loopw [4] (fun i wr => ∃ k : Nat,k ≤ 16 ∧ i = .int .i64 (k : Int) ∧ Hid (AllTo (slotIn l) l k) ∧ Hid (Mine w wr [.row 4 1 (some ⟨gs,0,none⟩) 8 8 (bools (seenTo l k))])) (fun i _ => 16 - (intOf i).toNat)
 case atStart => exact ⟨0,Nat.zero_le _,rfl,AllTo.zero _ _,M⟩
 case round =>
  clear M
  obtain ⟨k,hk,rfl,HU,M⟩:=hrel
  by_cases hlt : k < 16
  rotate_left
  ·have HZ : Hid (slotsOk l = true):=dec_yes ⟨HL.out,by rw [HL.out,show (16 : Nat) = k by omega];exact HU.out⟩
   go_wp2
   go_ret
   exact ⟨by rw [HZ.out];rfl,M.out.ext⟩
  have HLT : Hid (k < 16):=hlt
  obtain ⟨b,o,s,rfl,hb,hx,hc⟩:=HS.out.int_at hlt
  have HX:=hid hx
  have HC : Hid (w.cell? ⟨b,o + k,none⟩ = some (.int .i64 s) ∧ b < w.heap.size):=⟨hc,hb⟩
  clear hx hc hb
  by_cases hr : 0 ≤ s ∧ s ≤ 524288
  rotate_left
  ·have HZ : Hid (slotsOk l = false):=dec_no fun z => hr (z.2 k (by rw [HL.out];exact HLT.out) s HX.out).1
   have dr : decide (0 ≤ s ∧ s ≤ 524288) = false:=by simp;omega
   clear hr
   go_wp2_with (first|(go_at_call 132;(with_reducible refine (l1In_any _ _ _ _).mono ?_);rintro e w' ⟨rfl,rfl⟩)|((with_reducible refine zN ?_);first|(refine Mine.wp_argc M.out rfl 3 _ rfl _ _ HC.out rfl _ Tryz.underlying3 (by rfl) ?_;(try simp only [zr_,zm_]))))
   go_ret
   exact ⟨by rw [HZ.out];rfl,M.out.ext⟩
  have h0s : 0 ≤ s:=by omega
  have h0t:=hr.2
  have HR:=hid hr
  by_cases h0 : s = 0
  ·have HKE : Hid (keyOf s = -1):=if_pos h0
   have HN : Hid (seenTo l (k + 1) = seenTo l k):=seenTo_zero (by rw [HX.out,h0])
   have HV : Hid (slotIn l k s):=⟨hr,fun z => absurd h0 z⟩
   clear h0
   go_wp2_with (first|(first|(go_at_call 132;(with_reducible refine (l1In_any _ _ _ _).mono ?_);rintro e w' ⟨rfl,rfl⟩)|((with_reducible refine zN ?_);first|(refine Mine.wp_argc M.out rfl 3 _ rfl _ _ HC.out rfl _ Tryz.underlying3 (by rfl) ?_;(try simp only [zr_,zm_]))))|(go_at_call 170;refine (l15Slot_any s HR.out _).mono ?_;rintro e w' ⟨rfl,rfl⟩;rw [HKE.out]))
   go_roundw
   case rel => exact ⟨k + 1,HLT.out,by go_num,HU.out.succ HX.out HV.out,by rw [HN.out];exact M⟩
   case measure => simp [intOf];omega
  obtain ⟨kk,hkk,hk8⟩:=keyZ_in hr h0
  have HKZ:=hid hkk
  have hk81 : (kk : Int) < 8:=by omega
  have HN : Hid (seenTo l (k + 1) = (seenTo l k).set kk true):=by have h:=seenTo_next HX.out h0;rw [hkk,Int.toNat_natCast] at h;exact h
  have HKE : Hid (keyOf s = (kk : Int)):=by show _ = _;unfold keyOf;rw [if_neg h0,hkk]
  have HNZ:=hid h0
  obtain ⟨sb,hsb⟩ : ∃ b,(seenTo l k)[kk]? = some b:=⟨_,List.getElem?_eq_getElem (by rw [seenTo_len];exact hk8)⟩
  have HSB:=hid hsb
  have HSV:=hid (bools_at hsb)
  have h1s : 1 ≤ s:=by omega
  have h1t : s ≤ 524288:=hr.2
  clear hkk hsb h0 hr
  have ht : (k : Int) / 4 = ((k / 4 : Nat) : Int):=by omega
  have HT:=hid ht
  by_cases hb : bktZ (kk : Int) = ((k / 4 : Nat) : Int)
  rotate_left
  ·have bb : (bktZ (kk : Int) != (k : Int) / 4) = true:=by rw [ht];simpa using hb
   have HZ : Hid (slotsOk l = false):=dec_no fun z => hb (by have h:=((z.2 k (by rw [HL.out];exact HLT.out) s HX.out).2 HNZ.out).2;rw [HKZ.out] at h;exact h)
   clear ht hb
   cases sb
   ·go_wp2_with (first|(go_at_call 132;(with_reducible refine (l1In_any _ _ _ _).mono ?_);rintro e w' ⟨rfl,rfl⟩)|(go_at_call 170;refine (l15Slot_any s HR.out _).mono ?_;rintro e w' ⟨rfl,rfl⟩;rw [HKE.out])|(go_at_call 171;refine (spec_BucketOf kk hk8 _).mono ?_;rintro e w' ⟨rfl,rfl⟩)|((with_reducible refine zN ?_);first|((first|refine Mine.wp_argc M.out rfl 3 _ rfl _ _ HC.out rfl _ Tryz.underlying3 (by rfl) ?_|refine Mine.wp_getr M.out rfl _ _ rfl 0 _ rfl rfl _ (by exact HSV.out) _ (by first|exact Tryz.underlying4) (by rfl) ?_);(try simp only [zr_,zm_]))))
    go_ret
    exact ⟨by rw [HZ.out];rfl,M.out.ext⟩
   ·go_wp2_with (first|(go_at_call 132;(with_reducible refine (l1In_any _ _ _ _).mono ?_);rintro e w' ⟨rfl,rfl⟩)|(go_at_call 170;refine (l15Slot_any s HR.out _).mono ?_;rintro e w' ⟨rfl,rfl⟩;rw [HKE.out])|((with_reducible refine zN ?_);first|((first|refine Mine.wp_argc M.out rfl 3 _ rfl _ _ HC.out rfl _ Tryz.underlying3 (by rfl) ?_|refine Mine.wp_getr M.out rfl _ _ rfl 0 _ rfl rfl _ (by exact HSV.out) _ (by first|exact Tryz.underlying4) (by rfl) ?_);(try simp only [zr_,zm_]))))
    go_ret
    exact ⟨by rw [HZ.out];rfl,M.out.ext⟩
  have bb : (bktZ (kk : Int) != (k : Int) / 4) = false:=by rw [ht];simpa using hb
  have HBK:=hid hb
  clear hb ht
  cases sb
  rotate_left
  ·have HZ : Hid (slotsOk l = false):=dec_no fun z => by have h:=((z.2 k (by rw [HL.out];exact HLT.out) s HX.out).2 HNZ.out).1;rw [HKZ.out,Int.toNat_natCast,HSB.out] at h;cases h
   go_wp2_with (first|(go_at_call 132;(with_reducible refine (l1In_any _ _ _ _).mono ?_);rintro e w' ⟨rfl,rfl⟩)|(go_at_call 170;refine (l15Slot_any s HR.out _).mono ?_;rintro e w' ⟨rfl,rfl⟩;rw [HKE.out])|((with_reducible refine zN ?_);first|((first|refine Mine.wp_argc M.out rfl 3 _ rfl _ _ HC.out rfl _ Tryz.underlying3 (by rfl) ?_|refine Mine.wp_getr M.out rfl _ _ rfl 0 _ rfl rfl _ (by exact HSV.out) _ (by first|exact Tryz.underlying4) (by rfl) ?_);(try simp only [zr_,zm_]))))
   go_ret
   exact ⟨by rw [HZ.out];rfl,M.out.ext⟩
  have HV : Hid (slotIn l k s):=⟨⟨by omega,h1t⟩,fun _ => by rw [HKZ.out,Int.toNat_natCast];exact ⟨HSB.out,HBK.out⟩⟩
  go_wp2_with (first|(go_at_call 132;(with_reducible refine (l1In_any _ _ _ _).mono ?_);rintro e w' ⟨rfl,rfl⟩)|(go_at_call 170;refine (l15Slot_any s HR.out _).mono ?_;rintro e w' ⟨rfl,rfl⟩;rw [HKE.out])|(go_at_call 171;refine (spec_BucketOf kk hk8 _).mono ?_;rintro e w' ⟨rfl,rfl⟩)|((with_reducible refine zN ?_);first|((first|refine Mine.wp_argc M.out rfl 3 _ rfl _ _ HC.out rfl _ Tryz.underlying3 (by rfl) ?_|refine Mine.wp_getr M.out rfl _ _ rfl 0 _ rfl rfl _ (by exact HSV.out) _ (by first|exact Tryz.underlying4) (by rfl) ?_);(try simp only [zr_,zm_]))|(refine Mine.wp_put M.out rfl _ _ _ rfl rfl 0 _ rfl rfl _ (by (conv => lhs;whnf) <;> rfl) (by omega) (by rfl) (by kernel_rfl) ?_;intro w' M';(try simp only [zr_,zm_] at M');replace M:=hid M';clear M')))
  have M9:=M.out
  rw [bools_set,← HN.out] at M9
  have MF:=hid M9
  clear M9
  go_roundw
  case rel => exact ⟨k + 1,HLT.out,by go_num,HU.out.succ HX.out HV.out,MF⟩
  case measure => simp [intOf];omega
theorem impl_SlotsOk (A : Option Addr) (n c : Nat) (l : List Int) (w : World) (S : Nat → Prop) (hs : Sl w S 1 A n (ints l)) (hn : n ≤ 1048576) :
  Calls Tryz.prog 121 #[.slice A n c] w fun e w' => e = .returned (.bool (slotsOk l)) ∧ Ext w w':=by
 have hl:=hs.len
 have HL:=hid hl
 have HS:=hid hs
 clear hs
 have M:=hid (Mine.refl w)
 by_cases h16 : n = 16
 rotate_left
 ·have HZ : Hid (slotsOk l = false):=dec_no fun z => h16 (by rw [← HL.out];exact z.1)
  have b16 : ((n : Int) != 16) = true:=by simp;omega
  clear h16 hl
  go_enter Tryz.func121,Tryz.ntmps121
  go_wp2
  go_ret
  exact ⟨by rw [HZ.out];rfl,M.out.ext⟩
 subst h16
 clear hl
 go_enter Tryz.func121,Tryz.ntmps121
 go_wp2_with (((with_reducible refine zN ?_);first|(refine Mine.wp_alloc M.out rfl 255 rfl (.agg #[.bool false,.bool false,.bool false,.bool false,.bool false,.bool false,.bool false,.bool false]) (by kernel_rfl) ?_;intro gs w' M';(try simp only [Value.cells,zr_,zm_] at M');replace M:=hid M';clear M';(try simp only [zr_,zm_]))))
 go_loopw [11] (fun i wr => ∃ k : Nat,k ≤ 16 ∧ i = .int .i64 (k : Int) ∧ Hid (AllTo (slotIn l) l k) ∧ Hid (Mine w wr [.box gs 255 (bools (seenTo l k)).toArray])) (fun i _ => 16 - (intOf i).toNat)
 case atStart => exact ⟨0,Nat.zero_le _,rfl,AllTo.zero _ _,M⟩
 case round =>
  clear M
  obtain ⟨k,hk,rfl,HU,M⟩:=hrel
  by_cases hlt : k < 16
  rotate_left
  ·have HZ : Hid (slotsOk l = true):=dec_yes ⟨HL.out,by rw [HL.out,show (16 : Nat) = k by omega];exact HU.out⟩
   go_wp2
   go_ret
   exact ⟨by rw [HZ.out];rfl,M.out.ext⟩
  have HLT : Hid (k < 16):=hlt
  obtain ⟨b,o,s,rfl,hb,hx,hc⟩:=HS.out.int_at hlt
  have HX:=hid hx
  have HC : Hid (w.cell? ⟨b,o + k,none⟩ = some (.int .i64 s) ∧ b < w.heap.size):=⟨hc,hb⟩
  clear hx hc hb
  by_cases h0 : s = 0
  ·subst h0
   have HN : Hid (seenTo l (k + 1) = seenTo l k):=seenTo_zero HX.out
   go_wp2_with (((with_reducible refine zN ?_);first|(refine Mine.wp_argc M.out rfl 3 _ rfl _ _ HC.out rfl _ Tryz.underlying3 (by rfl) ?_;(try simp only [zr_,zm_]))))
   go_roundw
   case rel => exact ⟨k + 1,HLT.out,by go_num,HU.out.succ HX.out ⟨⟨by omega,by omega⟩,fun z => absurd rfl z⟩,by rw [HN.out];exact M⟩
   case measure => simp [intOf];omega
  have b0 : (s == 0) = false:=by simpa using h0
  by_cases hr : 0 ≤ s ∧ s ≤ 524288
  rotate_left
  ·have HZ : Hid (slotsOk l = false):=dec_no fun z => hr (z.2 k (by rw [HL.out];exact HLT.out) s HX.out).1
   have dr : decide (1 ≤ s ∧ s ≤ 524288) = false:=by simp;omega
   clear hr
   go_wp2_with (first|(go_at_call 175;(with_reducible refine (within_any _ _ _ _).mono ?_);rintro e w' ⟨rfl,rfl⟩)|(go_at_call 176;(with_reducible refine (slotMax_any _).mono ?_);rintro e w' ⟨rfl,rfl⟩)|((with_reducible refine zN ?_);first|(refine Mine.wp_argc M.out rfl 3 _ rfl _ _ HC.out rfl _ Tryz.underlying3 (by rfl) ?_;(try simp only [zr_,zm_]))))
   go_ret
   exact ⟨by rw [HZ.out];rfl,M.out.ext⟩
  have h0s : 1 ≤ s:=by omega
  have h0t:=hr.2
  have HR:=hid hr
  obtain ⟨kk,hkk,hk8⟩:=keyZ_in hr h0
  have HKZ:=hid hkk
  have hk81 : (kk : Int) < 8:=by omega
  have HN : Hid (seenTo l (k + 1) = (seenTo l k).set kk true):=by have h:=seenTo_next HX.out h0;rw [hkk,Int.toNat_natCast] at h;exact h
  have HKE : Hid (keyOf s = (kk : Int)):=by show _ = _;unfold keyOf;rw [if_neg h0,hkk]
  have HNZ:=hid h0
  obtain ⟨sb,hsb⟩ : ∃ b,(seenTo l k)[kk]? = some b:=⟨_,List.getElem?_eq_getElem (by rw [seenTo_len];exact hk8)⟩
  have HSB:=hid hsb
  have HSV:=hid (bools_at hsb)
  have h1s : 1 ≤ s:=by omega
  have h1t : s ≤ 524288:=hr.2
  clear hkk hsb h0 hr
  have ht : (k : Int) / 4 = ((k / 4 : Nat) : Int):=by omega
  have HT:=hid ht
  by_cases hb : bktZ (kk : Int) = ((k / 4 : Nat) : Int)
  rotate_left
  ·have bb : (bktZ (kk : Int) != (k : Int) / 4) = true:=by rw [ht];simpa using hb
   have HZ : Hid (slotsOk l = false):=dec_no fun z => hb (by have h:=((z.2 k (by rw [HL.out];exact HLT.out) s HX.out).2 HNZ.out).2;rw [HKZ.out] at h;exact h)
   clear ht hb
   cases sb
   ·go_wp2_with (first|(go_at_call 175;(with_reducible refine (within_any _ _ _ _).mono ?_);rintro e w' ⟨rfl,rfl⟩)|(go_at_call 176;(with_reducible refine (slotMax_any _).mono ?_);rintro e w' ⟨rfl,rfl⟩)|(go_at_call 178;refine (keyIn_any s ⟨h1s,h1t⟩ _).mono ?_;rintro e w' ⟨rfl,rfl⟩;rw [HKZ.out])|(go_at_call 177;refine (impl_BucketOf kk hk8 _).mono ?_;rintro e w' ⟨rfl,rfl⟩)|((with_reducible refine zN ?_);first|(refine Mine.wp_argc M.out rfl 3 _ rfl _ _ HC.out rfl _ Tryz.underlying3 (by rfl) ?_;(try simp only [zr_,zm_]))))
    go_ret
    exact ⟨by rw [HZ.out];rfl,M.out.ext⟩
   ·go_wp2_with (first|(go_at_call 175;(with_reducible refine (within_any _ _ _ _).mono ?_);rintro e w' ⟨rfl,rfl⟩)|(go_at_call 176;(with_reducible refine (slotMax_any _).mono ?_);rintro e w' ⟨rfl,rfl⟩)|(go_at_call 178;refine (keyIn_any s ⟨h1s,h1t⟩ _).mono ?_;rintro e w' ⟨rfl,rfl⟩;rw [HKZ.out])|(go_at_call 177;refine (impl_BucketOf kk hk8 _).mono ?_;rintro e w' ⟨rfl,rfl⟩)|((with_reducible refine zN ?_);first|(refine Mine.wp_argc M.out rfl 3 _ rfl _ _ HC.out rfl _ Tryz.underlying3 (by rfl) ?_;(try simp only [zr_,zm_]))))
    go_ret
    exact ⟨by rw [HZ.out];rfl,M.out.ext⟩
  have bb : (bktZ (kk : Int) != (k : Int) / 4) = false:=by rw [ht];simpa using hb
  have HBK:=hid hb
  clear hb ht
  cases sb
  rotate_left
  ·have HZ : Hid (slotsOk l = false):=dec_no fun z => by have h:=((z.2 k (by rw [HL.out];exact HLT.out) s HX.out).2 HNZ.out).1;rw [HKZ.out,Int.toNat_natCast,HSB.out] at h;cases h
   go_wp2_with (first|(go_at_call 175;(with_reducible refine (within_any _ _ _ _).mono ?_);rintro e w' ⟨rfl,rfl⟩)|(go_at_call 176;(with_reducible refine (slotMax_any _).mono ?_);rintro e w' ⟨rfl,rfl⟩)|(go_at_call 178;refine (keyIn_any s ⟨h1s,h1t⟩ _).mono ?_;rintro e w' ⟨rfl,rfl⟩;rw [HKZ.out])|(go_at_call 177;refine (impl_BucketOf kk hk8 _).mono ?_;rintro e w' ⟨rfl,rfl⟩)|((with_reducible refine zN ?_);first|(refine Mine.wp_argc M.out rfl 3 _ rfl _ _ HC.out rfl _ Tryz.underlying3 (by rfl) ?_;(try simp only [zr_,zm_])))|((with_reducible show wpList _ _ _ (⟨_,.load _ _,_,_,_,some _⟩::_) _ _);first|(refine Mine.wp_getg M.out (by rfl) _ _ rfl 0 _ rfl rfl _ (by rw [List.getElem?_toArray];exact HSV.out) _ (by exact Tryz.underlying4) (by rfl) ?_;(try simp only [zr_,zm_]))))
   go_ret
   exact ⟨by rw [HZ.out];rfl,M.out.ext⟩
  have HV : Hid (slotIn l k s):=⟨⟨by omega,h1t⟩,fun _ => by rw [HKZ.out,Int.toNat_natCast];exact ⟨HSB.out,HBK.out⟩⟩
  go_wp2_with (first|(go_at_call 175;(with_reducible refine (within_any _ _ _ _).mono ?_);rintro e w' ⟨rfl,rfl⟩)|(go_at_call 176;(with_reducible refine (slotMax_any _).mono ?_);rintro e w' ⟨rfl,rfl⟩)|(go_at_call 178;refine (keyIn_any s ⟨h1s,h1t⟩ _).mono ?_;rintro e w' ⟨rfl,rfl⟩;rw [HKZ.out])|(go_at_call 177;refine (impl_BucketOf kk hk8 _).mono ?_;rintro e w' ⟨rfl,rfl⟩)|((with_reducible refine zN ?_);first|(refine Mine.wp_argc M.out rfl 3 _ rfl _ _ HC.out rfl _ Tryz.underlying3 (by rfl) ?_;(try simp only [zr_,zm_]))|(refine Mine.wp_set M.out rfl _ _ _ rfl rfl 0 _ rfl rfl _ (by (conv => lhs;whnf) <;> rfl) (by rw [List.size_toArray,bools_length,seenTo_len];exact hk8) (by rfl) (by kernel_rfl) ?_;intro w' M';(try simp only [zr_,zm_] at M');replace M:=hid M';clear M'))|((with_reducible show wpList _ _ _ (⟨_,.load _ _,_,_,_,some _⟩::_) _ _);first|(refine Mine.wp_getg M.out (by rfl) _ _ rfl 0 _ rfl rfl _ (by rw [List.getElem?_toArray];exact HSV.out) _ (by exact Tryz.underlying4) (by rfl) ?_;(try simp only [zr_,zm_]))))
  have M9:=M.out
  rw [bools_set,← HN.out] at M9
  have MF:=hid M9
  clear M9
  go_roundw
  case rel => exact ⟨k + 1,HLT.out,by go_num,HU.out.succ HX.out HV.out,MF⟩
  case measure => simp [intOf];omega
theorem spec_find (A : Option Addr) (n c : Nat) (l : List Int) (key : Nat) (hk : key < 8) (w : World) (S : Nat → Prop) (hs : Sl w S 1 A n (ints l)) (hok : slotsOk l = true) :
  Calls Tryz.prog 173 #[.slice A n c,.int .i64 (key : Int)] w fun e w' => e = .returned (.int .i64 (findZ l (key : Int))) ∧ Ext w w':=by
 have hl:=hs.len
 have h16 : n = 16:=by rw [← hl];exact slots_16 hok
 subst h16
 have HL:=hid hl
 have HOK:=hid hok
 have HS:=hid hs
 clear hs hl hok
 have M:=hid (Mine.refl w)
 go_enter Tryz.func173,Tryz.ntmps173
 go_wp2
 go_loopw [5] (fun i wr => ∃ k : Nat,k ≤ 16 ∧ i = .int .i64 (k : Int) ∧ Hid (findFrom (key : Int) (l.drop k) k = findZ l (key : Int)) ∧ Hid (Mine w wr [])) (fun i _ => 16 - (intOf i).toNat)
 case atStart => exact ⟨0,Nat.zero_le _,rfl,rfl,M⟩
 case round =>
  clear M
  obtain ⟨k,hk,rfl,HU,M⟩:=hrel
  by_cases hlt : k < 16
  rotate_left
  ·have HZ : Hid (findZ l (key : Int) = -1):=find_end HU.out (by rw [HL.out];omega)
   go_wp2
   go_ret
   exact ⟨by rw [HZ.out];rfl,M.out.ext⟩
  have HLT : Hid (k < 16):=hlt
  obtain ⟨b,o,s,rfl,hb,hx,hc⟩:=HS.out.int_at hlt
  have hr:=slots_at HOK.out hx
  have HX:=hid hx
  have HC : Hid (w.cell? ⟨b,o + k,none⟩ = some (.int .i64 s) ∧ b < w.heap.size):=⟨hc,hb⟩
  have HR:=hid hr
  clear hx hc hb
  by_cases hz : s ≠ 0 ∧ keyZ s = (key : Int)
  ·have HZ : Hid (findZ l (key : Int) = (k : Int)):=find_yes HU.out HX.out hz.1 hz.2
   have b1 : (keyOf s == (key : Int)) = true:=by unfold keyOf;rw [if_neg hz.1];simpa using hz.2
   have b2 : (0 : Int) ≤ (key : Int):=by omega
   clear hz hr
   go_wp2_with (first|(first|((with_reducible refine zN ?_);first|(refine Mine.wp_argc M.out rfl 3 _ rfl _ _ HC.out rfl _ Tryz.underlying3 (by rfl) ?_;(try simp only [zr_,zm_]))))|(go_at_call 170;refine (l15Slot_any s HR.out _).mono ?_;rintro e w' ⟨rfl,rfl⟩))
   go_ret
   exact ⟨by rw [HZ.out];rfl,M.out.ext⟩
  have HN : Hid (findFrom (key : Int) (l.drop (k + 1)) (k + 1) = findZ l (key : Int)):=find_next HU.out HX.out hz
  have b1 : (keyOf s == (key : Int)) = false:=by
   unfold keyOf
   by_cases h0 : s = 0
   ·rw [if_pos h0];have : (-1 : Int) ≠ (key : Int):=by omega
    simpa using this
   ·rw [if_neg h0];simpa using fun q => hz ⟨h0,q⟩
  clear hz hr
  go_wp2_with (first|(first|((with_reducible refine zN ?_);first|(refine Mine.wp_argc M.out rfl 3 _ rfl _ _ HC.out rfl _ Tryz.underlying3 (by rfl) ?_;(try simp only [zr_,zm_]))))|(go_at_call 170;refine (l15Slot_any s HR.out _).mono ?_;rintro e w' ⟨rfl,rfl⟩))
  go_roundw
  case rel => exact ⟨k + 1,HLT.out,by go_num,HN.out,M⟩
  case measure => simp [intOf];omega
theorem spec_SlotGet (A : Option Addr) (n c : Nat) (l : List Int) (key : Nat) (hk : key < 8) (w : World) (S : Nat → Prop) (hs : Sl w S 1 A n (ints l)) (hok : slotsOk l = true) :
  Calls Tryz.prog 117 #[.slice A n c,.int .i64 (key : Int)] w fun e w' => e = .returned (.tuple #[.int .i64 (slotVal l (key : Int)),.bool (slotHas l (key : Int))]) ∧ Ext w w':=by
 have h16 : n = 16:=by rw [← hs.len];exact slots_16 hok
 subst h16
 have HS:=hid hs
 have HOK:=hid hok
 have hok2:=hok
 clear hs hok
 have M:=hid (Mine.refl w)
 have d7 : decide (0 ≤ (key : Int) ∧ (key : Int) ≤ 7) = true:=by simp;omega
 rcases find_is l (key : Int) with hf|⟨j,s,hf,hj,h0,-⟩
 ·have HV : Hid (slotVal l (key : Int) = 0):=by show _ = _;unfold slotVal;rw [hf];rfl
  have HB : Hid (slotHas l (key : Int) = false):=by show _ = _;unfold slotHas;rw [hf];rfl
  have HF:=hid hf
  clear hf hok2
  go_enter Tryz.func117,Tryz.ntmps117
  go_wp2_with (first|(go_at_call 116;refine zC M (spec_SlotsOk _ 16 c l _ S (HS.out.ext M.out.ext) (by omega)) ?_;clear M;intro w' M;rw [HOK.out])|(go_at_call 172;(with_reducible refine (l15Key_any _ _).mono ?_);rintro e w' ⟨rfl,rfl⟩;rw [d7])|(go_at_call 173;refine zC M (spec_find _ 16 c l key hk _ S (HS.out.ext M.out.ext) HOK.out) ?_;clear M;intro w' M;rw [HF.out]))
  go_ret2
  exact ⟨by rw [HV.out,HB.out];rfl,M.out.ext⟩
 have hr:=slots_at hok2 hj
 have hj16 : j < 16:=by have:=(List.getElem?_eq_some_iff.1 hj).1;rw [slots_16 hok2] at this;exact this
 have hg : gi l (j : Int) = s:=by unfold gi;simp [hj]
 have hv : slotVal l (key : Int) = (s - 1) % 65536:=by unfold slotVal;rw [hf,if_neg (by omega),hg]
 have HB : Hid (slotHas l (key : Int) = true):=by show _ = _;unfold slotHas;rw [hf];simp
 obtain ⟨b,o,s2,rfl,hb,hx,hc⟩:=HS.out.int_at hj16
 rw [hj] at hx
 injection hx with hx
 subst hx
 have HC : Hid (w.cell? ⟨b,o + j,none⟩ = some (.int .i64 s) ∧ b < w.heap.size):=⟨hc,hb⟩
 have HF:=hid hf
 have HR:=hid hr
 have HV : Hid (valOf s = slotVal l (key : Int)):=by show _ = _;rw [hv];unfold valOf;rw [if_neg h0]
 clear hv hg hf hj hr h0 hc hb hok2
 go_enter Tryz.func117,Tryz.ntmps117
 go_wp2_with (first|(go_at_call 116;refine zC M (spec_SlotsOk _ 16 c l _ S (HS.out.ext M.out.ext) (by omega)) ?_;clear M;intro w' M;rw [HOK.out])|(go_at_call 172;(with_reducible refine (l15Key_any _ _).mono ?_);rintro e w' ⟨rfl,rfl⟩;rw [d7])|(go_at_call 173;refine zC M (spec_find _ 16 c l key hk _ S (HS.out.ext M.out.ext) HOK.out) ?_;clear M;intro w' M;rw [HF.out])|(go_at_call 170;refine (l15Slot_any s HR.out _).mono ?_;rintro e w' ⟨rfl,rfl⟩)|(first|((with_reducible refine zN ?_);first|(refine Mine.wp_argc M.out rfl 3 _ rfl _ _ HC.out rfl _ Tryz.underlying3 (by rfl) ?_;(try simp only [zr_,zm_])))))
 go_ret2
 exact ⟨by rw [HV.out,HB.out];rfl,M.out.ext⟩
theorem impl_find (A : Option Addr) (n c : Nat) (l : List Int) (key : Nat) (hk : key < 8) (w : World) (S : Nat → Prop) (hs : Sl w S 1 A n (ints l)) (hok : slotsOk l = true) :
  Calls Tryz.prog 180 #[.slice A n c,.int .i64 (key : Int)] w fun e w' => e = .returned (.int .i64 (findZ l (key : Int))) ∧ Ext w w':=by
 have hl:=hs.len
 have h16 : n = 16:=by rw [← hl];exact slots_16 hok
 subst h16
 have HL:=hid hl
 have HOK:=hid hok
 have HS:=hid hs
 clear hs hl hok
 have M:=hid (Mine.refl w)
 go_enter Tryz.func180,Tryz.ntmps180
 go_wp2
 go_loopw [9] (fun i wr => ∃ k : Nat,k ≤ 16 ∧ i = .int .i64 (k : Int) ∧ Hid (findFrom (key : Int) (l.drop k) k = findZ l (key : Int)) ∧ Hid (Mine w wr [])) (fun i _ => 16 - (intOf i).toNat)
 case atStart => exact ⟨0,Nat.zero_le _,rfl,rfl,M⟩
 case round =>
  clear M
  obtain ⟨k,hk,rfl,HU,M⟩:=hrel
  by_cases hlt : k < 16
  rotate_left
  ·have HZ : Hid (findZ l (key : Int) = -1):=find_end HU.out (by rw [HL.out];omega)
   go_wp2
   go_ret
   exact ⟨by rw [HZ.out];rfl,M.out.ext⟩
  have HLT : Hid (k < 16):=hlt
  obtain ⟨b,o,s,rfl,hb,hx,hc⟩:=HS.out.int_at hlt
  have hr:=slots_at HOK.out hx
  have HX:=hid hx
  have HC : Hid (w.cell? ⟨b,o + k,none⟩ = some (.int .i64 s) ∧ b < w.heap.size):=⟨hc,hb⟩
  have HR:=hid hr
  clear hx hc hb
  by_cases h0 : s = 0
  ·have HN : Hid (findFrom (key : Int) (l.drop (k + 1)) (k + 1) = findZ l (key : Int)):=find_next HU.out HX.out (fun q => q.1 h0)
   have b0 : ¬ (0 : Int) < s:=by omega
   clear h0 hr
   go_wp2_with (((with_reducible refine zN ?_);first|(refine Mine.wp_argc M.out rfl 3 _ rfl _ _ HC.out rfl _ Tryz.underlying3 (by rfl) ?_;(try simp only [zr_,zm_]))))
   go_roundw
   case rel => exact ⟨k + 1,HLT.out,by go_num,HN.out,M⟩
   case measure => simp [intOf];omega
  have b0 : (0 : Int) < s:=by omega
  have h1s : 1 ≤ s:=by omega
  have h1t : s ≤ 524288:=hr.2
  by_cases hz : keyZ s = (key : Int)
  ·have HZ : Hid (findZ l (key : Int) = (k : Int)):=find_yes HU.out HX.out h0 hz
   have b1 : (keyZ s == (key : Int)) = true:=by simpa using hz
   clear hz hr h0
   go_wp2_with (first|(first|((with_reducible refine zN ?_);first|(refine Mine.wp_argc M.out rfl 3 _ rfl _ _ HC.out rfl _ Tryz.underlying3 (by rfl) ?_;(try simp only [zr_,zm_]))))|(go_at_call 178;refine (keyIn_any s ⟨h1s,h1t⟩ _).mono ?_;rintro e w' ⟨rfl,rfl⟩))
   go_ret
   exact ⟨by rw [HZ.out];rfl,M.out.ext⟩
  have HN : Hid (findFrom (key : Int) (l.drop (k + 1)) (k + 1) = findZ l (key : Int)):=find_next HU.out HX.out (fun q => hz q.2)
  have b1 : (keyZ s == (key : Int)) = false:=by simpa using hz
  clear hz hr h0
  go_wp2_with (first|(first|((with_reducible refine zN ?_);first|(refine Mine.wp_argc M.out rfl 3 _ rfl _ _ HC.out rfl _ Tryz.underlying3 (by rfl) ?_;(try simp only [zr_,zm_]))))|(go_at_call 178;refine (keyIn_any s ⟨h1s,h1t⟩ _).mono ?_;rintro e w' ⟨rfl,rfl⟩))
  go_roundw
  case rel => exact ⟨k + 1,HLT.out,by go_num,HN.out,M⟩
  case measure => simp [intOf];omega
theorem impl_SlotGet (A : Option Addr) (n c : Nat) (l : List Int) (key : Nat) (hk : key < 8) (w : World) (S : Nat → Prop) (hs : Sl w S 1 A n (ints l)) (hok : slotsOk l = true) :
  Calls Tryz.prog 122 #[.slice A n c,.int .i64 (key : Int)] w fun e w' => e = .returned (.tuple #[.int .i64 (slotVal l (key : Int)),.bool (slotHas l (key : Int))]) ∧ Ext w w':=by
 have h16 : n = 16:=by rw [← hs.len];exact slots_16 hok
 subst h16
 have HS:=hid hs
 have HOK:=hid hok
 have hok2:=hok
 clear hs hok
 have M:=hid (Mine.refl w)
 have d7 : decide (0 ≤ (key : Int) ∧ (key : Int) ≤ 7) = true:=by simp;omega
 rcases find_is l (key : Int) with hf|⟨j,s,hf,hj,h0,-⟩
 ·have HV : Hid (slotVal l (key : Int) = 0):=by show _ = _;unfold slotVal;rw [hf];rfl
  have HB : Hid (slotHas l (key : Int) = false):=by show _ = _;unfold slotHas;rw [hf];rfl
  have HF:=hid hf
  clear hf hok2
  go_enter Tryz.func122,Tryz.ntmps122
  go_wp2_with (first|(go_at_call 121;refine zC M (impl_SlotsOk _ 16 c l _ S (HS.out.ext M.out.ext) (by omega)) ?_;clear M;intro w' M;rw [HOK.out])|(go_at_call 179;(with_reducible refine (isKey_any _ _).mono ?_);rintro e w' ⟨rfl,rfl⟩;rw [d7])|(go_at_call 180;refine zC M (impl_find _ 16 c l key hk _ S (HS.out.ext M.out.ext) HOK.out) ?_;clear M;intro w' M;rw [HF.out]))
  go_ret2
  exact ⟨by rw [HV.out,HB.out];rfl,M.out.ext⟩
 have hr:=slots_at hok2 hj
 have hj16 : j < 16:=by have:=(List.getElem?_eq_some_iff.1 hj).1;rw [slots_16 hok2] at this;exact this
 have hg : gi l (j : Int) = s:=by unfold gi;simp [hj]
 have hv : slotVal l (key : Int) = (s - 1) % 65536:=by unfold slotVal;rw [hf,if_neg (by omega),hg]
 have HB : Hid (slotHas l (key : Int) = true):=by show _ = _;unfold slotHas;rw [hf];simp
 obtain ⟨b,o,s2,rfl,hb,hx,hc⟩:=HS.out.int_at hj16
 rw [hj] at hx
 injection hx with hx
 subst hx
 have HC : Hid (w.cell? ⟨b,o + j,none⟩ = some (.int .i64 s) ∧ b < w.heap.size):=⟨hc,hb⟩
 have HF:=hid hf
 have HR:=hid hr
 have HV : Hid ((s - 1) % 65536 = slotVal l (key : Int)):=by show _ = _;rw [hv]
 have h1s : s - 1 ≤ 524287:=by omega
 have h1t : 0 ≤ s - 1:=by omega
 clear hv hg hf hj hr h0 hc hb hok2
 go_enter Tryz.func122,Tryz.ntmps122
 go_wp2_with (first|(go_at_call 121;refine zC M (impl_SlotsOk _ 16 c l _ S (HS.out.ext M.out.ext) (by omega)) ?_;clear M;intro w' M;rw [HOK.out])|(go_at_call 179;(with_reducible refine (isKey_any _ _).mono ?_);rintro e w' ⟨rfl,rfl⟩;rw [d7])|(go_at_call 180;refine zC M (impl_find _ 16 c l key hk _ S (HS.out.ext M.out.ext) HOK.out) ?_;clear M;intro w' M;rw [HF.out])|(first|((with_reducible refine zN ?_);first|(refine Mine.wp_argc M.out rfl 3 _ rfl _ _ HC.out rfl _ Tryz.underlying3 (by rfl) ?_;(try simp only [zr_,zm_])))))
 go_ret2
 exact ⟨by rw [HV.out,HB.out];rfl,M.out.ext⟩

theorem slotVal_in (l : List Int) (key : Int) : 0 ≤ slotVal l key ∧ slotVal l key < 65536:=by unfold slotVal;split <;> omega
theorem slotVal_no {l : List Int} {key : Int} (h : slotHas l key = false) : slotVal l key = 0:=by
 unfold slotHas at h
 have h1 : ¬ (0 ≤ findZ l key):=by simpa using h
 unfold slotVal
 rw [if_pos (by omega)]
theorem mapTo_yes {l : List Int} {k : Nat} (h : slotHas l (k : Int) = true) : mapTo l (k + 1) = mapTo l k ++ [slotVal l (k : Int) + 1]:=by rw [mapTo,if_pos h]
theorem mapTo_no {l : List Int} {k : Nat} (h : slotHas l (k : Int) = false) : mapTo l (k + 1) = mapTo l k ++ [0]:=by rw [mapTo,if_neg (by rw [h];simp)]


end Go.Proofs.YtoegjiigaoanbaaGreat
namespace Go.Proofs.YtoegjiigaoanbaaGreat
open Go.RowKit Go.Deep
set_option linter.unnecessarySimpa false
set_option maxHeartbeats 400000000
open Go.Lib (hid)
set_option linter.unusedSimpArgs false
set_option linter.unusedVariables false
set_option linter.unnecessarySimpa false
set_option maxHeartbeats 400000000

theorem own_emptyU (w : World) : (w.alloc (.cells #[] 3)).ownsRow w.heap.size 3 1 (.slice (some ⟨w.heap.size,0,none⟩) 0 0) 0 (ints []):=World.ownsRow_lit w #[] 0 (Nat.le_refl _) (Nat.zero_le _) (by simp [ints])
section
variable {P : Program} {ops : Array Oper} {rest : List Oper} {o : Oper} {a : Act} {Q : Exit → Act → World → Prop} {b w : World} {rs : List Res}
theorem Mine.wp_mkI {ops : Array Oper} {rest : List Oper} {o : Oper} {a : Act} {Q : Exit → Act → World → Prop} {b w : World} {rs : List Res} (M : Mine b w rs) (hgd : o.guard = none) (ho : o.op = .buildSlice 22 0 #[])
  (h : ∀ gv w',Mine b w' (.row 3 1 (some ⟨gv,0,none⟩) 0 0 (ints [])::rs) → wpList Tryz.prog ops Q rest (a.put o.dst (.slice (some ⟨gv,0,none⟩) 0 0)) w') : wpList Tryz.prog ops Q (o::rest) a w :=
 wpList_plain hgd fun _ hK => by
  have h1:=hK _ _ (h _ _ (M.own (own_emptyU w) ((Ext.refl' w).al _)))
  unfold Oper.wp execOp
  simp only [ho]
  go_simp
  exact h1
end

theorem spec_MapOf (A : Option Addr) (n c : Nat) (l : List Int) (w : World) (S : Nat → Prop) (hs : Sl w S 1 A n (ints l)) (hn : n ≤ 1048576) :
  Calls Tryz.prog 67 #[.slice A n c] w fun e w' => ∃ B m d,e = .returned (.slice B m d) ∧ Mine w w' [.row 3 1 B m d (ints (mapOfF l))]:=by
 have HS:=hid hs
 clear hs
 have M:=hid (Mine.refl w)
 cases hok : slotsOk l
 ·skip
  have HOK:=hid hok
  have HZ : Hid (mapOfF l = []):=by show _ = _;unfold mapOfF;rw [hok];rfl
  clear hok
  go_enter Tryz.func67,Tryz.ntmps67
  go_wp2_with (first|(go_at_call 116;refine zC M (spec_SlotsOk A n c l _ S (HS.out.ext M.out.ext) hn) ?_;clear M;intro w' M;rw [HOK.out])|(refine Mine.wp_mkI M.out rfl rfl ?_;intro gv w' M';replace M:=hid M';clear M';(try simp only [zr_,zm_])))
  go_ret
  refine ⟨_,_,_,rfl,?_⟩
  rw [HZ.out]
  exact M.out
 have HOK:=hid hok
 have HZ : Hid (mapOfF l = mapTo l 8):=by show _ = _;unfold mapOfF;rw [hok];rfl
 clear hok
 go_enter Tryz.func67,Tryz.ntmps67
 go_wp2_with (first|(go_at_call 116;refine zC M (spec_SlotsOk A n c l _ S (HS.out.ext M.out.ext) hn) ?_;clear M;intro w' M;rw [HOK.out])|(refine Mine.wp_mkI M.out rfl rfl ?_;intro gv w' M';replace M:=hid M';clear M';(try simp only [zr_,zm_])))
 go_loopw [3,4] (fun u i wr => ∃ (k f : Nat) (B2 : Option Addr),k ≤ 8 ∧ u = .slice B2 k f ∧ i = .int .i64 (k : Int) ∧ Hid (Mine w wr [.row 3 1 B2 k f (ints (mapTo l k))])) (fun _ i _ => 8 - (intOf i).toNat)
 case atStart => exact ⟨0,_,_,Nat.zero_le _,rfl,rfl,M⟩
 case round =>
  clear M
  obtain ⟨k,f,B2,hk,rfl,rfl,M⟩:=hrel
  by_cases hlt : (k : Int) < 8
  rotate_left
  ·have e : k = 8:=by omega
   subst e
   clear hk hlt
   go_wp2
   go_ret
   refine ⟨_,_,_,rfl,?_⟩
   rw [HZ.out]
   exact M.out
  have HLT : Hid (k < 8):=by show _ < _;omega
  have hsv:=slotVal_in l (k : Int)
  have hv1 : slotVal l (k : Int) < 65536:=hsv.2
  have hv0 : 0 ≤ slotVal l (k : Int):=hsv.1
  clear hsv
  cases hh : slotHas l (k : Int)
  ·skip
   have h0:=slotVal_no hh
   have HN : Hid (mapTo l (k + 1) = mapTo l k ++ [0]):=mapTo_no hh
   go_wp2_with (first|(go_at_call 117;refine zC M (spec_SlotGet A n c l k HLT.out _ S (HS.out.ext M.out.ext) HOK.out) ?_;clear M;intro w' M;rw [hh,h0])|(first|(at_builtin;refine Mine.wp_push M.out rfl _ _ 22 rfl 3 _ _ _ Tryz.underlying22 Tryz.infoInt rfl (by omega) 0 rfl rfl _ _ rfl rfl rfl (by simp [Value.oneCell']) (by omega) (by unfold maxLen;omega) ?_;intro A2 c2 w' M';(try simp only [zr_,zm_] at M');replace M:=hid M';clear M')))
   go_roundw
   case rel => exact ⟨k + 1,_,_,HLT.out,rfl,by go_num,by rw [HN.out];exact M⟩
   case measure => have:=HLT.out;simp [intOf];omega
  ·skip
   have HN : Hid (mapTo l (k + 1) = mapTo l k ++ [slotVal l (k : Int) + 1]):=mapTo_yes hh
   go_wp2_with (first|(go_at_call 117;refine zC M (spec_SlotGet A n c l k HLT.out _ S (HS.out.ext M.out.ext) HOK.out) ?_;clear M;intro w' M;rw [hh])|(first|(at_builtin;refine Mine.wp_push M.out rfl _ _ 22 rfl 3 _ _ _ Tryz.underlying22 Tryz.infoInt rfl (by omega) 0 rfl rfl _ _ rfl rfl rfl (by simp [Value.oneCell']) (by omega) (by unfold maxLen;omega) ?_;intro A2 c2 w' M';(try simp only [zr_,zm_] at M');replace M:=hid M';clear M')))
   go_roundw
   case rel => exact ⟨k + 1,_,_,HLT.out,rfl,by go_num,by rw [HN.out];exact M⟩
   case measure => have:=HLT.out;simp [intOf];omega
theorem impl_MapOf (A : Option Addr) (n c : Nat) (l : List Int) (w : World) (S : Nat → Prop) (hs : Sl w S 1 A n (ints l)) (hn : n ≤ 1048576) :
  Calls Tryz.prog 72 #[.slice A n c] w fun e w' => ∃ B m d,e = .returned (.slice B m d) ∧ Mine w w' [.row 3 1 B m d (ints (mapOfF l))]:=by
 have HS:=hid hs
 clear hs
 have M:=hid (Mine.refl w)
 cases hok : slotsOk l
 ·skip
  have HOK:=hid hok
  have HZ : Hid (mapOfF l = []):=by show _ = _;unfold mapOfF;rw [hok];rfl
  clear hok
  go_enter Tryz.func72,Tryz.ntmps72
  go_wp2_with (first|(go_at_call 121;refine zC M (impl_SlotsOk A n c l _ S (HS.out.ext M.out.ext) hn) ?_;clear M;intro w' M;rw [HOK.out]))
  go_ret
  refine ⟨none,0,0,rfl,?_⟩
  rw [HZ.out]
  exact M.out.nil 3 1
 have HOK:=hid hok
 have HZ : Hid (mapOfF l = mapTo l 8):=by show _ = _;unfold mapOfF;rw [hok];rfl
 clear hok
 go_enter Tryz.func72,Tryz.ntmps72
 go_wp2_with (first|(go_at_call 121;refine zC M (impl_SlotsOk A n c l _ S (HS.out.ext M.out.ext) hn) ?_;clear M;intro w' M;rw [HOK.out])|(refine Mine.wp_mkI M.out rfl rfl ?_;intro gv w' M';replace M:=hid M';clear M';(try simp only [zr_,zm_])))
 go_loopw [3,12] (fun u i wr => ∃ (k f : Nat) (B2 : Option Addr),k ≤ 8 ∧ u = .slice B2 k f ∧ i = .int .i64 (k : Int) ∧ Hid (Mine w wr [.row 3 1 B2 k f (ints (mapTo l k))])) (fun _ i _ => 8 - (intOf i).toNat)
 case atStart => exact ⟨0,_,_,Nat.zero_le _,rfl,rfl,M⟩
 case round =>
  clear M
  obtain ⟨k,f,B2,hk,rfl,rfl,M⟩:=hrel
  by_cases hlt : (k : Int) < 8
  rotate_left
  ·have e : k = 8:=by omega
   subst e
   clear hk hlt
   go_wp2
   go_ret
   refine ⟨_,_,_,rfl,?_⟩
   rw [HZ.out]
   exact M.out
  have HLT : Hid (k < 8):=by show _ < _;omega
  have hsv:=slotVal_in l (k : Int)
  have hv1 : slotVal l (k : Int) < 65536:=hsv.2
  have hv0 : 0 ≤ slotVal l (k : Int):=hsv.1
  clear hsv
  cases hh : slotHas l (k : Int)
  ·skip
   have h0:=slotVal_no hh
   have HN : Hid (mapTo l (k + 1) = mapTo l k ++ [0]):=mapTo_no hh
   go_wp2_with (first|(go_at_call 122;refine zC M (impl_SlotGet A n c l k HLT.out _ S (HS.out.ext M.out.ext) HOK.out) ?_;clear M;intro w' M;rw [hh,h0])|(first|(at_builtin;refine Mine.wp_push M.out rfl _ _ 22 rfl 3 _ _ _ Tryz.underlying22 Tryz.infoInt rfl (by omega) 0 rfl rfl _ _ rfl rfl rfl (by simp [Value.oneCell']) (by omega) (by unfold maxLen;omega) ?_;intro A2 c2 w' M';(try simp only [zr_,zm_] at M');replace M:=hid M';clear M')))
   go_roundw
   case rel => exact ⟨k + 1,_,_,HLT.out,rfl,by go_num,by rw [HN.out];exact M⟩
   case measure => have:=HLT.out;simp [intOf];omega
  ·skip
   have HN : Hid (mapTo l (k + 1) = mapTo l k ++ [slotVal l (k : Int) + 1]):=mapTo_yes hh
   go_wp2_with (first|(go_at_call 122;refine zC M (impl_SlotGet A n c l k HLT.out _ S (HS.out.ext M.out.ext) HOK.out) ?_;clear M;intro w' M;rw [hh])|(first|(at_builtin;refine Mine.wp_push M.out rfl _ _ 22 rfl 3 _ _ _ Tryz.underlying22 Tryz.infoInt rfl (by omega) 0 rfl rfl _ _ rfl rfl rfl (by simp [Value.oneCell']) (by omega) (by unfold maxLen;omega) ?_;intro A2 c2 w' M';(try simp only [zr_,zm_] at M');replace M:=hid M';clear M')))
   go_roundw
   case rel => exact ⟨k + 1,_,_,HLT.out,rfl,by go_num,by rw [HN.out];exact M⟩
   case measure => have:=HLT.out;simp [intOf];omega
noncomputable def sameT (x y : Things) : Bool:=(dec (x.cells_ = y.cells_) && dec (x.map_ = y.map_)) && (x.count_ == y.count_)
theorem l7Ints_any (A B : Option Addr) (n m c d : Nat) (l1 l2 : List Int) (w : World) (S T : Nat → Prop) (ha : Sl w S 1 A n (ints l1)) (hb : Sl w T 1 B m (ints l2)) (hn : n ≤ 9223372036854775807) (hm : m ≤ 9223372036854775807) :
  Calls Tryz.prog 63 #[.slice A n c,.slice B m d] w fun e w' => e = .returned (.bool (dec (l1 = l2))) ∧ Ext w w':=by
 have hl1:=ha.len
 have hl2:=hb.len
 have HA:=hid ha
 have HB:=hid hb
 clear ha hb
 have M:=hid (Mine.refl w)
 by_cases hnm : n = m
 rotate_left
 ·have HZ : Hid (dec (l1 = l2) = false):=dec_no fun z => hnm (by rw [← hl1,← hl2,z])
  have bq : ((n : Int) != (m : Int)) = true:=by simp;omega
  clear hnm
  go_enter Tryz.func63,Tryz.ntmps63
  go_wp2
  go_ret
  exact ⟨by rw [HZ.out];rfl,M.out.ext⟩
 subst hnm
 have HL1:=hid hl1
 have HL2:=hid hl2
 clear hl1 hl2
 go_enter Tryz.func63,Tryz.ntmps63
 go_wp2
 go_loopw [5] (fun i wr => ∃ k : Nat,k ≤ n ∧ i = .int .i64 (k : Int) ∧ Hid (∀ j,j < k → l1[j]? = l2[j]?) ∧ Hid (Mine w wr [])) (fun i _ => n - (intOf i).toNat)
 case atStart => exact ⟨0,Nat.zero_le _,rfl,fun j h => absurd h (Nat.not_lt_zero _),M⟩
 case round =>
  clear M
  obtain ⟨k,hk,rfl,HU,M⟩:=hrel
  by_cases hlt : (k : Int) < (n : Int)
  rotate_left
  ·have HZ : Hid (dec (l1 = l2) = true):=dec_yes (List.ext_getElem? fun j => by by_cases hj : j < k;exact HU.out j hj;rw [List.getElem?_eq_none (by rw [HL1.out];omega),List.getElem?_eq_none (by rw [HL2.out];omega)])
   go_wp2
   go_ret
   exact ⟨by rw [HZ.out];rfl,M.out.ext⟩
  have HLT : Hid (k < n):=by show _ < _;omega
  obtain ⟨b1,o1,x,rfl,hb1,hxk,hc1⟩:=HA.out.int_at HLT.out
  obtain ⟨b2,o2,y,rfl,hb2,hyk,hc2⟩:=HB.out.int_at HLT.out
  have HX:=hid hxk
  have HY:=hid hyk
  have HC1 : Hid (w.cell? ⟨b1,o1 + k,none⟩ = some (.int .i64 x) ∧ b1 < w.heap.size):=⟨hc1,hb1⟩
  have HC2 : Hid (w.cell? ⟨b2,o2 + k,none⟩ = some (.int .i64 y) ∧ b2 < w.heap.size):=⟨hc2,hb2⟩
  clear hxk hyk hc1 hc2 hb1 hb2
  by_cases hxy : x = y
  rotate_left
  ·have HZ : Hid (dec (l1 = l2) = false):=dec_no fun z => by
    have h:=HX.out
    rw [z,HY.out] at h
    injection h with h
    exact hxy h.symm
   have bq : (x != y) = true:=by simpa using hxy
   clear hxy
   go_wp2
   refine zRQ M.out ?_
   repeat (first|go_big_quiet_skip|(go_big_quiet_want;first|((first|refine Mine.oq_arg 3 _ rfl _ _ HC1.out rfl _ Tryz.underlying3 (by rfl) ?_|refine Mine.oq_arg 3 _ rfl _ _ HC2.out rfl _ Tryz.underlying3 (by rfl) ?_);(try simp only [zr_,zm_]);go_big_quiet_on)|(unfold Oper.quiet;apply Exists.intro;refine ⟨fun wq hq => ?_,?_⟩;(clear hq;go_simp;first|done|rfl|exact ⟨rfl,rfl⟩);(try simp only [zs_,zl_]);go_big_quiet_on)))
   refine wpQuiet_nil ?_
   intro w' M'
   replace M:=hid M'
   clear M'
   go_wp2
   go_ret
   exact ⟨by rw [HZ.out];rfl,M.out.ext⟩
  subst hxy
  have bq : (x != x) = false:=by simp
  go_wp2
  refine zRQ M.out ?_
  repeat (first|go_big_quiet_skip|(go_big_quiet_want;first|((first|refine Mine.oq_arg 3 _ rfl _ _ HC1.out rfl _ Tryz.underlying3 (by rfl) ?_|refine Mine.oq_arg 3 _ rfl _ _ HC2.out rfl _ Tryz.underlying3 (by rfl) ?_);(try simp only [zr_,zm_]);go_big_quiet_on)|(unfold Oper.quiet;apply Exists.intro;refine ⟨fun wq hq => ?_,?_⟩;(clear hq;go_simp;first|done|rfl|exact ⟨rfl,rfl⟩);(try simp only [zs_,zl_]);go_big_quiet_on)))
  refine wpQuiet_nil ?_
  intro w' M'
  replace M:=hid M'
  clear M'
  go_wp2
  go_roundw
  case rel => exact ⟨k + 1,HLT.out,by go_num,fun j hj => by by_cases e : j = k;(subst e;rw [HX.out,HY.out]);exact HU.out j (by omega),M⟩
  case measure => have:=HLT.out;simp [intOf];omega
theorem equal_any (A B : Option Addr) (n m c d : Nat) (l1 l2 : List Int) (w : World) (S T : Nat → Prop) (ha : Sl w S 1 A n (ints l1)) (hb : Sl w T 1 B m (ints l2)) (hn : n ≤ 9223372036854775807) (hm : m ≤ 9223372036854775807) :
  Calls Tryz.prog 68 #[.slice A n c,.slice B m d] w fun e w' => e = .returned (.bool (dec (l1 = l2))) ∧ Ext w w':=by
 have hl1:=ha.len
 have hl2:=hb.len
 have HA:=hid ha
 have HB:=hid hb
 clear ha hb
 have M:=hid (Mine.refl w)
 by_cases hnm : n = m
 rotate_left
 ·have HZ : Hid (dec (l1 = l2) = false):=dec_no fun z => hnm (by rw [← hl1,← hl2,z])
  have bq : ((n : Int) != (m : Int)) = true:=by simp;omega
  clear hnm
  go_enter Tryz.func68,Tryz.ntmps68
  go_wp2
  go_ret
  exact ⟨by rw [HZ.out];rfl,M.out.ext⟩
 subst hnm
 have HL1:=hid hl1
 have HL2:=hid hl2
 clear hl1 hl2
 go_enter Tryz.func68,Tryz.ntmps68
 go_wp2
 go_loopw [13] (fun i wr => ∃ k : Nat,k ≤ n ∧ i = .int .i64 (k : Int) ∧ Hid (∀ j,j < k → l1[j]? = l2[j]?) ∧ Hid (Mine w wr [])) (fun i _ => n - (intOf i).toNat)
 case atStart => exact ⟨0,Nat.zero_le _,rfl,fun j h => absurd h (Nat.not_lt_zero _),M⟩
 case round =>
  clear M
  obtain ⟨k,hk,rfl,HU,M⟩:=hrel
  by_cases hlt : (k : Int) < (n : Int)
  rotate_left
  ·have HZ : Hid (dec (l1 = l2) = true):=dec_yes (List.ext_getElem? fun j => by by_cases hj : j < k;exact HU.out j hj;rw [List.getElem?_eq_none (by rw [HL1.out];omega),List.getElem?_eq_none (by rw [HL2.out];omega)])
   go_wp2
   go_ret
   exact ⟨by rw [HZ.out];rfl,M.out.ext⟩
  have HLT : Hid (k < n):=by show _ < _;omega
  obtain ⟨b1,o1,x,rfl,hb1,hxk,hc1⟩:=HA.out.int_at HLT.out
  obtain ⟨b2,o2,y,rfl,hb2,hyk,hc2⟩:=HB.out.int_at HLT.out
  have HX:=hid hxk
  have HY:=hid hyk
  have HC1 : Hid (w.cell? ⟨b1,o1 + k,none⟩ = some (.int .i64 x) ∧ b1 < w.heap.size):=⟨hc1,hb1⟩
  have HC2 : Hid (w.cell? ⟨b2,o2 + k,none⟩ = some (.int .i64 y) ∧ b2 < w.heap.size):=⟨hc2,hb2⟩
  clear hxk hyk hc1 hc2 hb1 hb2
  by_cases hxy : x = y
  rotate_left
  ·have HZ : Hid (dec (l1 = l2) = false):=dec_no fun z => by
    have h:=HX.out
    rw [z,HY.out] at h
    injection h with h
    exact hxy h.symm
   have bq : (x != y) = true:=by simpa using hxy
   clear hxy
   go_wp2
   refine zRQ M.out ?_
   repeat (first|go_big_quiet_skip|(go_big_quiet_want;first|((first|refine Mine.oq_arg 3 _ rfl _ _ HC1.out rfl _ Tryz.underlying3 (by rfl) ?_|refine Mine.oq_arg 3 _ rfl _ _ HC2.out rfl _ Tryz.underlying3 (by rfl) ?_);(try simp only [zr_,zm_]);go_big_quiet_on)|(unfold Oper.quiet;apply Exists.intro;refine ⟨fun wq hq => ?_,?_⟩;(clear hq;go_simp;first|done|rfl|exact ⟨rfl,rfl⟩);(try simp only [zs_,zl_]);go_big_quiet_on)))
   refine wpQuiet_nil ?_
   intro w' M'
   replace M:=hid M'
   clear M'
   go_wp2
   go_ret
   exact ⟨by rw [HZ.out];rfl,M.out.ext⟩
  subst hxy
  have bq : (x != x) = false:=by simp
  go_wp2
  refine zRQ M.out ?_
  repeat (first|go_big_quiet_skip|(go_big_quiet_want;first|((first|refine Mine.oq_arg 3 _ rfl _ _ HC1.out rfl _ Tryz.underlying3 (by rfl) ?_|refine Mine.oq_arg 3 _ rfl _ _ HC2.out rfl _ Tryz.underlying3 (by rfl) ?_);(try simp only [zr_,zm_]);go_big_quiet_on)|(unfold Oper.quiet;apply Exists.intro;refine ⟨fun wq hq => ?_,?_⟩;(clear hq;go_simp;first|done|rfl|exact ⟨rfl,rfl⟩);(try simp only [zs_,zl_]);go_big_quiet_on)))
  refine wpQuiet_nil ?_
  intro w' M'
  replace M:=hid M'
  clear M'
  go_wp2
  go_roundw
  case rel => exact ⟨k + 1,HLT.out,by go_num,fun j hj => by by_cases e : j = k;(subst e;rw [HX.out,HY.out]);exact HU.out j (by omega),M⟩
  case measure => have:=HLT.out;simp [intOf];omega
set_option maxRecDepth 8000 in
theorem spec_SameThings (A0 A1 B0 B1 : Option Addr) (n0 c0 n1 c1 m0 d0 m1 d1 : Nat) (x y : Things) (w : World) (ha0 : Sl w (fun _ => True) 1 A0 n0 (ints x.cells_)) (ha1 : Sl w (fun _ => True) 1 A1 n1 (ints x.map_)) (hb0 : Sl w (fun _ => True) 1 B0 m0 (ints y.cells_)) (hb1 : Sl w (fun _ => True) 1 B1 m1 (ints y.map_)) (hn : n0 ≤ 9223372036854775807 ∧ n1 ≤ 9223372036854775807 ∧ m0 ≤ 9223372036854775807 ∧ m1 ≤ 9223372036854775807) :
  Calls Tryz.prog 65 #[.agg #[.slice A0 n0 c0,.slice A1 n1 c1,.int .i64 x.count_],.agg #[.slice B0 m0 d0,.slice B1 m1 d1,.int .i64 y.count_]] w fun e w' => e = .returned (.bool (sameT x y)) ∧ Ext w w':=by
 obtain ⟨q0,q1,q2,q3⟩:=hn
 have HA0:=hid ha0
 have HA1:=hid ha1
 have HB0:=hid hb0
 have HB1:=hid hb1
 clear ha0 ha1 hb0 hb1
 have M:=hid (Mine.refl w)
 cases h0 : dec (x.cells_ = y.cells_)
 ·have HZ : Hid (sameT x y = false):=by show _ = _;unfold sameT;rw [h0];rfl
  have H0:=hid h0
  clear h0
  go_enter Tryz.func65,Tryz.ntmps65
  go_wp2_with (first|(go_at_call 63;with_reducible refine zC M (l7Ints_any A0 B0 _ _ _ _ x.cells_ y.cells_ _ _ _ (HA0.out.ext M.out.ext) (HB0.out.ext M.out.ext) (by omega) (by omega)) ?_;clear M;intro w' M;rw [H0.out])|(go_at_call 63;with_reducible refine zC M (l7Ints_any A1 B1 _ _ _ _ x.map_ y.map_ _ _ _ (HA1.out.ext M.out.ext) (HB1.out.ext M.out.ext) (by omega) (by omega)) ?_;clear M;intro w' M;rw [H1.out])|(first|((with_reducible refine zN ?_);first|(refine Mine.wp_box M.out rfl 42 _ rfl _ rfl ?_;intro gv w' M';(try simp only [zr_,zm_] at M');replace M:=hid M';clear M';(try simp only [zr_,zm_]))|((first|refine zG M.out 0 ?_|refine zG M.out 1 ?_);(try simp only [zr_,zm_])))|((with_reducible show wpList _ _ _ (⟨_,.load _ _,_,_,_,some _⟩::_) _ _);first|((first|refine zGg M.out 0 ?_|refine zGg M.out 1 ?_);(try simp only [zr_,zm_])))))
  go_ret
  exact ⟨by rw [HZ.out];rfl,M.out.ext⟩
 cases h1 : dec (x.map_ = y.map_)
 ·have HZ : Hid (sameT x y = false):=by show _ = _;unfold sameT;rw [h0,h1];rfl
  have H0:=hid h0
  have H1:=hid h1
  clear h0 h1
  go_enter Tryz.func65,Tryz.ntmps65
  go_wp2_with (first|(go_at_call 63;with_reducible refine zC M (l7Ints_any A0 B0 _ _ _ _ x.cells_ y.cells_ _ _ _ (HA0.out.ext M.out.ext) (HB0.out.ext M.out.ext) (by omega) (by omega)) ?_;clear M;intro w' M;rw [H0.out])|(go_at_call 63;with_reducible refine zC M (l7Ints_any A1 B1 _ _ _ _ x.map_ y.map_ _ _ _ (HA1.out.ext M.out.ext) (HB1.out.ext M.out.ext) (by omega) (by omega)) ?_;clear M;intro w' M;rw [H1.out])|(first|((with_reducible refine zN ?_);first|(refine Mine.wp_box M.out rfl 42 _ rfl _ rfl ?_;intro gv w' M';(try simp only [zr_,zm_] at M');replace M:=hid M';clear M';(try simp only [zr_,zm_]))|((first|refine zG M.out 0 ?_|refine zG M.out 1 ?_);(try simp only [zr_,zm_])))|((with_reducible show wpList _ _ _ (⟨_,.load _ _,_,_,_,some _⟩::_) _ _);first|((first|refine zGg M.out 0 ?_|refine zGg M.out 1 ?_);(try simp only [zr_,zm_])))))
  go_ret
  exact ⟨by rw [HZ.out];rfl,M.out.ext⟩
 cases h2 : (x.count_ == y.count_)
 ·have HZ : Hid (sameT x y = false):=by show _ = _;unfold sameT;rw [h0,h1,h2];rfl
  have H0:=hid h0
  have H1:=hid h1
  clear h0 h1
  go_enter Tryz.func65,Tryz.ntmps65
  go_wp2_with (first|(go_at_call 63;with_reducible refine zC M (l7Ints_any A0 B0 _ _ _ _ x.cells_ y.cells_ _ _ _ (HA0.out.ext M.out.ext) (HB0.out.ext M.out.ext) (by omega) (by omega)) ?_;clear M;intro w' M;rw [H0.out])|(go_at_call 63;with_reducible refine zC M (l7Ints_any A1 B1 _ _ _ _ x.map_ y.map_ _ _ _ (HA1.out.ext M.out.ext) (HB1.out.ext M.out.ext) (by omega) (by omega)) ?_;clear M;intro w' M;rw [H1.out])|(first|((with_reducible refine zN ?_);first|(refine Mine.wp_box M.out rfl 42 _ rfl _ rfl ?_;intro gv w' M';(try simp only [zr_,zm_] at M');replace M:=hid M';clear M';(try simp only [zr_,zm_]))|((first|refine zG M.out 0 ?_|refine zG M.out 1 ?_);(try simp only [zr_,zm_])))|((with_reducible show wpList _ _ _ (⟨_,.load _ _,_,_,_,some _⟩::_) _ _);first|((first|refine zGg M.out 0 ?_|refine zGg M.out 1 ?_);(try simp only [zr_,zm_])))))
  go_ret
  exact ⟨by rw [HZ.out];rfl,M.out.ext⟩
 ·have HZ : Hid (sameT x y = true):=by show _ = _;unfold sameT;rw [h0,h1,h2];rfl
  have H0:=hid h0
  have H1:=hid h1
  clear h0 h1
  go_enter Tryz.func65,Tryz.ntmps65
  go_wp2_with (first|(go_at_call 63;with_reducible refine zC M (l7Ints_any A0 B0 _ _ _ _ x.cells_ y.cells_ _ _ _ (HA0.out.ext M.out.ext) (HB0.out.ext M.out.ext) (by omega) (by omega)) ?_;clear M;intro w' M;rw [H0.out])|(go_at_call 63;with_reducible refine zC M (l7Ints_any A1 B1 _ _ _ _ x.map_ y.map_ _ _ _ (HA1.out.ext M.out.ext) (HB1.out.ext M.out.ext) (by omega) (by omega)) ?_;clear M;intro w' M;rw [H1.out])|(first|((with_reducible refine zN ?_);first|(refine Mine.wp_box M.out rfl 42 _ rfl _ rfl ?_;intro gv w' M';(try simp only [zr_,zm_] at M');replace M:=hid M';clear M';(try simp only [zr_,zm_]))|((first|refine zG M.out 0 ?_|refine zG M.out 1 ?_);(try simp only [zr_,zm_])))|((with_reducible show wpList _ _ _ (⟨_,.load _ _,_,_,_,some _⟩::_) _ _);first|((first|refine zGg M.out 0 ?_|refine zGg M.out 1 ?_);(try simp only [zr_,zm_])))))
  go_ret
  exact ⟨by rw [HZ.out];rfl,M.out.ext⟩
set_option maxRecDepth 8000 in
theorem impl_SameThings (A0 A1 B0 B1 : Option Addr) (n0 c0 n1 c1 m0 d0 m1 d1 : Nat) (x y : Things) (w : World) (ha0 : Sl w (fun _ => True) 1 A0 n0 (ints x.cells_)) (ha1 : Sl w (fun _ => True) 1 A1 n1 (ints x.map_)) (hb0 : Sl w (fun _ => True) 1 B0 m0 (ints y.cells_)) (hb1 : Sl w (fun _ => True) 1 B1 m1 (ints y.map_)) (hn : n0 ≤ 9223372036854775807 ∧ n1 ≤ 9223372036854775807 ∧ m0 ≤ 9223372036854775807 ∧ m1 ≤ 9223372036854775807) :
  Calls Tryz.prog 70 #[.agg #[.slice A0 n0 c0,.slice A1 n1 c1,.int .i64 x.count_],.agg #[.slice B0 m0 d0,.slice B1 m1 d1,.int .i64 y.count_]] w fun e w' => e = .returned (.bool (sameT x y)) ∧ Ext w w':=by
 obtain ⟨q0,q1,q2,q3⟩:=hn
 have HA0:=hid ha0
 have HA1:=hid ha1
 have HB0:=hid hb0
 have HB1:=hid hb1
 clear ha0 ha1 hb0 hb1
 have M:=hid (Mine.refl w)
 cases h0 : dec (x.cells_ = y.cells_)
 ·have HZ : Hid (sameT x y = false):=by show _ = _;unfold sameT;rw [h0];rfl
  have H0:=hid h0
  clear h0
  go_enter Tryz.func70,Tryz.ntmps70
  go_wp2_with (first|(go_at_call 68;with_reducible refine zC M (equal_any A0 B0 _ _ _ _ x.cells_ y.cells_ _ _ _ (HA0.out.ext M.out.ext) (HB0.out.ext M.out.ext) (by omega) (by omega)) ?_;clear M;intro w' M;rw [H0.out])|(go_at_call 68;with_reducible refine zC M (equal_any A1 B1 _ _ _ _ x.map_ y.map_ _ _ _ (HA1.out.ext M.out.ext) (HB1.out.ext M.out.ext) (by omega) (by omega)) ?_;clear M;intro w' M;rw [H1.out])|(first|((with_reducible refine zN ?_);first|(refine Mine.wp_box M.out rfl 42 _ rfl _ rfl ?_;intro gv w' M';(try simp only [zr_,zm_] at M');replace M:=hid M';clear M';(try simp only [zr_,zm_]))|((first|refine zG M.out 0 ?_|refine zG M.out 1 ?_);(try simp only [zr_,zm_])))|((with_reducible show wpList _ _ _ (⟨_,.load _ _,_,_,_,some _⟩::_) _ _);first|((first|refine zGg M.out 0 ?_|refine zGg M.out 1 ?_);(try simp only [zr_,zm_])))))
  go_ret
  exact ⟨by rw [HZ.out];rfl,M.out.ext⟩
 cases h1 : dec (x.map_ = y.map_)
 ·have HZ : Hid (sameT x y = false):=by show _ = _;unfold sameT;rw [h0,h1];rfl
  have H0:=hid h0
  have H1:=hid h1
  clear h0 h1
  go_enter Tryz.func70,Tryz.ntmps70
  go_wp2_with (first|(go_at_call 68;with_reducible refine zC M (equal_any A0 B0 _ _ _ _ x.cells_ y.cells_ _ _ _ (HA0.out.ext M.out.ext) (HB0.out.ext M.out.ext) (by omega) (by omega)) ?_;clear M;intro w' M;rw [H0.out])|(go_at_call 68;with_reducible refine zC M (equal_any A1 B1 _ _ _ _ x.map_ y.map_ _ _ _ (HA1.out.ext M.out.ext) (HB1.out.ext M.out.ext) (by omega) (by omega)) ?_;clear M;intro w' M;rw [H1.out])|(first|((with_reducible refine zN ?_);first|(refine Mine.wp_box M.out rfl 42 _ rfl _ rfl ?_;intro gv w' M';(try simp only [zr_,zm_] at M');replace M:=hid M';clear M';(try simp only [zr_,zm_]))|((first|refine zG M.out 0 ?_|refine zG M.out 1 ?_);(try simp only [zr_,zm_])))|((with_reducible show wpList _ _ _ (⟨_,.load _ _,_,_,_,some _⟩::_) _ _);first|((first|refine zGg M.out 0 ?_|refine zGg M.out 1 ?_);(try simp only [zr_,zm_])))))
  go_ret
  exact ⟨by rw [HZ.out];rfl,M.out.ext⟩
 cases h2 : (x.count_ == y.count_)
 ·have HZ : Hid (sameT x y = false):=by show _ = _;unfold sameT;rw [h0,h1,h2];rfl
  have H0:=hid h0
  have H1:=hid h1
  clear h0 h1
  go_enter Tryz.func70,Tryz.ntmps70
  go_wp2_with (first|(go_at_call 68;with_reducible refine zC M (equal_any A0 B0 _ _ _ _ x.cells_ y.cells_ _ _ _ (HA0.out.ext M.out.ext) (HB0.out.ext M.out.ext) (by omega) (by omega)) ?_;clear M;intro w' M;rw [H0.out])|(go_at_call 68;with_reducible refine zC M (equal_any A1 B1 _ _ _ _ x.map_ y.map_ _ _ _ (HA1.out.ext M.out.ext) (HB1.out.ext M.out.ext) (by omega) (by omega)) ?_;clear M;intro w' M;rw [H1.out])|(first|((with_reducible refine zN ?_);first|(refine Mine.wp_box M.out rfl 42 _ rfl _ rfl ?_;intro gv w' M';(try simp only [zr_,zm_] at M');replace M:=hid M';clear M';(try simp only [zr_,zm_]))|((first|refine zG M.out 0 ?_|refine zG M.out 1 ?_);(try simp only [zr_,zm_])))|((with_reducible show wpList _ _ _ (⟨_,.load _ _,_,_,_,some _⟩::_) _ _);first|((first|refine zGg M.out 0 ?_|refine zGg M.out 1 ?_);(try simp only [zr_,zm_])))))
  go_ret
  exact ⟨by rw [HZ.out];rfl,M.out.ext⟩
 ·have HZ : Hid (sameT x y = true):=by show _ = _;unfold sameT;rw [h0,h1,h2];rfl
  have H0:=hid h0
  have H1:=hid h1
  clear h0 h1
  go_enter Tryz.func70,Tryz.ntmps70
  go_wp2_with (first|(go_at_call 68;with_reducible refine zC M (equal_any A0 B0 _ _ _ _ x.cells_ y.cells_ _ _ _ (HA0.out.ext M.out.ext) (HB0.out.ext M.out.ext) (by omega) (by omega)) ?_;clear M;intro w' M;rw [H0.out])|(go_at_call 68;with_reducible refine zC M (equal_any A1 B1 _ _ _ _ x.map_ y.map_ _ _ _ (HA1.out.ext M.out.ext) (HB1.out.ext M.out.ext) (by omega) (by omega)) ?_;clear M;intro w' M;rw [H1.out])|(first|((with_reducible refine zN ?_);first|(refine Mine.wp_box M.out rfl 42 _ rfl _ rfl ?_;intro gv w' M';(try simp only [zr_,zm_] at M');replace M:=hid M';clear M';(try simp only [zr_,zm_]))|((first|refine zG M.out 0 ?_|refine zG M.out 1 ?_);(try simp only [zr_,zm_])))|((with_reducible show wpList _ _ _ (⟨_,.load _ _,_,_,_,some _⟩::_) _ _);first|((first|refine zGg M.out 0 ?_|refine zGg M.out 1 ?_);(try simp only [zr_,zm_])))))
  go_ret
  exact ⟨by rw [HZ.out];rfl,M.out.ext⟩

end Go.Proofs.YtoegjiigaoanbaaGreat
