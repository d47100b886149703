/- Replay. No condition. -/
import Derived.Test.YtoegjiigaoanbaaGreatS09
import Derived.Test.YtoegjiigaoanbaaGreatS04
import Derived.Test.YtoegjiigaoanbaaGreatS00
import Derived.IntWalk
set_option linter.unusedSimpArgs false
set_option linter.unusedVariables false
set_option linter.unnecessarySimpa false
set_option maxHeartbeats 400000000
namespace Go.Proofs.YtoegjiigaoanbaaGreat
open Go.RowKit Go.Deep
open Go.Lib (hid)
theorem marks_length (k : Int) (n : Nat) : (marks k n).length = n:=by simp [marks]
theorem marks_get (k : Int) (n i : Nat) (h : i < n) : (marks k n)[i]? = some (k + (i : Int)):=by simp [marks,h]
theorem markIntS_any (A : Option Addr) (n c : Nat) (base : Nat) (cs0 : List Value) (q : Int) (w : World) (ho0 : w.ownsRow base 3 1 (.slice A n c) n cs0) (hq : 0 ≤ q) (hqn : q + n ≤ 9007199254740992) :
  Calls Tryz.prog 61 #[.slice A n c,.int .i64 q] w fun e w' => e = .returned (.int .i64 (q + n)) ∧ w'.ownsRow base 3 1 (.slice A n c) n (ints (marks q n)) ∧ Chg (fun k => (Value.slice A n c).ownBlock = some k) w w':=by
 have HO:=hid ho0
 clear ho0
 go_enter Tryz.func61,Tryz.ntmps61
 go_wp2
 go_loopw [1,5] (fun r i wr => ∃ (k : Nat) (cs : List Value),k ≤ n ∧ i = .int .i64 k ∧ r = .int .i64 (q + k) ∧ wr.ownsRow base 3 1 (.slice A n c) n cs ∧ Upto cs (ints (marks q n)) k ∧ Chg (fun k => (Value.slice A n c).ownBlock = some k) w wr) (fun _ i _ => n - (intOf i).toNat)
 case atStart => exact ⟨0,_,Nat.zero_le _,rfl,by simp,HO.out,Upto.zero _ _,Chg.refl _ _⟩
 case round =>
  obtain ⟨k,cs,hk,rfl,rfl,ho,hu,hx⟩:=hrel
  by_cases hlt : k < n
  ·have hcl:=own_len ho
   obtain ⟨g,v0,rfl,-,hco,hf0⟩:=own_at ho hlt
   have HO2:=hid ho
   have HE2:=hid hx
   have HCL:=hid hcl
   clear ho hx hcl
   go_wp2
   go_roundw
   case rel => 
    have hst:=HO2.out.stored k (.int .i64 (q + k))
    exact ⟨k + 1,_,by omega,by go_num,by go_num,hst.1,hu.set1 (by rw [HCL.out];exact hlt) (by rw [ints_get,marks_get _ _ _ hlt];rfl),HE2.out.grown hst.2 (fun j hj => .inl hj)⟩
   case measure => simp [intOf];omega
  ·go_wp2
   go_ret
   have : k = n:=by omega
   subst this
   refine ⟨rfl,?_,hx⟩
   rw [← hu.all (by have:=ho.1;omega) (by rw [ints_length,marks_length])]
   exact ho
theorem heldIntS_any (A : Option Addr) (n c : Nat) (q : Int) (w : World) (S : Nat → Prop) (hs : Sl w S 1 A n (ints (marks q n))) (hq : 0 ≤ q) (hqn : q + n ≤ 9007199254740992) :
  Calls Tryz.prog 62 #[.slice A n c,.int .i64 q] w fun e w' => e = .returned (.int .i64 (q + n)) ∧ w = w':=by
 go_enter Tryz.func62,Tryz.ntmps62
 go_wp2
 go_loop [1,5] (fun r i => ∃ (k : Nat),k ≤ n ∧ i = .int .i64 k ∧ r = .int .i64 (q + k)) (fun _ i => n - (intOf i).toNat)
 case atStart => exact ⟨0,Nat.zero_le _,rfl,by simp⟩
 case round =>
  obtain ⟨k,hk,rfl,rfl⟩:=hrel
  by_cases hlt : k < n
  ·obtain ⟨b,o,x,rfl,hb,hxk,hc⟩:=hs.int_at hlt
   rw [marks_get _ _ _ hlt] at hxk
   injection hxk with hxk
   subst hxk
   go_wp2
   go_round
   case rel => exact ⟨k + 1,by omega,by go_num,by go_num⟩
   case measure => simp [intOf];omega
  ·go_wp2
   go_ret
   have : k = n:=by omega
   subst this
   exact ⟨rfl,rfl⟩
theorem zOr {o : Oper} {a : Act} {b : World} {rs : List Res} {K : Act → Prop} {x : Operand} (ho : o.op = .load 97 x) (i : Nat) {g : Nat} {t : TypeId} {cs : List Value} (hi : rs[i]? = some (.box g t cs.toArray)) (hx : a.eval x = .pointer (some ⟨g,0,none⟩)) (hl : Hid (cs.length = 40)) (h : K (a.put o.dst (.agg cs.toArray))) : Oper.quiet Tryz.prog o a (fun w' => Mine b w' rs) K:=Mine.oq_getall 97 x ho i hi hx _ Tryz.underlying97 rfl (by rw [List.size_toArray,hl.out];kernel_rfl) h
def pickTo (p : Root → Bool) (l : List Root) : Nat → List Int
 | 0 => []
 | k + 1 => match l[k]? with
  | some r => if p r = true then pickTo p l k ++ [(k : Int)] else pickTo p l k
  | none => pickTo p l k
theorem pick_yes {p : Root → Bool} {l : List Root} {k : Nat} {r : Root} (h : l[k]? = some r) (hp : p r = true) : pickTo p l (k + 1) = pickTo p l k ++ [(k : Int)]:=by simp [pickTo,h,hp]
theorem pick_no {p : Root → Bool} {l : List Root} {k : Nat} {r : Root} (h : l[k]? = some r) (hp : p r = false) : pickTo p l (k + 1) = pickTo p l k:=by simp [pickTo,h,hp]
theorem pick_len (p : Root → Bool) (l : List Root) : ∀ k,(pickTo p l k).length ≤ k
 | 0 => Nat.le_refl _
 | k + 1 => by
  have ih:=pick_len p l k
  rw [pickTo]
  split
  ·split
   ·rw [List.length_append];simp;omega
   ·omega
  ·omega
theorem pick_mem {p : Root → Bool} {l : List Root} {x : Int} : ∀ {k : Nat},x ∈ pickTo p l k ↔ ∃ (i : Nat) (r : Root),i < k ∧ x = (i : Int) ∧ l[i]? = some r ∧ p r = true
 | 0 => by simp [pickTo]
 | k + 1 => by
  have ih:=pick_mem (p:=p) (l:=l) (x:=x) (k:=k)
  constructor
  ·intro h
   rw [pickTo] at h
   split at h
   ·rename_i r hr
    split at h
    ·rename_i hp
     rcases List.mem_append.1 h with q|q
     ·obtain ⟨i,s,a,b,c,d⟩:=ih.1 q
      exact ⟨i,s,by omega,b,c,d⟩
     ·simp at q;exact ⟨k,r,by omega,q,hr,hp⟩
    ·obtain ⟨i,s,a,b,c,d⟩:=ih.1 h
     exact ⟨i,s,by omega,b,c,d⟩
   ·obtain ⟨i,s,a,b,c,d⟩:=ih.1 h
    exact ⟨i,s,by omega,b,c,d⟩
  ·rintro ⟨i,r,hi,hx,hr,hp⟩
   by_cases e : i = k
   ·subst e;rw [pick_yes hr hp];exact List.mem_append_right _ (by rw [hx];exact List.mem_singleton.2 rfl)
   ·have h1:=ih.2 ⟨i,r,by omega,hx,hr,hp⟩
    rw [pickTo]
    split
    ·split
     ·exact List.mem_append_left _ h1
     ·exact h1
    ·exact h1
theorem pick_asc (p : Root → Bool) (l : List Root) : ∀ k,(pickTo p l k).Pairwise (· < ·)
 | 0 => List.Pairwise.nil
 | k + 1 => by
  have ih:=pick_asc p l k
  rw [pickTo]
  split
  ·split
   ·rw [List.pairwise_append]
    refine ⟨ih,by simp,fun a ha b hb => ?_⟩
    obtain ⟨i,r,h1,h2,_⟩:=pick_mem.1 ha
    simp at hb;omega
   ·exact ih
  ·exact ih
theorem own_emptyI (w : World) : (w.alloc (.cells #[] 3)).ownsRow w.heap.size 3 1 (.slice (some ⟨w.heap.size,0,none⟩) 0 0) 0 (ints []) :=
 World.ownsRow_lit w #[] 0 (Nat.le_refl _) (Nat.zero_le _) (by simp [ints])
theorem Root.first {w : World} {S : Nat → Prop} {row : List Value} {r : Root} (h : Root.R w S row r) : row.toArray[0]? = some (.int .i64 r.phase_):=by
 obtain ⟨A0,n0,c0,A1,n1,c1,A2,n2,c2,A3,n3,c3,A4,n4,c4,A5,n5,c5,A6,n6,c6,A7,n7,c7,A8,n8,c8,A9,n9,c9,A10,n10,c10,A11,n11,c11,A12,n12,c12,A13,n13,c13,rfl⟩:=Root.R_cells h
 rfl
theorem Root.R_one {w : World} {S : Nat → Prop} {row : List Value} {r : Root} (h : Root.R w S row r) : ∀ v ∈ row,v.oneCell' = true:=by
 obtain ⟨A0,n0,c0,A1,n1,c1,A2,n2,c2,A3,n3,c3,A4,n4,c4,A5,n5,c5,A6,n6,c6,A7,n7,c7,A8,n8,c8,A9,n9,c9,A10,n10,c10,A11,n11,c11,A12,n12,c12,A13,n13,c13,rfl⟩:=Root.R_cells h
 simp [Value.oneCell']
theorem root_at {w : World} {S : Nat → Prop} {b o n k : Nat} {l : List Root} (h : SlR Root.R 40 w S (some ⟨b,o,none⟩) n l) (hk : k < n) : ∃ (r : Root) (row : List Value),l[k]? = some r ∧ b < w.heap.size ∧ Root.R w S row r ∧ row.length = 40 ∧ w.rangeAt b (o + k * 40) row:=by
 obtain ⟨r,row,hr,hb,hrw,hc⟩:=h.at_ hk
 exact ⟨r,row,hr,hb,hrw,Root.R_good.len hrw,SlR.range Root.R_good hrw hc⟩
theorem roots_le (x : GWorld) (h : GWorld.wt x ≤ 1048576) : x.roots_.length ≤ 1048576:=by
 have h1:=wtl_len Root.wt x.roots_
 unfold GWorld.wt at h
 omega
end Go.Proofs.YtoegjiigaoanbaaGreat
namespace Go.Proofs.YtoegjiigaoanbaaGreat
open Go.RowKit
open Go.Lib (hid)
/-! ### The order of the ranks: three keys,then the place -/
structure Keys where
 a : Int → Int
 b : Int → Int
 c : Int → Int
def Keys.lt (K : Keys) (x y : Int) : Prop:=K.a x < K.a y ∨ (K.a x = K.a y ∧ (K.b x < K.b y ∨ (K.b x = K.b y ∧ K.c x < K.c y)))
def Keys.T (K : Keys) (x y : Int) : Prop:=K.lt x y ∨ (¬ K.lt y x ∧ x < y)
theorem Keys.T_trans {K : Keys} {x y z : Int} (h : K.T x y) (k : K.T y z) : K.T x z:=by unfold Keys.T Keys.lt at *;omega
theorem Keys.T_total {K : Keys} {x y : Int} (h : x ≠ y) : K.T x y ∨ K.T y x:=by unfold Keys.T Keys.lt at *;omega
theorem Keys.T_irrefl {K : Keys} {x : Int} : ¬ K.T x x:=by unfold Keys.T Keys.lt;omega
theorem Keys.T_asymm {K : Keys} {x y : Int} (h : K.T x y) : ¬ K.T y x:=by unfold Keys.T Keys.lt at *;omega
theorem Keys.T_of {K : Keys} {x y : Int} (h : ¬ K.lt y x) (k : x < y) : K.T x y:=.inr ⟨h,k⟩
theorem Keys.T_lt {K : Keys} {x y : Int} (h : K.lt x y) : K.T x y:=.inl h
/-! ### Insertion -/
theorem ins_sorted {K : Keys} {S1 S2 : List Int} {x : Int} (hs : (S1 ++ S2).Pairwise K.T) (h1 : ∀ s ∈ S1,K.T s x) (h2 : ∀ s ∈ S2,K.T x s) : (S1 ++ x::S2).Pairwise K.T:=by
 rw [List.pairwise_append] at hs ⊢
 refine ⟨hs.1,List.pairwise_cons.2 ⟨h2,hs.2.1⟩,fun a ha b hb => ?_⟩
 rcases List.mem_cons.1 hb with q|q
 ·subst q;exact h1 a ha
 ·exact hs.2.2 a ha b q
theorem last_all {K : Keys} {S : List Int} {y x : Int} (hs : (S ++ [y]).Pairwise K.T) (h : K.T y x) : ∀ s ∈ S ++ [y],K.T s x:=by
 intro s hm
 rcases List.mem_append.1 hm with q|q
 ·exact Keys.T_trans ((List.pairwise_append.1 hs).2.2 s q y (List.mem_singleton.2 rfl)) h
 ·simp at q;subst q;exact h
/-! ### Places in a list that is put together -/
theorem pair_at {R : Int → Int → Prop} {X : List Int} (h : X.Pairwise R) {i j : Nat} {x y : Int} (hij : i < j) (hi : X[i]? = some x) (hj : X[j]? = some y) : R x y:=by
 obtain ⟨i1,rfl⟩:=List.getElem?_eq_some_iff.1 hi
 obtain ⟨j1,rfl⟩:=List.getElem?_eq_some_iff.1 hj
 exact List.pairwise_iff_getElem.1 h i j i1 j1 hij
theorem mem_take_at {X : List Int} {i : Nat} {x : Int} (h : x ∈ X.take i) : ∃ j,j < i ∧ X[j]? = some x:=by
 obtain ⟨j,hj⟩:=List.mem_iff_getElem?.1 h
 rw [List.getElem?_take] at hj
 split at hj
 ·exact ⟨j,by omega,hj⟩
 ·cases hj
theorem mem_drop_at {X : List Int} {i : Nat} {x : Int} (h : x ∈ X.drop i) : ∃ j,i ≤ j ∧ X[j]? = some x:=by
 obtain ⟨j,hj⟩:=List.mem_iff_getElem?.1 h
 rw [List.getElem?_drop] at hj
 exact ⟨i + j,by omega,hj⟩
/-! ### The merge of two sorted lists,the one ahead of the other -/
structure Two (K : Keys) (L R : List Int) : Prop where
 l : L.Pairwise K.T
 r : R.Pairwise K.T
 lr : ∀ x ∈ L,∀ y ∈ R,x < y
structure Merged (K : Keys) (L R X : List Int) : Prop where
 perm : X.Perm (L ++ R)
 sorted : X.Pairwise K.T
theorem Two.take {K : Keys} {L R : List Int} (h : Two K L R) (p q : Nat) : Two K (L.take p) (R.take q) :=
 ⟨h.l.sublist (List.take_sublist _ _),h.r.sublist (List.take_sublist _ _),fun x hx y hy => h.lr x (List.mem_of_mem_take hx) y (List.mem_of_mem_take hy)⟩
theorem Two.drop {K : Keys} {L R : List Int} (h : Two K L R) (p q : Nat) : Two K (L.drop p) (R.drop q) :=
 ⟨h.l.sublist (List.drop_sublist _ _),h.r.sublist (List.drop_sublist _ _),fun x hx y hy => h.lr x (List.mem_of_mem_drop hx) y (List.mem_of_mem_drop hy)⟩
theorem sorted_unique' {K : Keys} {l r : List Int} (hp : l.Perm r) (hl : l.Pairwise K.T) (hr : r.Pairwise K.T) : l = r :=
 List.Perm.eq_of_pairwise (le:=K.T) (fun a b _ _ h1 h2 => absurd h2 (Keys.T_asymm h1)) hl hr hp
noncomputable def ahead (K : Keys) (l : List Int) (x : Int) : Nat:=(l.filter fun y => @decide (K.T y x) (Classical.propDecidable _)).length
theorem ahead_perm {K : Keys} {l r : List Int} (h : l.Perm r) (x : Int) : ahead K l x = ahead K r x:=(h.filter _).length_eq
theorem ahead_at {K : Keys} {l : List Int} (h : l.Pairwise K.T) {i : Nat} {x : Int} (hx : l[i]? = some x) : ahead K l x = i:=by
 obtain ⟨hi,e⟩:=List.getElem?_eq_some_iff.1 hx
 have h1 : l = l.take i ++ x::l.drop (i + 1):=by rw [← e,List.getElem_cons_drop,List.take_append_drop]
 have hf1 : (l.take i).filter (fun y => @decide (K.T y x) (Classical.propDecidable _)) = l.take i:=by
  rw [List.filter_eq_self]
  intro y hy
  obtain ⟨j,hj,ej⟩:=mem_take_at hy
  simpa using pair_at h hj ej hx
 have hf2 : (x::l.drop (i + 1)).filter (fun y => @decide (K.T y x) (Classical.propDecidable _)) = []:=by
  rw [List.filter_eq_nil_iff]
  intro y hy
  rcases List.mem_cons.1 hy with q|q
  ·subst q;simpa using Keys.T_irrefl
  ·obtain ⟨j,hj,ej⟩:=mem_drop_at q
   simpa using Keys.T_asymm (pair_at h (by omega) hx ej)
 unfold ahead
 rw [h1,List.filter_append,hf1,hf2,List.append_nil,List.length_take]
 omega
noncomputable def rankList (K : Keys) (l : List Int) : List Int:=l.mergeSort fun a b => !@decide (K.T b a) (Classical.propDecidable _)
theorem rank_perm (K : Keys) (l : List Int) : (rankList K l).Perm l:=List.mergeSort_perm _ _
theorem rank_sorted {K : Keys} {l : List Int} (h : l.Nodup) : (rankList K l).Pairwise K.T:=by
 have h1 : (rankList K l).Pairwise (fun a b => (!@decide (K.T b a) (Classical.propDecidable _)) = true):=List.pairwise_mergeSort (fun a b c h1 h2 => by
  simp at *
  intro q
  by_cases e1 : a = b
  ·subst e1;exact h2 q
  ·by_cases e2 : b = c
   ·subst e2;exact h1 q
   ·have t1:=(Keys.T_total (K:=K) e1).resolve_right h1
    have t2:=(Keys.T_total (K:=K) e2).resolve_right h2
    exact Keys.T_asymm (Keys.T_trans t1 t2) q) (fun a b => by
  simp
  by_cases e1 : a = b
  ·subst e1;exact .inl Keys.T_irrefl
  ·rcases Keys.T_total (K:=K) e1 with q|q
   ·exact .inl (Keys.T_asymm q)
   ·exact .inr (Keys.T_asymm q)) _
 have h2 : (rankList K l).Nodup:=(rank_perm K l).symm.nodup h
 rw [List.pairwise_iff_getElem] at h1 ⊢
 intro i j hi hj hij
 have a:=h1 i j hi hj hij
 have b:=List.pairwise_iff_getElem.1 h2 i j hi hj hij
 simp at a
 exact (Keys.T_total b).resolve_right a
theorem rank_of {K : Keys} {l r : List Int} (hn : l.Nodup) (hp : r.Perm l) (hs : r.Pairwise K.T) : r = rankList K l :=
 sorted_unique' (hp.trans (rank_perm K l).symm) hs (rank_sorted hn)
theorem rank_at {K : Keys} {l : List Int} (hn : l.Nodup) {x : Int} (hx : x ∈ l) : (rankList K l)[ahead K l x]? = some x:=by
 obtain ⟨i,hi⟩:=List.mem_iff_getElem?.1 ((rank_perm K l).symm.subset hx)
 rw [ahead_perm (rank_perm K l).symm x,ahead_at (rank_sorted hn) hi]
 exact hi
def Swp (D : List Int) (a b q : Nat) (D' : List Int) : Prop:=D'.length = D.length ∧ ∀ j,D'[j]? = if a ≤ j ∧ j < a + q then D[b + (j - a)]? else if b ≤ j ∧ j < b + q then D[a + (j - b)]? else D[j]?
theorem Swp.zero (D : List Int) (a b : Nat) : Swp D a b 0 D:=⟨rfl,fun j => by rw [if_neg (by omega),if_neg (by omega)]⟩
theorem Swp.next {D D' : List Int} {a b q : Nat} {u v : Int} (h : Swp D a b q D') (hab : a + q < b) (hb : b + q < D.length) (hu : D[a + q]? = some u) (hv : D[b + q]? = some v) : Swp D a b (q + 1) ((D'.set (a + q) v).set (b + q) u):=by
 refine ⟨by simp [h.1],fun j => ?_⟩
 rw [List.getElem?_set,List.getElem?_set]
 by_cases e1 : b + q = j
 ·subst e1
  rw [if_pos rfl,if_pos (by simp [h.1];omega),if_neg (by omega),if_pos (by omega),← hu]
  congr 1
  omega
 ·rw [if_neg e1]
  by_cases e2 : a + q = j
  ·subst e2
   rw [if_pos rfl,if_pos (by rw [h.1];omega),if_pos (by omega),← hv]
   congr 1
   omega
  ·rw [if_neg e2,h.2]
   by_cases c1 : a ≤ j ∧ j < a + q
   ·rw [if_pos c1,if_pos (by omega)]
   ·rw [if_neg c1]
    by_cases c2 : b ≤ j ∧ j < b + q
    ·rw [if_pos c2,if_neg (show ¬ (a ≤ j ∧ j < a + (q + 1)) by omega),if_pos (by omega)]
    ·rw [if_neg c2,if_neg (show ¬ (a ≤ j ∧ j < a + (q + 1)) by omega),if_neg (by omega)]
theorem Swp.parts {P X M Y Q D' : List Int} (h : Swp (P ++ (X ++ (M ++ (Y ++ Q)))) P.length (P.length + X.length + M.length) X.length D') (hy : Y.length = X.length) : D' = P ++ (Y ++ (M ++ (X ++ Q))):=by
 apply List.ext_getElem?
 intro j
 rw [h.2]
 simp only [List.getElem?_append,List.length_append]
 by_cases c0 : j < P.length
 ·rw [if_neg (by omega),if_neg (by omega),if_pos c0,if_pos c0]
 by_cases c1 : j < P.length + X.length
 ·rw [if_pos (by omega),if_neg (by omega),if_neg (by omega),if_neg (by omega),if_pos (by omega),if_neg c0,if_pos (by omega)]
  congr 1
  omega
 by_cases c2 : j < P.length + X.length + M.length
 ·rw [if_neg (by omega),if_neg (by omega),if_neg c0,if_neg (by omega),if_pos (by omega),if_neg c0,if_neg (by omega),if_pos (by omega)]
  congr 1
  omega
 by_cases c3 : j < P.length + X.length + M.length + Y.length
 ·rw [if_neg (by omega),if_pos (by omega),if_neg (by omega),if_pos (by omega),if_neg c0,if_neg (by omega),if_neg (by omega),if_pos (by omega)]
  congr 1
  omega
 ·rw [if_neg (by omega),if_neg (by omega),if_neg c0,if_neg (by omega),if_neg (by omega),if_neg (by omega),if_neg c0,if_neg (by omega),if_neg (by omega),if_neg (by omega)]
  congr 1
  omega
theorem swap_parts {P Q : List Int} {x y : Int} {j : Nat} (hj : j = P.length) : ((P ++ (x::y::Q)).set (j + 1) x).set j y = P ++ (y::x::Q):=by
 subst hj
 rw [List.set_append_right _ _ (by omega),Nat.add_sub_cancel_left,List.set_append_right _ _ (Nat.le_refl _),Nat.sub_self]
 rfl
theorem at_mid {P Q : List Int} {x : Int} {j : Nat} (hj : j = P.length) : (P ++ x::Q)[j]? = some x:=by subst hj;simp
theorem at_mid1 {P Q : List Int} {x y : Int} {j : Nat} (hj : j = P.length) : (P ++ x::y::Q)[j + 1]? = some y:=by subst hj;simp
def Seg (D : List Int) (p s : Nat) : List Int:=(D.drop p).take s
theorem seg_len (D : List Int) (p s : Nat) : (Seg D p s).length = min s (D.length - p):=by unfold Seg;rw [List.length_take,List.length_drop]
def RunAt (K : Keys) (E : List Int) (s p : Nat) (D : List Int) : Prop:=(Seg D p s).Pairwise K.T ∧ (Seg D p s).Perm (Seg E p s)
theorem seg_cut (D : List Int) (p s t : Nat) : Seg D p (s + t) = Seg D p s ++ Seg D (p + s) t:=by
 unfold Seg
 rw [← List.drop_drop,List.take_add]
theorem seg_put_lo {P X Q D : List Int} {p s : Nat} (hD : D.take P.length = P) (h : p + s ≤ P.length) : Seg (P ++ X) p s = Seg D p s:=by
 have hP : P.length ≤ D.length:=by have:=congrArg List.length hD;rw [List.length_take] at this;omega
 apply List.ext_getElem?
 intro i
 unfold Seg
 rw [List.getElem?_take,List.getElem?_take]
 split
 ·rw [List.getElem?_drop,List.getElem?_drop,List.getElem?_append_left (by omega)]
  conv => lhs;rw [← hD]
  rw [List.getElem?_take_of_lt (by omega)]
 ·rfl
theorem seg_put_hi {P X Q D : List Int} {p s b : Nat} (hQ : Q = D.drop b) (hb : (P ++ X).length = b) (h : b ≤ p) : Seg (P ++ (X ++ Q)) p s = Seg D p s:=by
 unfold Seg
 congr 1
 rw [← List.append_assoc]
 apply List.ext_getElem?
 intro i
 rw [List.getElem?_drop,List.getElem?_drop,List.getElem?_append_right (by omega),hQ,List.getElem?_drop]
 congr 1
 omega
structure Half (K : Keys) (E : List Int) (s a : Nat) (D : List Int) : Prop where
 len : D.length = E.length
 lo : ∀ p,p < a → 2 * s ∣ p → RunAt K E (2 * s) p D
 hi : ∀ p,a ≤ p → s ∣ p → RunAt K E s p D
theorem Half.start {K : Keys} {E D : List Int} {s : Nat} (h0 : D.length = E.length) (h : ∀ p,s ∣ p → RunAt K E s p D) : Half K E s 0 D:=⟨h0,fun p hp => absurd hp (Nat.not_lt_zero _),fun p _ hp => h p hp⟩
theorem run_out {K : Keys} {E D : List Int} {s p : Nat} (hl : D.length = E.length) (hp : E.length ≤ p) : RunAt K E s p D:=by
 have h1 : Seg D p s = []:=by unfold Seg;rw [List.drop_of_length_le (by omega)];simp
 have h2 : Seg E p s = []:=by unfold Seg;rw [List.drop_of_length_le (by omega)];simp
 unfold RunAt
 rw [h1,h2]
 exact ⟨List.Pairwise.nil,List.Perm.refl _⟩
theorem seg_lt {E : List Int} (hE : E.Pairwise (· < ·)) {p s t : Nat} {x y : Int} (hx : x ∈ Seg E p s) (hy : y ∈ Seg E (p + s) t) : x < y:=by
 unfold Seg at hx hy
 obtain ⟨i,hi,ei⟩:=mem_take_at hx
 obtain ⟨j,hj,ej⟩:=mem_take_at hy
 rw [List.getElem?_drop] at ei ej
 exact pair_at hE (by omega) ei ej
theorem Half.two {K : Keys} {E D : List Int} {s a : Nat} (hE : E.Pairwise (· < ·)) (h : Half K E s a D) (ha : 2 * s ∣ a) : Two K (Seg D a s) (Seg D (a + s) s):=by
 have hsa : s ∣ a:=Nat.dvd_trans (Nat.dvd_mul_left s 2) ha
 have h1:=h.hi a (Nat.le_refl _) hsa
 have h2:=h.hi (a + s) (by omega) (Nat.dvd_add hsa (Nat.dvd_refl s))
 exact ⟨h1.1,h2.1,fun x hx y hy => seg_lt hE (h1.2.subset hx) (h2.2.subset hy)⟩
theorem Half.merge {K : Keys} {E D X : List Int} {s a : Nat} (h : Half K E s a D) (ha : 2 * s ∣ a) (hs : 0 < s) (hal : a ≤ D.length) (hX : Merged K (Seg D a s) (Seg D (a + s) s) X) : Half K E s (a + 2 * s) (D.take a ++ (X ++ D.drop (a + s + s))):=by
 have hXl : X.length = min (2 * s) (D.length - a):=by
  rw [hX.perm.length_eq,List.length_append,seg_len,seg_len];omega
 have hla : (D.take a).length = a:=by rw [List.length_take];omega
 have hsa : s ∣ a:=Nat.dvd_trans (Nat.dvd_mul_left s 2) ha
 have h1:=h.hi a (Nat.le_refl _) hsa
 have h2:=h.hi (a + s) (by omega) (Nat.dvd_add hsa (Nat.dvd_refl s))
 have hlen : (D.take a ++ (X ++ D.drop (a + s + s))).length = E.length:=by
  rw [← h.len,List.length_append,List.length_append,List.length_drop,hla,hXl];omega
 refine ⟨hlen,fun p hp hd => ?_,fun p hp hd => ?_⟩
 ·by_cases e : p = a
  ·subst e
   have e1 : Seg (D.take p ++ (X ++ D.drop (p + s + s))) p (2 * s) = X:=by
    unfold Seg
    rw [List.drop_append_of_le_length (by omega),List.drop_of_length_le (by omega),List.nil_append]
    by_cases c : p + 2 * s ≤ D.length
    ·rw [List.take_append_of_le_length (by omega),List.take_of_length_le (by omega)]
    ·rw [List.drop_of_length_le (by omega : D.length ≤ p + s + s),List.append_nil,List.take_of_length_le (by omega)]
   unfold RunAt
   rw [e1]
   refine ⟨hX.sorted,hX.perm.trans ?_⟩
   rw [Nat.two_mul,seg_cut E p s s]
   exact h1.2.append h2.2
  ·have hpa : p < a:=by
    obtain ⟨u,hu⟩:=hd
    obtain ⟨v,hv⟩:=ha
    have : u ≤ v:=by
     apply Nat.le_of_lt_succ
     apply Nat.lt_of_mul_lt_mul_left (a:=2 * s)
     rw [Nat.mul_succ];omega
    have h3 : u ≠ v:=fun q => e (by rw [hu,hv,q])
    have : 2 * s * u < 2 * s * v:=Nat.mul_lt_mul_of_pos_left (by omega) (by omega)
    omega
   have hpa2 : p + 2 * s ≤ a:=by
    obtain ⟨u,hu⟩:=hd
    obtain ⟨v,hv⟩:=ha
    have : u < v:=by
     apply Nat.lt_of_mul_lt_mul_left (a:=2 * s)
     omega
    have h4 : 2 * s * (u + 1) ≤ 2 * s * v:=Nat.mul_le_mul_left _ this
    rw [Nat.mul_succ] at h4
    omega
   have h3:=h.lo p hpa hd
   unfold RunAt at h3 ⊢
   rw [seg_put_lo (Q:=[]) (D:=D) (by rw [hla]) (by rw [hla];exact hpa2)]
   exact h3
 ·by_cases c : D.length ≤ p
  ·exact run_out hlen (by rw [← h.len];exact c)
  have h3:=h.hi p (by omega) hd
  unfold RunAt at h3 ⊢
  rw [seg_put_hi (b:=a + s + s) rfl (by rw [List.length_append,hla,hXl];omega) (by omega)]
  exact h3
theorem Half.done {K : Keys} {E D : List Int} {s a : Nat} (h : Half K E s a D) (ha : 2 * s ∣ a) (hs : 0 < s) (hl : E.length ≤ a + s) : ∀ p,2 * s ∣ p → RunAt K E (2 * s) p D:=by
 intro p hd
 by_cases c : p < a
 ·exact h.lo p c hd
 by_cases c2 : E.length ≤ p
 ·exact run_out h.len c2
 have hpa : p = a:=by
  obtain ⟨u,hu⟩:=hd
  obtain ⟨v,hv⟩:=ha
  have h1 : v ≤ u:=by
   apply Nat.le_of_lt_succ
   apply Nat.lt_of_mul_lt_mul_left (a:=2 * s)
   rw [Nat.mul_succ];omega
  have h2 : u ≤ v:=by
   apply Nat.le_of_lt_succ
   apply Nat.lt_of_mul_lt_mul_left (a:=2 * s)
   rw [Nat.mul_succ];omega
  rw [hu,hv,Nat.le_antisymm h2 h1]
 subst hpa
 have hsa : s ∣ p:=Nat.dvd_trans (Nat.dvd_mul_left s 2) ha
 have h1:=h.hi p (Nat.le_refl _) hsa
 have e1 : Seg D p (2 * s) = Seg D p s:=by
  unfold Seg
  rw [List.take_of_length_le (by rw [List.length_drop,h.len];omega),List.take_of_length_le (by rw [List.length_drop,h.len];omega)]
 have e2 : Seg E p (2 * s) = Seg E p s:=by
  unfold Seg
  rw [List.take_of_length_le (by rw [List.length_drop];omega),List.take_of_length_le (by rw [List.length_drop];omega)]
 unfold RunAt at h1 ⊢
 rw [e1,e2]
 exact h1
structure Firsts (K : Keys) (E : List Int) (s a : Nat) (D : List Int) : Prop where
 len : D.length = E.length
 lo : ∀ p,p < a → s ∣ p → RunAt K E s p D
 hi : D.drop a = E.drop a
theorem Firsts.next {K : Keys} {E D X : List Int} {s a : Nat} (h : Firsts K E s a D) (ha : s ∣ a) (hs : 0 < s) (hal : a ≤ D.length) (hp : X.Perm (Seg D a s)) (hX : X.Pairwise K.T) : Firsts K E s (a + s) (D.take a ++ (X ++ D.drop (a + s))):=by
 have hXl : X.length = min s (D.length - a):=by rw [hp.length_eq,seg_len]
 have hla : (D.take a).length = a:=by rw [List.length_take];omega
 have hlen : (D.take a ++ (X ++ D.drop (a + s))).length = E.length:=by
  rw [← h.len,List.length_append,List.length_append,List.length_drop,hla,hXl];omega
 have hseg : Seg D a s = Seg E a s:=by unfold Seg;rw [h.hi]
 refine ⟨hlen,fun p hpp hd => ?_,?_⟩
 ·by_cases e : p = a
  ·subst e
   have e1 : Seg (D.take p ++ (X ++ D.drop (p + s))) p s = X:=by
    unfold Seg
    rw [List.drop_append_of_le_length (by omega),List.drop_of_length_le (by omega),List.nil_append]
    by_cases c : p + s ≤ D.length
    ·rw [List.take_append_of_le_length (by omega),List.take_of_length_le (by omega)]
    ·rw [List.drop_of_length_le (by omega : D.length ≤ p + s),List.append_nil,List.take_of_length_le (by omega)]
   unfold RunAt
   rw [e1,← hseg]
   exact ⟨hX,hp⟩
  ·have hpa2 : p + s ≤ a:=by
    obtain ⟨u,hu⟩:=hd
    obtain ⟨v,hv⟩:=ha
    have h1 : u ≤ v:=by
     apply Nat.le_of_lt_succ
     apply Nat.lt_of_mul_lt_mul_left (a:=s)
     rw [Nat.mul_succ];omega
    have h2 : u ≠ v:=fun q => e (by rw [hu,hv,q])
    have h4 : s * (u + 1) ≤ s * v:=Nat.mul_le_mul_left _ (by omega)
    rw [Nat.mul_succ] at h4
    omega
   have h3:=h.lo p (by omega) hd
   unfold RunAt at h3 ⊢
   rw [seg_put_lo (Q:=[]) (D:=D) (by rw [hla]) (by rw [hla];exact hpa2)]
   exact h3
 ·by_cases c : a + s ≤ D.length
  ·rw [← List.append_assoc,List.drop_append_of_le_length (by rw [List.length_append,hla,hXl];omega),List.drop_of_length_le (by rw [List.length_append,hla,hXl];omega),List.nil_append]
   have:=congrArg (List.drop s) h.hi
   rwa [List.drop_drop,List.drop_drop] at this
  ·rw [List.drop_of_length_le (by rw [hlen,← h.len];omega),List.drop_of_length_le (by rw [← h.len];omega)]
theorem Firsts.all {K : Keys} {E D : List Int} {s a : Nat} (h : Firsts K E s a D) (hl : E.length ≤ a) : ∀ p,s ∣ p → RunAt K E s p D:=by
 intro p hd
 by_cases c : p < a
 ·exact h.lo p c hd
 ·exact run_out h.len (by omega)
theorem Firsts.start (K : Keys) (E : List Int) (s : Nat) : Firsts K E s 0 E:=⟨rfl,fun p hp => absurd hp (Nat.not_lt_zero _),rfl⟩
theorem run_all {K : Keys} {E D : List Int} {s : Nat} (hE : E.Pairwise (· < ·)) (hl : D.length = E.length) (hs : E.length ≤ s) (h : RunAt K E s 0 D) : D = rankList K E:=by
 have e1 : Seg D 0 s = D:=by unfold Seg;rw [List.drop_zero,List.take_of_length_le (by omega)]
 have e2 : Seg E 0 s = E:=by unfold Seg;rw [List.drop_zero,List.take_of_length_le (by omega)]
 unfold RunAt at h
 rw [e1,e2] at h
 exact rank_of (hE.imp fun {a b} q e => by subst e;exact Int.lt_irrefl _ q) h.2 h.1
end Go.Proofs.YtoegjiigaoanbaaGreat
namespace Go.Proofs.YtoegjiigaoanbaaGreat
open Go.RowKit Go.Deep
open Go.Lib (hid)
noncomputable def Keys.z (K : Keys) (i j : Int) : Int:=@ite _ (K.lt i j) (Classical.propDecidable _) (-1) (@ite _ (K.lt j i) (Classical.propDecidable _) 1 0)
theorem Keys.z_yes {K : Keys} {i j : Int} (h : K.lt i j) : decide (K.z i j < 0) = true:=by unfold Keys.z;rw [if_pos h];rfl
theorem Keys.z_no {K : Keys} {i j : Int} (h : ¬ K.lt i j) : decide (K.z i j < 0) = false:=by
 unfold Keys.z
 rw [if_neg h]
 split <;> rfl
abbrev CmpC (b : World) (fr : List Res) (K : Keys) (E : List Int) (gw : Nat) : Prop:=∀ (w : World) (i j : Int),Mine b w fr → i ∈ E → j ∈ E → Calls Tryz.prog 97 #[.int .i64 i,.int .i64 j,.pointer (some ⟨gw,0,none⟩)] w fun e w' => e = .returned (.int .i64 (K.z i j)) ∧ Ext w w'
theorem ints_at {D : List Int} {j : Nat} {x : Int} (h : D[j]? = some x) : (ints D)[j]? = some (.int .i64 x):=by rw [ints_get,h];rfl
set_option maxRecDepth 4000 in
theorem insertion_m {b w : World} {g n c gw : Nat} {fr : List Res} {P X Q E : List Int} {K : Keys} {a e0 : Int} (M0 : Mine b w (.row 3 1 (some ⟨g,0,none⟩) n c (ints (P ++ (X ++ Q)))::fr)) (HC0 : CmpC b fr K E gw) (hE : ∀ x ∈ X,x ∈ E) (hX : X.Pairwise (· < ·)) (ha : a = P.length) (he : e0 = P.length + X.length) (hn : n ≤ 1048576) :
  Calls Tryz.prog 203 #[.slice (some ⟨g,0,none⟩) n c,.int .i64 a,.int .i64 e0,.func (.func 97) #[] #[.pointer (some ⟨gw,0,none⟩)]] w fun e w' => e = .returned (.tuple #[]) ∧ ∃ X' : List Int,X'.Perm X ∧ X'.Pairwise K.T ∧ Mine b w' (.row 3 1 (some ⟨g,0,none⟩) n c (ints (P ++ (X' ++ Q)))::fr):=by
 have hl : P.length + X.length + Q.length = n:=by have h:=M0.len1 0 rfl;rw [ints_length] at h;rw [← h];simp;omega
 have M:=hid M0
 have HC:=hid HC0
 have HE:=hid hE
 have HX:=hid hX
 obtain ⟨p,hp⟩ : ∃ p,p = P.length:=⟨_,rfl⟩
 obtain ⟨x,hx⟩ : ∃ x,x = X.length:=⟨_,rfl⟩
 have ha0 : 0 ≤ a:=by omega
 have hae : a ≤ e0:=by omega
 have hen : e0 ≤ n:=by omega
 have HA : Hid (a = (p : Int)):=by show _ = _;omega
 have HP:=hid hp
 have HL : Hid (e0 = (p : Int) + (x : Int)):=by show _ = _;omega
 have HXL:=hid hx
 clear ha he hl hp hx M0 HC0 hE hX
 go_enter Tryz.func203,Tryz.ntmps203
 by_cases hx0 : x = 0
 ·go_wp2
  go_loopw [8] (fun i wr => i = .int .i64 (a + 1) ∧ Hid (Mine b wr (.row 3 1 (some ⟨g,0,none⟩) n c (ints (P ++ (X ++ Q)))::fr))) (fun _ _ => 0)
  case atStart => exact ⟨rfl,M⟩
  case round =>
   clear M
   obtain ⟨rfl,M⟩:=hrel
   have hlt : ¬ a + 1 < e0:=by have:=HL.out;have:=HA.out;omega
   have e : X = []:=List.eq_nil_of_length_eq_zero (by have:=HXL.out;omega)
   have H9 : Hid (X.Perm X ∧ X.Pairwise K.T):=by subst e;exact ⟨List.Perm.refl _,List.Pairwise.nil⟩
   clear e
   go_wp2
   first|refine bodyPost_ret (v:=.tuple #[]) (by simp [results,Tryz.results203,go_sem]) rfl ?_|refine bodyPost_end (v:=.tuple #[]) (by simp [results,Tryz.results203,go_sem]) rfl ?_
   exact ⟨rfl,X,H9.out.1,H9.out.2,M.out⟩
 have hx1 : 1 ≤ x:=by omega
 clear hx0
 go_wp2
 go_loopw [8] (fun i wr => ∃ (k : Nat) (S : List Int) (I : Int),1 ≤ k ∧ k ≤ x ∧ i = .int .i64 I ∧ Hid (I = a + k) ∧ Hid (S.length = k) ∧ Hid (S.Perm (X.take k)) ∧ Hid (S.Pairwise K.T) ∧ Hid (Mine b wr (.row 3 1 (some ⟨g,0,none⟩) n c (ints (P ++ (S ++ (X.drop k ++ Q))))::fr))) (fun i _ => (e0 - intOf i).toNat)
 case atStart => exact ⟨1,X.take 1,a + 1,Nat.le_refl _,hx1,rfl,rfl,by show _ = _;rw [List.length_take];have:=HXL.out;omega,List.Perm.refl _,by (cases hq : X.take 1 with|nil => exact List.Pairwise.nil|cons z zs => (have hz : zs = []:=List.eq_nil_of_length_eq_zero (by have h:=congrArg List.length hq;rw [List.length_take,List.length_cons] at h;omega));subst hz;exact List.pairwise_singleton _ _),by rw [← List.append_assoc (X.take 1),List.take_append_drop];exact M⟩
 case round =>
  clear M hx1
  obtain ⟨k,S,I,hk1,hkx,rfl,HI,HS,HSP,HSO,M⟩:=hrel
  have hI0 : 0 ≤ I:=by have:=HI.out;omega
  by_cases hlt : I < e0
  rotate_left
  ·have ek : k = x:=by have:=HI.out;have:=HL.out;have:=HA.out;omega
   have H9 : Hid (S.Perm X ∧ X.drop k = []):=⟨by have h:=HSP.out;rw [ek,HXL.out,List.take_length] at h;exact h,by rw [ek,HXL.out,List.drop_length]⟩
   have M9:=M.out
   rw [H9.out.2,List.nil_append] at M9
   have M8:=hid M9
   clear M M9 ek
   go_wp2
   first|refine bodyPost_ret (v:=.tuple #[]) (by simp [results,Tryz.results203,go_sem]) rfl ?_|refine bodyPost_end (v:=.tuple #[]) (by simp [results,Tryz.results203,go_sem]) rfl ?_
   exact ⟨rfl,S,H9.out.1,HSO.out,M8.out⟩
  have HLT:=hid hlt
  have HK : Hid (k < x):=by show _ < _;have:=HI.out;have:=HL.out;have:=HA.out;omega
  obtain ⟨y,hy⟩ : ∃ y,X[k]? = some y:=⟨_,List.getElem?_eq_getElem (by have:=HK.out;have:=HXL.out;omega)⟩
  have HY:=hid hy
  have hd : X.drop k = y::X.drop (k + 1):=by obtain ⟨h1,h2⟩:=List.getElem?_eq_some_iff.1 hy;rw [List.drop_eq_getElem_cons h1,h2]
  rw [hd] at M
  have HYE : Hid (y ∈ E):=HE.out y (List.mem_of_getElem? hy)
  have HYL : Hid (∀ s ∈ S,s < y):=fun s hs => by obtain ⟨i,hi,ei⟩:=mem_take_at (HSP.out.subset hs);exact pair_at HX.out hi ei hy
  have HSE : Hid (∀ s ∈ S,s ∈ E):=fun s hs => HE.out s (List.mem_of_mem_take (HSP.out.subset hs))
  clear hd hy
  go_wp2
  go_loopw [9] (fun j wr => ∃ (S1 S2 : List Int) (J : Int),j = .int .i64 J ∧ Hid (J = a + S1.length) ∧ Hid (S1 ++ S2 = S) ∧ Hid (∀ s ∈ S2,K.lt y s) ∧ Hid (Mine b wr (.row 3 1 (some ⟨g,0,none⟩) n c (ints (P ++ (S1 ++ (y::(S2 ++ (X.drop (k + 1) ++ Q))))))::fr))) (fun j _ => (intOf j - a).toNat)
  case atStart => exact ⟨S,[],I,rfl,by show _ = _;rw [HI.out,HS.out],List.append_nil S,fun s hs => (by cases hs),M⟩
  case round =>
   clear M
   obtain ⟨S1,S2,J,rfl,HJ,HSS,HLT2,M⟩:=hrel
   have HLS : Hid (S1.length + S2.length = k):=by have h:=congrArg List.length HSS.out;rw [List.length_append,HS.out] at h;exact h
   rcases List.eq_nil_or_concat S1 with h0|⟨S0,z,h0⟩
   ·have HB : Hid (∀ s ∈ S1,K.T s y):=by subst h0;exact fun s hs => (by cases hs)
    have hJa : ¬ a < J:=by have h:=HJ.out;rw [h0] at h;simp at h;omega
    have hJ0 : 0 ≤ J:=by have h:=HJ.out;omega
    have hJd : decide (a < J) = false:=decide_eq_false hJa
    clear h0
    go_wp2
    refine zRQ M.out ?_
    repeat (first|go_big_quiet_skip|(go_big_quiet_want;first|(unfold Oper.quiet;apply Exists.intro;refine ⟨fun wq hq => ?_,?_⟩;(clear hq;go_simp;first|done|rfl|exact ⟨rfl,rfl⟩);(try simp only [zs_,zl_]);go_big_quiet_on)))
    refine wpQuiet_nil ?_
    intro w' M'
    replace M:=hid M'
    clear M'
    go_wp2
    go_roundw
    case rel =>
     refine ⟨k + 1,S1 ++ y::S2,I + 1,by omega,by have:=HK.out;omega,rfl,by show _ = _;rw [HI.out];omega,by show _ = _;have h9:=HLS.out;simp at h9 ⊢;omega,?_,ins_sorted (by rw [HSS.out];exact HSO.out) (HB.out) (fun s hs => Keys.T_lt (HLT2.out s hs)),by simpa only [List.append_assoc,List.cons_append] using M⟩
     show List.Perm _ _
     have hyy:=HY.out
     obtain ⟨h1,h2⟩:=List.getElem?_eq_some_iff.1 hyy
     rw [List.take_succ_eq_append_getElem h1,h2]
     refine List.perm_middle.trans ?_
     rw [HSS.out]
     exact (HSP.out.cons y).trans (List.perm_append_comm (l₁:=[y]))
    case measure => have:=HLT.out;simp [intOf];omega
   rw [List.concat_eq_append] at h0
   subst h0
   have hJ1 : Hid (J - 1 = a + S0.length):=by have h:=HJ.out;show _ = _;rw [List.length_append] at h;simp at h;omega
   have hJa : a < J:=by have:=hJ1.out;omega
   have hJd : decide (a < J) = true:=decide_eq_true hJa
   have hJ0 : 0 ≤ J:=by omega
   have hJ11 : 1 ≤ J:=by omega
   have hJm : 0 ≤ J - 1:=by omega
   have hJn : J < (n : Int):=by have h1:=hJ1.out;have h2:=HLS.out;have h3:=HL.out;have h4:=HA.out;have h5:=HK.out;rw [List.length_append] at h2;simp at h2;omega
   have hJn1 : J - 1 < (n : Int):=by omega
   have e1 : P ++ (S0 ++ [z] ++ (y::(S2 ++ (X.drop (k + 1) ++ Q)))) = (P ++ S0) ++ (z::y::(S2 ++ (X.drop (k + 1) ++ Q))):=by simp
   rw [e1] at M
   clear e1
   obtain ⟨D,hD⟩ : ∃ D,D = (P ++ S0) ++ (z::y::(S2 ++ (X.drop (k + 1) ++ Q))):=⟨_,rfl⟩
   rw [← hD] at M
   have HD:=hid hD
   clear hD
   have eP : Hid ((J.toNat - 1) = (P ++ S0).length):=by show _ = _;have h1:=hJ1.out;have h2:=HA.out;have h3:=HP.out;rw [List.length_append];omega
   have eJ : Hid (J.toNat = (P ++ S0).length + 1):=by show _ = _;have h1:=hJ1.out;have h2:=HA.out;have h3:=HP.out;rw [List.length_append];omega
   have hz1 : (ints D)[(J.toNat - 1)]? = some (.int .i64 z):=by rw [HD.out];exact ints_at (at_mid eP.out)
   have hy1 : (ints D)[J.toNat]? = some (.int .i64 y):=by rw [HD.out,eJ.out];exact ints_at (at_mid1 rfl)
   have HZE : Hid (z ∈ E):=HSE.out z (by rw [← HSS.out];simp)
   have HZL : Hid (z < y):=HYL.out z (by rw [← HSS.out];simp)
   have WJ : IntKind.i64.wrap (J - 1) = J - 1:=Go.IntWalk.i64_in _ (by omega)
   by_cases hlz : K.lt y z
   rotate_left
   ·have hc:=Keys.z_no hlz
    have HB : Hid (∀ s ∈ S0 ++ [z],K.T s y):=last_all (List.pairwise_append.1 (by rw [HSS.out];exact HSO.out : (S0 ++ [z] ++ S2).Pairwise K.T)).1 (Keys.T_of hlz HZL.out)
    clear hlz
    go_wp2
    refine zRQ M.out ?_
    repeat (first|go_big_quiet_skip|(go_big_quiet_want;first|((first|refine Mine.oq_getr _ _ rfl 0 _ rfl rfl _ (by exact hy1) _ (by first|exact Tryz.underlying3) (by rfl) ?_|refine Mine.oq_getr _ _ rfl 0 _ rfl rfl _ (by exact hz1) _ (by first|exact Tryz.underlying3) (by rfl) ?_);(try simp only [zr_,zm_]);go_big_quiet_on)|(unfold Oper.quiet;apply Exists.intro;refine ⟨fun wq hq => ?_,?_⟩;(go_simp;(with_reducible refine (HC.out wq y z hq.tail HYE.out HZE.out).mono ?_);rintro e w2 ⟨rfl,x2⟩;exact ⟨rfl,hq.on x2⟩);(try simp only [zs_,zl_]);go_big_quiet_on)|(unfold Oper.quiet;apply Exists.intro;refine ⟨fun wq hq => ?_,?_⟩;(clear hq;go_simp;first|done|rfl|exact ⟨rfl,rfl⟩);(try simp only [zs_,zl_]);go_big_quiet_on)))
    refine wpQuiet_nil ?_
    intro w' M'
    replace M:=hid M'
    clear M'
    clear WJ
    go_wp2
    have e1 : D = P ++ (S0 ++ [z] ++ (y::(S2 ++ (X.drop (k + 1) ++ Q)))):=by rw [HD.out];simp
    rw [e1] at M
    go_roundw
    case rel =>
     refine ⟨k + 1,(S0 ++ [z]) ++ y::S2,I + 1,by omega,by have:=HK.out;omega,rfl,by show _ = _;rw [HI.out];omega,by show _ = _;have h9:=HLS.out;simp at h9 ⊢;omega,?_,ins_sorted (by rw [HSS.out];exact HSO.out) (HB.out) (fun s hs => Keys.T_lt (HLT2.out s hs)),by simpa only [List.append_assoc,List.cons_append] using M⟩
     show List.Perm _ _
     have hyy:=HY.out
     obtain ⟨h1,h2⟩:=List.getElem?_eq_some_iff.1 hyy
     rw [List.take_succ_eq_append_getElem h1,h2]
     refine List.perm_middle.trans ?_
     rw [HSS.out]
     exact (HSP.out.cons y).trans (List.perm_append_comm (l₁:=[y]))
    case measure => have:=HLT.out;simp [intOf];omega
   have hc:=Keys.z_yes hlz
   have HZ2:=hid hlz
   clear hlz
   go_wp2
   refine zRQ M.out ?_
   repeat (first|go_big_quiet_skip|(go_big_quiet_want;first|((first|refine Mine.oq_getr _ _ rfl 0 _ rfl rfl _ (by exact hy1) _ (by first|exact Tryz.underlying3) (by rfl) ?_|refine Mine.oq_getr _ _ rfl 0 _ rfl rfl _ (by exact hz1) _ (by first|exact Tryz.underlying3) (by rfl) ?_);(try simp only [zr_,zm_]);go_big_quiet_on)|(unfold Oper.quiet;apply Exists.intro;refine ⟨fun wq hq => ?_,?_⟩;(go_simp;(with_reducible refine (HC.out wq y z hq.tail HYE.out HZE.out).mono ?_);rintro e w2 ⟨rfl,x2⟩;exact ⟨rfl,hq.on x2⟩);(try simp only [zs_,zl_]);go_big_quiet_on)|(unfold Oper.quiet;apply Exists.intro;refine ⟨fun wq hq => ?_,?_⟩;(clear hq;go_simp;first|done|rfl|exact ⟨rfl,rfl⟩);(try simp only [zs_,zl_]);go_big_quiet_on)))
   refine wpQuiet_nil ?_
   intro w' M'
   replace M:=hid M'
   clear M'
   clear hc
   go_wp2
   have q1 : w'.cell? ⟨g,J.toNat,none⟩ = some _:=((M.out.row_at 0 rfl).cellAt _ (by omega)).trans hy1
   have q2 : w'.cell? ⟨g,(J.toNat - 1),none⟩ = some _:=((M.out.row_at 0 rfl).cellAt _ (by omega)).trans hz1
   have f1 : w'.frozen? ⟨g,J.toNat,none⟩ = false:=(M.out.row_at 0 rfl).frozenAt _
   have f2 : w'.frozen? ⟨g,(J.toNat - 1),none⟩ = false:=(M.out.row_at 0 rfl).frozenAt _
   have hne : ¬ J.toNat = (J.toNat - 1):=by omega
   go_region
   all_goals
    have M2:=(M.out.dr.put 0 rfl J.toNat (.int .i64 z)).put 0 rfl (J.toNat - 1) (.int .i64 y)
    simp only [List.set_cons_zero,ints_set] at M2
    have eL : (D.set J.toNat z).set (J.toNat - 1) y = P ++ (S0 ++ (y::((z::S2) ++ (X.drop (k + 1) ++ Q)))):=by
     rw [eP.out,eJ.out,HD.out,swap_parts rfl];simp
    rw [eL] at M2
    replace M2:=hid M2
    go_wp2
    go_roundw
    case rel => exact ⟨S0,z::S2,J - 1,rfl,hJ1,by show _ = _;rw [← HSS.out];simp,fun s hs => (by rcases List.mem_cons.1 hs with h|h;(subst h;exact HZ2.out);exact HLT2.out s h),M2⟩
    case measure => simp [intOf];omega
theorem Root.at4 {w : World} {S : Nat → Prop} {row : List Value} {r : Root} (h : Root.R w S row r) : row.toArray[4]? = some (.int .i64 r.rv_):=by
 obtain ⟨A0,n0,c0,A1,n1,c1,A2,n2,c2,A3,n3,c3,A4,n4,c4,A5,n5,c5,A6,n6,c6,A7,n7,c7,A8,n8,c8,A9,n9,c9,A10,n10,c10,A11,n11,c11,A12,n12,c12,A13,n13,c13,rfl⟩:=Root.R_cells h
 rfl
theorem Root.at10 {w : World} {S : Nat → Prop} {row : List Value} {r : Root} (h : Root.R w S row r) : row.toArray[10]? = some (.int .i64 r.ended_):=by
 obtain ⟨A0,n0,c0,A1,n1,c1,A2,n2,c2,A3,n3,c3,A4,n4,c4,A5,n5,c5,A6,n6,c6,A7,n7,c7,A8,n8,c8,A9,n9,c9,A10,n10,c10,A11,n11,c11,A12,n12,c12,A13,n13,c13,rfl⟩:=Root.R_cells h
 rfl
def ltR (r s : Root) : Prop:=stampOf r < stampOf s ∨ (stampOf r = stampOf s ∧ ((¬ stampOf r = r.rv_ ∧ stampOf s = s.rv_) ∨ ((stampOf r = r.rv_ ↔ stampOf s = s.rv_) ∧ r.ended_ < s.ended_)))
noncomputable def zR (r s : Root) : Int:=@ite _ (ltR r s) (Classical.propDecidable _) (-1) (@ite _ (ltR s r) (Classical.propDecidable _) 1 0)
def rootAt (x : GWorld) (i : Int) : Root:=x.roots_.getD i.toNat default
theorem rootAt_is {x : GWorld} {k : Nat} {r : Root} (h : x.roots_[k]? = some r) : rootAt x (k : Int) = r:=by unfold rootAt;rw [Int.toNat_natCast,List.getD_eq_getElem?_getD,h];rfl
noncomputable def rkeys (x : GWorld) : Keys:=⟨fun i => stampOf (rootAt x i),fun i => @ite _ (stampOf (rootAt x i) = (rootAt x i).rv_) (Classical.propDecidable _) 1 0,fun i => (rootAt x i).ended_⟩
theorem rkeys_lt (x : GWorld) (i j : Int) : (rkeys x).lt i j ↔ ltR (rootAt x i) (rootAt x j):=by
 unfold Keys.lt rkeys ltR
 simp only
 generalize rootAt x i = r
 generalize rootAt x j = s
 by_cases h1 : stampOf r = r.rv_ <;> by_cases h2 : stampOf s = s.rv_ <;> simp [h1,h2]
theorem rkeys_z (x : GWorld) (i j : Int) : (rkeys x).z i j = zR (rootAt x i) (rootAt x j):=by
 unfold Keys.z zR
 rw [show ((rkeys x).lt i j) = ltR (rootAt x i) (rootAt x j) from propext (rkeys_lt x i j),show ((rkeys x).lt j i) = ltR (rootAt x j) (rootAt x i) from propext (rkeys_lt x j i)]
theorem zR_lt {r s : Root} (h : ltR r s) : zR r s = -1:=by unfold zR;rw [if_pos h]
theorem zR_gt {r s : Root} (h : ltR s r) : zR r s = 1:=by
 have h2 : ¬ ltR r s:=by unfold ltR at *;omega
 unfold zR;rw [if_neg h2,if_pos h]
theorem zR_eq {r s : Root} (h : ¬ ltR r s) (h2 : ¬ ltR s r) : zR r s = 0:=by unfold zR;rw [if_neg h,if_neg h2]
noncomputable def ranksOf (x : GWorld) : List Int:=rankList (rkeys x) (pickTo settledOf x.roots_ x.roots_.length)
theorem ranks_len (x : GWorld) : (ranksOf x).length ≤ x.roots_.length:=by unfold ranksOf;rw [(rank_perm _ _).length_eq];exact pick_len _ _ _
set_option maxRecDepth 8000 in
theorem earlier_any (r s : Root) (row1 row2 : List Value) (w : World) (S S2 : Nat → Prop) (h1 : Root.R w S row1 r) (h2 : Root.R w S2 row2 s) :
  Calls Tryz.prog 98 #[.agg row1.toArray,.agg row2.toArray] w fun e w' => e = .returned (.int .i64 (zR r s)) ∧ Ext w w':=by
 have a4:=Root.at4 h1
 have a10:=Root.at10 h1
 have b4:=Root.at4 h2
 have b10:=Root.at10 h2
 have H1:=hid h1
 have H2:=hid h2
 have L1 : Hid (row1.length = 40):=Root.R_good.len h1
 have L2 : Hid (row2.length = 40):=Root.R_good.len h2
 have M : Hid (Mine w ((w.alloc (.cells row1.toArray 97)).alloc (.cells row2.toArray 97)) [.box (w.heap.size + 1) 97 row2.toArray,.box w.heap.size 97 row1.toArray]):=by
  have h:=((Mine.refl w).box 97 row1.toArray).box 97 row2.toArray
  simp only [World.heap_alloc_size] at h
  exact h
 obtain ⟨X,hX⟩ : ∃ X,X = stampOf r:=⟨_,rfl⟩
 obtain ⟨Y,hY⟩ : ∃ Y,Y = stampOf s:=⟨_,rfl⟩
 have HX:=hid hX
 have HY:=hid hY
 clear h1 h2 hX hY
 by_cases c1 : X < Y
 have HZ:=hid (zR_lt (r:=r) (s:=s) (by unfold ltR;rw [← HX.out,← HY.out];omega))
 rotate_left
 by_cases c2 : Y < X
 have HZ:=hid (zR_gt (r:=r) (s:=s) (by unfold ltR;rw [← HX.out,← HY.out];omega))
 rotate_left
 have hxy : Hid (X = Y):=by show _ = _;omega
 by_cases p : X = r.rv_
 have bp : (X != r.rv_) = false:=by simp [p]
 have bp2 : (X == r.rv_) = true:=by simp [p]
 by_cases q : Y = s.rv_
 have bq : (Y == s.rv_) = true:=by simp [q]
 have bq2 : (Y != s.rv_) = false:=by simp [q]
 have HPQ : Hid (X = r.rv_ ↔ Y = s.rv_):=by show _ ↔ _;omega
 clear p q
 by_cases e1 : r.ended_ < s.ended_
 have HZ:=hid (zR_lt (r:=r) (s:=s) (by unfold ltR;rw [← HX.out,← HY.out];exact .inr ⟨hxy.out,.inr ⟨HPQ.out,e1⟩⟩))
 rotate_left
 by_cases e2 : s.ended_ < r.ended_
 have HZ:=hid (zR_gt (r:=r) (s:=s) (by unfold ltR;rw [← HX.out,← HY.out];exact .inr ⟨hxy.out.symm,.inr ⟨HPQ.out.symm,e2⟩⟩))
 rotate_left
 have HZ:=hid (zR_eq (r:=r) (s:=s) (by unfold ltR;rw [← HX.out,← HY.out];have h1:=HPQ.out;have h2:=hxy.out;omega) (by unfold ltR;rw [← HX.out,← HY.out];have h1:=HPQ.out;have h2:=hxy.out;omega))
 rotate_left
 have bq : (Y == s.rv_) = false:=by simp [q]
 have bq2 : (Y != s.rv_) = true:=by simp [q]
 have HZ:=hid (zR_gt (r:=r) (s:=s) (by unfold ltR;rw [← HX.out,← HY.out];exact .inr ⟨hxy.out.symm,.inl ⟨q,p⟩⟩))
 clear p q
 rotate_left
 have bp : (X != r.rv_) = true:=by simp [p]
 have bp2 : (X == r.rv_) = false:=by simp [p]
 by_cases q : Y = s.rv_
 have bq : (Y == s.rv_) = true:=by simp [q]
 have bq2 : (Y != s.rv_) = false:=by simp [q]
 have HZ:=hid (zR_lt (r:=r) (s:=s) (by unfold ltR;rw [← HX.out,← HY.out];exact .inr ⟨hxy.out,.inl ⟨p,q⟩⟩))
 clear p q
 rotate_left
 have bq : (Y == s.rv_) = false:=by simp [q]
 have bq2 : (Y != s.rv_) = true:=by simp [q]
 have HPQ : Hid (X = r.rv_ ↔ Y = s.rv_):=by show _ ↔ _;omega
 clear p q
 by_cases e1 : r.ended_ < s.ended_
 have HZ:=hid (zR_lt (r:=r) (s:=s) (by unfold ltR;rw [← HX.out,← HY.out];exact .inr ⟨hxy.out,.inr ⟨HPQ.out,e1⟩⟩))
 rotate_left
 by_cases e2 : s.ended_ < r.ended_
 have HZ:=hid (zR_gt (r:=r) (s:=s) (by unfold ltR;rw [← HX.out,← HY.out];exact .inr ⟨hxy.out.symm,.inr ⟨HPQ.out.symm,e2⟩⟩))
 rotate_left
 have HZ:=hid (zR_eq (r:=r) (s:=s) (by unfold ltR;rw [← HX.out,← HY.out];have h1:=HPQ.out;have h2:=hxy.out;omega) (by unfold ltR;rw [← HX.out,← HY.out];have h1:=HPQ.out;have h2:=hxy.out;omega))
 rotate_left
 all_goals
  go_enter Tryz.func98,Tryz.ntmps98
  go_wp2
  refine zRQ M.out ?_
  repeat (first|go_big_quiet_skip|(go_big_quiet_want;first|((first|refine zOr rfl 1 rfl rfl L1 ?_|refine zOr rfl 0 rfl rfl L2 ?_);(try simp only [zr_,zm_]);go_big_quiet_on)|(unfold Oper.quiet;apply Exists.intro;refine ⟨fun wq hq => ?_,?_⟩;(go_simp;go_at_call 156;(with_reducible refine (impl_StampOf r row1 _ _ (Root.R_good.ext H1.out hq.ext)).mono ?_);rintro e w2 ⟨rfl,x2⟩;exact ⟨rfl,hq.on x2⟩);(try simp only [zs_,zl_]);go_big_quiet_on)|(unfold Oper.quiet;apply Exists.intro;refine ⟨fun wq hq => ?_,?_⟩;(go_simp;go_at_call 156;(with_reducible refine (impl_StampOf s row2 _ _ (Root.R_good.ext H2.out hq.ext)).mono ?_);rintro e w2 ⟨rfl,x2⟩;exact ⟨rfl,hq.on x2⟩);(try simp only [zs_,zl_]);go_big_quiet_on)|(unfold Oper.quiet;apply Exists.intro;refine ⟨fun wq hq => ?_,?_⟩;(clear hq;go_simp;first|done|rfl|exact ⟨rfl,rfl⟩);(try simp only [zs_,zl_]);go_big_quiet_on)))
  refine wpQuiet_nil ?_
  intro w' M'
  replace M:=hid M'
  clear M'
  rw [← HX.out,← HY.out]
  go_wp2_with (first|((with_reducible refine zN ?_);first|((first|refine Mine.wp_get M.out rfl _ _ rfl 1 _ rfl rfl _ (by assumption) _ (by first|exact Tryz.underlying3) (by rfl) ?_|refine Mine.wp_get M.out rfl _ _ rfl 0 _ rfl rfl _ (by assumption) _ (by first|exact Tryz.underlying3) (by rfl) ?_);(try simp only [zr_,zm_])))|((with_reducible show wpList _ _ _ (⟨_,.load _ _,_,_,_,some _⟩::_) _ _);first|(refine Mine.wp_getg M.out (by rfl) _ _ rfl 0 _ rfl rfl _ (by assumption) _ (by first|exact Tryz.underlying3) (by rfl) ?_;(try simp only [zr_,zm_]))))
  go_ret
  exact ⟨by rw [HZ.out];rfl,M.out.ext⟩
theorem ranks_ix {x : GWorld} {q : Nat} {y : Int} (h : (ranksOf x)[q]? = some y) : ∃ i : Nat,i < x.roots_.length ∧ y = (i : Int):=by
 obtain ⟨i,r,h1,h2,_⟩:=pick_mem.1 ((rank_perm _ _).subset (List.mem_of_getElem? h))
 exact ⟨i,h1,h2⟩
set_option maxRecDepth 8000 in
theorem Root.at17 {w : World} {S : Nat → Prop} {row : List Value} {x : Root} (h : Root.R w S row x) : ∃ (A : Option Addr) (n c : Nat),row[17]? = some (.slice A n c) ∧ n ≤ c ∧ Sl w S 1 A n (ints x.order_):=by
 obtain ⟨A0,n0,c0,A1,n1,c1,A2,n2,c2,A3,n3,c3,A4,n4,c4,A5,n5,c5,v6,v7,rfl,⟨kh0,mh0,h0⟩,⟨kh1,mh1,h1⟩,⟨kh2,mh2,h2⟩,⟨kh3,mh3,h3⟩,⟨kh4,mh4,h4⟩,⟨kh5,mh5,h5⟩,h6,h7⟩:=h
 obtain ⟨A6,n6,c6,A7,n7,c7,rfl⟩:=Commit.R_cells h6
 obtain ⟨A8,n8,c8,A9,n9,c9,A10,n10,c10,A11,n11,c11,A12,n12,c12,A13,n13,c13,rfl⟩:=Family.R_cells h7
 exact ⟨_,_,_,rfl,kh5,h5⟩
theorem SlR.of_rows {α : Type} {R : Rd α} {size : Nat} (hs : 0 < size) {w : World} {A : Option Addr} {n : Nat} {ps : List (List Value × α)} (hl : ∀ e ∈ ps,e.1.length = size) (h : Sl w (fun _ => True) size A n (ps.flatMap Prod.fst)) (ha : ∀ e ∈ ps,R w (fun _ => True) e.1 e.2) : SlR R size w (fun _ => True) A n (ps.map Prod.snd):=by
 have hlen : (ps.flatMap Prod.fst).length = ps.length * size:=by
  clear h ha
  induction ps with
  | nil => simp
  | cons a l ih => rw [List.flatMap_cons,List.length_append,hl a (List.mem_cons_self ..),ih (fun e he => hl e (List.mem_cons_of_mem _ he)),List.length_cons,Nat.add_mul,Nat.one_mul,Nat.add_comm]
 have hn : ps.length = n:=by have h1:=h.1;rw [hlen] at h1;exact Nat.eq_of_mul_eq_mul_right hs h1
 refine ⟨by simpa using hn,fun h0 => ?_⟩
 obtain ⟨b,o,e,hS,hb,hc⟩:=h.2 h0
 refine ⟨b,o,e,trivial,hb,fun k x hx => ?_⟩
 rw [List.getElem?_map] at hx
 obtain ⟨p,hp,rfl⟩:=Option.map_eq_some_iff.1 hx
 have hk:=(List.getElem?_eq_some_iff.1 hp).1
 refine ⟨p.1,ha p (List.mem_of_getElem? hp),fun j hj => ?_⟩
 have hkn : k * size + j < n * size:=by
  have : (k + 1) * size ≤ n * size:=Nat.mul_le_mul_right _ (by omega)
  rw [Nat.add_mul,Nat.one_mul] at this
  omega
 rw [Nat.add_assoc,hc _ hkn]
 clear hc hkn hlen h ha hx h0 hS hb e
 induction ps generalizing k n with
 | nil => simp at hp
 | cons a l ih =>
  rw [List.flatMap_cons]
  have ha:=hl a (List.mem_cons_self ..)
  cases k with
  | zero =>
   simp only [List.getElem?_cons_zero,Option.some.injEq] at hp
   subst hp
   rw [Nat.zero_mul,Nat.zero_add,List.getElem?_append_left (by omega)]
  | succ k =>
   rw [List.getElem?_cons_succ] at hp
   rw [List.getElem?_append_right (by rw [ha,Nat.add_mul];omega),ha,show (k + 1) * size + j - size = k * size + j by rw [Nat.add_mul];omega]
   exact ih (n:=n - 1) (k:=k) (fun e he => hl e (List.mem_cons_of_mem _ he)) (by first|exact hp|(simp at hn;omega)|(simp at hk;omega)) (by first|exact hp|(simp at hn;omega)|(simp at hk;omega)) (by first|exact hp|(simp at hn;omega)|(simp at hk;omega))
theorem fst_push {α : Type} (ps : List (List Value × α)) (v : List Value) (x : α) : ps.flatMap Prod.fst ++ v = (ps ++ [(v,x)]).flatMap Prod.fst:=by rw [List.flatMap_append];simp
def progAt (x : Script) (k : Int) : Prog:=x.progs_.getD k.toNat default
def ordAt (x : GWorld) (k : Int) : Order:=⟨(rootAt x k).order_⟩
noncomputable def ranked (x0 : Script) (x1 : GWorld) : List (Prog × List Int):=zipO ((ranksOf x1).map (progAt x0)) ((ranksOf x1).map (ordAt x1))
def replayOk (x0 : Script) (x1 : GWorld) : Prop:=scriptOk x0 = true ∧ x1.roots_.length = x0.progs_.length
noncomputable def replayF (x0 : Script) (x1 : GWorld) : List Run × Things:=@ite _ (replayOk x0 x1) (Classical.propDecidable _) (serAll (ranked x0 x1) x0.start_) ([],zThings)
theorem replay_yes {x0 : Script} {x1 : GWorld} (h : replayOk x0 x1) : replayF x0 x1 = serAll (ranked x0 x1) x0.start_:=by unfold replayF;rw [if_pos h]
theorem replay_no {x0 : Script} {x1 : GWorld} (h : ¬ replayOk x0 x1) : replayF x0 x1 = ([],zThings):=by unfold replayF;rw [if_neg h]
theorem progAt_is {x : Script} {k : Nat} {p : Prog} (h : x.progs_[k]? = some p) : progAt x (k : Int) = p:=by unfold progAt;rw [Int.toNat_natCast,List.getD_eq_getElem?_getD,h];rfl
theorem ordAt_is {x : GWorld} {k : Nat} {r : Root} (h : x.roots_[k]? = some r) : ordAt x (k : Int) = ⟨r.order_⟩:=by unfold ordAt;rw [rootAt_is h]
theorem map_take_snoc {α : Type} {l : List Int} {q : Nat} {k : Int} (f : Int → α) (h : l[q]? = some k) : (l.take (q + 1)).map f = (l.take q).map f ++ [f k]:=by rw [take_snoc h,List.map_append];rfl
theorem script_parts {x : Script} (h : scriptOk x = true) : thingsOk x.start_ = true ∧ x.progs_.length ≤ 4 ∧ ∀ p ∈ x.progs_,progOk p = true:=by
 have h1:=dec_true h
 refine ⟨h1.1,h1.2.1,fun p hp => ?_⟩
 obtain ⟨i,hi⟩:=List.mem_iff_getElem?.1 hp
 exact h1.2.2.2 i (List.getElem?_eq_some_iff.1 hi).1 p hi
theorem Tryz.infoProgU : (Tryz.prog.info? 84).map (fun i => (i.zero,i.size,i.bytes)) = some (some (.agg #[.slice none 0 0,.slice none 0 0]),2,48):=by kernel_rfl
theorem Tryz.infoOrderU : (Tryz.prog.info? 99).map (fun i => (i.zero,i.size,i.bytes)) = some (some (.agg #[.slice none 0 0]),1,24):=by kernel_rfl
theorem mem_snoc {α : Type} {p : α → Prop} {l : List α} {a : α} (h : ∀ e ∈ l,p e) (ha : p a) : ∀ e ∈ l ++ [a],p e:=fun e he => by
 rcases List.mem_append.1 he with q|q
 ·exact h e q
 ·simp only [List.mem_cons,List.not_mem_nil,or_false] at q;subst q;exact ha
theorem prog_mem {x0 : Script} {x1 : GWorld} {rk : List Int} {p : Prog} (h : ranksOf x1 = rk) (hl : x1.roots_.length = x0.progs_.length) (hp : p ∈ rk.map (progAt x0)) : p ∈ x0.progs_:=by
 obtain ⟨k,hk,rfl⟩:=List.mem_map.1 hp
 obtain ⟨q,hq⟩:=List.mem_iff_getElem?.1 hk
 obtain ⟨i,hi,rfl⟩:=ranks_ix (x:=x1) (by rw [h];exact hq)
 obtain ⟨p,hp⟩ : ∃ p,x0.progs_[i]? = some p:=⟨_,List.getElem?_eq_getElem (by omega)⟩
 rw [progAt_is hp]
 exact List.mem_of_getElem? hp
theorem ord_wt {x1 : GWorld} {rk : List Int} {o : Order} (h : ranksOf x1 = rk) (hw : ∀ r ∈ x1.roots_,r.order_.length ≤ 1048576) (ho : o ∈ rk.map (ordAt x1)) : o.kids_.length ≤ 1048576:=by
 obtain ⟨k,hk,rfl⟩:=List.mem_map.1 ho
 obtain ⟨q,hq⟩:=List.mem_iff_getElem?.1 hk
 obtain ⟨i,hi,rfl⟩:=ranks_ix (x:=x1) (by rw [h];exact hq)
 obtain ⟨r,hr⟩ : ∃ r,x1.roots_[i]? = some r:=⟨_,List.getElem?_eq_getElem hi⟩
 rw [ordAt_is hr]
 exact hw r (List.mem_of_getElem? hr)
theorem RunsV.front {b w : World} {r1 r2 r3 a1 a2 a3 a4 a5 a6 : Res} {es : List REnt} (M : Mine b w (r1::r2::r3::(es.flatMap rrows ++ [a1,a2,a3,a4,a5,a6]))) : Mine b w (r1::r2::r3::a4::es.flatMap rrows):=by
 refine (M.perm ((List.Perm.cons _ (List.Perm.cons _ (List.Perm.cons _ (List.perm_append_comm)))))).sub ?_
 exact .cons_cons _ (.cons_cons _ (.cons_cons _ (.cons _ (.cons _ (.cons _ (.cons_cons _ (.cons _ (.cons _ s1_))))))))
theorem RunsV.drop {b w : World} {r1 r2 r3 a : Res} {L : List Res} (M : Mine b w (r1::r2::r3::a::L)) : Mine b w (r1::r2::r3::L) :=
 M.sub (.cons_cons _ (.cons_cons _ (.cons_cons _ (.cons _ s1_))))
theorem dec_is {p q : Prop} [Decidable q] (h : p ↔ q) : dec p = decide q:=by
 unfold dec
 by_cases hq : q
 ·rw [decide_eq_true hq];exact @decide_eq_true _ (Classical.propDecidable p) (h.2 hq)
 ·rw [decide_eq_false hq];exact @decide_eq_false _ (Classical.propDecidable p) (fun k => hq (h.1 k))
noncomputable def cntTo (K : Keys) (l : List Int) (x : Int) (k : Nat) : Nat:=ahead K (l.take k) x
theorem cnt_all (K : Keys) (l : List Int) (x : Int) {k : Nat} (h : k = l.length) : cntTo K l x k = ahead K l x:=by unfold cntTo;rw [h,List.take_length]
theorem cnt_yes {K : Keys} {l : List Int} {x y : Int} {k : Nat} (h : l[k]? = some y) (ht : dec (K.T y x) = true) : cntTo K l x (k + 1) = cntTo K l x k + 1:=by
 obtain ⟨h1,h2⟩:=List.getElem?_eq_some_iff.1 h
 have ht':=dec_true ht
 unfold cntTo ahead
 rw [List.take_succ_eq_append_getElem h1,h2,List.filter_append,List.length_append]
 simp [ht']
theorem cnt_no {K : Keys} {l : List Int} {x y : Int} {k : Nat} (h : l[k]? = some y) (ht : dec (K.T y x) = false) : cntTo K l x (k + 1) = cntTo K l x k:=by
 obtain ⟨h1,h2⟩:=List.getElem?_eq_some_iff.1 h
 have ht':=dec_false ht
 unfold cntTo ahead
 rw [List.take_succ_eq_append_getElem h1,h2,List.filter_append,List.length_append]
 simp [ht']
theorem cnt_le (K : Keys) (l : List Int) (x : Int) (k : Nat) : cntTo K l x k ≤ k:=by
 unfold cntTo ahead
 refine Nat.le_trans (List.length_filter_le _ _) ?_
 rw [List.length_take];omega
theorem ahead_lt {K : Keys} {l : List Int} (hn : l.Nodup) {x : Int} (hx : x ∈ l) : ahead K l x < l.length:=by
 have h:=rank_at (K:=K) hn hx
 obtain ⟨h1,_⟩:=List.getElem?_eq_some_iff.1 h
 rw [(rank_perm K l).length_eq] at h1
 exact h1
theorem placed_step {K : Keys} {l O : List Int} {i : Nat} {x : Int} (hn : l.Nodup) (hO : O.length = l.length) (hx : l[i]? = some x) (h : ∀ (q : Nat) (y : Int),q < i → l[q]? = some y → O[ahead K l y]? = some y) :
  ∀ (q : Nat) (y : Int),q < i + 1 → l[q]? = some y → (O.set (ahead K l x) x)[ahead K l y]? = some y:=by
 intro q y hq hy
 have hxm:=List.mem_of_getElem? hx
 have hym:=List.mem_of_getElem? hy
 by_cases e : ahead K l x = ahead K l y
 ·have h1:=rank_at (K:=K) hn hxm
  have h2:=rank_at (K:=K) hn hym
  rw [e,h2] at h1
  injection h1 with h1
  subst h1
  rw [List.getElem?_set_self (by rw [hO];exact ahead_lt hn hym)]
 ·rw [List.getElem?_set_ne e]
  refine h q y ?_ hy
  have : q ≠ i:=by intro e2;subst e2;rw [hx] at hy;injection hy with hy;subst hy;exact e rfl
  omega
theorem placed_all {K : Keys} {l O : List Int} (hn : l.Nodup) (hO : O.length = l.length) (h : ∀ (q : Nat) (y : Int),q < l.length → l[q]? = some y → O[ahead K l y]? = some y) : O = rankList K l:=by
 have hp:=rank_perm K l
 refine List.ext_getElem? fun q => ?_
 by_cases hq : q < l.length
 ·have hq2 : q < (rankList K l).length:=by rw [hp.length_eq];exact hq
  have h1:=List.getElem?_eq_getElem hq2
  obtain ⟨p,hp1,hp2⟩:=List.getElem_of_mem (hp.subset (List.getElem_mem hq2))
  have h2:=ahead_at (rank_sorted hn) h1
  rw [ahead_perm hp] at h2
  have h3:=h p _ hp1 (by rw [List.getElem?_eq_getElem hp1,hp2])
  rw [h2] at h3
  rw [h3,h1]
 ·rw [List.getElem?_eq_none (by omega),List.getElem?_eq_none (by rw [hp.length_eq];omega)]
set_option maxRecDepth 8000 in
theorem ahead_any {b w : World} (x : GWorld) (A0 : Option Addr) (n0 c0 : Nat) (A1 : Option Addr) (n1 c1 : Nat) (A2 : Option Addr) (n2 c2 : Nat) (A3 : Option Addr) (n3 c3 : Nat) (A4 : Option Addr) (n4 c4 : Nat) (S : Nat → Prop) (hr : SlR Root.R 40 b S A3 n3 x.roots_) (hn : n3 ≤ 1048576) (hx : Ext b w) (i j : Nat) (hi : i < n3) (hj : j < n3) :
  Calls Tryz.prog 81 #[.agg #[.int .i64 x.now_,.int .i64 x.token_,.int .i64 x.mem_.clock_,.slice A0 n0 c0,.slice A1 n1 c1,.int .i64 x.shelf_.count_,.slice A2 n2 c2,.slice A3 n3 c3,.slice A4 n4 c4],.int .i64 i,.int .i64 j] w fun e w' => e = .returned (.bool (dec ((rkeys x).T i j))) ∧ Ext w w':=by
 have M : Hid (Mine w (w.alloc (.cells #[.int .i64 x.now_,.int .i64 x.token_,.int .i64 x.mem_.clock_,.slice A0 n0 c0,.slice A1 n1 c1,.int .i64 x.shelf_.count_,.slice A2 n2 c2,.slice A3 n3 c3,.slice A4 n4 c4] 58)) [.box w.heap.size 58 #[.int .i64 x.now_,.int .i64 x.token_,.int .i64 x.mem_.clock_,.slice A0 n0 c0,.slice A1 n1 c1,.int .i64 x.shelf_.count_,.slice A2 n2 c2,.slice A3 n3 c3,.slice A4 n4 c4]]):=(Mine.refl w).box 58 #[.int .i64 x.now_,.int .i64 x.token_,.int .i64 x.mem_.clock_,.slice A0 n0 c0,.slice A1 n1 c1,.int .i64 x.shelf_.count_,.slice A2 n2 c2,.slice A3 n3 c3,.slice A4 n4 c4]
 obtain ⟨bb,o,rfl⟩:=hr.addr (by omega)
 obtain ⟨r,row1,hk1,hrb,hw1,hl1,hg1⟩:=root_at hr hi
 obtain ⟨s,row2,hk2,-,hw2,hl2,hg2⟩:=root_at hr hj
 have HT : Hid ((rkeys x).T i j ↔ ltR r s ∨ (¬ ltR s r ∧ (i : Int) < j)):=by show _ ↔ _;unfold Keys.T;rw [rkeys_lt,rkeys_lt,rootAt_is hk1,rootAt_is hk2]
 have HW1:=hid (Root.R_good.ext hw1 hx)
 have HL1:=hid hl1
 have HG1:=hid (fun q v hv => (hx.cell (p:=⟨bb,_,none⟩) hrb).trans (hg1 q v hv))
 have HW2:=hid (Root.R_good.ext hw2 hx)
 have HL2:=hid hl2
 have HG2:=hid (fun q v hv => (hx.cell (p:=⟨bb,_,none⟩) hrb).trans (hg2 q v hv))
 have a4:=Root.at4 hw1
 have a10:=Root.at10 hw1
 have b4:=Root.at4 hw2
 have b10:=Root.at10 hw2
 have HRB:=hid (Nat.lt_of_lt_of_le hrb hx.size)
 have hi2 : (i : Int) < (n3 : Int):=by omega
 have hj2 : (j : Int) < (n3 : Int):=by omega
 obtain ⟨X,hX⟩ : ∃ X,X = stampOf r:=⟨_,rfl⟩
 obtain ⟨Y,hY⟩ : ∃ Y,Y = stampOf s:=⟨_,rfl⟩
 have HX:=hid hX
 have HY:=hid hY
 clear hr hk1 hk2 hw1 hw2 hl1 hl2 hg1 hg2 hrb hi hj hX hY hx
 go_enter Tryz.func81,Tryz.ntmps81
 go_wp2_with (((with_reducible refine zN ?_);first|((first|refine zG M.out 0 ?_|refine zG M.out 1 ?_|refine Mine.wp_arg M.out rfl 97 _ rfl _ _ rfl row1 HG1.out HRB.out _ Tryz.underlying97 (by rfl) (by rw [HL1.out];kernel_rfl) ?_|refine Mine.wp_arg M.out rfl 97 _ rfl _ _ rfl row2 HG2.out HRB.out _ Tryz.underlying97 (by rfl) (by rw [HL2.out];kernel_rfl) ?_);(try simp only [zr_,zm_]))|(refine Mine.wp_allocany M.out rfl 97 rfl 40 (by kernel_rfl) ?_;intro gx w' zx hzx M';replace M:=hid M';clear M';(try simp only [zr_,zm_]))|((first|refine Mine.wp_setall M.out rfl 97 _ _ rfl rfl 0 rfl rfl _ rfl (by rw [hzx,HL1.out]) (Root.R_one HW1.out) (by rw [HL1.out];kernel_rfl) ?_|refine Mine.wp_setall M.out rfl 97 _ _ rfl rfl 0 rfl rfl _ rfl (by rw [hzx,HL2.out]) (Root.R_one HW2.out) (by rw [HL2.out];kernel_rfl) ?_);intro w' M';(try simp only [zr_,zm_] at M');replace M:=hid M';clear M')))
 by_cases c1 : X = Y
 rotate_left
 ·have b1 : (X != Y) = true:=by simp [c1]
  have HZ : Hid (dec ((rkeys x).T i j) = decide (X < Y)):=dec_is (by rw [HT.out];unfold ltR;rw [← HX.out,← HY.out];omega)
  clear c1
  refine zRQ M.out ?_
  repeat (first|go_big_quiet_skip|(go_big_quiet_want;first|((first|refine zOr rfl 1 rfl rfl HL1 ?_|refine zOr rfl 0 rfl rfl HL2 ?_);(try simp only [zr_,zm_]);go_big_quiet_on)|(unfold Oper.quiet;apply Exists.intro;refine ⟨fun wq hq => ?_,?_⟩;(go_simp;go_at_call 136;(with_reducible refine (spec_StampOf r row1 _ _ (Root.R_good.ext HW1.out hq.ext)).mono ?_);rintro e w2 ⟨rfl,x2⟩;exact ⟨rfl,hq.on x2⟩);(try simp only [zs_,zl_]);go_big_quiet_on)|(unfold Oper.quiet;apply Exists.intro;refine ⟨fun wq hq => ?_,?_⟩;(go_simp;go_at_call 136;(with_reducible refine (spec_StampOf s row2 _ _ (Root.R_good.ext HW2.out hq.ext)).mono ?_);rintro e w2 ⟨rfl,x2⟩;exact ⟨rfl,hq.on x2⟩);(try simp only [zs_,zl_]);go_big_quiet_on)|(unfold Oper.quiet;apply Exists.intro;refine ⟨fun wq hq => ?_,?_⟩;(clear hq;go_simp;first|done|rfl|exact ⟨rfl,rfl⟩);(try simp only [zs_,zl_]);go_big_quiet_on)))
  refine wpQuiet_nil ?_
  intro w' M'
  replace M:=hid M'
  clear M'
  try rw [← HX.out]
  try rw [← HY.out]
  try rw [bp]
  try rw [bq]
  go_wp2
  refine zRQ M.out ?_
  repeat (first|go_big_quiet_skip|(go_big_quiet_want;first|((first|refine zOr rfl 1 rfl rfl HL1 ?_|refine zOr rfl 0 rfl rfl HL2 ?_);(try simp only [zr_,zm_]);go_big_quiet_on)|(unfold Oper.quiet;apply Exists.intro;refine ⟨fun wq hq => ?_,?_⟩;(go_simp;go_at_call 136;(with_reducible refine (spec_StampOf r row1 _ _ (Root.R_good.ext HW1.out hq.ext)).mono ?_);rintro e w2 ⟨rfl,x2⟩;exact ⟨rfl,hq.on x2⟩);(try simp only [zs_,zl_]);go_big_quiet_on)|(unfold Oper.quiet;apply Exists.intro;refine ⟨fun wq hq => ?_,?_⟩;(go_simp;go_at_call 136;(with_reducible refine (spec_StampOf s row2 _ _ (Root.R_good.ext HW2.out hq.ext)).mono ?_);rintro e w2 ⟨rfl,x2⟩;exact ⟨rfl,hq.on x2⟩);(try simp only [zs_,zl_]);go_big_quiet_on)|(unfold Oper.quiet;apply Exists.intro;refine ⟨fun wq hq => ?_,?_⟩;(clear hq;go_simp;first|done|rfl|exact ⟨rfl,rfl⟩);(try simp only [zs_,zl_]);go_big_quiet_on)))
  refine wpQuiet_nil ?_
  intro w' M'
  replace M:=hid M'
  clear M'
  try rw [← HX.out]
  try rw [← HY.out]
  try rw [bp]
  try rw [bq]
  go_wp2
  go_ret
  exact ⟨by rw [HZ.out];rfl,M.out.ext⟩
 have b1 : (X != Y) = false:=by simp [c1]
 have HXY:=hid c1
 refine zRQ M.out ?_
 repeat (first|go_big_quiet_skip|(go_big_quiet_want;first|((first|refine zOr rfl 1 rfl rfl HL1 ?_|refine zOr rfl 0 rfl rfl HL2 ?_);(try simp only [zr_,zm_]);go_big_quiet_on)|(unfold Oper.quiet;apply Exists.intro;refine ⟨fun wq hq => ?_,?_⟩;(go_simp;go_at_call 136;(with_reducible refine (spec_StampOf r row1 _ _ (Root.R_good.ext HW1.out hq.ext)).mono ?_);rintro e w2 ⟨rfl,x2⟩;exact ⟨rfl,hq.on x2⟩);(try simp only [zs_,zl_]);go_big_quiet_on)|(unfold Oper.quiet;apply Exists.intro;refine ⟨fun wq hq => ?_,?_⟩;(go_simp;go_at_call 136;(with_reducible refine (spec_StampOf s row2 _ _ (Root.R_good.ext HW2.out hq.ext)).mono ?_);rintro e w2 ⟨rfl,x2⟩;exact ⟨rfl,hq.on x2⟩);(try simp only [zs_,zl_]);go_big_quiet_on)|(unfold Oper.quiet;apply Exists.intro;refine ⟨fun wq hq => ?_,?_⟩;(clear hq;go_simp;first|done|rfl|exact ⟨rfl,rfl⟩);(try simp only [zs_,zl_]);go_big_quiet_on)))
 refine wpQuiet_nil ?_
 intro w' M'
 replace M:=hid M'
 clear M'
 try rw [← HX.out]
 try rw [← HY.out]
 try rw [bp]
 try rw [bq]
 go_wp2
 by_cases p : X = r.rv_
 ·by_cases q : Y = s.rv_
  ·skip
   have bp : (X == r.rv_) = true:=by simp [p]
   have bq : (Y == s.rv_) = true:=by simp [q]
   have bpq : (!((X == r.rv_) == (Y == s.rv_))) = false:=by rw [bp,bq];rfl
   have bpq2 : ((X == r.rv_) != (Y == s.rv_)) = false:=by rw [bp,bq];rfl
   have HPQ : Hid (X = r.rv_ ↔ Y = s.rv_):=by show _ ↔ _;exact ⟨fun h => by first|exact q|exact absurd h p,fun h => by first|exact p|exact absurd h q⟩
   by_cases e1 : r.ended_ = s.ended_
   rotate_left
   ·have be : (r.ended_ != s.ended_) = true:=by simp [e1]
    have HZ : Hid (dec ((rkeys x).T i j) = decide (r.ended_ < s.ended_)):=dec_is (by rw [HT.out];unfold ltR;rw [← HX.out,← HY.out];have h1:=HPQ.out;have h2:=HXY.out;omega)
    refine zRQ M.out ?_
    repeat (first|go_big_quiet_skip|(go_big_quiet_want;first|((first|refine zOr rfl 1 rfl rfl HL1 ?_|refine zOr rfl 0 rfl rfl HL2 ?_|refine Mine.oq_get _ _ rfl 1 _ rfl rfl _ (by assumption) _ (by first|exact Tryz.underlying3) (by rfl) ?_|refine Mine.oq_get _ _ rfl 0 _ rfl rfl _ (by assumption) _ (by first|exact Tryz.underlying3) (by rfl) ?_);(try simp only [zr_,zm_]);go_big_quiet_on)|(unfold Oper.quiet;apply Exists.intro;refine ⟨fun wq hq => ?_,?_⟩;(go_simp;go_at_call 136;(with_reducible refine (spec_StampOf r row1 _ _ (Root.R_good.ext HW1.out hq.ext)).mono ?_);rintro e w2 ⟨rfl,x2⟩;exact ⟨rfl,hq.on x2⟩);(try simp only [zs_,zl_]);go_big_quiet_on)|(unfold Oper.quiet;apply Exists.intro;refine ⟨fun wq hq => ?_,?_⟩;(go_simp;go_at_call 136;(with_reducible refine (spec_StampOf s row2 _ _ (Root.R_good.ext HW2.out hq.ext)).mono ?_);rintro e w2 ⟨rfl,x2⟩;exact ⟨rfl,hq.on x2⟩);(try simp only [zs_,zl_]);go_big_quiet_on)|(unfold Oper.quiet;apply Exists.intro;refine ⟨fun wq hq => ?_,?_⟩;(clear hq;go_simp;first|done|rfl|exact ⟨rfl,rfl⟩);(try simp only [zs_,zl_]);go_big_quiet_on)))
    refine wpQuiet_nil ?_
    intro w' M'
    replace M:=hid M'
    clear M'
    try rw [← HX.out]
    try rw [← HY.out]
    try rw [bp]
    try rw [bq]
    clear p q c1 e1
    go_wp2_with (((with_reducible refine zN ?_);first|((first|refine Mine.wp_get M.out rfl _ _ rfl 1 _ rfl rfl _ (by assumption) _ (by first|exact Tryz.underlying3) (by rfl) ?_|refine Mine.wp_get M.out rfl _ _ rfl 0 _ rfl rfl _ (by assumption) _ (by first|exact Tryz.underlying3) (by rfl) ?_);(try simp only [zr_,zm_]))))
    go_ret
    exact ⟨by rw [HZ.out];rfl,M.out.ext⟩
   have be : (r.ended_ != s.ended_) = false:=by simp [e1]
   have HZ : Hid (dec ((rkeys x).T i j) = decide ((i : Int) < j)):=dec_is (by rw [HT.out];unfold ltR;rw [← HX.out,← HY.out];have h1:=HPQ.out;have h2:=HXY.out;omega)
   refine zRQ M.out ?_
   repeat (first|go_big_quiet_skip|(go_big_quiet_want;first|((first|refine zOr rfl 1 rfl rfl HL1 ?_|refine zOr rfl 0 rfl rfl HL2 ?_|refine Mine.oq_get _ _ rfl 1 _ rfl rfl _ (by assumption) _ (by first|exact Tryz.underlying3) (by rfl) ?_|refine Mine.oq_get _ _ rfl 0 _ rfl rfl _ (by assumption) _ (by first|exact Tryz.underlying3) (by rfl) ?_);(try simp only [zr_,zm_]);go_big_quiet_on)|(unfold Oper.quiet;apply Exists.intro;refine ⟨fun wq hq => ?_,?_⟩;(go_simp;go_at_call 136;(with_reducible refine (spec_StampOf r row1 _ _ (Root.R_good.ext HW1.out hq.ext)).mono ?_);rintro e w2 ⟨rfl,x2⟩;exact ⟨rfl,hq.on x2⟩);(try simp only [zs_,zl_]);go_big_quiet_on)|(unfold Oper.quiet;apply Exists.intro;refine ⟨fun wq hq => ?_,?_⟩;(go_simp;go_at_call 136;(with_reducible refine (spec_StampOf s row2 _ _ (Root.R_good.ext HW2.out hq.ext)).mono ?_);rintro e w2 ⟨rfl,x2⟩;exact ⟨rfl,hq.on x2⟩);(try simp only [zs_,zl_]);go_big_quiet_on)|(unfold Oper.quiet;apply Exists.intro;refine ⟨fun wq hq => ?_,?_⟩;(clear hq;go_simp;first|done|rfl|exact ⟨rfl,rfl⟩);(try simp only [zs_,zl_]);go_big_quiet_on)))
   refine wpQuiet_nil ?_
   intro w' M'
   replace M:=hid M'
   clear M'
   try rw [← HX.out]
   try rw [← HY.out]
   try rw [bp]
   try rw [bq]
   clear p q c1 e1
   go_wp2_with (((with_reducible refine zN ?_);first|((first|refine Mine.wp_get M.out rfl _ _ rfl 1 _ rfl rfl _ (by assumption) _ (by first|exact Tryz.underlying3) (by rfl) ?_|refine Mine.wp_get M.out rfl _ _ rfl 0 _ rfl rfl _ (by assumption) _ (by first|exact Tryz.underlying3) (by rfl) ?_);(try simp only [zr_,zm_]))))
   go_ret
   exact ⟨by rw [HZ.out];first|rfl|simp,M.out.ext⟩
  have bp : (X == r.rv_) = true:=by simp [p]
  have bq : (Y == s.rv_) = false:=by simp [q]
  have bpq : (!((X == r.rv_) == (Y == s.rv_))) = true:=by rw [bp,bq];rfl
  have bpq2 : ((X == r.rv_) != (Y == s.rv_)) = true:=by rw [bp,bq];rfl
  have HZ : Hid (dec ((rkeys x).T i j) = false):=by show _ = _;exact dec_no (by rw [HT.out];unfold ltR;rw [← HX.out,← HY.out];omega)
  refine zRQ M.out ?_
  repeat (first|go_big_quiet_skip|(go_big_quiet_want;first|((first|refine zOr rfl 1 rfl rfl HL1 ?_|refine zOr rfl 0 rfl rfl HL2 ?_|refine Mine.oq_get _ _ rfl 1 _ rfl rfl _ (by assumption) _ (by first|exact Tryz.underlying3) (by rfl) ?_|refine Mine.oq_get _ _ rfl 0 _ rfl rfl _ (by assumption) _ (by first|exact Tryz.underlying3) (by rfl) ?_);(try simp only [zr_,zm_]);go_big_quiet_on)|(unfold Oper.quiet;apply Exists.intro;refine ⟨fun wq hq => ?_,?_⟩;(go_simp;go_at_call 136;(with_reducible refine (spec_StampOf r row1 _ _ (Root.R_good.ext HW1.out hq.ext)).mono ?_);rintro e w2 ⟨rfl,x2⟩;exact ⟨rfl,hq.on x2⟩);(try simp only [zs_,zl_]);go_big_quiet_on)|(unfold Oper.quiet;apply Exists.intro;refine ⟨fun wq hq => ?_,?_⟩;(go_simp;go_at_call 136;(with_reducible refine (spec_StampOf s row2 _ _ (Root.R_good.ext HW2.out hq.ext)).mono ?_);rintro e w2 ⟨rfl,x2⟩;exact ⟨rfl,hq.on x2⟩);(try simp only [zs_,zl_]);go_big_quiet_on)|(unfold Oper.quiet;apply Exists.intro;refine ⟨fun wq hq => ?_,?_⟩;(clear hq;go_simp;first|done|rfl|exact ⟨rfl,rfl⟩);(try simp only [zs_,zl_]);go_big_quiet_on)))
  refine wpQuiet_nil ?_
  intro w' M'
  replace M:=hid M'
  clear M'
  try rw [← HX.out]
  try rw [← HY.out]
  try rw [bp]
  try rw [bq]
  clear p q c1
  go_wp2
  refine zRQ M.out ?_
  repeat (first|go_big_quiet_skip|(go_big_quiet_want;first|((first|refine zOr rfl 0 rfl rfl HL2 ?_|refine Mine.oq_get _ _ rfl 0 _ rfl rfl _ (by assumption) _ (by first|exact Tryz.underlying3) (by rfl) ?_);(try simp only [zr_,zm_]);go_big_quiet_on)|(unfold Oper.quiet;apply Exists.intro;refine ⟨fun wq hq => ?_,?_⟩;(go_simp;go_at_call 136;(with_reducible refine (spec_StampOf s row2 _ _ (Root.R_good.ext HW2.out hq.ext)).mono ?_);rintro e w2 ⟨rfl,x2⟩;exact ⟨rfl,hq.on x2⟩);(try simp only [zs_,zl_]);go_big_quiet_on)|(unfold Oper.quiet;apply Exists.intro;refine ⟨fun wq hq => ?_,?_⟩;(clear hq;go_simp;first|done|rfl|exact ⟨rfl,rfl⟩);(try simp only [zs_,zl_]);go_big_quiet_on)))
  refine wpQuiet_nil ?_
  intro w' M'
  replace M:=hid M'
  clear M'
  try rw [← HX.out]
  try rw [← HY.out]
  try rw [bp]
  try rw [bq]
  go_wp2
  go_ret
  exact ⟨by rw [HZ.out];first|rfl|rw [bq],M.out.ext⟩
 by_cases q : Y = s.rv_
 ·skip
  have bp : (X == r.rv_) = false:=by simp [p]
  have bq : (Y == s.rv_) = true:=by simp [q]
  have bpq : (!((X == r.rv_) == (Y == s.rv_))) = true:=by rw [bp,bq];rfl
  have bpq2 : ((X == r.rv_) != (Y == s.rv_)) = true:=by rw [bp,bq];rfl
  have HZ : Hid (dec ((rkeys x).T i j) = true):=by show _ = _;exact dec_yes (by rw [HT.out];unfold ltR;rw [← HX.out,← HY.out];omega)
  refine zRQ M.out ?_
  repeat (first|go_big_quiet_skip|(go_big_quiet_want;first|((first|refine zOr rfl 1 rfl rfl HL1 ?_|refine zOr rfl 0 rfl rfl HL2 ?_|refine Mine.oq_get _ _ rfl 1 _ rfl rfl _ (by assumption) _ (by first|exact Tryz.underlying3) (by rfl) ?_|refine Mine.oq_get _ _ rfl 0 _ rfl rfl _ (by assumption) _ (by first|exact Tryz.underlying3) (by rfl) ?_);(try simp only [zr_,zm_]);go_big_quiet_on)|(unfold Oper.quiet;apply Exists.intro;refine ⟨fun wq hq => ?_,?_⟩;(go_simp;go_at_call 136;(with_reducible refine (spec_StampOf r row1 _ _ (Root.R_good.ext HW1.out hq.ext)).mono ?_);rintro e w2 ⟨rfl,x2⟩;exact ⟨rfl,hq.on x2⟩);(try simp only [zs_,zl_]);go_big_quiet_on)|(unfold Oper.quiet;apply Exists.intro;refine ⟨fun wq hq => ?_,?_⟩;(go_simp;go_at_call 136;(with_reducible refine (spec_StampOf s row2 _ _ (Root.R_good.ext HW2.out hq.ext)).mono ?_);rintro e w2 ⟨rfl,x2⟩;exact ⟨rfl,hq.on x2⟩);(try simp only [zs_,zl_]);go_big_quiet_on)|(unfold Oper.quiet;apply Exists.intro;refine ⟨fun wq hq => ?_,?_⟩;(clear hq;go_simp;first|done|rfl|exact ⟨rfl,rfl⟩);(try simp only [zs_,zl_]);go_big_quiet_on)))
  refine wpQuiet_nil ?_
  intro w' M'
  replace M:=hid M'
  clear M'
  try rw [← HX.out]
  try rw [← HY.out]
  try rw [bp]
  try rw [bq]
  clear p q c1
  go_wp2
  refine zRQ M.out ?_
  repeat (first|go_big_quiet_skip|(go_big_quiet_want;first|((first|refine zOr rfl 0 rfl rfl HL2 ?_|refine Mine.oq_get _ _ rfl 0 _ rfl rfl _ (by assumption) _ (by first|exact Tryz.underlying3) (by rfl) ?_);(try simp only [zr_,zm_]);go_big_quiet_on)|(unfold Oper.quiet;apply Exists.intro;refine ⟨fun wq hq => ?_,?_⟩;(go_simp;go_at_call 136;(with_reducible refine (spec_StampOf s row2 _ _ (Root.R_good.ext HW2.out hq.ext)).mono ?_);rintro e w2 ⟨rfl,x2⟩;exact ⟨rfl,hq.on x2⟩);(try simp only [zs_,zl_]);go_big_quiet_on)|(unfold Oper.quiet;apply Exists.intro;refine ⟨fun wq hq => ?_,?_⟩;(clear hq;go_simp;first|done|rfl|exact ⟨rfl,rfl⟩);(try simp only [zs_,zl_]);go_big_quiet_on)))
  refine wpQuiet_nil ?_
  intro w' M'
  replace M:=hid M'
  clear M'
  try rw [← HX.out]
  try rw [← HY.out]
  try rw [bp]
  try rw [bq]
  go_wp2
  go_ret
  exact ⟨by rw [HZ.out];first|rfl|rw [bq],M.out.ext⟩
 have bp : (X == r.rv_) = false:=by simp [p]
 have bq : (Y == s.rv_) = false:=by simp [q]
 have bpq : (!((X == r.rv_) == (Y == s.rv_))) = false:=by rw [bp,bq];rfl
 have bpq2 : ((X == r.rv_) != (Y == s.rv_)) = false:=by rw [bp,bq];rfl
 have HPQ : Hid (X = r.rv_ ↔ Y = s.rv_):=by show _ ↔ _;exact ⟨fun h => by first|exact q|exact absurd h p,fun h => by first|exact p|exact absurd h q⟩
 by_cases e1 : r.ended_ = s.ended_
 rotate_left
 ·have be : (r.ended_ != s.ended_) = true:=by simp [e1]
  have HZ : Hid (dec ((rkeys x).T i j) = decide (r.ended_ < s.ended_)):=dec_is (by rw [HT.out];unfold ltR;rw [← HX.out,← HY.out];have h1:=HPQ.out;have h2:=HXY.out;omega)
  refine zRQ M.out ?_
  repeat (first|go_big_quiet_skip|(go_big_quiet_want;first|((first|refine zOr rfl 1 rfl rfl HL1 ?_|refine zOr rfl 0 rfl rfl HL2 ?_|refine Mine.oq_get _ _ rfl 1 _ rfl rfl _ (by assumption) _ (by first|exact Tryz.underlying3) (by rfl) ?_|refine Mine.oq_get _ _ rfl 0 _ rfl rfl _ (by assumption) _ (by first|exact Tryz.underlying3) (by rfl) ?_);(try simp only [zr_,zm_]);go_big_quiet_on)|(unfold Oper.quiet;apply Exists.intro;refine ⟨fun wq hq => ?_,?_⟩;(go_simp;go_at_call 136;(with_reducible refine (spec_StampOf r row1 _ _ (Root.R_good.ext HW1.out hq.ext)).mono ?_);rintro e w2 ⟨rfl,x2⟩;exact ⟨rfl,hq.on x2⟩);(try simp only [zs_,zl_]);go_big_quiet_on)|(unfold Oper.quiet;apply Exists.intro;refine ⟨fun wq hq => ?_,?_⟩;(go_simp;go_at_call 136;(with_reducible refine (spec_StampOf s row2 _ _ (Root.R_good.ext HW2.out hq.ext)).mono ?_);rintro e w2 ⟨rfl,x2⟩;exact ⟨rfl,hq.on x2⟩);(try simp only [zs_,zl_]);go_big_quiet_on)|(unfold Oper.quiet;apply Exists.intro;refine ⟨fun wq hq => ?_,?_⟩;(clear hq;go_simp;first|done|rfl|exact ⟨rfl,rfl⟩);(try simp only [zs_,zl_]);go_big_quiet_on)))
  refine wpQuiet_nil ?_
  intro w' M'
  replace M:=hid M'
  clear M'
  try rw [← HX.out]
  try rw [← HY.out]
  try rw [bp]
  try rw [bq]
  clear p q c1 e1
  go_wp2_with (((with_reducible refine zN ?_);first|((first|refine Mine.wp_get M.out rfl _ _ rfl 1 _ rfl rfl _ (by assumption) _ (by first|exact Tryz.underlying3) (by rfl) ?_|refine Mine.wp_get M.out rfl _ _ rfl 0 _ rfl rfl _ (by assumption) _ (by first|exact Tryz.underlying3) (by rfl) ?_);(try simp only [zr_,zm_]))))
  go_ret
  exact ⟨by rw [HZ.out];rfl,M.out.ext⟩
 have be : (r.ended_ != s.ended_) = false:=by simp [e1]
 have HZ : Hid (dec ((rkeys x).T i j) = decide ((i : Int) < j)):=dec_is (by rw [HT.out];unfold ltR;rw [← HX.out,← HY.out];have h1:=HPQ.out;have h2:=HXY.out;omega)
 refine zRQ M.out ?_
 repeat (first|go_big_quiet_skip|(go_big_quiet_want;first|((first|refine zOr rfl 1 rfl rfl HL1 ?_|refine zOr rfl 0 rfl rfl HL2 ?_|refine Mine.oq_get _ _ rfl 1 _ rfl rfl _ (by assumption) _ (by first|exact Tryz.underlying3) (by rfl) ?_|refine Mine.oq_get _ _ rfl 0 _ rfl rfl _ (by assumption) _ (by first|exact Tryz.underlying3) (by rfl) ?_);(try simp only [zr_,zm_]);go_big_quiet_on)|(unfold Oper.quiet;apply Exists.intro;refine ⟨fun wq hq => ?_,?_⟩;(go_simp;go_at_call 136;(with_reducible refine (spec_StampOf r row1 _ _ (Root.R_good.ext HW1.out hq.ext)).mono ?_);rintro e w2 ⟨rfl,x2⟩;exact ⟨rfl,hq.on x2⟩);(try simp only [zs_,zl_]);go_big_quiet_on)|(unfold Oper.quiet;apply Exists.intro;refine ⟨fun wq hq => ?_,?_⟩;(go_simp;go_at_call 136;(with_reducible refine (spec_StampOf s row2 _ _ (Root.R_good.ext HW2.out hq.ext)).mono ?_);rintro e w2 ⟨rfl,x2⟩;exact ⟨rfl,hq.on x2⟩);(try simp only [zs_,zl_]);go_big_quiet_on)|(unfold Oper.quiet;apply Exists.intro;refine ⟨fun wq hq => ?_,?_⟩;(clear hq;go_simp;first|done|rfl|exact ⟨rfl,rfl⟩);(try simp only [zs_,zl_]);go_big_quiet_on)))
 refine wpQuiet_nil ?_
 intro w' M'
 replace M:=hid M'
 clear M'
 try rw [← HX.out]
 try rw [← HY.out]
 try rw [bp]
 try rw [bq]
 clear p q c1 e1
 go_wp2_with (((with_reducible refine zN ?_);first|((first|refine Mine.wp_get M.out rfl _ _ rfl 1 _ rfl rfl _ (by assumption) _ (by first|exact Tryz.underlying3) (by rfl) ?_|refine Mine.wp_get M.out rfl _ _ rfl 0 _ rfl rfl _ (by assumption) _ (by first|exact Tryz.underlying3) (by rfl) ?_);(try simp only [zr_,zm_]))))
 go_ret
 exact ⟨by rw [HZ.out];first|rfl|simp,M.out.ext⟩
set_option maxRecDepth 8000 in
theorem spec_Ranks2 (x : GWorld) (cs : List Value) (w : World) (S : Nat → Prop) (h : GWorld.R w S cs x) (_hw : GWorld.wt x ≤ 1048576) :
  Calls Tryz.prog 32 #[.agg cs.toArray] w fun e w' => ∃ g m d,e = .returned (.slice (some ⟨g,0,none⟩) m d) ∧ w'.ownsRow w.heap.size 3 1 (.slice (some ⟨g,0,none⟩) m d) m (ints (ranksOf x)) ∧ Ext w w':=by
 obtain ⟨v0,v1,A2,n2,c2,A3,n3,c3,A4,n4,c4,rfl,h0,h1,⟨kh2,mh2,h2⟩,⟨kh3,mh3,h3⟩,⟨kh4,mh4,h4⟩⟩:=h
 obtain ⟨A0,n0,c0,rfl⟩:=Mem.R_cells h0
 obtain ⟨A1,n1,c1,rfl⟩:=Shelf.R_cells h1
 have HR:=hid h3
 have HRN:=hid h3.1
 have hn3 : n3 ≤ 1048576:=by have a:=roots_le x _hw;have b:=HRN.out;omega
 clear h0 h1 h2 h3 h4
 have M : Hid (Mine w (w.alloc (.cells #[.int .i64 x.now_,.int .i64 x.token_,.int .i64 x.mem_.clock_,.slice A0 n0 c0,.slice A1 n1 c1,.int .i64 x.shelf_.count_,.slice A2 n2 c2,.slice A3 n3 c3,.slice A4 n4 c4] 58)) [.box w.heap.size 58 #[.int .i64 x.now_,.int .i64 x.token_,.int .i64 x.mem_.clock_,.slice A0 n0 c0,.slice A1 n1 c1,.int .i64 x.shelf_.count_,.slice A2 n2 c2,.slice A3 n3 c3,.slice A4 n4 c4]]):=(Mine.refl w).box 58 #[.int .i64 x.now_,.int .i64 x.token_,.int .i64 x.mem_.clock_,.slice A0 n0 c0,.slice A1 n1 c1,.int .i64 x.shelf_.count_,.slice A2 n2 c2,.slice A3 n3 c3,.slice A4 n4 c4]
 skip
 show Calls Tryz.prog _ #[.agg #[.int .i64 x.now_,.int .i64 x.token_,.int .i64 x.mem_.clock_,.slice A0 n0 c0,.slice A1 n1 c1,.int .i64 x.shelf_.count_,.slice A2 n2 c2,.slice A3 n3 c3,.slice A4 n4 c4]] w _
 go_enter Tryz.func32,Tryz.ntmps32
 replace M:=hid (M.out.own (own_emptyI _) ((Ext.refl' _).al _))
 simp only [World.heap_alloc_size] at M
 go_wp2_with (fail)
 go_loopw [3,4] (fun u i wr => ∃ (k m d g : Nat),k ≤ n3 ∧ u = .slice (some ⟨g,0,none⟩) m d ∧ i = .int .i64 k ∧ Hid (Mine w wr [.row 3 1 (some ⟨g,0,none⟩) m d (ints (pickTo settledOf x.roots_ k)),.box w.heap.size 58 #[.int .i64 x.now_,.int .i64 x.token_,.int .i64 x.mem_.clock_,.slice A0 n0 c0,.slice A1 n1 c1,.int .i64 x.shelf_.count_,.slice A2 n2 c2,.slice A3 n3 c3,.slice A4 n4 c4]])) (fun _ i _ => n3 - (intOf i).toNat)
 case atStart => exact ⟨0,_,_,_,Nat.zero_le _,rfl,rfl,M⟩
 case round =>
  clear M
  obtain ⟨k,m,d,g,hk,rfl,rfl,M⟩:=hrel
  have hm : m ≤ 1048576:=by have h1:=M.out.len1 0 rfl;rw [ints_length] at h1;have h2:=pick_len settledOf x.roots_ k;omega
  by_cases hlt : (k : Int) < (n3 : Int)
  ·have HLT : Hid (k < n3):=by show _ < _;omega
   obtain ⟨b,o,rfl⟩:=HR.out.addr (by omega)
   obtain ⟨r,row,hsk,hrb,hrw,hrl,hrg⟩:=root_at HR.out (k:=k) (by omega)
   have HSK:=hid hsk
   have HRW:=hid hrw
   have HRL:=hid hrl
   have HRG:=hid hrg
   have HRB:=hid hrb
   have hf0:=Root.first hrw
   clear hsk hrw hrl hrg hrb
   clear hf0
   go_wp2_with (((with_reducible refine zN ?_);first|((first|refine zG M.out 1 ?_|refine Mine.wp_arg M.out rfl 97 _ rfl _ _ rfl row HRG.out HRB.out _ Tryz.underlying97 (by rfl) (by rw [HRL.out];kernel_rfl) ?_);(try simp only [zr_,zm_]))))
   refine (spec_Settled r row _ _ (Root.R_good.ext HRW.out M.out.ext)).mono ?_
   rintro e w1 ⟨rfl,x1⟩
   replace M:=hid (M.out.on x1)
   clear x1
   cases hv : settledOf r
   ·have HN:=hid hv
    clear hv
    go_wp2
    go_roundw
    case rel => exact ⟨k + 1,m,d,g,HLT.out,rfl,by go_num,hid (by rw [pick_no HSK.out HN.out];exact M.out)⟩
    case measure => have:=HLT.out;simp [intOf];omega
   have HY:=hid hv
   clear hv
   go_wp2_with ((at_builtin;refine Mine.wp_push M.out rfl _ _ 22 rfl 3 _ _ _ Tryz.underlying22 Tryz.infoInt rfl (by omega) 0 rfl rfl _ _ rfl rfl rfl (by simp [Value.oneCell']) (by omega) (by unfold maxLen;omega) ?_;intro A2 c2 w' M';obtain ⟨gp,rfl⟩:=Mine.addr M' 0 rfl (Nat.succ_pos _);(try simp only [zr_,zm_] at M');replace M:=hid M';clear M'))
   go_roundw
   case rel => exact ⟨k + 1,_,_,_,HLT.out,rfl,by go_num,hid (by rw [pick_yes HSK.out HY.out];exact M.out)⟩
   case measure => have:=HLT.out;simp [intOf];omega
  have e : Hid (k = x.roots_.length):=by show k = _;have a:=HRN.out;omega
  obtain ⟨L,hL⟩ : ∃ L,L = pickTo settledOf x.roots_ x.roots_.length:=⟨_,rfl⟩
  rw [e.out,← hL] at M
  have HL : Hid (ranksOf x = rankList (rkeys x) L):=by show _ = _;rw [hL];rfl
  have HND : Hid L.Nodup:=by show L.Nodup;rw [hL];exact (pick_asc _ _ _).imp fun h => by omega
  have HM : Hid (L.length = m):=by show _ = _;have h1:=M.out.len1 0 rfl;rwa [ints_length] at h1
  have HIX : Hid (∀ (q : Nat) (y : Int),L[q]? = some y → ∃ i : Nat,i < n3 ∧ y = (i : Int)):=fun q y h => by obtain ⟨i,r,h1,h2,_⟩:=pick_mem.1 (hL ▸ List.mem_of_getElem? h);exact ⟨i,by have a:=HRN.out;omega,h2⟩
  obtain ⟨K,hK⟩ : ∃ K,K = rkeys x:=⟨_,rfl⟩
  rw [← hK] at HL
  have HK:=hid hK
  clear hL hK hk e
  go_wp2_with (((with_reducible refine zN ?_);first|(refine zG M.out 1 ?_;(try simp only [zr_,zm_]))|(refine Mine.wp_make M.out rfl _ _ 22 rfl 3 _ _ _ Tryz.underlying22 Tryz.infoInt m rfl rfl (by omega) (by unfold maxLen;omega) ?_;intro gv w' M';(try simp only [zr_,zm_] at M');replace M:=hid M';clear M';(try simp only [zr_,zm_]))))
  rw [show (madeCells (Value.int .i64 0).cells (m * 1)).toList = ints (List.replicate m 0) from by rw [show (madeCells (Value.int .i64 0).cells (m * 1)).toList = List.replicate m (.int .i64 0) from by rw [Nat.mul_one];exact toList_madeCells_one _ _];unfold ints;rw [List.map_replicate]] at M
  go_loopw [6] (fun iv wr => ∃ (i : Nat) (O : List Int),i ≤ m ∧ iv = .int .i64 i ∧ Hid (O.length = m) ∧ Hid (∀ (q : Nat) (y : Int),q < i → L[q]? = some y → O[ahead K L y]? = some y) ∧ Hid (Mine w wr [.row 3 1 (some ⟨gv,0,none⟩) m m (ints O),.row 3 1 (some ⟨g,0,none⟩) m d (ints L),.box w.heap.size 58 #[.int .i64 x.now_,.int .i64 x.token_,.int .i64 x.mem_.clock_,.slice A0 n0 c0,.slice A1 n1 c1,.int .i64 x.shelf_.count_,.slice A2 n2 c2,.slice A3 n3 c3,.slice A4 n4 c4]])) (fun iv _ => m - (intOf iv).toNat)
  case atStart => exact ⟨0,_,Nat.zero_le _,rfl,List.length_replicate,fun q y hq => absurd hq (Nat.not_lt_zero _),M⟩
  case round =>
   clear M
   obtain ⟨i,O,hi,rfl,HO,HP,M⟩:=hrel
   by_cases hlt : (i : Int) < (m : Int)
   rotate_left
   ·have H9 : Hid (O = rankList K L):=placed_all HND.out (by rw [HO.out,HM.out]) (fun q y hq hy => HP.out q y (by have a:=HM.out;omega) hy)
    go_wp2
    go_ret
    exact ⟨_,_,_,rfl,by rw [HL.out,← H9.out];exact M.out.row_at 0 rfl,M.out.ext⟩
   have HLT : Hid (i < m):=by show _ < _;omega
   obtain ⟨xi,hxi⟩ : ∃ y,L[i]? = some y:=⟨_,List.getElem?_eq_getElem (by have:=HLT.out;have:=HM.out;omega)⟩
   obtain ⟨i0,hi0,rfl⟩:=HIX.out _ _ hxi
   have HXI:=hid hxi
   have HI0:=hid hi0
   have gxi : (ints L)[i]? = some (.int .i64 (i0 : Int)):=ints_at hxi
   clear hxi hi0 hlt
   go_wp2
   go_loopw [7,8] (fun cv kv wr => ∃ (k c : Nat),k ≤ m ∧ cv = .int .i64 c ∧ kv = .int .i64 k ∧ Hid (c = cntTo K L i0 k) ∧ Hid (Mine w wr [.row 3 1 (some ⟨gv,0,none⟩) m m (ints O),.row 3 1 (some ⟨g,0,none⟩) m d (ints L),.box w.heap.size 58 #[.int .i64 x.now_,.int .i64 x.token_,.int .i64 x.mem_.clock_,.slice A0 n0 c0,.slice A1 n1 c1,.int .i64 x.shelf_.count_,.slice A2 n2 c2,.slice A3 n3 c3,.slice A4 n4 c4]])) (fun _ kv _ => m - (intOf kv).toNat)
   case atStart => exact ⟨0,0,Nat.zero_le _,rfl,rfl,rfl,M⟩
   case round =>
    clear M
    obtain ⟨k,c,hk,rfl,rfl,HC,M⟩:=hrel
    have hcm : c ≤ 1048576:=by have h1:=HC.out;have h2:=cnt_le K L i0 k;omega
    by_cases hkl : (k : Int) < (m : Int)
    rotate_left
    ·have HA : Hid (c = ahead K L i0):=by show _ = _;rw [HC.out];exact cnt_all _ _ _ (by have:=HM.out;omega)
     have hcl : c < m:=by rw [HA.out,← HM.out];exact ahead_lt HND.out (List.mem_of_getElem? HXI.out)
     have hcl2 : (c : Int) < (m : Int):=by omega
     have hil : (i : Int) < (m : Int):=by have:=HLT.out;omega
     clear hcm
     go_wp2_with (((with_reducible refine zN ?_);first|(refine Mine.wp_getr M.out rfl _ _ rfl 1 _ rfl rfl _ (by assumption) _ (by first|exact Tryz.underlying3) (by rfl) ?_;(try simp only [zr_,zm_]))|(refine Mine.wp_put M.out rfl _ _ _ rfl rfl 0 _ rfl rfl _ (by (conv => lhs;whnf) <;> rfl) (by omega) (by rfl) (by kernel_rfl) ?_;intro w' M';(try simp only [zr_,zm_] at M');replace M:=hid M';clear M')))
     go_roundw
     case rel => exact ⟨i + 1,O.set c i0,HLT.out,by go_num,by show _ = _;rw [List.length_set];exact HO.out,by have a:=HA.out;subst a;exact placed_step HND.out (by rw [HO.out,HM.out]) HXI.out HP.out,M⟩
     case measure => have:=HLT.out;simp [intOf];omega
    have HKL : Hid (k < m):=by show _ < _;omega
    have hil : (i : Int) < (m : Int):=by have:=HLT.out;omega
    obtain ⟨yk,hyk⟩ : ∃ y,L[k]? = some y:=⟨_,List.getElem?_eq_getElem (by have:=HKL.out;have:=HM.out;omega)⟩
    obtain ⟨k0,hk0,rfl⟩:=HIX.out _ _ hyk
    have HYK:=hid hyk
    have HK0:=hid hk0
    have gyk : (ints L)[k]? = some (.int .i64 (k0 : Int)):=ints_at hyk
    clear hyk hk0
    by_cases hki : k = i
    ·have HN : Hid (dec (K.T k0 i0) = false):=by show _ = _;have h1:=HXI.out;have h2:=HYK.out;rw [hki,h1] at h2;injection h2 with h2;rw [← h2];exact dec_no Keys.T_irrefl
     have bn : ((k : Int) != (i : Int)) = false:=by simp [hki]
     have bn2 : (k != i) = false:=by simp [hki]
     clear hki
     go_wp2
     refine zRQ M.out ?_
     repeat (first|go_big_quiet_skip|(go_big_quiet_want;(unfold Oper.quiet;apply Exists.intro;refine ⟨fun wq hq => ?_,?_⟩;(clear hq;go_simp;first|done|rfl|exact ⟨rfl,rfl⟩);(try simp only [zs_,zl_]);go_big_quiet_on)))
     refine wpQuiet_nil ?_
     intro w' M'
     replace M:=hid M'
     clear M'
     go_wp2
     go_roundw
     case rel => exact ⟨k + 1,c,HKL.out,rfl,by go_num,by show _ = _;rw [HC.out];exact (cnt_no HYK.out HN.out).symm,M⟩
     case measure => have:=HKL.out;simp [intOf];omega
    have bn : ((k : Int) != (i : Int)) = true:=by simp;omega
    have bn2 : (k != i) = true:=by simp [hki]
    clear hki
    go_wp2
    refine zRQ M.out ?_
    repeat (first|go_big_quiet_skip|(go_big_quiet_want;first|((first|refine Mine.oq_getall 58 _ rfl 2 rfl rfl _ Tryz.underlying58 (by rfl) (by kernel_rfl) ?_|refine Mine.oq_getr _ _ rfl 1 _ rfl rfl _ (by assumption) _ (by first|exact Tryz.underlying3) (by rfl) ?_);(try simp only [zr_,zm_]);go_big_quiet_on)|(unfold Oper.quiet;apply Exists.intro;refine ⟨fun wq hq => ?_,?_⟩;(go_simp;go_at_call 81;(with_reducible refine (ahead_any x A0 n0 c0 A1 n1 c1 A2 n2 c2 A3 n3 c3 A4 n4 c4 S HR.out hn3 hq.ext k0 i0 HK0.out HI0.out).mono ?_);rintro e w2 ⟨rfl,x2⟩;exact ⟨rfl,hq.on x2⟩);(try simp only [zs_,zl_]);go_big_quiet_on)|(unfold Oper.quiet;apply Exists.intro;refine ⟨fun wq hq => ?_,?_⟩;(clear hq;go_simp;first|done|rfl|exact ⟨rfl,rfl⟩);(try simp only [zs_,zl_]);go_big_quiet_on)))
    refine wpQuiet_nil ?_
    intro w' M'
    replace M:=hid M'
    clear M'
    rw [← HK.out]
    cases hv : dec (K.T k0 i0)
    ·have HN:=hid hv
     clear hv
     go_wp2
     go_roundw
     case rel => exact ⟨k + 1,c,HKL.out,rfl,by go_num,by show _ = _;rw [HC.out];exact (cnt_no HYK.out HN.out).symm,M⟩
     case measure => have:=HKL.out;simp [intOf];omega
    have HN:=hid hv
    clear hv
    go_wp2
    go_roundw
    case rel => exact ⟨k + 1,c + 1,HKL.out,by go_num,by go_num,by show _ = _;rw [HC.out];exact (cnt_yes HYK.out HN.out).symm,M⟩
    case measure => have:=HKL.out;simp [intOf];omega
theorem spec_Ranks (x : GWorld) (cs : List Value) (w : World) (S : Nat → Prop) (h : GWorld.R w S cs x) (_hw : GWorld.wt x ≤ 1048576) :
  Calls Tryz.prog 32 #[.agg cs.toArray] w fun e w' => ∃ B m d,e = .returned (.slice B m d) ∧ w'.ownsRow w.heap.size 3 1 (.slice B m d) m (ints (ranksOf x)) ∧ Ext w w' :=
 (spec_Ranks2 x cs w S h _hw).mono fun e w' ⟨g,m,d,h1,h2,h3⟩ => ⟨_,m,d,h1,h2,h3⟩
set_option maxRecDepth 8000 in
theorem spec_Replay (x0 : Script) (cs0 : List Value) (x1 : GWorld) (cs1 : List Value) (w : World) (hs : Script.R w (fun _ => True) cs0 x0) (_hw0 : Script.wt x0 ≤ 1048576) (h : GWorld.R w (fun _ => True) cs1 x1) (_hw1 : GWorld.wt x1 ≤ 1048576) :
  Calls Tryz.prog 7 #[.agg cs0.toArray,.agg cs1.toArray] w fun e w' => ∃ (B : Option Addr) (m d : Nat) (C2 P2 : Option Addr × Nat × Nat),e = .returned (.tuple #[.slice B m d,.agg #[.slice C2.1 C2.2.1 C2.2.2,.slice P2.1 P2.2.1 P2.2.2,.int .i64 (replayF x0 x1).2.count_]]) ∧ Hid (RunsV w w' (replayF x0 x1).1 (replayF x0 x1).2 B m d C2 P2):=by
 have HS0:=hid hs
 have HW0:=hid h
 obtain ⟨vs0,P2,pn2,pc2,P3,pn3,pc3,rfl,hs0,⟨khs1,mhs1,hs1⟩,⟨khs2,mhs2,hs2⟩⟩:=hs
 obtain ⟨P0,pn0,pc0,P1,pn1,pc1,rfl⟩:=Things.R_cells hs0
 obtain ⟨v0,v1,A2,n2,c2,A3,n3,c3,A4,n4,c4,rfl,h0,h1,⟨kh2,mh2,h2⟩,⟨kh3,mh3,h3⟩,⟨kh4,mh4,h4⟩⟩:=h
 obtain ⟨A0,n0,c0,rfl⟩:=Mem.R_cells h0
 obtain ⟨A1,n1,c1,rfl⟩:=Shelf.R_cells h1
 have hpl : x0.progs_.length = pn2:=hs1.1
 have hrl : x1.roots_.length = n3:=h3.1
 have HP:=hid hs1
 have HRT:=hid h3
 have HSW : Hid (Script.wt x0 ≤ 1048576):=_hw0
 have HWW : Hid (GWorld.wt x1 ≤ 1048576):=_hw1
 have hkl:=wtl_len Root.wt x1.roots_
 have hn3 : n3 ≤ 1048576:=by unfold GWorld.wt at _hw1;omega
 have HPWT : Hid (∀ p ∈ x0.progs_,Prog.wt p ≤ 1048576):=fun p hp => by
  obtain ⟨i,hi⟩:=List.mem_iff_getElem?.1 hp
  have h1:=wtl_at Prog.wt hi
  unfold Script.wt at _hw0;omega
 have HRWT : Hid (∀ r ∈ x1.roots_,r.order_.length ≤ 1048576):=fun r hr => by
  obtain ⟨i,hi⟩:=List.mem_iff_getElem?.1 hr
  have h1:=wtl_at Root.wt hi
  have h2 : r.order_.length ≤ Root.wt r:=by unfold Root.wt;omega
  unfold GWorld.wt at _hw1;omega
 have HTH:=hid hs0
 have HPC : Hid (Sl w (fun _ => True) 1 P0 pn0 (ints x0.start_.cells_) ∧ pn0 ≤ pc0 ∧ Sl w (fun _ => True) 1 P1 pn1 (ints x0.start_.map_) ∧ pn1 ≤ pc1):=by obtain ⟨A7,n7,c7,A8,n8,c8,e,⟨kz0,mz0,z0⟩,⟨kz1,mz1,z1⟩⟩:=hs0;injection e with e1 e2;injection e1 with e3 e4 e5;injection e2 with e6 e7;injection e6 with e8 e9 e10;subst e3 e4 e5 e8 e9 e10;exact ⟨z0,kz0,z1,kz1⟩
 have HPL:=hid hpl
 have HRL:=hid hrl
 clear hs0 hs1 hs2 h0 h1 h2 h3 h4 hkl _hw0 _hw1 hpl hrl
 have M : Hid (Mine w ((w.alloc (.cells #[.slice P0 pn0 pc0,.slice P1 pn1 pc1,.int .i64 x0.start_.count_,.slice P2 pn2 pc2,.slice P3 pn3 pc3] 48)).alloc (.cells #[.int .i64 x1.now_,.int .i64 x1.token_,.int .i64 x1.mem_.clock_,.slice A0 n0 c0,.slice A1 n1 c1,.int .i64 x1.shelf_.count_,.slice A2 n2 c2,.slice A3 n3 c3,.slice A4 n4 c4] 58)) [.box (w.heap.size + 1) 58 #[.int .i64 x1.now_,.int .i64 x1.token_,.int .i64 x1.mem_.clock_,.slice A0 n0 c0,.slice A1 n1 c1,.int .i64 x1.shelf_.count_,.slice A2 n2 c2,.slice A3 n3 c3,.slice A4 n4 c4],.box w.heap.size 48 #[.slice P0 pn0 pc0,.slice P1 pn1 pc1,.int .i64 x0.start_.count_,.slice P2 pn2 pc2,.slice P3 pn3 pc3]]):=by
  have h:=((Mine.refl w).box 48 #[.slice P0 pn0 pc0,.slice P1 pn1 pc1,.int .i64 x0.start_.count_,.slice P2 pn2 pc2,.slice P3 pn3 pc3]).box 58 #[.int .i64 x1.now_,.int .i64 x1.token_,.int .i64 x1.mem_.clock_,.slice A0 n0 c0,.slice A1 n1 c1,.int .i64 x1.shelf_.count_,.slice A2 n2 c2,.slice A3 n3 c3,.slice A4 n4 c4]
  simp only [World.heap_alloc_size] at h
  exact h
 show Calls Tryz.prog _ #[.agg #[.slice P0 pn0 pc0,.slice P1 pn1 pc1,.int .i64 x0.start_.count_,.slice P2 pn2 pc2,.slice P3 pn3 pc3],.agg #[.int .i64 x1.now_,.int .i64 x1.token_,.int .i64 x1.mem_.clock_,.slice A0 n0 c0,.slice A1 n1 c1,.int .i64 x1.shelf_.count_,.slice A2 n2 c2,.slice A3 n3 c3,.slice A4 n4 c4]] w _
 cases hso : scriptOk x0
 ·have HZ:=hid (replay_no (x0:=x0) (x1:=x1) fun z => by have h:=z.1;rw [hso] at h;cases h)
  go_enter Tryz.func7,Tryz.ntmps7
  go_wp2_with (first|(go_at_call 31;refine zC M (spec_ScriptOk x0 [.slice P0 pn0 pc0,.slice P1 pn1 pc1,.int .i64 x0.start_.count_,.slice P2 pn2 pc2,.slice P3 pn3 pc3] _ _ (Script.R_good.ext HS0.out M.out.ext) HSW.out) ?_;clear M;intro w' M;rw [hso])|((with_reducible refine zN ?_);first|(refine Mine.wp_alloc M.out rfl 42 rfl (.agg #[.slice none 0 0,.slice none 0 0,.int .i64 0]) (by kernel_rfl) ?_;intro gr w' M';(try simp only [Value.cells,zr_,zm_] at M');replace M:=hid M';clear M';(try simp only [zr_,zm_]))|(refine zGs M.out 48 2 5 ?_;(try simp only [zr_,zm_]))|(refine Mine.wp_sets (M.out.own (own_lit0 _ 111 5) ((Ext.refl' _).al _)) rfl 42 _ _ rfl rfl 1 _ rfl rfl _ rfl (Nat.le_of_ble_eq_true rfl) (by simp [Value.oneCell']) (by kernel_rfl) ?_;intro w' M';(try simp only [zr_,zm_] at M');replace M:=hid M';clear M')))
  refine bodyPost_ret (M.out.results_tc Tryz.results7 _ 1 rfl rfl _ Tryz.underlying42 (by rfl) (by kernel_rfl)) rfl ?_
  rw [HZ.out]
  exact ⟨_,_,_,(none,0,0),(none,0,0),rfl,RunsV.bad M.out⟩
 by_cases hlen : n3 = pn2
 rotate_left
 ·have HZ:=hid (replay_no (x0:=x0) (x1:=x1) fun z => hlen (by have h:=z.2;rw [HPL.out,HRL.out] at h;exact h))
  have bl : ((n3 : Int) != (pn2 : Int)) = true:=by simp;omega
  clear hlen
  go_enter Tryz.func7,Tryz.ntmps7
  go_wp2_with (first|(go_at_call 31;refine zC M (spec_ScriptOk x0 [.slice P0 pn0 pc0,.slice P1 pn1 pc1,.int .i64 x0.start_.count_,.slice P2 pn2 pc2,.slice P3 pn3 pc3] _ _ (Script.R_good.ext HS0.out M.out.ext) HSW.out) ?_;clear M;intro w' M;rw [hso])|((with_reducible refine zN ?_);first|(refine Mine.wp_alloc M.out rfl 42 rfl (.agg #[.slice none 0 0,.slice none 0 0,.int .i64 0]) (by kernel_rfl) ?_;intro gr w' M';(try simp only [Value.cells,zr_,zm_] at M');replace M:=hid M';clear M';(try simp only [zr_,zm_]))|(refine zGs M.out 48 2 5 ?_;(try simp only [zr_,zm_]))|(refine Mine.wp_sets (M.out.own (own_lit0 _ 111 5) ((Ext.refl' _).al _)) rfl 42 _ _ rfl rfl 1 _ rfl rfl _ rfl (Nat.le_of_ble_eq_true rfl) (by simp [Value.oneCell']) (by kernel_rfl) ?_;intro w' M';(try simp only [zr_,zm_] at M');replace M:=hid M';clear M'))|((with_reducible show wpList _ _ _ (⟨_,.load _ _,_,_,_,some _⟩::_) _ _);first|((first|refine zGg M.out 1 ?_|refine zGg M.out 2 ?_);(try simp only [zr_,zm_]))))
  refine bodyPost_ret (M.out.results_tc Tryz.results7 _ 1 rfl rfl _ Tryz.underlying42 (by rfl) (by kernel_rfl)) rfl ?_
  rw [HZ.out]
  exact ⟨_,_,_,(none,0,0),(none,0,0),rfl,RunsV.bad M.out⟩
 subst hlen
 have HZ:=hid (replay_yes (x0:=x0) (x1:=x1) ⟨hso,by rw [HPL.out,HRL.out]⟩)
 have bl : ((n3 : Int) != (n3 : Int)) = false:=by simp
 obtain ⟨hs1,hs2,hs3⟩:=script_parts hso
 have HTHO:=hid hs1
 have HPGO:=hid hs3
 have hn4 : n3 ≤ 4:=by rw [← HPL.out];exact hs2
 obtain rfl : pn0 = 8:=by have h:=HPC.out.1.len;rw [valsOk_len (th_parts hs1).1] at h;exact h.symm
 obtain rfl : pn1 = 8:=by have h:=HPC.out.2.2.1.len;rw [(dec_true (th_parts hs1).2.1).1] at h;exact h.symm
 have HRK:=hid (ranks_len x1)
 obtain ⟨rk,hrk⟩ : ∃ rk,ranksOf x1 = rk:=⟨_,rfl⟩
 rw [hrk] at HRK
 have HRKE:=hid hrk
 clear hs1 hs2 hs3 hrk
 go_enter Tryz.func7,Tryz.ntmps7
 go_upto_region 4 with (first|(go_at_call 31;refine zC M (spec_ScriptOk x0 [.slice P0 8 pc0,.slice P1 8 pc1,.int .i64 x0.start_.count_,.slice P2 n3 pc2,.slice P3 pn3 pc3] _ _ (Script.R_good.ext HS0.out M.out.ext) HSW.out) ?_;clear M;intro w' M;rw [hso])|(go_at_call 32;(with_reducible refine (spec_Ranks x1 [.int .i64 x1.now_,.int .i64 x1.token_,.int .i64 x1.mem_.clock_,.slice A0 n0 c0,.slice A1 n1 c1,.int .i64 x1.shelf_.count_,.slice A2 n2 c2,.slice A3 n3 c3,.slice A4 n4 c4] _ _ (GWorld.R_good.ext HW0.out M.out.ext) HWW.out).mono ?_);rintro e w' ⟨RB,rm,rd,rfl,o9,x9⟩;rw [HRKE.out] at o9;replace M:=hid (M.out.own o9 x9);clear o9 x9)|((with_reducible refine zN ?_);first|(refine Mine.wp_alloc M.out rfl 42 rfl (.agg #[.slice none 0 0,.slice none 0 0,.int .i64 0]) (by kernel_rfl) ?_;intro gr w' M';(try simp only [Value.cells,zr_,zm_] at M');replace M:=hid M';clear M';(try simp only [zr_,zm_]))|((first|refine zGs M.out 48 2 5 ?_|refine zGs M.out 58 1 9 ?_);(try simp only [zr_,zm_])))|((with_reducible show wpList _ _ _ (⟨_,.load _ _,_,_,_,some _⟩::_) _ _);first|((first|refine zGg M.out 1 ?_|refine zGg M.out 2 ?_);(try simp only [zr_,zm_]))))
 have M9:=(M.out.own (own_lit0 _ 84 2) ((Ext.refl' _).al _)).own (own_lit0 _ 99 1) ((Ext.refl' _).al _)
 (try simp only [World.heap_alloc_size] at M9)
 replace M:=hid M9
 clear M9
 go_wp2
 clear hso bl
 have hrm : rk.length = rm:=by have h:=M.out.len1 2 rfl;rw [ints_length] at h;exact h
 have hrm4 : rm ≤ 4:=by have h:=HRK.out;rw [HRL.out] at h;omega
 have HRM:=hid hrm
 clear hrm
 have M7:=M.out.perm (List.Perm.trans (List.Perm.trans (List.Perm.cons _ (List.Perm.swap _ _ _)) (List.Perm.swap _ _ _)) (List.Perm.cons _ (List.Perm.swap _ _ _)))
 clear M
 go_loopw [7,8,9] (fun pv ov iv wr => ∃ (q : Nat) (PA : Option Addr) (pm pd : Nat) (OA : Option Addr) (om od : Nat) (ps : List (List Value × Prog)) (os : List (List Value × Order)),q ≤ rm ∧ iv = .int .i64 (q : Int) ∧ pv = .slice PA pm pd ∧ ov = .slice OA om od ∧ pm = q ∧ om = q ∧ Hid (ps.map Prod.snd = (rk.take q).map (progAt x0)) ∧ Hid (os.map Prod.snd = (rk.take q).map (ordAt x1)) ∧ Hid (∀ e ∈ ps,e.1.length = 2 ∧ Prog.R w (fun _ => True) e.1 e.2) ∧ Hid (∀ e ∈ os,e.1.length = 1 ∧ Order.R w (fun _ => True) e.1 e.2) ∧ Hid (Mine w wr [.row 3 1 RB rm rd (ints rk),.row 84 2 PA pm pd (ps.flatMap Prod.fst),.row 99 1 OA om od (os.flatMap Prod.fst),.box gr 42 #[.slice none 0 0,.slice none 0 0,.int .i64 0],.box (w.heap.size + 1) 58 #[.int .i64 x1.now_,.int .i64 x1.token_,.int .i64 x1.mem_.clock_,.slice A0 n0 c0,.slice A1 n1 c1,.int .i64 x1.shelf_.count_,.slice A2 n2 c2,.slice A3 n3 c3,.slice A4 n4 c4],.box w.heap.size 48 #[.slice P0 8 pc0,.slice P1 8 pc1,.int .i64 x0.start_.count_,.slice P2 n3 pc2,.slice P3 pn3 pc3]])) (fun _ _ iv _ => rm - (intOf iv).toNat)
 case atStart => exact ⟨0,_,_,_,_,_,_,[],[],Nat.zero_le _,rfl,rfl,rfl,rfl,rfl,rfl,rfl,(fun e he => by cases he),(fun e he => by cases he),M7⟩
 case round =>
  clear M7
  obtain ⟨q,PA,pm,pd,OA,om,od,ps,os,hq,rfl,rfl,rfl,hpm,hom,HPS,HOS,HPR,HOR,M⟩:=hrel
  by_cases hlt : q < rm
  rotate_left
  ·skip
   skip
   have hte : rk.take q = rk:=List.take_of_length_le (by rw [HRM.out];omega)
   have hps:=HPS.out
   have hos:=HOS.out
   rw [hte] at hps hos
   have HPE:=hid hps
   have HOE:=hid hos
   replace hpm:=hpm.symm
   replace hom:=hom.symm
   subst hpm
   subst hom
   clear hps hos hte
   have HRKE2 : Hid (zipO (rk.map (progAt x0)) (rk.map (ordAt x1)) = ranked x0 x1):=by show _ = _;unfold ranked;rw [HRKE.out]
   go_wp2_with (first|(go_at_call 33;have SP:=SlR.of_rows (R:=Prog.R) (by omega) (fun e he => (HPR.out e he).1) (M.out.row_sl 1 rfl) (fun e he => Prog.R_good.ext (HPR.out e he).2 M.out.ext);have SO:=SlR.of_rows (R:=Order.R) (by omega) (fun e he => (HOR.out e he).1) (M.out.row_sl 2 rfl) (fun e he => Order.R_good.ext (HOR.out e he).2 M.out.ext);rw [HPE.out] at SP;rw [HOE.out] at SO;refine (spec_SerialAll _ _ _ _ _ _ _ P0 pc0 P1 pc1 x0.start_ _ SP (by omega) (fun p hp => HPWT.out p (prog_mem HRKE.out (by rw [HPL.out,HRL.out]) hp)) (fun p hp => HPGO.out p (prog_mem HRKE.out (by rw [HPL.out,HRL.out]) hp)) SO (fun o ho => ord_wt HRKE.out HRWT.out ho) (HPC.out.1.ext M.out.ext) (HPC.out.2.2.1.ext M.out.ext) HPC.out.2.1 HPC.out.2.2.2 HTHO.out).mono ?_;clear SP SO;rintro e w5 ⟨B9,m9,d9,C9,P9,rfl,hrv⟩;rw [HRKE2.out] at hrv ⊢;obtain ⟨es,he1,he2,M4⟩:=hrv.out;have M8:=M.out.call M4;simp only [List.cons_append] at M8;replace M:=hid (RunsV.front M8);have HE1:=hid he1;have HE2:=hid he2;clear M4 M8 hrv he1 he2)|((with_reducible refine zN ?_);first|(refine zGs M.out 42 5 3 ?_;(try simp only [zr_,zm_]))|(refine zSs M.out 42 3 ?_;intro w' M';(try simp only [zr_,zm_] at M');replace M:=hid M';clear M')))
   refine bodyPost_ret (M.out.results_tc Tryz.results7 _ 3 rfl rfl _ Tryz.underlying42 (by rfl) (by kernel_rfl)) rfl ?_
   rw [HZ.out]
   exact ⟨_,_,_,(C9.1,C9.2.1,C9.2.2),(P9.1,P9.2.1,P9.2.2),rfl,es,HE1.out,HE2.out,RunsV.drop M.out⟩
  have HLT : Hid (q < rm):=hlt
  have hqi : (q : Int) < (rm : Int):=by omega
  obtain ⟨kv,hkv⟩ : ∃ k,rk[q]? = some k:=⟨_,List.getElem?_eq_getElem (by rw [HRM.out];exact hlt)⟩
  obtain ⟨k,hk3,rfl⟩:=ranks_ix (x:=x1) (by rw [HRKE.out];exact hkv)
  rw [HRL.out] at hk3
  have hki : (k : Int) < (n3 : Int):=by omega
  have HKV:=hid hkv
  have HKX : Hid ((ints rk)[q]? = some (.int .i64 (k : Int))):=by show (ints rk)[q]? = _;unfold ints;rw [List.getElem?_map,hkv];rfl
  clear hkv
  obtain ⟨b,oo,p,Q0,qn0,qc0,Q1,qn1,qc1,rfl,hpx,hpb,hpr,hpR⟩:=prog_at HP.out hk3
  have HR:=hid hpr
  have HB:=hid hpb
  have HPRX:=hid hpR
  have HPX:=hid (progAt_is hpx)
  obtain ⟨b3,o3,rfl⟩:=HRT.out.addr (by omega)
  obtain ⟨r,row,hrx,hrb,hrw,hrc⟩:=HRT.out.at_ hk3
  obtain ⟨K0,kn0,kc0,h17,hkc,hks⟩:=Root.at17 hrw
  have h17c:=hrc 17 (by omega)
  rw [h17] at h17c
  have HOC : Hid (w.cell? ⟨b3,o3 + k * 40 + 17,none⟩ = some (.slice K0 kn0 kc0) ∧ b3 < w.heap.size):=⟨h17c,hrb⟩
  have hrwt:=HRWT.out r (List.mem_of_getElem? hrx)
  have hkl:=hks.len
  have HOX:=hid (ordAt_is hrx)
  have HORX : Hid (Order.R w (fun _ => True) [.slice K0 kn0 kc0] ⟨r.order_⟩):=⟨K0,kn0,kc0,rfl,hkc,by omega,hks⟩
  clear hpx hpb hpr hpR hrx hrb hrw hrc h17 hkc hks h17c hrwt hkl
  obtain ⟨gK,rfl⟩:=M.out.addr 0 rfl (by omega)
  replace hpm:=hpm.symm
  replace hom:=hom.symm
  subst hpm
  subst hom
  go_wp2_with fail
  refine zRH M.out 10 ?_
  intro w' M'
  replace M:=hid M'
  clear M'
  refine zXL 0 ?_;(try simp only [zs_,zl_])
  refine zXL 1 ?_;(try simp only [zs_,zl_])
  refine zTL 2 ?_;intro K hK;((refine zD 5 ?_;(try simp only [zr_,zm_]);go_big_quiet_on))
  refine zXL 3 ?_;(try simp only [zs_,zl_])
  refine zXL 4 ?_;(try simp only [zs_,zl_])
  refine zXL 5 ?_;(try simp only [zs_,zl_])
  refine zTL 6 ?_;intro K hK;((refine Mine.rd_getr _ _ rfl 0 _ rfl rfl _ (by exact HKX.out) _ (by first|exact Tryz.underlying3) (by rfl) ?_;(try simp only [zr_,zm_]);go_big_quiet_on))
  refine zXL 7 ?_;(try simp only [zs_,zl_])
  refine zTL 8 ?_;intro K hK;((refine Mine.rd_argall 84 _ rfl _ _ rfl _ HR.out HB.out _ Tryz.underlying84 (by rfl) (by kernel_rfl) ?_;(try simp only [zr_,zm_]);go_big_quiet_on))
  refine zNy 9 (fun K hK => ?_)
  go_simp
  refine hK.out _ _ ((M.out).al _) ?_
  clear hK K
  (try simp only [zs_,zl_])
  refine HQ.end_ (by kernel_rfl) ?_
  simp only [List.drop_succ_cons,List.drop_zero]
  go_wp2_with ((at_builtin;refine Mine.wp_push M.out rfl _ _ 45 rfl 84 _ _ _ Tryz.underlying45 Tryz.infoProgU rfl (by omega) 1 rfl rfl _ _ rfl rfl rfl (by simp [Value.oneCell']) (by omega) (by unfold maxLen;omega) ?_;intro A7 c7 w' M';(try simp only [zr_,zm_] at M');replace M:=hid M';clear M'))
  refine zRH M.out 12 ?_
  intro w' M'
  replace M:=hid M'
  clear M'
  refine zXL 0 ?_;(try simp only [zs_,zl_])
  refine zXL 1 ?_;(try simp only [zs_,zl_])
  refine zTL 2 ?_;intro K hK;((refine zD 4 ?_;(try simp only [zr_,zm_]);go_big_quiet_on))
  refine zXL 3 ?_;(try simp only [zs_,zl_])
  refine zXL 4 ?_;(try simp only [zs_,zl_])
  refine zXL 5 ?_;(try simp only [zs_,zl_])
  refine zTL 6 ?_;intro K hK;((refine Mine.rd_getr _ _ rfl 0 _ rfl rfl _ (by exact HKX.out) _ (by first|exact Tryz.underlying3) (by rfl) ?_;(try simp only [zr_,zm_]);go_big_quiet_on))
  refine zXL 7 ?_;(try simp only [zs_,zl_])
  refine zXL 8 ?_;(try simp only [zs_,zl_])
  refine zTL 9 ?_;intro K hK;((refine Mine.rd_arg 22 _ rfl _ _ HOC.out rfl _ Tryz.underlying22 (by rfl) ?_;(try simp only [zr_,zm_]);go_big_quiet_on))
  refine zXL 10 ?_;(try simp only [zs_,zl_])
  refine zNy 11 (fun K hK => ?_)
  go_simp
  refine hK.out _ _ ((M.out).al _) ?_
  clear hK K
  (try simp only [zs_,zl_])
  refine HQ.end_ (by kernel_rfl) ?_
  simp only [List.drop_succ_cons,List.drop_zero]
  go_wp2_with ((at_builtin;refine Mine.wp_push M.out rfl _ _ 80 rfl 99 _ _ _ Tryz.underlying80 Tryz.infoOrderU rfl (by omega) 2 rfl rfl _ _ rfl rfl rfl (by simp [Value.oneCell']) (by omega) (by unfold maxLen;omega) ?_;intro A8 c8 w' M';(try simp only [zr_,zm_] at M');replace M:=hid M';clear M'))
  go_roundw
  case rel => exact ⟨q + 1,_,_,_,_,_,_,ps ++ [([.slice Q0 qn0 qc0,.slice Q1 qn1 qc1],p)],os ++ [([.slice K0 kn0 kc0],⟨r.order_⟩)],HLT.out,by go_num,rfl,rfl,rfl,rfl,by show _ = _;rw [map_take_snoc _ HKV.out,List.map_append,HPS.out,HPX.out];rfl,by show _ = _;rw [map_take_snoc _ HKV.out,List.map_append,HOS.out,HOX.out];rfl,mem_snoc HPR.out ⟨rfl,HPRX.out⟩,mem_snoc HOR.out ⟨rfl,HORX.out⟩,by rw [← fst_push,← fst_push];exact M⟩
  case measure => have:=HLT.out;simp [intOf];omega
theorem seg_mem {E : List Int} {p s : Nat} {x : Int} (h : x ∈ Seg E p s) : x ∈ E:=List.mem_of_mem_drop (List.mem_of_mem_take h)
theorem cut_one1 (D : List Int) (a s : Nat) : D = D.take a ++ (Seg D a s ++ D.drop (a + s)):=by
 unfold Seg
 rw [← List.drop_drop,List.take_append_drop,List.take_append_drop]
set_option maxRecDepth 4000 in
theorem stable_m {b w : World} {g n c gw : Nat} {fr : List Res} {E : List Int} {K : Keys} (M0 : Mine b w (.row 3 1 (some ⟨g,0,none⟩) n c (ints (E))::fr)) (HC0 : CmpC b fr K E gw) (hE : E.Pairwise (· < ·)) (hn19 : n ≤ 19) :
  Calls Tryz.prog 155 #[.slice (some ⟨g,0,none⟩) n c,.int .i64 n,.func (.func 97) #[] #[.pointer (some ⟨gw,0,none⟩)]] w fun e w' => e = .returned (.tuple #[]) ∧ Mine b w' (.row 3 1 (some ⟨g,0,none⟩) n c (ints (rankList K E))::fr):=by
 have hl : E.length = n:=by have h:=M0.len1 0 rfl;rw [ints_length] at h;exact h
 have HL:=hid hl
 have M:=hid M0
 have HC:=hid HC0
 have HE:=hid hE
 have hn : n ≤ 1048576:=by omega
 have hnI : (n : Int) ≤ 1048576:=by omega
 clear M0 HC0 hE hl
 go_enter Tryz.func155,Tryz.ntmps155
 go_wp2
 go_loopw [7,8] (fun av bv wr => ∃ (an : Nat) (A B : Int) (D : List Int),av = .int .i64 A ∧ bv = .int .i64 B ∧ an ≤ n ∧ Hid (A = (an : Int) ∧ B = (an : Int) + 20) ∧ Hid (20 ∣ an) ∧ Hid (Firsts K E 20 an D) ∧ Hid (Mine b wr (.row 3 1 (some ⟨g,0,none⟩) n c (ints (D))::fr))) (fun av _ _ => n - (intOf av).toNat)
 case atStart => exact ⟨0,0,20,E,rfl,rfl,Nat.zero_le _,by show _ ∧ _;omega,Nat.dvd_zero _,Firsts.start K E 20,M⟩
 case round =>
  clear M
  obtain ⟨an,A,B,D,rfl,rfl,han,HAB,HD,HF,M⟩:=hrel
  have hA0 : 0 ≤ A:=by have:=HAB.out;omega
  have hBA : B ≤ 1048596:=by have:=HAB.out;omega
  have hB0 : 0 ≤ B:=by have:=HAB.out;omega
  have hA1 : A ≤ 1048576:=by have:=HAB.out;omega
  have HDL : Hid (D.length = n):=by show _ = _;rw [HF.out.len,HL.out]
  have hcut:=cut_one1 D an 20
  have HTL : Hid ((D.take an).length = an):=by show _ = _;rw [List.length_take,HDL.out];omega
  have HSL : Hid ((Seg D an 20).length = min 20 (n - an)):=by show _ = _;rw [seg_len,HDL.out]
  have HSG : Hid (Seg D an 20 = Seg E an 20):=by show _ = _;unfold Seg;rw [HF.out.hi]
  have M9 : Hid (Mine b wr (.row 3 1 (some ⟨g,0,none⟩) n c (ints (D.take an ++ (Seg D an 20 ++ D.drop (an + 20))))::fr)):=by show Mine _ _ _;rw [← hcut];exact M.out
  have HX1 : Hid (∀ x ∈ Seg D an 20,x ∈ E):=fun x hx => seg_mem (by rw [HSG.out] at hx;exact hx)
  have HX2 : Hid ((Seg D an 20).Pairwise (· < ·)):=by show List.Pairwise _ _;rw [HSG.out];exact HE.out.sublist ((List.take_sublist _ _).trans (List.drop_sublist _ _))
  clear hcut
  by_cases hb : B ≤ (n : Int)
  ·exfalso;have h1:=HAB.out;omega
  have HBN:=hid hb
  go_wp2_with fail
  refine (insertion_m (a:=A) (e0:=(n : Int)) M9.out HC.out HX1.out HX2.out (by rw [HTL.out];exact HAB.out.1) (by have h1:=HAB.out;have h2:=HTL.out;have h3:=HSL.out;have h4:=HBN.out;omega) hn).mono ?_
  rintro e w1 ⟨rfl,X',hp,hs,M1⟩
  have HN:=HF.out.next HD.out (by omega) (by rw [HDL.out];exact han) hp hs
  have HALL:=hid (HN.all (by have h1:=HAB.out;have h4:=HBN.out;have h5:=HL.out;omega))
  have HNL:=hid HN.len
  generalize D.take an ++ (X' ++ D.drop (an + 20)) = D2 at M1 HALL HNL
  replace M:=hid M1
  clear M1 hp hs M9 HN HX1 HX2 HSG HSL HTL HDL HF
  go_wp2
  go_loopw [6] (fun sv wr => ∃ (s : Nat) (S : Int) (D : List Int),sv = .int .i64 S ∧ Hid (S = (s : Int)) ∧ 20 ≤ S ∧ S ≤ 2097172 ∧ Hid (D.length = E.length) ∧ Hid (∀ p,s ∣ p → RunAt K E s p D) ∧ Hid (Mine b wr (.row 3 1 (some ⟨g,0,none⟩) n c (ints (D))::fr))) (fun sv _ => (n : Nat) - (intOf sv).toNat)
  case atStart => exact ⟨20,20,D2,rfl,rfl,by omega,by omega,HNL,HALL,M⟩
  case round =>
   clear M HALL HNL HBN hb
   obtain ⟨s,S,D,rfl,HSS,hS20,hSm,HDL,HR,M⟩:=hrel
   by_cases hlt : S < (n : Int)
   rotate_left
   ·have e:=run_all HE.out HDL.out (by have h1:=HSS.out;have h2:=HL.out;omega) (HR.out 0 (Nat.dvd_zero _))
    have M9:=M.out
    rw [e] at M9
    have M8:=hid M9
    clear M M9 e
    go_wp2
    first|refine bodyPost_ret (v:=.tuple #[]) (by simp [results,Tryz.results155,go_sem]) rfl ?_|refine bodyPost_end (v:=.tuple #[]) (by simp [results,Tryz.results155,go_sem]) rfl ?_
    exact ⟨rfl,M8.out⟩
   exfalso;omega
set_option maxRecDepth 4000 in
theorem sortStable_m {b w : World} {g n c gw : Nat} {fr : List Res} {E : List Int} {K : Keys} (M0 : Mine b w (.row 3 1 (some ⟨g,0,none⟩) n c (ints (E))::fr)) (HC0 : CmpC b fr K E gw) (hE : E.Pairwise (· < ·)) (hn19 : n ≤ 19) :
  Calls Tryz.prog 96 #[.slice (some ⟨g,0,none⟩) n c,.func (.func 97) #[] #[.pointer (some ⟨gw,0,none⟩)]] w fun e w' => e = .returned (.tuple #[]) ∧ Mine b w' (.row 3 1 (some ⟨g,0,none⟩) n c (ints (rankList K E))::fr):=by
 have M:=hid M0
 have HC:=hid HC0
 have HE:=hid hE
 clear M0 HC0 hE
 go_enter Tryz.func96,Tryz.ntmps96
 go_wp2_with fail
 refine (stable_m M.out HC.out HE.out hn19).mono ?_
 rintro e w1 ⟨rfl,M1⟩
 replace M:=hid M1
 clear M1
 go_wp2
 first|refine bodyPost_ret (v:=.tuple #[]) (by simp [results,Tryz.results96,go_sem]) rfl ?_|refine bodyPost_end (v:=.tuple #[]) (by simp [results,Tryz.results96,go_sem]) rfl ?_
 exact ⟨rfl,M.out⟩
end Go.Proofs.YtoegjiigaoanbaaGreat
