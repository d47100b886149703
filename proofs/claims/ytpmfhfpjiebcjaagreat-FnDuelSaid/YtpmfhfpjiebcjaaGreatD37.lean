/- A step of a duel, jobs and history as entries. No condition but lengths. A region that draws its order: several operations that make memory and wait for nobody (make, new variables), in any order, told at once. No condition. -/
import Derived.Test.YtpmfhfpjiebcjaaGreatD21
import Derived.Test.YtpmfhfpjiebcjaaGreatD31
import Derived.Test.YtpmfhfpjiebcjaaGreatD35
import Derived.Test.YtpmfhfpjiebcjaaGreatD36
import Derived.Test.YtpmfhfpjiebcjaaGreatD00
namespace Go.Proofs.YtpmfhfpjiebcjaaGreat
open Go.RowKit Go.Deep
set_option linter.unnecessarySimpa false
set_option linter.unusedSimpArgs false
set_option linter.unusedVariables false
theorem jat {js : List JEnt} {k : Nat} {p : JEnt} (h : js[k]? = some p) : ∀ q,q < (jcell p).length → (js.flatMap jcell)[k * 18 + q]? = (jcell p)[q]?:=fun q hq => flat_get jcell_length js k q p h (by rw [jcell_length] at hq;exact hq)
theorem jput {js : List JEnt} {k : Nat} (p : JEnt) (h : k < js.length) : putAt (js.flatMap jcell) (k * 18) (jcell p) = (js.set k p).flatMap jcell:=flat_put jcell_length (by omega) h
theorem perm_ev {E a b c d : Res} {l1 l1' l2 l3 fr : List Res} (h : (l1 ++ l1').Perm l2) : (E::a::b::c::d::(l1 ++ (l1' ++ (l3 ++ fr)))).Perm (a::b::c::d::(l2 ++ (l3 ++ ([E] ++ fr)))):=by
 have h1 : (E::a::b::c::d::(l1 ++ (l1' ++ (l3 ++ fr)))).Perm (a::b::c::d::E::(l1 ++ (l1' ++ (l3 ++ fr)))):=(List.perm_middle (l₁:=[a,b,c,d])).symm
 have h2 : (E::(l1 ++ (l1' ++ (l3 ++ fr)))).Perm (l2 ++ (l3 ++ ([E] ++ fr))):=by
  rw [← List.append_assoc,← List.append_assoc l2]
  refine ((h.append_right _).cons _).trans ?_
  rw [← List.append_assoc]
  exact List.perm_middle.symm
 exact h1.trans ((((h2.cons _).cons _).cons _).cons _)
theorem perm_no {a b c d : Res} {l1 l1' l2 fr : List Res} (h : (l1 ++ l1').Perm l2) : (a::b::c::d::(l1 ++ (l1' ++ fr))).Perm (a::b::c::d::(l2 ++ fr)):=by
 rw [← List.append_assoc]
 exact (((((h.append_right _).cons _).cons _).cons _).cons _)
set_option maxRecDepth 8000 in
set_option maxHeartbeats 4000000 in
theorem impl_stepE (m : Mem) (AM : Option Addr) (n cm k q : Nat) (j : Job) (A0 : Option Addr) (n0 c0 : Nat) (A1 : Option Addr) (n1 c1 : Nat) (js : List JEnt) (p : JEnt) (es : List Ent) (AJ : Option Addr) (nj cj : Nat) (AH : Option Addr) (nh ch gd : Nat) (hp : js[k]? = some p) (hnj : nj ≤ 4) (b w : World) (fr : List Res) (S0 S1 : Nat → Prop) (h0 : Sl b S0 1 A0 n0 (ints j.reads_)) (hn0 : n0 ≤ 1048576) (h1 : Sl b S1 2 A1 n1 (j.puts_.flatMap Row.cells)) (hn1 : n1 ≤ 1048576) (hm : m.cells_.length ≤ 1048576) (hI : JI q k j p.x) (hq : q ≤ 400) (hh : es.length ≤ q)
  (M : Mine b w (.box gd 31 #[.int .i64 m.clock_,.slice AM n cm,.slice AJ nj cj,.slice AH nh ch]::.row 68 18 AJ nj cj (js.flatMap jcell)::.row 53 3 AH nh ch (es.flatMap ecell)::.row 102 3 AM n cm (m.cells_.flatMap Word.cells)::(js.flatMap jrows ++ (es.map erow ++ fr)))) :
  Calls Tryz.prog 36 #[.pointer (some ⟨gd,0,none⟩),.int .i64 (k : Int),.agg #[.slice A0 n0 c0,.slice A1 n1 c1]] w fun e w' => ∃ (B1 : Option Addr) (m1 e1 : Nat) (p' : JEnt) (AH' : Option Addr) (nh' ch' : Nat) (es' : List Ent),p'.x = (jstep m ((k : Int) + 1) j p.x).2 ∧ es'.map (·.2) = (if evS m p.x = true then es.map (·.2) ++ [⟨p'.x.commit_.wv_,(k : Int) + 1,p'.x.commit_.puts_⟩] else es.map (·.2)) ∧ e = .returned (.tuple #[]) ∧
   Mine b w' (.box gd 31 #[.int .i64 (jstep m ((k : Int) + 1) j p.x).1.clock_,.slice B1 m1 e1,.slice AJ nj cj,.slice AH' nh' ch']::.row 68 18 AJ nj cj ((js.set k p').flatMap jcell)::.row 53 3 AH' nh' ch' (es'.flatMap ecell)::.row 102 3 B1 m1 e1 ((jstep m ((k : Int) + 1) j p.x).1.cells_.flatMap Word.cells)::((js.set k p').flatMap jrows ++ (es'.map erow ++ fr))):=by
 have hk : k < js.length:=(List.getElem?_eq_some_iff.1 hp).1
 have hC:=jat hp
 have hP:=js_out hp
 have hin:=fun p' => js_in (js:=js) (k:=k) p' hk
 have hput:=fun p' => jput (js:=js) (k:=k) p' hk
 obtain ⟨⟨As,ns,cs⟩,⟨Ap,np,cp⟩,⟨Ar,nr,cr⟩,⟨phs,tr,rv,at_,st,seen,busy,⟨pc,pp,pv,pl⟩,⟨cw,crv,cph,cat,cwv,cps,crs⟩⟩⟩:=p
 have M1 : Mine b w (.box gd 31 #[.int .i64 m.clock_,.slice AM n cm,.slice AJ nj cj,.slice AH nh ch]::.row 68 18 AJ nj cj (js.flatMap jcell)::.row 53 3 AH nh ch (es.flatMap ecell)::.row 102 3 AM n cm (m.cells_.flatMap Word.cells)::.row 97 2 As ns cs (seen.flatMap Row.cells)::.row 97 2 Ap np cp (cps.flatMap Row.cells)::.row 3 1 Ar nr cr (ints crs)::(jrest js k ++ (es.map erow ++ fr))) :=
  M.perm (perm_no hP.symm).symm
 clear hP
 have e0 : m.cells_.length = n:=(M1.row_sl 3 rfl).flen Word.cells_length (by omega)
 have e1 : seen.length = ns:=(M1.row_sl 4 rfl).flen Row.cells_length (by omega)
 have e2 : cps.length = np:=(M1.row_sl 5 rfl).flen Row.cells_length (by omega)
 have e3 : crs.length = nr:=(M1.row_sl 6 rfl).len
 have e4 : j.reads_.length = n0:=h0.len
 have e5 : js.length = nj:=(M1.row_sl 1 rfl).flen jcell_length (by omega)
 have e6 : es.length = nh:=(M1.row_sl 2 rfl).flen ecell_length (by omega)
 obtain ⟨⟨i1,i2⟩,⟨i3,i4⟩,i5,i6,i7,i8⟩:=hI
 simp only at i1 i2 i3 i4 i5 i6 i7 i8
 by_cases hev : phs = 2 ∧ (cph = 2 ∨ cph = 3) ∧ (cstepS m ⟨cw,crv,cph,cat,cwv,cps,crs⟩).ph = 4
 ·have hB : evS m ⟨phs,tr,rv,at_,st,seen,busy,⟨pc,pp,pv,pl⟩,⟨cw,crv,cph,cat,cwv,cps,crs⟩⟩ = true:=dec_yes hev
  obtain ⟨rfl,hev⟩:=hev
  have hcw : cw = (k : Int) + 1:=(i8 rfl).elim (fun e => by rcases hev.1 with f|f <;> omega) id
  refine (impl_k2e m AM n cm k j A0 n0 c0 A1 n1 c1 at_ tr rv st seen busy pc pp pv pl cw crv cph cat cwv cps crs As ns cs Ap np cp Ar nr cr AJ nj cj AH nh ch gd (js.flatMap jcell) (es.flatMap ecell) (by omega) hnj (by omega) hC b w _ S0 S1 h0 hn0 h1 hn1 (by omega) (by omega) (by omega) (by omega) (by omega) (by omega) M1 hev).mono ?_
  rintro e w' ⟨B1,m1,e1,B2,m2,e2,B3,m3,e3,B4,m4,e4,B5,m5,e5,B6,m6,e6,rfl,M9⟩
  generalize jstep m ((k : Int) + 1) j ⟨2,tr,rv,at_,st,seen,busy,⟨pc,pp,pv,pl⟩,⟨cw,crv,cph,cat,cwv,cps,crs⟩⟩ = J at M9 ⊢
  refine ⟨B1,m1,e1,⟨(B2,m2,e2),(B3,m3,e3),(B4,m4,e4),J.2⟩,B5,m5,e5,es ++ [((B6,m6,e6),⟨J.2.commit_.wv_,(k : Int) + 1,J.2.commit_.puts_⟩)],rfl,?_,rfl,?_⟩
  rotate_left
  ·rw [← hput,List.flatMap_append,List.map_append,List.append_assoc (es.map erow)]
   rw [hcw] at M9
   exact M9.perm (perm_ev (hin ⟨(B2,m2,e2),(B3,m3,e3),(B4,m4,e4),J.2⟩))
  ·rw [hB,if_pos rfl,List.map_append];rfl
 ·have hB : evS m ⟨phs,tr,rv,at_,st,seen,busy,⟨pc,pp,pv,pl⟩,⟨cw,crv,cph,cat,cwv,cps,crs⟩⟩ = false:=dec_no hev
  refine (impl_kG m AM n cm k j A0 n0 c0 A1 n1 c1 phs at_ tr rv st seen busy pc pp pv pl cw crv cph cat cwv cps crs As ns cs Ap np cp Ar nr cr AJ nj cj AH nh ch gd (js.flatMap jcell) (es.flatMap ecell) (by omega) hnj (by omega) hC b w _ S0 S1 h0 hn0 h1 hn1 (by omega) (by omega) (by omega) (by omega) (by omega) (by omega) M1 hev).mono ?_
  rintro e w' ⟨B1,m1,e1,B2,m2,e2,B3,m3,e3,B4,m4,e4,rfl,M9⟩
  generalize jstep m ((k : Int) + 1) j ⟨phs,tr,rv,at_,st,seen,busy,⟨pc,pp,pv,pl⟩,⟨cw,crv,cph,cat,cwv,cps,crs⟩⟩ = J at M9 ⊢
  refine ⟨B1,m1,e1,⟨(B2,m2,e2),(B3,m3,e3),(B4,m4,e4),J.2⟩,AH,nh,ch,es,rfl,by rw [hB];rfl,rfl,?_⟩
  rw [← hput]
  exact M9.perm (perm_no (hin ⟨(B2,m2,e2),(B3,m3,e3),(B4,m4,e4),J.2⟩))
end Go.Proofs.YtpmfhfpjiebcjaaGreat
namespace Go.Proofs.YtpmfhfpjiebcjaaGreat
open Go Go.RowKit Go.Deep
set_option linter.unnecessarySimpa false
set_option linter.unusedSimpArgs false
set_option linter.unusedVariables false

section
variable {P : Program} {md : Region.Mode} {l : List Oper} {Q : Exit → Act → World → Prop} {n : Nat} {b : World} {rs0 : List Res}
def dAt (l : List Oper) (i : Nat) : Option Tmp:=(l.toArray[i]?).bind Oper.dst
def putAll (l : List Oper) (vals : Nat → Value) (a : Act) (R : List Nat) : Act:=R.foldl (fun a i => a.put (dAt l i) (vals i)) a
def setAll (listed : Array Bool) (R : List Nat) : Array Bool:=R.foldl (fun L i => L.setIfInBounds i true) listed
/-- Operation o makes memory,whatever is owned. -/
def Gro (P : Program) (b : World) (o : Oper) (a : Act) (Φ : Value → Res → Prop) : Prop:=∀ w rs',Mine b w rs' → ∃ v w' r,(execOp a.eval o).run P w = .ok (.value v) w' ∧ Mine b w' (r::rs') ∧ Φ v r
structure GrowSt (P : Program) (md : Region.Mode) (l : List Oper) (n : Nat) (b : World) (Φ : Nat → Value → Res → Prop) (listed : Array Bool) (a : Act) (R : List Nat) : Prop where
 nd : R.Nodup
 op : ∀ i ∈ R,∃ o,l.toArray[i]? = some o ∧ o.guard = none ∧ (∀ cs b,o.op ≠ .select cs b) ∧ i < n ∧ listed.getD i true = false ∧ (∀ e ∈ o.after,Region.binds md e = true → listed.getD e.on false = true) ∧ Gro P b o a (Φ i)
 ap : ∀ i ∈ R,∀ j ∈ R,i ≠ j → ∀ oi oj,l.toArray[i]? = some oi → l.toArray[j]? = some oj → oi.apart l.toArray oj = true
variable {Φ : Nat → Value → Res → Prop}
theorem GrowSt.step {listed : Array Bool} {a : Act} {R R' : List Nat} (h : GrowSt P md l n b Φ listed a R) {i : Nat} (hi : i ∈ R) {o : Oper} (ho : l.toArray[i]? = some o) (v : Value) (hnd : R'.Nodup) (hsub : ∀ j ∈ R',j ∈ R ∧ j ≠ i) :
  GrowSt P md l n b Φ (listed.setIfInBounds i true) (a.put o.dst v) R':=by
 refine ⟨hnd,fun j hj => ?_,fun x hx y hy => h.ap x (hsub x hx).1 y (hsub y hy).1⟩
 obtain ⟨hjR,hji⟩:=hsub j hj
 obtain ⟨oj,h1,h2,h3,h4,h5,h6,h7⟩:=h.op j hjR
 refine ⟨oj,h1,h2,h3,h4,by rw [getD_set_ne true (Ne.symm hji)];exact h5,fun e he hb => getD_set_true (h6 e he hb),?_⟩
 have hap:=Oper.apart_spec (h.ap i hi j hjR (Ne.symm hji) o oj ho h1)
 intro w rs' M
 have he:=execOp_put (ops:=l.toArray) oj h3 a o.dst v hap.1
 rw [he]
 exact h7 w rs' M
theorem GrowSt.shift {listed : Array Bool} {a : Act} {R A A' : List Nat} (h : GrowSt P md l n b Φ listed a R) {i : Nat} (hA : A.Perm (i::A')) (hAR : ∀ j ∈ A,j ∈ R) (hi' : i ∉ A') {o : Oper} (ho : l.toArray[i]? = some o) (v : Value) (vals : Nat → Value) :
  setAll listed A = setAll (listed.setIfInBounds i true) A' ∧ putAll l (fun j => if j = i then v else vals j) a A = putAll l vals (a.put o.dst v) A':=by
 constructor
 ·exact hA.foldl_eq' (fun x _ y _ z => by
   by_cases e : x = y
   ·subst e;rfl
   ·exact Array.setIfInBounds_comm _ _ e) listed
 ·have hd : dAt l i = o.dst:=by unfold dAt;rw [ho];rfl
  have h1 : putAll l (fun j => if j = i then v else vals j) a A = putAll l (fun j => if j = i then v else vals j) a (i::A'):=hA.foldl_eq' (fun x hx y hy z => by
   by_cases e : x = y
   ·subst e;rfl
   ·obtain ⟨ox,hox,-⟩:=h.op x (hAR x hx)
    obtain ⟨oy,hoy,-⟩:=h.op y (hAR y hy)
    have hap:=Oper.apart_spec (h.ap x (hAR x hx) y (hAR y hy) e ox oy hox hoy)
    have e1 : dAt l x = ox.dst:=by unfold dAt;rw [hox];rfl
    have e2 : dAt l y = oy.dst:=by unfold dAt;rw [hoy];rfl
    show (z.put (dAt l x) _).put (dAt l y) _ = (z.put (dAt l y) _).put (dAt l x) _
    rw [e1,e2]
    exact Act.put_comm z _ _ hap.2.1) a
  rw [h1]
  show putAll l _ (a.put (dAt l i) (if i = i then v else vals i)) A' = _
  rw [if_pos rfl,hd]
  unfold putAll
  generalize a.put o.dst v = z
  clear h1 hA hAR
  induction A' generalizing z with
  | nil => rfl
  | cons x A' ih =>
   rw [List.foldl_cons,List.foldl_cons]
   have hx : ¬ x = i:=fun e => hi' (by rw [e];exact List.mem_cons_self ..)
   show List.foldl _ (z.put (dAt l x) (if x = i then v else vals x)) A' = _
   rw [if_neg hx]
   exact ih (fun q => hi' (List.mem_cons_of_mem _ q)) _
theorem HQ.grow (hB : headB md l n = true) : ∀ (k : Nat) (D E : List Nat) (listed : Array Bool) (a : Act) (w : World) (pre : List Res) (f : Nat),D.length + E.length = k → E.length ≤ 1 → GrowSt P md l n b Φ listed a (D ++ E) →
  (∀ j,j < n → listed.getD j true = false → j ∉ D ++ E → ∀ i ∈ D,∃ oj,l.toArray[j]? = some oj ∧ ∃ e ∈ oj.after,Region.binds md e = true ∧ e.on = i) → Mine b w (pre ++ rs0) →
  (∀ Es,(Es = [] ∨ Es = E) → ∀ (vals : Nat → Value) (rows : Nat → Res),(∀ i ∈ D ++ Es,Φ i (vals i) (rows i)) → ∀ w',Mine b w' ((D ++ Es).map rows ++ (pre ++ rs0)) → HQ P md l Q (fun w' => Mine b w' rs0) n (f + (E.length - Es.length)) (setAll listed (D ++ Es)) (putAll l vals a (D ++ Es)) w') →
  HQ P md l Q (fun w' => Mine b w' rs0) n (f + E.length + D.length) listed a w:=by
 intro k
 induction k with
 | zero =>
  intro D E listed a w pre f hk hE st hx M C
  obtain rfl : D = []:=List.eq_nil_of_length_eq_zero (by omega)
  exact C [] (.inl rfl) (fun _ => undef) (fun _ => .box 0 0 #[]) (fun i hi => by simp at hi) w (by simpa using M)
 | succ k ih =>
  intro D E listed a w pre f hk hE st hx M C
  rcases D with _|⟨d,D⟩
  ·exact C [] (.inl rfl) (fun _ => undef) (fun _ => .box 0 0 #[]) (fun i hi => by simp at hi) w (by simpa using M)
  rw [show f + E.length + (d::D).length = (f + E.length + D.length) + 1 by simp;omega]
  intro inv hS
  have hB':=hB
  simp only [headB,Bool.and_eq_true,decide_eq_true_eq] at hB'
  obtain ⟨⟨⟨hsel,hn⟩,hs⟩,hc⟩:=hB'
  obtain ⟨od,hod,-,-,hdn,hdun,hddep,-⟩:=st.op d (by simp)
  have hdr : d ∈ Region.ready md l.toArray listed:=mem_ready.2 ⟨hdun,od,hod,hddep⟩
  refine ⟨fun h => (by rw [h] at hdr;cases hdr),fun i hi => ?_⟩
  have hin : i < n:=by
   rcases Nat.lt_or_ge i n with h|h
   ·exact h
   ·exact absurd hi (tail_waits hs hc hn inv _ d rfl hdn hdun i h)
  refine ⟨hin,?_⟩
  obtain ⟨hiun,oi',hoi',hall⟩:=mem_ready.1 hi
  have hiR : i ∈ (d::D) ++ E:=by
   apply Classical.byContradiction
   intro hno
   obtain ⟨oj,hoj,e,he,hb,hon⟩:=hx i hin hiun hno d (by simp)
   obtain rfl : oi' = oj:=Option.some.inj (hoi'.symm.trans hoj)
   have h1:=hall e he hb
   rw [hon,getD_both hdun] at h1
   cases h1
  obtain ⟨o,ho,hg,hsl,-,-,-,hgro⟩:=st.op i hiR
  obtain ⟨v,w',r,hrun,M',hΦ⟩:=hgro w _ M
  have hMr : Mine b w' ((r::pre) ++ rs0):=M'
  have hS' : Mine b w' rs0:=M'.sub ((List.sublist_append_right pre rs0).trans (List.sublist_cons_self _ _))
  unfold wpOp
  simp only [ho]
  rw [if_pos (wanted_none hg _)]
  refine .inl ?_
  unfold Oper.wp
  rw [hrun,Oper.upon_value]
  refine ⟨hS',?_⟩
  -- the continuation,carried over
  have key : ∀ (D' E' : List Nat),D'.length + E'.length = k → E'.length ≤ 1 → (D' ++ E').Nodup → (∀ j ∈ D' ++ E',j ∈ (d::D) ++ E ∧ j ≠ i) → (∀ j,j ∈ (d::D) ++ E → j ≠ i → j ∈ D' ++ E') → (∀ j ∈ D',j ∈ d::D) →
    (∀ Es',(Es' = [] ∨ Es' = E') → ∃ Es,(Es = [] ∨ Es = E) ∧ ((d::D) ++ Es).Perm (i::(D' ++ Es')) ∧ E.length - Es.length = E'.length - Es'.length) → f + E'.length + D'.length = f + E.length + D.length →
    HQ P md l Q (fun w' => Mine b w' rs0) n (f + E.length + D.length) (listed.setIfInBounds i true) (a.put o.dst v) w':=by
   intro D' E' h1 h2 h3 h4 h5 h6 h7 h8
   rw [← h8]
   refine ih D' E' _ _ w' (r::pre) f h1 h2 (st.step hiR ho v h3 h4) (fun j hj hjun hjno q hq => ?_) hMr (fun Es' hEs' vals rows hvr w'' M'' => ?_)
   ·have hji : j ≠ i:=by
     intro e
     rw [e] at hjun
     have hlt : i < listed.size:=by
      rcases Nat.lt_or_ge i listed.size with h|h
      ·exact h
      ·simp [Array.getElem?_eq_none h] at hiun
     simp [hlt] at hjun
    rw [getD_set_ne true (Ne.symm hji)] at hjun
    exact hx j hj hjun (fun q2 => hjno (h5 j q2 hji)) q (h6 q hq)
   ·obtain ⟨Es,hEs,hp,hlen⟩:=h7 Es' hEs'
    have hsubA : ∀ j ∈ (d::D) ++ Es,j ∈ (d::D) ++ E:=by
     intro j hj
     rcases hEs with rfl|rfl
     ·rw [List.append_nil] at hj;exact List.mem_append_left _ hj
     ·exact hj
    have hinot : i ∉ D' ++ Es':=by
     intro q
     have q2 : i ∈ D' ++ E':=by
      rcases hEs' with rfl|rfl
      ·rw [List.append_nil] at q;exact List.mem_append_left _ q
      ·exact q
     exact (h4 i q2).2 rfl
    obtain ⟨e1,e2⟩:=st.shift hp hsubA hinot ho v vals
    have hC:=C Es hEs (fun j => if j = i then v else vals j) (fun j => if j = i then r else rows j) (fun j hj => by
     by_cases e : j = i
     ·subst e;simp only [if_pos];exact hΦ
     ·simp only [if_neg e]
      have:=(hp.mem_iff (a:=j)).1 hj
      rcases List.mem_cons.1 this with q|q
      ·exact absurd q e
      ·exact hvr j q) w'' (by
     have hm : (((d::D) ++ Es).map fun j => if j = i then r else rows j).Perm (r::(D' ++ Es').map rows):=by
      refine (hp.map _).trans ?_
      rw [List.map_cons,if_pos rfl]
      have : (D' ++ Es').map (fun j => if j = i then r else rows j) = (D' ++ Es').map rows:=List.map_congr_left fun j hj => if_neg fun e => hinot (by rw [← e];exact hj)
      rw [this]
     refine M''.perm ?_
     refine List.Perm.trans ?_ (hm.symm.append_right _)
     exact List.perm_middle)
    rw [e1,e2,hlen] at hC
    exact hC
  have hnd:=st.nd
  by_cases hiD : i ∈ d::D
  ·have hperm:=List.perm_cons_erase hiD
   have hndD : (d::D).Nodup:=hnd.sublist (List.sublist_append_left _ _)
   have hiE : i ∉ E:=fun q => (List.nodup_append.1 hnd).2.2 i hiD i q rfl
   have hmem : ∀ j,j ∈ (d::D).erase i ↔ j ≠ i ∧ j ∈ d::D:=fun j => hndD.mem_erase_iff
   refine key ((d::D).erase i) E ?_ hE ?_ ?_ ?_ ?_ ?_ ?_ (inv.set hi hin) hS'
   ·rw [List.length_erase_of_mem hiD];simp only [List.length_cons] at hk ⊢;omega
   ·have:=((hperm.append_right E).nodup_iff).1 hnd
    exact (List.nodup_cons.1 this).2
   ·intro j hj
    rcases List.mem_append.1 hj with q|q
    ·exact ⟨List.mem_append_left _ ((hmem j).1 q).2,((hmem j).1 q).1⟩
    ·exact ⟨List.mem_append_right _ q,fun e => hiE (by rw [← e];exact q)⟩
   ·intro j hj hji
    rcases List.mem_append.1 hj with q|q
    ·exact List.mem_append_left _ ((hmem j).2 ⟨hji,q⟩)
    ·exact List.mem_append_right _ q
   ·intro j hj;exact ((hmem j).1 hj).2
   ·intro Es' hEs'
    exact ⟨Es',hEs',hperm.append_right Es',rfl⟩
   ·rw [List.length_erase_of_mem hiD];simp only [List.length_cons];omega
  ·have hiE : i ∈ E:=(List.mem_append.1 hiR).resolve_left hiD
   obtain rfl : E = [i]:=by
    rcases E with _|⟨e,_|⟨e',E⟩⟩
    ·cases hiE
    ·simp at hiE;rw [hiE]
    ·simp at hE
   refine key (d::D) [] ?_ (by simp) ?_ ?_ ?_ (fun j hj => hj) ?_ ?_ (inv.set hi hin) hS'
   ·simp at hk ⊢;omega
   ·rw [List.append_nil];exact hnd.sublist (List.sublist_append_left _ _)
   ·intro j hj;rw [List.append_nil] at hj;exact ⟨List.mem_append_left _ hj,fun e => hiD (by rw [← e];exact hj)⟩
   ·intro j hj hji
    rw [List.append_nil]
    rcases List.mem_append.1 hj with q|q
    ·exact q
    ·simp at q;exact absurd q hji
   ·intro Es' hEs'
    have : Es' = []:=by rcases hEs' with h|h <;> exact h
    subst this
    refine ⟨[i],.inr rfl,?_,rfl⟩
    rw [List.append_nil]
    exact List.perm_append_comm
   ·simp;omega
/-- What is asked of the text,as a Bool. -/
def growB (md : Region.Mode) (l : List Oper) (n : Nat) (listed : Array Bool) (D E : List Nat) : Bool :=
 decide ((D ++ E).Nodup) && ((D ++ E).all fun i => decide (i < n) && !(listed.getD i true) && ((l.toArray[i]?).map fun o => o.guard.isNone && o.after.all fun e => !Region.binds md e || listed.getD e.on false).getD false) &&
 ((D ++ E).all fun i => (D ++ E).all fun j => i == j || ((l.toArray[i]?).bind fun oi => (l.toArray[j]?).map fun oj => oi.apart l.toArray oj).getD false) &&
 ((List.range n).all fun j => listed.getD j true || (D ++ E).contains j || D.all fun i => Region.waitsFor md l.toArray j i)
theorem HQ.grows (Φ : Nat → Value → Res → Prop) {D E : List Nat} {listed : Array Bool} {a : Act} {w : World} (f : Nat) (hB : headB md l n = true) (hG : growB md l n listed D E = true) (hE : E.length ≤ 1)
  (gro : ∀ i ∈ D ++ E,∀ o,l.toArray[i]? = some o → Gro P b o a (Φ i)) (M : Mine b w rs0)
  (C : ∀ Es,(Es = [] ∨ Es = E) → ∀ (vals : Nat → Value) (rows : Nat → Res),(∀ i ∈ D ++ Es,Φ i (vals i) (rows i)) → ∀ w',Mine b w' ((D ++ Es).map rows ++ rs0) → HQ P md l Q (fun w' => Mine b w' rs0) n (f + (E.length - Es.length)) (setAll listed (D ++ Es)) (putAll l vals a (D ++ Es)) w') :
  HQ P md l Q (fun w' => Mine b w' rs0) n (f + E.length + D.length) listed a w:=by
 have hB':=hB
 simp only [headB,Bool.and_eq_true,decide_eq_true_eq] at hB'
 obtain ⟨⟨⟨hsel,hn⟩,hs⟩,hc⟩:=hB'
 simp only [growB,Bool.and_eq_true,decide_eq_true_eq,List.all_eq_true] at hG
 obtain ⟨⟨⟨hnd,h1⟩,h2⟩,h3⟩:=hG
 refine HQ.grow (Φ:=Φ) hB _ D E listed a w [] f rfl hE ⟨hnd,fun i hi => ?_,fun i hi j hj hij oi oj hoi hoj => ?_⟩ (fun j hj hjun hjno i hi => ?_) M C
 ·obtain ⟨⟨hin,hun⟩,ho⟩:=h1 i hi
  cases hq : l.toArray[i]? with
  | none => rw [hq] at ho;cases ho
  | some o =>
   rw [hq] at ho
   simp only [Option.map_some,Option.getD_some,Bool.and_eq_true] at ho
   refine ⟨o,rfl,by simpa using ho.1,Region.noSelect_spec hsel i o |> fun h cs b => h cs b hq,hin,by simpa using hun,fun e he hb => ?_,gro i hi o hq⟩
   have h4:=Array.all_eq_true'.1 ho.2 e he
   rw [hb] at h4
   simpa using h4
 ·have h4:=h2 i hi j hj
  rw [hoi,hoj] at h4
  simpa [hij] using h4
 ·have h4:=h3 j (List.mem_range.2 hj)
  rw [hjun] at h4
  have h5 : (D ++ E).contains j = false:=by
   cases hq : (D ++ E).contains j with
   | false => rfl
   | true => exact absurd (by simpa using hq) hjno
  rw [h5] at h4
  simp only [Bool.false_or,List.all_eq_true] at h4
  exact Region.waitsFor_spec (h4 i hi)
theorem Gro.make {o : Oper} {a : Act} (t : TypeId) (x y : Operand) (ho : o.op = .makeSlice t x y) (e : TypeId) (z : Value) (size bytes : Nat) (ht : P.underlying t = some (.slice e))
  (hf : (P.info? e).map (fun i => (i.zero,i.size,i.bytes)) = some (some z,size,bytes)) (m : Nat) (hl : a.eval x = .int .i64 m) (hc : a.eval y = .int .i64 m) (hb : bytes * m ≤ 281474976710656) (hn : m ≤ maxLen) :
  Gro P b o a (fun v r => ∃ g,v = .slice (some ⟨g,0,none⟩) m m ∧ r = .row e size (some ⟨g,0,none⟩) m m (madeCells z.cells (m * size)).toList):=by
 intro w rs' M
 obtain ⟨w1,cs0,hmk,hown,rfl,hx1,-⟩:=made_row (P:=P) w t e z size bytes ht hf m hb hn
 refine ⟨_,w1,_,?_,M.own hown hx1,w.heap.size,rfl,rfl⟩
 unfold execOp
 simp only [ho,hl,hc,Sem.run_bind,Sem.run_pure,hmk,Result.andThen_ok]
theorem Gro.alloc {o : Oper} {a : Act} (ty : TypeId) (ho : o.op = .alloc ty) (z : Value) (hz : (P.info? ty).map (·.zero) = some (some z)) :
  Gro P b o a (fun v r => ∃ g,v = .pointer (some ⟨g,0,none⟩) ∧ r = .box g ty z.cells):=by
 intro w rs' M
 cases hq : P.info? ty with
 | none => simp [hq] at hz
 | some i =>
  have hz' : i.zero = some z:=by simpa [hq] using hz
  refine ⟨.pointer (some ⟨w.heap.size,0,none⟩),_,_,?_,M.box ty z.cells,w.heap.size,rfl,rfl⟩
  unfold execOp
  simp [ho,Instr.alloc,zeroValue,typeInfo,hq,hz',newVar,newRow]
end
end Go.Proofs.YtpmfhfpjiebcjaaGreat
