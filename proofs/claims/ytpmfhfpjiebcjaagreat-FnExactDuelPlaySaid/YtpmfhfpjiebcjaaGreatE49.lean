/- A duel that is owned, as the law's words have it. No condition but lengths. -/
import Derived.Test.YtpmfhfpjiebcjaaGreatE44
import Derived.Test.YtpmfhfpjiebcjaaGreatE45
import Derived.Test.YtpmfhfpjiebcjaaGreatE48
namespace Go.Proofs.YtpmfhfpjiebcjaaGreat
open Go.RowKit Go.Deep
set_option linter.unusedSimpArgs false
set_option linter.unusedVariables false

/-- Which of the things lies in a block. -/
noncomputable def lie (rs : List Res) (g : Nat) : Nat:=rs.findIdx fun r => dec (r.block = some g)
theorem lie_at {rs : List Res} (h : rs.Pairwise Res.far) {i : Nat} {r : Res} {g : Nat} (hi : rs[i]? = some r) (hg : r.block = some g) : lie rs g = i:=by
 obtain ⟨hl,he⟩:=List.getElem?_eq_some_iff.1 hi
 unfold lie
 rw [List.findIdx_eq hl]
 refine ⟨by rw [he];exact dec_yes hg,fun j hj => ?_⟩
 refine dec_no fun q => ?_
 have:=List.pairwise_iff_getElem.1 h j i (by omega) hl hj g q (by rw [he];exact hg)
 exact this
theorem Mine.ows {b w : World} {rs : List Res} (M : Mine b w rs) {i : Nat} {e : TypeId} {size n c : Nat} {A : Option Addr} {xs : List Value} (hi : rs[i]? = some (.row e size A n c xs)) :
  OwS w (fun g => (b.heap.size ≤ g ∧ g < w.heap.size) ∧ lie rs g = i) e size A n c xs :=
 ⟨own_base (M.row_at i hi) (Nat.zero_le _),fun g hg => ⟨(M.row_at i hi).lt g hg,lie_at M.far hi hg⟩⟩
theorem res_get {α : Type} {size : Nat} {rows : α → List Res} (hs : ∀ a,(rows a).length = size) : ∀ (l : List α) (i j : Nat) (a : α),l[i]? = some a → j < size → (l.flatMap rows)[i * size + j]? = (rows a)[j]?:=by
 intro l
 induction l with
 | nil => intro i j a h;simp at h
 | cons b l ih =>
  intro i j a h hj
  rcases i with _|i
  ·simp at h;subst h
   rw [List.flatMap_cons,Nat.zero_mul,Nat.zero_add,List.getElem?_append_left (by rw [hs];exact hj)]
  ·simp only [List.getElem?_cons_succ] at h
   rw [List.flatMap_cons,List.getElem?_append_right (by rw [hs,Nat.succ_mul];omega),hs,Nat.succ_mul,show i * size + size + j - size = i * size + j by omega]
   exact ih i j a h hj
theorem jrows_length (e : JEnt) : (jrows e).length = 3:=rfl
theorem jrows_len (js : List JEnt) : (js.flatMap jrows).length = js.length * 3:=by
 induction js with
 | nil => rfl
 | cons a l ih => rw [List.flatMap_cons,List.length_append,ih,jrows_length,List.length_cons];omega
def duelOf (s : DS) : Duel:=⟨s.m,s.xs,s.h⟩
/-- Bounds on what a duel has. -/
structure DB (s : DS) : Prop where
 m : s.m.cells_.length ≤ 1048576
 xs : s.xs.length ≤ 1048576
 h : s.h.length ≤ 1048576
 x : ∀ x ∈ s.xs,x.seen_.length ≤ 1024 ∧ x.commit_.puts_.length ≤ 1024 ∧ x.commit_.reads_.length ≤ 1024
 p : ∀ p ∈ s.h,p.puts_.length ≤ 1024
theorem DB.zero : DB dzero:=⟨by simp [dzero],by simp [dzero],by simp [dzero],by simp [dzero],by simp [dzero]⟩
theorem DI.db {q : Nat} {jobs : List Job} {s : DS} (h : DI q jobs s) (hq : q ≤ 400) (hj : jobs.length ≤ 4) : DB s:=by
 obtain ⟨h1,h2,h3,h4,h5⟩:=h
 refine ⟨h1,by omega,by omega,fun x hx => ?_,fun p hp => by have:=h4 p hp;omega⟩
 obtain ⟨k,hk⟩:=List.mem_iff_getElem?.1 hx
 have:=h5 k x hk
 unfold JI at this
 omega
theorem play_db (l : List Int) (jobs : List Job) (picks : List Int) (hl : l.length ≤ 1048576) : DB (duelPlay l jobs picks):=by
 by_cases h : jobsOk l jobs = true ∧ picks.length ≤ 400
 ·rw [play_good h]
  exact (DI.to (cells:=l) (DI.zero l jobs hl) _).db h.2 (jobsOk_le h.1)
 ·rw [play_bad h];exact DB.zero
theorem ctl_mul {α : Type} {f : α → Nat} {B : Nat} : ∀ (l : List α),(∀ x ∈ l,f x ≤ B) → ctl f l ≤ B * l.length
 | [],_ => by simp [ctl]
 | a::l,h => by
  have h1:=h a (by simp)
  have h2:=ctl_mul l fun x hx => h x (by simp [hx])
  simp only [ctl,List.length_cons]
  rw [Nat.mul_succ];omega
theorem DB.ca {s : DS} (h : DB s) : Duel.ca (duelOf s) ≤ 1000000000000:=by
 have h1:=ctl_mul (f:=JobRun.ct) (B:=10000) s.xs fun x hx => by
  have:=h.x x hx
  unfold JobRun.ct;omega
 have h2:=ctl_mul (f:=Wrote.ct) (B:=10000) s.h fun x hx => by
  have:=h.p x hx
  unfold Wrote.ct;omega
 have h3:=h.m
 have h4:=h.xs
 have h5:=h.h
 have e : Duel.ca (duelOf s) = s.m.cells_.length * 3 + ctl JobRun.ct s.xs + ctl Wrote.ct s.h:=rfl
 rw [e];omega
theorem DuelV.W {b w : World} {s : DS} {AM AJ AH : Option Addr} {nm cm nj cj nh ch : Nat} (hb : DB s) (h : DuelV b w s AM nm cm AJ nj cj AH nh ch) :
  Duel.W w (fun g => b.heap.size ≤ g ∧ g < w.heap.size) [.int .i64 s.m.clock_,.slice AM nm cm,.slice AJ nj cj,.slice AH nh ch] (duelOf s):=by
 obtain ⟨js,es,hx,hh,M⟩:=h
 have hjl : js.length = s.xs.length:=by rw [← hx,List.length_map]
 have hel : es.length = s.h.length:=by rw [← hh,List.length_map]
 have l0 : s.m.cells_.length = nm:=(M.row_sl 0 rfl).flen Word.cells_length (by omega)
 have l1 : js.length = nj:=(M.row_sl 1 rfl).flen jcell_length (by omega)
 have l2 : es.length = nh:=(M.row_sl 2 rfl).flen ecell_length (by omega)
 have b0:=hb.m
 have b1:=hb.xs
 have b2:=hb.h
 have hs:=fun i e size n c A xs hi => Mine.ows M (i:=i) (e:=e) (size:=size) (n:=n) (c:=c) (A:=A) (xs:=xs) hi
 have gj : ∀ (k u : Nat) (p : JEnt),js[k]? = some p → u < 3 → (Res.row 102 3 AM nm cm (s.m.cells_.flatMap Word.cells)::.row 68 18 AJ nj cj (js.flatMap jcell)::.row 53 3 AH nh ch (es.flatMap ecell)::(js.flatMap jrows ++ es.map erow))[3 + (k * 3 + u)]? = (jrows p)[u]?:=by
  intro k u p hp hu
  have hk:=(List.getElem?_eq_some_iff.1 hp).1
  rw [show 3 + (k * 3 + u) = (k * 3 + u) + 1 + 1 + 1 by omega,List.getElem?_cons_succ,List.getElem?_cons_succ,List.getElem?_cons_succ,List.getElem?_append_left (by rw [jrows_len];omega)]
  exact res_get jrows_length js k u p hp hu
 have ge : ∀ (k : Nat) (p : Ent),es[k]? = some p → (Res.row 102 3 AM nm cm (s.m.cells_.flatMap Word.cells)::.row 68 18 AJ nj cj (js.flatMap jcell)::.row 53 3 AH nh ch (es.flatMap ecell)::(js.flatMap jrows ++ es.map erow))[3 + (nj * 3 + k)]? = some (erow p):=by
  intro k p hp
  rw [show 3 + (nj * 3 + k) = (nj * 3 + k) + 1 + 1 + 1 by omega,List.getElem?_cons_succ,List.getElem?_cons_succ,List.getElem?_cons_succ,List.getElem?_append_right (by rw [jrows_len];omega),jrows_len,show nj * 3 + k - js.length * 3 = k by omega,List.getElem?_map,hp]
  rfl
 generalize hrs : (_::_ : List Res) = rs at M hs gj ge
 have r0 : rs[0]? = some (.row 102 3 AM nm cm (s.m.cells_.flatMap Word.cells)):=by rw [← hrs];rfl
 have r1 : rs[1]? = some (.row 68 18 AJ nj cj (js.flatMap jcell)):=by rw [← hrs];rfl
 have r2 : rs[2]? = some (.row 53 3 AH nh ch (es.flatMap ecell)):=by rw [← hrs];rfl
 clear hrs
 refine ⟨[.int .i64 s.m.clock_,.slice AM nm cm],AJ,nj,cj,AH,nh,ch,fun g => if lie rs g = 0 then 0 else if lie rs g = 2 then 2 else if lie rs g < 3 + nj * 3 then 1 else 2,rfl,⟨AM,nm,cm,fun _ => 0,rfl,M.cap 0 r0,by omega,?_⟩,⟨M.cap 1 r1,by omega,?_⟩,⟨M.cap 2 r2,by omega,?_⟩⟩
 ·exact (hs 0 _ _ _ _ _ _ r0).mono fun g _ hg => ⟨⟨hg.1,by simp only [hg.2];rfl⟩,rfl⟩
 ·refine ⟨by show s.xs.length = nj;omega,js.flatMap jcell,fun g => if lie rs g = 1 then 0 else (lie rs g - 3) / 3 + 1,?_,fun k hk x hxk => ?_⟩
  ·exact (hs 1 _ _ _ _ _ _ r1).mono fun g _ hg => ⟨⟨hg.1,by simp only [hg.2];rw [if_neg (by omega),if_neg (by omega),if_pos (by omega)]⟩,by simp only [hg.2];rfl⟩
  ·have hxk' : s.xs[k]? = some x:=hxk
   rw [← hx,List.getElem?_map] at hxk'
   obtain ⟨p,hp,rfl⟩:=Option.map_eq_some_iff.1 hxk'
   have hbx:=hb.x p.x (List.mem_of_getElem? hxk)
   have g0:=gj k 0 p hp (by omega)
   have g1:=gj k 1 p hp (by omega)
   have g2:=gj k 2 p hp (by omega)
   have c0:=M.cap _ g0
   have c1:=M.cap _ g1
   have c2:=M.cap _ g2
   have m0 : p.x.seen_.length = p.s.2.1:=(M.row_sl _ g0).flen Row.cells_length (by omega)
   have m1 : p.x.commit_.puts_.length = p.p.2.1:=(M.row_sl _ g1).flen Row.cells_length (by omega)
   have m2 : p.x.commit_.reads_.length = p.r.2.1:=(M.row_sl _ g2).len
   have key : ∀ (u : Nat) (g : Nat),u < 3 → (b.heap.size ≤ g ∧ g < w.heap.size) ∧ lie rs g = 3 + (k * 3 + u) → (((b.heap.size ≤ g ∧ g < w.heap.size) ∧ (if lie rs g = 0 then 0 else if lie rs g = 2 then 2 else if lie rs g < 3 + nj * 3 then 1 else 2) = 1) ∧ (if lie rs g = 1 then 0 else (lie rs g - 3) / 3 + 1) = k + 1) ∧ (lie rs g - 3) % 3 = u:=by
    intro u g hu hg
    refine ⟨⟨⟨hg.1,?_⟩,?_⟩,?_⟩
    ·simp only [hg.2];rw [if_neg (by omega),if_neg (by omega),if_pos (by omega)]
    ·simp only [hg.2];rw [if_neg (by omega)];omega
    ·rw [hg.2];omega
   refine ⟨jcell p,⟨p.s.1,p.s.2.1,p.s.2.2,[.int .i64 p.x.commit_.who_,.int .i64 p.x.commit_.rv_,.int .i64 p.x.commit_.phase_,.int .i64 p.x.commit_.at_,.int .i64 p.x.commit_.wv_,.slice p.p.1 p.p.2.1 p.p.2.2,.slice p.r.1 p.r.2.1 p.r.2.2],fun g => if (lie rs g - 3) % 3 = 0 then 0 else 1,rfl,⟨c0,by omega,?_⟩,⟨p.p.1,p.p.2.1,p.p.2.2,p.r.1,p.r.2.1,p.r.2.2,fun g => if (lie rs g - 3) % 3 = 1 then 0 else 1,rfl,⟨c1,by omega,?_⟩,⟨c2,by omega,?_⟩⟩⟩,fun j hj => flat_get jcell_length js k j p hp hj⟩
   ·exact (hs _ _ _ _ _ _ _ g0).mono fun g _ hg => by
     have:=key 0 g (by omega) hg
     exact ⟨this.1,if_pos this.2⟩
   ·exact (hs _ _ _ _ _ _ _ g1).mono fun g _ hg => by
     have:=key 1 g (by omega) hg
     exact ⟨⟨this.1,if_neg (by omega)⟩,if_pos this.2⟩
   ·exact (hs _ _ _ _ _ _ _ g2).mono fun g _ hg => by
     have:=key 2 g (by omega) hg
     exact ⟨⟨this.1,if_neg (by omega)⟩,if_neg (by omega)⟩
 ·refine ⟨by show s.h.length = nh;omega,es.flatMap ecell,fun g => if lie rs g = 2 then 0 else lie rs g - (3 + nj * 3) + 1,?_,fun k hk x hxk => ?_⟩
  ·exact (hs 2 _ _ _ _ _ _ r2).mono fun g _ hg => ⟨⟨hg.1,by simp only [hg.2];rfl⟩,by simp only [hg.2];rfl⟩
  ·have hxk' : s.h[k]? = some x:=hxk
   rw [← hh,List.getElem?_map] at hxk'
   obtain ⟨p,hp,rfl⟩:=Option.map_eq_some_iff.1 hxk'
   have hbp:=hb.p p.2 (List.mem_of_getElem? hxk)
   have g0:=ge k p hp
   have c0:=M.cap _ g0
   have m0 : p.2.puts_.length = p.1.2.1:=(M.row_sl _ g0).flen Row.cells_length (by omega)
   refine ⟨ecell p,⟨p.1.1,p.1.2.1,p.1.2.2,fun _ => 0,rfl,c0,by omega,?_⟩,fun j hj => flat_get ecell_length es k j p hp hj⟩
   exact (hs _ _ _ _ _ _ _ g0).mono fun g _ hg => by
    refine ⟨⟨⟨hg.1,?_⟩,?_⟩,rfl⟩
    ·simp only [hg.2];rw [if_neg (by omega),if_neg (by omega),if_neg (by omega)]
    ·simp only [hg.2];rw [if_neg (by omega)];omega
theorem DuelV.ext {w w' : World} {s : DS} {AM AJ AH : Option Addr} {nm cm nj cj nh ch : Nat} (h : DuelV w w' s AM nm cm AJ nj cj AH nh ch) : Ext w w':=by
 obtain ⟨js,es,_,_,M⟩:=h
 exact M.ext
theorem spec_DuelPlayR (A0 : Option Addr) (n0 c0 : Nat) (l : List Int) (A1 : Option Addr) (n1 c1 : Nat) (jobs : List Job) (A2 : Option Addr) (n2 c2 : Nat) (picks : List Int) (w : World) (S0 : Nat → Prop) (h0 : Sl w S0 1 A0 n0 (ints l)) (hm0 : n0 ≤ 1048576) (S1 : Nat → Prop) (h1 : SlR Job.R 2 w S1 A1 n1 jobs) (hm1 : n1 ≤ 1048576) (hw : ∀ j ∈ jobs,Job.wt j ≤ 1048576) (S2 : Nat → Prop) (h2 : Sl w S2 1 A2 n2 (ints picks)) (hm2 : n2 ≤ 1048576) :
  Calls Tryz.prog 6 #[.slice A0 n0 c0,.slice A1 n1 c1,.slice A2 n2 c2] w fun e w' => ∃ B0 m0 d0 B1 m1 d1 B2 m2 d2,e = .returned (.agg #[.int .i64 (duelOf (duelPlay l jobs picks)).mem_.clock_,.slice B0 m0 d0,.slice B1 m1 d1,.slice B2 m2 d2]) ∧ Hid (Duel.W w' (fun g => w.heap.size ≤ g ∧ g < w'.heap.size) [.int .i64 (duelOf (duelPlay l jobs picks)).mem_.clock_,.slice B0 m0 d0,.slice B1 m1 d1,.slice B2 m2 d2] (duelOf (duelPlay l jobs picks))) ∧ Ext w w':=by
 have hl:=h0.len
 refine (spec_DuelPlay A0 n0 c0 l A1 n1 c1 jobs A2 n2 c2 picks w S0 h0 hm0 S1 h1 hm1 hw S2 h2 hm2).mono ?_
 rintro e w' ⟨AM,nm,cm,AJ,nj,cj,AH,nh,ch,rfl,h⟩
 exact ⟨AM,nm,cm,AJ,nj,cj,AH,nh,ch,rfl,Lib.hid (DuelV.W (play_db l jobs picks (by omega)) h.out),h.out.ext⟩
theorem impl_DuelPlayR (A0 : Option Addr) (n0 c0 : Nat) (l : List Int) (A1 : Option Addr) (n1 c1 : Nat) (jobs : List Job) (A2 : Option Addr) (n2 c2 : Nat) (picks : List Int) (w : World) (S0 : Nat → Prop) (h0 : Sl w S0 1 A0 n0 (ints l)) (hm0 : n0 ≤ 1048576) (S1 : Nat → Prop) (h1 : SlR Job.R 2 w S1 A1 n1 jobs) (hm1 : n1 ≤ 1048576) (hw : ∀ j ∈ jobs,Job.wt j ≤ 1048576) (S2 : Nat → Prop) (h2 : Sl w S2 1 A2 n2 (ints picks)) (hm2 : n2 ≤ 1048576) :
  Calls Tryz.prog 9 #[.slice A0 n0 c0,.slice A1 n1 c1,.slice A2 n2 c2] w fun e w' => ∃ B0 m0 d0 B1 m1 d1 B2 m2 d2,e = .returned (.agg #[.int .i64 (duelOf (duelPlay l jobs picks)).mem_.clock_,.slice B0 m0 d0,.slice B1 m1 d1,.slice B2 m2 d2]) ∧ Hid (Duel.W w' (fun g => w.heap.size ≤ g ∧ g < w'.heap.size) [.int .i64 (duelOf (duelPlay l jobs picks)).mem_.clock_,.slice B0 m0 d0,.slice B1 m1 d1,.slice B2 m2 d2] (duelOf (duelPlay l jobs picks))) ∧ Ext w w':=by
 have hl:=h0.len
 refine (impl_DuelPlay A0 n0 c0 l A1 n1 c1 jobs A2 n2 c2 picks w S0 h0 hm0 S1 h1 hm1 hw S2 h2 hm2).mono ?_
 rintro e w' ⟨AM,nm,cm,AJ,nj,cj,AH,nh,ch,rfl,h⟩
 exact ⟨AM,nm,cm,AJ,nj,cj,AH,nh,ch,rfl,Lib.hid (DuelV.W (play_db l jobs picks (by omega)) h.out),h.out.ext⟩
end Go.Proofs.YtpmfhfpjiebcjaaGreat
