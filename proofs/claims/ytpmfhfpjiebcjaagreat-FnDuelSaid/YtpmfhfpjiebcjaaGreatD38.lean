/- DuelPlay: words on what is owned. No condition. What FnDuel's law reads: jobs that were drawn, a duel that was played. No condition but lengths. -/
import Derived.Test.YtpmfhfpjiebcjaaGreatD00
import Derived.Test.YtpmfhfpjiebcjaaGreatD37
import Derived.Test.YtpmfhfpjiebcjaaGreatD20
import Derived.Test.YtpmfhfpjiebcjaaGreatD23
import Derived.Test.YtpmfhfpjiebcjaaGreatD24
import Derived.Test.YtpmfhfpjiebcjaaGreatD29
namespace Go.Proofs.YtpmfhfpjiebcjaaGreat
open Go.RowKit Go.Deep
set_option linter.unnecessarySimpa false
set_option linter.unusedSimpArgs false
set_option linter.unusedVariables false

theorem Tryz.infoJobRun : (Tryz.prog.info? 68).map (fun i => (i.zero,i.size,i.bytes)) = some (some (.agg (List.toArray ((.int .i64 0)::(.int .i64 0)::(.int .i64 0)::(.int .i64 0)::(.int .i64 0)::(.slice none 0 0)::(.bool false)::(.int .i64 0)::(.int .i64 0)::(.int .i64 0)::(.int .i64 0)::(.int .i64 0)::(.int .i64 0)::(.int .i64 0)::(.int .i64 0)::(.int .i64 0)::(.slice none 0 0)::(.slice none 0 0)::[]))),18,192):=by kernel_rfl
def zJ : JEnt:=⟨(none,0,0),(none,0,0),(none,0,0),JobRun.zero⟩
theorem made_jobs (n : Nat) : (madeCells (.agg (List.toArray ((.int .i64 0)::(.int .i64 0)::(.int .i64 0)::(.int .i64 0)::(.int .i64 0)::(.slice none 0 0)::(.bool false)::(.int .i64 0)::(.int .i64 0)::(.int .i64 0)::(.int .i64 0)::(.int .i64 0)::(.int .i64 0)::(.int .i64 0)::(.int .i64 0)::(.int .i64 0)::(.slice none 0 0)::(.slice none 0 0)::[])) : Value).cells (n * 18)).toList = (List.replicate n zJ).flatMap jcell:=made_flat jcell_length (by omega) rfl n
theorem made_jobs2 (n : Nat) : (madeCells (List.toArray ((.int .i64 0)::(.int .i64 0)::(.int .i64 0)::(.int .i64 0)::(.int .i64 0)::(.slice none 0 0)::(.bool false)::(.int .i64 0)::(.int .i64 0)::(.int .i64 0)::(.int .i64 0)::(.int .i64 0)::(.int .i64 0)::(.int .i64 0)::(.int .i64 0)::(.int .i64 0)::(.slice none 0 0)::(.slice none 0 0)::[])) (n * 18)).toList = (List.replicate n zJ).flatMap jcell:=made_jobs n
theorem Mine.jnils {b w : World} {rs : List Res} (M : Mine b w rs) : ∀ k : Nat,Mine b w ((List.replicate k zJ).flatMap jrows ++ rs)
 | 0 => by simpa using M
 | k + 1 => by
  rw [List.replicate_succ,List.flatMap_cons]
  exact ((((Mine.jnils M k).nil 3 1).nil 97 2).nil 97 2)
/-- A duel in memory,as a result. -/
def DuelV (w w' : World) (s : DS) (AM : Option Addr) (nm cm : Nat) (AJ : Option Addr) (nj cj : Nat) (AH : Option Addr) (nh ch : Nat) : Prop :=
 ∃ (js : List JEnt) (es : List Ent),js.map JEnt.x = s.xs ∧ es.map (·.2) = s.h ∧ Mine w w' (.row 102 3 AM nm cm (s.m.cells_.flatMap Word.cells)::.row 68 18 AJ nj cj (js.flatMap jcell)::.row 53 3 AH nh ch (es.flatMap ecell)::(js.flatMap jrows ++ es.map erow))
/-- A duel under way. -/
def DuelL (w w' : World) (s : DS) (gd gJ n1 : Nat) (FR : List Res) : Prop :=
 ∃ (AM : Option Addr) (nm cm : Nat) (AH : Option Addr) (nh ch : Nat) (js : List JEnt) (es : List Ent),js.map JEnt.x = s.xs ∧ es.map (·.2) = s.h ∧
  Mine w w' (.box gd 31 #[.int .i64 s.m.clock_,.slice AM nm cm,.slice (some ⟨gJ,0,none⟩) n1 n1,.slice AH nh ch]::.row 68 18 (some ⟨gJ,0,none⟩) n1 n1 (js.flatMap jcell)::.row 53 3 AH nh ch (es.flatMap ecell)::.row 102 3 AM nm cm (s.m.cells_.flatMap Word.cells)::(js.flatMap jrows ++ (es.map erow ++ FR)))
def dzero : DS:=⟨⟨0,[]⟩,[],[]⟩
theorem DuelV.zero {w w' : World} {rs : List Res} (M : Mine w w' rs) : DuelV w w' dzero none 0 0 none 0 0 none 0 0 :=
 ⟨[],[],rfl,rfl,(((M.sub s0_).nil 53 3).nil 68 18).nil 102 3⟩
theorem play_bad {cells : List Int} {jobs : List Job} {picks : List Int} (h : ¬ (jobsOk cells jobs = true ∧ picks.length ≤ 400)) : duelPlay cells jobs picks = dzero:=by
 unfold duelPlay;rw [dec_no h];rfl
def d0 (cells : List Int) (jobs : List Job) : DS:=⟨⟨0,cells.map mkW⟩,List.replicate jobs.length JobRun.zero,[]⟩
theorem play_good {cells : List Int} {jobs : List Job} {picks : List Int} (h : jobsOk cells jobs = true ∧ picks.length ≤ 400) : duelPlay cells jobs picks = dto jobs (d0 cells jobs) picks picks.length:=by
 unfold duelPlay;rw [dec_yes h];rfl
theorem DuelL.start {w w' : World} {cells : List Int} {jobs : List Job} {B : Option Addr} {n d gd gJ n1 : Nat} {FR : List Res} (hn : jobs.length = n1)
  (M : Mine w w' (.row 102 3 B n d ((cells.map mkW).flatMap Word.cells)::.box gd 31 #[.int .i64 0,.slice B n d,.slice (some ⟨gJ,0,none⟩) n1 n1,.slice none 0 0]::.row 68 18 (some ⟨gJ,0,none⟩) n1 n1 ((List.replicate n1 zJ).flatMap jcell)::FR)) : DuelL w w' (d0 cells jobs) gd gJ n1 FR:=by
 refine ⟨B,n,d,none,0,0,List.replicate n1 zJ,[],?_,rfl,?_⟩
 ·rw [List.map_replicate,← hn];rfl
 ·have M1:=(M.nil 53 3).jnils n1
  refine M1.perm ?_
  rw [List.map_nil,List.nil_append]
  generalize (List.replicate n1 zJ).flatMap jrows = L
  refine (List.perm_append_comm_assoc L [_,_,_,_] FR).trans ?_
  exact (List.perm_append_comm (l₁:=[_,_]) (l₂:=[_,_])).append_right (L ++ FR)
theorem dstep_is {jobs : List Job} {s : DS} {k : Nat} {j : Job} {x : JobRun} (hj : jobs[k]? = some j) (hx : s.xs[k]? = some x) :
  dstep jobs s k = ⟨(jstep s.m ((k : Int) + 1) j x).1,s.xs.set k (jstep s.m ((k : Int) + 1) j x).2,if evS s.m x = true then s.h ++ [⟨(jstep s.m ((k : Int) + 1) j x).2.commit_.wv_,(k : Int) + 1,(jstep s.m ((k : Int) + 1) j x).2.commit_.puts_⟩] else s.h⟩:=by
 have e1 : s.xs.getD k JobRun.zero = x:=by rw [List.getD_eq_getElem?_getD,hx];rfl
 have e2 : jobs.getD k default = j:=by rw [List.getD_eq_getElem?_getD,hj];rfl
 unfold dstep
 simp only [e1,e2]
/-- One step further. -/
theorem DuelL.next {w w' : World} {jobs : List Job} {s : DS} {k gd gJ n1 : Nat} {j : Job} {p p' : JEnt} {js : List JEnt} {es es' : List Ent} {FR : List Res} {AM AH : Option Addr} {nm cm nh ch : Nat} (hj : jobs[k]? = some j) (hp : js[k]? = some p) (hs : js.map JEnt.x = s.xs) (hh : es.map (·.2) = s.h)
  (hp' : p'.x = (jstep s.m ((k : Int) + 1) j p.x).2) (he : es'.map (·.2) = if evS s.m p.x = true then es.map (·.2) ++ [⟨p'.x.commit_.wv_,(k : Int) + 1,p'.x.commit_.puts_⟩] else es.map (·.2))
  (M : Mine w w' (.box gd 31 #[.int .i64 (jstep s.m ((k : Int) + 1) j p.x).1.clock_,.slice AM nm cm,.slice (some ⟨gJ,0,none⟩) n1 n1,.slice AH nh ch]::.row 68 18 (some ⟨gJ,0,none⟩) n1 n1 ((js.set k p').flatMap jcell)::.row 53 3 AH nh ch (es'.flatMap ecell)::.row 102 3 AM nm cm ((jstep s.m ((k : Int) + 1) j p.x).1.cells_.flatMap Word.cells)::((js.set k p').flatMap jrows ++ (es'.map erow ++ FR)))) :
  DuelL w w' (dstep jobs s k) gd gJ n1 FR:=by
 have hx : s.xs[k]? = some p.x:=by rw [← hs,List.getElem?_map,hp];rfl
 rw [dstep_is hj hx]
 refine ⟨AM,nm,cm,AH,nh,ch,js.set k p',es',?_,?_,M⟩
 ·rw [List.map_set,hs,hp']
 ·rw [he,hh,hp']
theorem DuelL.done {w w' : World} {s : DS} {gd gJ n1 gr : Nat} {FR : List Res} {X : Array Value} (h : DuelL w w' s gd gJ n1 (.box gr 31 X::FR)) :
  ∃ (AM : Option Addr) (nm cm : Nat) (AH : Option Addr) (nh ch : Nat) (js : List JEnt) (es : List Ent),js.map JEnt.x = s.xs ∧ es.map (·.2) = s.h ∧
   Mine w w' (.box gr 31 X::.box gd 31 #[.int .i64 s.m.clock_,.slice AM nm cm,.slice (some ⟨gJ,0,none⟩) n1 n1,.slice AH nh ch]::.row 68 18 (some ⟨gJ,0,none⟩) n1 n1 (js.flatMap jcell)::.row 53 3 AH nh ch (es.flatMap ecell)::.row 102 3 AM nm cm (s.m.cells_.flatMap Word.cells)::(js.flatMap jrows ++ es.map erow)):=by
 obtain ⟨AM,nm,cm,AH,nh,ch,js,es,h1,h2,M⟩:=h
 refine ⟨AM,nm,cm,AH,nh,ch,js,es,h1,h2,?_⟩
 generalize Res.box gr _ X = b1 at M ⊢
 generalize Res.box gd _ _ = b2 at M ⊢
 generalize Res.row _ _ _ n1 n1 _ = r1 at M ⊢
 generalize Res.row _ _ AH nh ch _ = r2 at M ⊢
 generalize Res.row _ _ AM nm cm _ = r3 at M ⊢
 have e : b2::r1::r2::r3::(js.flatMap jrows ++ (es.map erow ++ b1::FR)) = ([b2,r1,r2,r3] ++ js.flatMap jrows ++ es.map erow) ++ b1::FR:=by simp
 rw [e] at M
 have M2:=M.perm List.perm_middle
 refine M2.sub (.cons_cons _ ?_)
 have e3 : b2::r1::r2::r3::(js.flatMap jrows ++ es.map erow) = [b2,r1,r2,r3] ++ js.flatMap jrows ++ es.map erow:=by simp
 rw [e3]
 exact List.sublist_append_left _ _
theorem DuelV.done {w w' : World} {s : DS} {n1 gJ nm cm nh ch : Nat} {AM AH : Option Addr} {js : List JEnt} {es : List Ent} {a b : Res} (h1 : js.map JEnt.x = s.xs) (h2 : es.map (·.2) = s.h)
  (M : Mine w w' (a::b::.row 68 18 (some ⟨gJ,0,none⟩) n1 n1 (js.flatMap jcell)::.row 53 3 AH nh ch (es.flatMap ecell)::.row 102 3 AM nm cm (s.m.cells_.flatMap Word.cells)::(js.flatMap jrows ++ es.map erow))) : DuelV w w' s AM nm cm (some ⟨gJ,0,none⟩) n1 n1 AH nh ch :=
 ⟨js,es,h1,h2,M.tail.tail.perm (List.perm_middle (l₁:=[_,_]))⟩
theorem Mine.p4 {b w : World} {x r1 r2 r3 r4 : Res} {l : List Res} (M : Mine b w (x::r1::r2::r3::r4::l)) : Mine b w (r1::r2::r3::r4::x::l):=M.perm (List.perm_middle (l₁:=[r1,r2,r3,r4])).symm
theorem job_at {w : World} {S : Nat → Prop} {A : Option Addr} {n : Nat} {jobs : List Job} (h : SlR Job.R 2 w S A n jobs) (hw : ∀ j ∈ jobs,Job.wt j ≤ 1048576) {k : Nat} (hk : k < n) :
  ∃ (b o : Nat) (j : Job) (A0 : Option Addr) (n0 c0 : Nat) (A1 : Option Addr) (n1 c1 : Nat),A = some ⟨b,o,none⟩ ∧ b < w.heap.size ∧ jobs[k]? = some j ∧ w.rangeAt b (o + k * 2) [.slice A0 n0 c0,.slice A1 n1 c1] ∧ Sl w S 1 A0 n0 (ints j.reads_) ∧ n0 ≤ 1048576 ∧ Sl w S 2 A1 n1 (j.puts_.flatMap Row.cells) ∧ n1 ≤ 1048576:=by
 obtain ⟨b,o,rfl⟩:=h.addr (by omega)
 obtain ⟨j,row,hj,hb,hr,hc⟩:=h.at_ hk
 have hjw:=hw j (List.mem_of_getElem? hj)
 obtain ⟨A0,n0,c0,A1,n1,c1,rfl,⟨k0,m0,s0⟩,⟨k1,m1,s1⟩⟩:=hr
 have e0 : j.reads_.length = n0:=s0.len
 have e1 : j.puts_.length = n1:=s1.flen Row.cells_length (by omega)
 unfold Job.wt at hjw
 refine ⟨b,o,j,A0,n0,c0,A1,n1,c1,rfl,hb,hj,fun u v hu => ?_,s0,by omega,s1,by omega⟩
 have h3 : u < 2:=by have:=(List.getElem?_eq_some_iff.1 hu).1;simpa using this
 rw [hc u h3];exact hu
theorem jobsOk_le {cells : List Int} {jobs : List Job} (h : jobsOk cells jobs = true) : jobs.length ≤ 4:=(dec_true h).2.1
theorem jobsOk_vals {cells : List Int} {jobs : List Job} (h : jobsOk cells jobs = true) : valsOk cells = true:=(dec_true h).1

theorem Gro.imp {P : Program} {b : World} {o : Oper} {a : Act} {Φ Ψ : Value → Res → Prop} (h : Gro P b o a Φ) (k : ∀ v r,Φ v r → Ψ v r) : Gro P b o a Ψ:=fun w rs' M => by
 obtain ⟨v,w',r,h1,h2,h3⟩:=h w rs' M
 exact ⟨v,w',r,h1,h2,k _ _ h3⟩
end Go.Proofs.YtpmfhfpjiebcjaaGreat
namespace Go.Proofs.YtpmfhfpjiebcjaaGreat
open Go.RowKit Go.Deep
set_option linter.unnecessarySimpa false
set_option linter.unusedSimpArgs false
set_option linter.unusedVariables false

theorem res_at {α : Type} {size : Nat} {rows : α → List Res} (hs : ∀ a,(rows a).length = size) : ∀ (l : List α) (i j : Nat) (a : α) (r : Res) (fr : List Res),l[i]? = some a → (rows a)[j]? = some r → (l.flatMap rows ++ fr)[i * size + j]? = some r:=by
 intro l
 induction l with
 | nil => intro i j a r fr h;simp at h
 | cons b l ih =>
  intro i j a r fr h hj
  have hlt : j < size:=by have:=(List.getElem?_eq_some_iff.1 hj).1;rw [hs] at this;exact this
  rcases i with _|i
  ·simp at h;subst h
   rw [List.flatMap_cons,List.append_assoc,Nat.zero_mul,Nat.zero_add,List.getElem?_append_left (by rw [hs];exact hlt)]
   exact hj
  ·simp only [List.getElem?_cons_succ] at h
   rw [List.flatMap_cons,List.append_assoc,List.getElem?_append_right (by rw [hs,Nat.succ_mul];omega),hs,Nat.succ_mul,show i * size + size + j - size = i * size + j by omega]
   exact ih i j a r fr h hj
theorem jobs_R {b w : World} {es : List GEnt} {B : Option Addr} {m d : Nat} {fr : List Res} (M : Mine b w (.row 72 2 B m d (es.flatMap gcell)::(es.flatMap grows ++ fr))) (hp : ∀ e ∈ es,e.j.reads_.length ≤ 101 ∧ e.j.puts_.length ≤ 101) :
  SlR Job.R 2 w (fun _ => True) B m (es.map (·.j)):=by
 have h:=M.row_sl 0 rfl
 have hl : es.length = m:=h.flen gcell_length (by omega)
 refine ⟨by simpa using hl,fun hn => ?_⟩
 obtain ⟨b',o,e,hS,hb,hc⟩:=h.2 hn
 refine ⟨b',o,e,trivial,hb,fun k x hx => ?_⟩
 rw [List.getElem?_map] at hx
 obtain ⟨p,hpk,rfl⟩:=Option.map_eq_some_iff.1 hx
 have h0:=M.row_at (k * 2 + 0 + 1) (res_at grows_length es k 0 p _ fr hpk rfl)
 have h1:=M.row_at (k * 2 + 1 + 1) (res_at grows_length es k 1 p _ fr hpk rfl)
 have b0:=hp p (List.mem_of_getElem? hpk)
 have n0 : p.j.reads_.length = p.r.2.1:=(ownSl h0).len
 have n1 : p.j.puts_.length = p.p.2.1:=(ownSl h1).flen Row.cells_length (by omega)
 refine ⟨gcell p,⟨p.r.1,p.r.2.1,p.r.2.2,p.p.1,p.p.2.1,p.p.2.2,rfl,⟨own_cap h0,by omega,ownSl h0⟩,⟨own_cap h1,by omega,ownSl h1⟩⟩,fun j hj => ?_⟩
 have hk:=(List.getElem?_eq_some_iff.1 hpk).1
 rw [Nat.add_assoc]
 exact (hc (k * 2 + j) (by omega)).trans (flat_get gcell_length es k j p hpk hj)
theorem jobs_wt {es : List GEnt} (hp : ∀ e ∈ es,e.j.reads_.length ≤ 101 ∧ e.j.puts_.length ≤ 101) : ∀ j ∈ es.map (·.j),Job.wt j ≤ 1048576:=by
 intro j hj
 obtain ⟨e,he,rfl⟩:=List.mem_map.1 hj
 have:=hp e he
 unfold Job.wt;omega
theorem runs_R {b w : World} {js : List JEnt} {B : Option Addr} {m d : Nat} {fr : List Res} (M : Mine b w (.row 68 18 B m d (js.flatMap jcell)::(js.flatMap jrows ++ fr))) (hp : ∀ p ∈ js,p.x.seen_.length ≤ 1024 ∧ p.x.commit_.puts_.length ≤ 1024 ∧ p.x.commit_.reads_.length ≤ 1024) :
  SlR JobRun.R 18 w (fun _ => True) B m (js.map (·.x)):=by
 have h:=M.row_sl 0 rfl
 have hl : js.length = m:=h.flen jcell_length (by omega)
 refine ⟨by simpa using hl,fun hn => ?_⟩
 obtain ⟨b',o,e,hS,hb,hc⟩:=h.2 hn
 refine ⟨b',o,e,trivial,hb,fun k x hx => ?_⟩
 rw [List.getElem?_map] at hx
 obtain ⟨p,hpk,rfl⟩:=Option.map_eq_some_iff.1 hx
 have jl : ∀ a,(jrows a).length = 3:=fun _ => rfl
 have h0:=M.row_at (k * 3 + 0 + 1) (res_at jl js k 0 p _ fr hpk rfl)
 have h1:=M.row_at (k * 3 + 1 + 1) (res_at jl js k 1 p _ fr hpk rfl)
 have h2:=M.row_at (k * 3 + 2 + 1) (res_at jl js k 2 p _ fr hpk rfl)
 have b0:=hp p (List.mem_of_getElem? hpk)
 have n0 : p.x.seen_.length = p.s.2.1:=(ownSl h0).flen Row.cells_length (by omega)
 have n1 : p.x.commit_.puts_.length = p.p.2.1:=(ownSl h1).flen Row.cells_length (by omega)
 have n2 : p.x.commit_.reads_.length = p.r.2.1:=(ownSl h2).len
 refine ⟨jcell p,⟨p.s.1,p.s.2.1,p.s.2.2,[.int .i64 p.x.commit_.who_,.int .i64 p.x.commit_.rv_,.int .i64 p.x.commit_.phase_,.int .i64 p.x.commit_.at_,.int .i64 p.x.commit_.wv_,.slice p.p.1 p.p.2.1 p.p.2.2,.slice p.r.1 p.r.2.1 p.r.2.2],rfl,⟨own_cap h0,by omega,ownSl h0⟩,⟨p.p.1,p.p.2.1,p.p.2.2,p.r.1,p.r.2.1,p.r.2.2,rfl,⟨own_cap h1,by omega,ownSl h1⟩,⟨own_cap h2,by omega,ownSl h2⟩⟩⟩,fun j hj => ?_⟩
 have hk:=(List.getElem?_eq_some_iff.1 hpk).1
 rw [Nat.add_assoc]
 exact (hc (k * 18 + j) (by omega)).trans (flat_get jcell_length js k j p hpk hj)
/-- What a duel's words are,all readable. -/
structure DRd (w : World) (s : DS) (AM : Option Addr) (nm : Nat) (AJ : Option Addr) (nj : Nat) (AH : Option Addr) (nh ch : Nat) : Prop where
 rm : Sl w (fun _ => True) 3 AM nm (s.m.cells_.flatMap Word.cells)
 bm : nm ≤ 1048576
 rj : SlR JobRun.R 18 w (fun _ => True) AJ nj s.xs
 bj : nj ≤ 1048576
 rh : SlR Wrote.R 3 w (fun _ => True) AH nh s.h
 bh : nh ≤ 1048576
 cp : nh ≤ ch
theorem DuelV.rd {b w : World} {q : Nat} {jobs : List Job} {s : DS} {AM AJ AH : Option Addr} {nm cm nj cj nh ch : Nat} (I : DI q jobs s) (hq : q ≤ 400) (hj : jobs.length ≤ 4) (h : DuelV b w s AM nm cm AJ nj cj AH nh ch) : DRd w s AM nm AJ nj AH nh ch:=by
 obtain ⟨js,es,hx,hh,M⟩:=h
 obtain ⟨i1,i2,i3,i4,i5⟩:=I
 have hjl : js.length = s.xs.length:=by rw [← hx,List.length_map]
 have hel : es.length = s.h.length:=by rw [← hh,List.length_map]
 have l0 : s.m.cells_.length = nm:=(M.row_sl 0 rfl).flen Word.cells_length (by omega)
 have l1 : js.length = nj:=(M.row_sl 1 rfl).flen jcell_length (by omega)
 have l2 : es.length = nh:=(M.row_sl 2 rfl).flen ecell_length (by omega)
 have hb1 : ∀ p ∈ js,p.x.seen_.length ≤ 1024 ∧ p.x.commit_.puts_.length ≤ 1024 ∧ p.x.commit_.reads_.length ≤ 1024:=fun p hp => by
  obtain ⟨k,hk⟩:=List.mem_iff_getElem?.1 hp
  have:=i5 k p.x (by rw [← hx,List.getElem?_map,hk];rfl)
  unfold JI at this
  omega
 have hb2 : ∀ p ∈ es,p.2.puts_.length ≤ 1048576:=fun p hp => by
  have:=i4 p.2 (by rw [← hh];exact List.mem_map.2 ⟨p,hp,rfl⟩)
  omega
 refine ⟨M.row_sl 0 rfl,by omega,?_,by omega,?_,by omega,M.cap 2 rfl⟩
 ·rw [← hx]
  exact runs_R (fr:=es.map erow) (M.sub (sd_ (sk_ (sd_ s1_)))) hb1
 ·rw [← hh]
  refine hist_R (fr:=js.flatMap jrows) ((M.sub (sd_ (sd_ (sk_ s1_)))).perm (List.Perm.cons _ List.perm_append_comm)) hb2
theorem DRd.ext {w w' : World} {s : DS} {AM AJ AH : Option Addr} {nm nj nh ch : Nat} (h : DRd w s AM nm AJ nj AH nh ch) (k : Ext w w') : DRd w' s AM nm AJ nj AH nh ch:=⟨h.rm.ext k,h.bm,h.rj.ext JobRun.R_good k,h.bj,h.rh.ext Wrote.R_good k,h.bh,h.cp⟩
/-- All that is true of a duel that was played. -/
structure PF (cells : List Int) (jobs : List Job) (s : DS) : Prop where
 v1 : valsOk cells = true
 v2 : memOk s.m = true
 v3 : histOk s.h = true
 v4 : ∀ x ∈ s.xs,rowsOk x.seen_ = true ∧ ∀ r ∈ x.seen_,(0 ≤ r.cell_ ∧ r.cell_ ≤ 7) ∧ (stateOf cells s.h x.rv_)[r.cell_.toNat]? = some r.val_
 v5 : (∀ x ∈ s.xs,isDone x) → s.m.cells_.map (·.val_) = stateOf cells s.h s.m.clock_
 xl : s.xs.length = jobs.length
 hl : s.h.length ≤ 4
 hp : ∀ x ∈ s.h,x.puts_.length ≤ 1048576
 who : ∀ y ∈ s.h,1 ≤ y.who_ ∧ y.who_ ≤ 4
 turns : (∀ x ∈ s.xs,isDone x) → jobsTurn cells jobs (ordTo s.h (stampsOf s.h) (stampsOf s.h).length) = s.m.cells_.map (·.val_)
theorem pf_play {cells picks : List Int} {jobs : List Job} (hj : jobsOk cells jobs = true) (hp : picks.length ≤ 400) (hc : cells.length ≤ 1048576) : PF cells jobs (duelPlay cells jobs picks) ∧ DI picks.length jobs (duelPlay cells jobs picks):=by
 have I:=Inv.play hj hp
 have D : DI picks.length jobs (duelPlay cells jobs picks):=by
  rw [play_good ⟨hj,hp⟩]
  exact DI.to (cells:=cells) (DI.zero cells jobs hc) _
 have hj4:=jobsOk_le hj
 have hv:=jobsOk_vals hj
 refine ⟨⟨hv,dec_yes I.mem,I.histOk hj4,fun x hx => ⟨I.rows hx ?_,I.seen hv hj4 hx⟩,fun ho => I.last hv hj4 ho,I.xlen,by have:=I.hlen;omega,fun x hx => by have:=D.2.2.2.1 x hx;omega,fun y hy => ?_,fun ho => I.turns hj ho⟩,D⟩
 ·obtain ⟨k,hk⟩:=List.mem_iff_getElem?.1 hx
  have h1:=(D.2.2.2.2 k x hk).2.1
  have hkl : k < jobs.length:=by have:=(List.getElem?_eq_some_iff.1 hk).1;rw [I.xlen] at this;exact this
  have h2:=(dec_true hj).2.2
  have h3:=(h2 k hkl _ (List.getElem?_eq_getElem hkl)).1
  have h4 : jobs.getD k default = jobs[k]:=by rw [List.getD_eq_getElem?_getD,List.getElem?_eq_getElem hkl];rfl
  rw [h4] at h1
  omega
 ·obtain ⟨k,x,hk,h1,-⟩:=I.who y hy
  have hkl : k < jobs.length:=by have:=(List.getElem?_eq_some_iff.1 hk).1;rw [I.xlen] at this;exact this
  omega
end Go.Proofs.YtpmfhfpjiebcjaaGreat
