/- DuelPlay: words on what is owned. No condition. DuelPlay of the program. No condition but lengths. -/
import Derived.Test.YtpmfhfpjiebcjaaGreatE00
import Derived.Test.YtpmfhfpjiebcjaaGreatE43
import Derived.Test.YtpmfhfpjiebcjaaGreatE30
namespace Go.Proofs.YtpmfhfpjiebcjaaGreat
open Go.RowKit Go.Deep
set_option linter.unusedSimpArgs false
set_option linter.unusedVariables false

theorem Tryz.infoJobRun : (Tryz.prog.info? 68).map (fun i => (i.zero,i.size,i.bytes)) = some (some (.agg (List.toArray ((.int .i64 0)::(.int .i64 0)::(.int .i64 0)::(.int .i64 0)::(.int .i64 0)::(.slice none 0 0)::(.bool false)::(.int .i64 0)::(.int .i64 0)::(.int .i64 0)::(.int .i64 0)::(.int .i64 0)::(.int .i64 0)::(.int .i64 0)::(.int .i64 0)::(.int .i64 0)::(.slice none 0 0)::(.slice none 0 0)::[]))),18,192):=by kernel_rfl
def zJ : JEnt:=⟨(none,0,0),(none,0,0),(none,0,0),JobRun.zero⟩
theorem made_jobs (n : Nat) : (madeCells (.agg (List.toArray ((.int .i64 0)::(.int .i64 0)::(.int .i64 0)::(.int .i64 0)::(.int .i64 0)::(.slice none 0 0)::(.bool false)::(.int .i64 0)::(.int .i64 0)::(.int .i64 0)::(.int .i64 0)::(.int .i64 0)::(.int .i64 0)::(.int .i64 0)::(.int .i64 0)::(.int .i64 0)::(.slice none 0 0)::(.slice none 0 0)::[])) : Value).cells (n * 18)).toList = (List.replicate n zJ).flatMap jcell:=made_flat jcell_length (by omega) rfl n
theorem made_jobs2 (n : Nat) : (madeCells (List.toArray ((.int .i64 0)::(.int .i64 0)::(.int .i64 0)::(.int .i64 0)::(.int .i64 0)::(.slice none 0 0)::(.bool false)::(.int .i64 0)::(.int .i64 0)::(.int .i64 0)::(.int .i64 0)::(.int .i64 0)::(.int .i64 0)::(.int .i64 0)::(.int .i64 0)::(.int .i64 0)::(.slice none 0 0)::(.slice none 0 0)::[])) (n * 18)).toList = (List.replicate n zJ).flatMap jcell:=made_jobs n
theorem Mine.jnils {b w : World} {rs : List Res} (M : Mine b w rs) : ∀ k : Nat,Mine b w ((List.replicate k zJ).flatMap jrows ++ rs)
 | 0 => by simpa using M
 | k + 1 => by
  rw [List.replicate_succ,List.flatMap_cons]
  exact ((((Mine.jnils M k).nil 3 1).nil 97 2).nil 97 2)
/-- A duel in memory,as a result. -/
def DuelV (w w' : World) (s : DS) (AM : Option Addr) (nm cm : Nat) (AJ : Option Addr) (nj cj : Nat) (AH : Option Addr) (nh ch : Nat) : Prop :=
 ∃ (js : List JEnt) (es : List Ent),js.map JEnt.x = s.xs ∧ es.map (·.2) = s.h ∧ Mine w w' (.row 102 3 AM nm cm (s.m.cells_.flatMap Word.cells)::.row 68 18 AJ nj cj (js.flatMap jcell)::.row 53 3 AH nh ch (es.flatMap ecell)::(js.flatMap jrows ++ es.map erow))
/-- A duel under way. -/
def DuelL (w w' : World) (s : DS) (gd gJ n1 : Nat) (FR : List Res) : Prop :=
 ∃ (AM : Option Addr) (nm cm : Nat) (AH : Option Addr) (nh ch : Nat) (js : List JEnt) (es : List Ent),js.map JEnt.x = s.xs ∧ es.map (·.2) = s.h ∧
  Mine w w' (.box gd 31 #[.int .i64 s.m.clock_,.slice AM nm cm,.slice (some ⟨gJ,0,none⟩) n1 n1,.slice AH nh ch]::.row 68 18 (some ⟨gJ,0,none⟩) n1 n1 (js.flatMap jcell)::.row 53 3 AH nh ch (es.flatMap ecell)::.row 102 3 AM nm cm (s.m.cells_.flatMap Word.cells)::(js.flatMap jrows ++ (es.map erow ++ FR)))
def dzero : DS:=⟨⟨0,[]⟩,[],[]⟩
theorem DuelV.zero {w w' : World} {rs : List Res} (M : Mine w w' rs) : DuelV w w' dzero none 0 0 none 0 0 none 0 0 :=
 ⟨[],[],rfl,rfl,(((M.sub s0_).nil 53 3).nil 68 18).nil 102 3⟩
theorem play_bad {cells : List Int} {jobs : List Job} {picks : List Int} (h : ¬ (jobsOk cells jobs = true ∧ picks.length ≤ 400)) : duelPlay cells jobs picks = dzero:=by
 unfold duelPlay;rw [dec_no h];rfl
def d0 (cells : List Int) (jobs : List Job) : DS:=⟨⟨0,cells.map mkW⟩,List.replicate jobs.length JobRun.zero,[]⟩
theorem play_good {cells : List Int} {jobs : List Job} {picks : List Int} (h : jobsOk cells jobs = true ∧ picks.length ≤ 400) : duelPlay cells jobs picks = dto jobs (d0 cells jobs) picks picks.length:=by
 unfold duelPlay;rw [dec_yes h];rfl
theorem DuelL.start {w w' : World} {cells : List Int} {jobs : List Job} {B : Option Addr} {n d gd gJ n1 : Nat} {FR : List Res} (hn : jobs.length = n1)
  (M : Mine w w' (.row 102 3 B n d ((cells.map mkW).flatMap Word.cells)::.box gd 31 #[.int .i64 0,.slice B n d,.slice (some ⟨gJ,0,none⟩) n1 n1,.slice none 0 0]::.row 68 18 (some ⟨gJ,0,none⟩) n1 n1 ((List.replicate n1 zJ).flatMap jcell)::FR)) : DuelL w w' (d0 cells jobs) gd gJ n1 FR:=by
 refine ⟨B,n,d,none,0,0,List.replicate n1 zJ,[],?_,rfl,?_⟩
 ·rw [List.map_replicate,← hn];rfl
 ·have M1:=(M.nil 53 3).jnils n1
  refine M1.perm ?_
  rw [List.map_nil,List.nil_append]
  generalize (List.replicate n1 zJ).flatMap jrows = L
  refine (List.perm_append_comm_assoc L [_,_,_,_] FR).trans ?_
  exact (List.perm_append_comm (l₁:=[_,_]) (l₂:=[_,_])).append_right (L ++ FR)
theorem dstep_is {jobs : List Job} {s : DS} {k : Nat} {j : Job} {x : JobRun} (hj : jobs[k]? = some j) (hx : s.xs[k]? = some x) :
  dstep jobs s k = ⟨(jstep s.m ((k : Int) + 1) j x).1,s.xs.set k (jstep s.m ((k : Int) + 1) j x).2,if evS s.m x = true then s.h ++ [⟨(jstep s.m ((k : Int) + 1) j x).2.commit_.wv_,(k : Int) + 1,(jstep s.m ((k : Int) + 1) j x).2.commit_.puts_⟩] else s.h⟩:=by
 have e1 : s.xs.getD k JobRun.zero = x:=by rw [List.getD_eq_getElem?_getD,hx];rfl
 have e2 : jobs.getD k default = j:=by rw [List.getD_eq_getElem?_getD,hj];rfl
 unfold dstep
 simp only [e1,e2]
/-- One step further. -/
theorem DuelL.next {w w' : World} {jobs : List Job} {s : DS} {k gd gJ n1 : Nat} {j : Job} {p p' : JEnt} {js : List JEnt} {es es' : List Ent} {FR : List Res} {AM AH : Option Addr} {nm cm nh ch : Nat} (hj : jobs[k]? = some j) (hp : js[k]? = some p) (hs : js.map JEnt.x = s.xs) (hh : es.map (·.2) = s.h)
  (hp' : p'.x = (jstep s.m ((k : Int) + 1) j p.x).2) (he : es'.map (·.2) = if evS s.m p.x = true then es.map (·.2) ++ [⟨p'.x.commit_.wv_,(k : Int) + 1,p'.x.commit_.puts_⟩] else es.map (·.2))
  (M : Mine w w' (.box gd 31 #[.int .i64 (jstep s.m ((k : Int) + 1) j p.x).1.clock_,.slice AM nm cm,.slice (some ⟨gJ,0,none⟩) n1 n1,.slice AH nh ch]::.row 68 18 (some ⟨gJ,0,none⟩) n1 n1 ((js.set k p').flatMap jcell)::.row 53 3 AH nh ch (es'.flatMap ecell)::.row 102 3 AM nm cm ((jstep s.m ((k : Int) + 1) j p.x).1.cells_.flatMap Word.cells)::((js.set k p').flatMap jrows ++ (es'.map erow ++ FR)))) :
  DuelL w w' (dstep jobs s k) gd gJ n1 FR:=by
 have hx : s.xs[k]? = some p.x:=by rw [← hs,List.getElem?_map,hp];rfl
 rw [dstep_is hj hx]
 refine ⟨AM,nm,cm,AH,nh,ch,js.set k p',es',?_,?_,M⟩
 ·rw [List.map_set,hs,hp']
 ·rw [he,hh,hp']
theorem DuelL.done {w w' : World} {s : DS} {gd gJ n1 gr : Nat} {FR : List Res} {X : Array Value} (h : DuelL w w' s gd gJ n1 (.box gr 31 X::FR)) :
  ∃ (AM : Option Addr) (nm cm : Nat) (AH : Option Addr) (nh ch : Nat) (js : List JEnt) (es : List Ent),js.map JEnt.x = s.xs ∧ es.map (·.2) = s.h ∧
   Mine w w' (.box gr 31 X::.box gd 31 #[.int .i64 s.m.clock_,.slice AM nm cm,.slice (some ⟨gJ,0,none⟩) n1 n1,.slice AH nh ch]::.row 68 18 (some ⟨gJ,0,none⟩) n1 n1 (js.flatMap jcell)::.row 53 3 AH nh ch (es.flatMap ecell)::.row 102 3 AM nm cm (s.m.cells_.flatMap Word.cells)::(js.flatMap jrows ++ es.map erow)):=by
 obtain ⟨AM,nm,cm,AH,nh,ch,js,es,h1,h2,M⟩:=h
 refine ⟨AM,nm,cm,AH,nh,ch,js,es,h1,h2,?_⟩
 generalize Res.box gr _ X = b1 at M ⊢
 generalize Res.box gd _ _ = b2 at M ⊢
 generalize Res.row _ _ _ n1 n1 _ = r1 at M ⊢
 generalize Res.row _ _ AH nh ch _ = r2 at M ⊢
 generalize Res.row _ _ AM nm cm _ = r3 at M ⊢
 have e : b2::r1::r2::r3::(js.flatMap jrows ++ (es.map erow ++ b1::FR)) = ([b2,r1,r2,r3] ++ js.flatMap jrows ++ es.map erow) ++ b1::FR:=by simp
 rw [e] at M
 have M2:=M.perm List.perm_middle
 refine M2.sub (.cons_cons _ ?_)
 have e3 : b2::r1::r2::r3::(js.flatMap jrows ++ es.map erow) = [b2,r1,r2,r3] ++ js.flatMap jrows ++ es.map erow:=by simp
 rw [e3]
 exact List.sublist_append_left _ _
theorem DuelV.done {w w' : World} {s : DS} {n1 gJ nm cm nh ch : Nat} {AM AH : Option Addr} {js : List JEnt} {es : List Ent} {a b : Res} (h1 : js.map JEnt.x = s.xs) (h2 : es.map (·.2) = s.h)
  (M : Mine w w' (a::b::.row 68 18 (some ⟨gJ,0,none⟩) n1 n1 (js.flatMap jcell)::.row 53 3 AH nh ch (es.flatMap ecell)::.row 102 3 AM nm cm (s.m.cells_.flatMap Word.cells)::(js.flatMap jrows ++ es.map erow))) : DuelV w w' s AM nm cm (some ⟨gJ,0,none⟩) n1 n1 AH nh ch :=
 ⟨js,es,h1,h2,M.tail.tail.perm (List.perm_middle (l₁:=[_,_]))⟩
theorem Mine.p4 {b w : World} {x r1 r2 r3 r4 : Res} {l : List Res} (M : Mine b w (x::r1::r2::r3::r4::l)) : Mine b w (r1::r2::r3::r4::x::l):=M.perm (List.perm_middle (l₁:=[r1,r2,r3,r4])).symm
theorem Mine.p4r {b w : World} {x r1 r2 r3 r4 : Res} {l : List Res} (M : Mine b w (r1::r2::r3::r4::x::l)) : Mine b w (x::r1::r2::r3::r4::l):=M.perm (List.perm_middle (l₁:=[r1,r2,r3,r4]))
theorem Mine.p42 {b w : World} {x y r1 r2 r3 r4 : Res} {l : List Res} (M : Mine b w (x::y::r1::r2::r3::r4::l)) : Mine b w (r1::r2::r3::r4::x::y::l):=M.perm (List.perm_append_comm_assoc [x,y] [r1,r2,r3,r4] l)
theorem Mine.p4r2 {b w : World} {x y r1 r2 r3 r4 : Res} {l : List Res} (M : Mine b w (r1::r2::r3::r4::x::y::l)) : Mine b w (x::y::r1::r2::r3::r4::l):=M.perm (List.perm_append_comm_assoc [r1,r2,r3,r4] [x,y] l)
theorem job_at {w : World} {S : Nat → Prop} {A : Option Addr} {n : Nat} {jobs : List Job} (h : SlR Job.R 2 w S A n jobs) (hw : ∀ j ∈ jobs,Job.wt j ≤ 1048576) {k : Nat} (hk : k < n) :
  ∃ (b o : Nat) (j : Job) (A0 : Option Addr) (n0 c0 : Nat) (A1 : Option Addr) (n1 c1 : Nat),A = some ⟨b,o,none⟩ ∧ b < w.heap.size ∧ jobs[k]? = some j ∧ w.rangeAt b (o + k * 2) [.slice A0 n0 c0,.slice A1 n1 c1] ∧ Sl w S 1 A0 n0 (ints j.reads_) ∧ n0 ≤ 1048576 ∧ Sl w S 2 A1 n1 (j.puts_.flatMap Row.cells) ∧ n1 ≤ 1048576:=by
 obtain ⟨b,o,rfl⟩:=h.addr (by omega)
 obtain ⟨j,row,hj,hb,hr,hc⟩:=h.at_ hk
 have hjw:=hw j (List.mem_of_getElem? hj)
 obtain ⟨A0,n0,c0,A1,n1,c1,rfl,⟨k0,m0,s0⟩,⟨k1,m1,s1⟩⟩:=hr
 have e0 : j.reads_.length = n0:=s0.len
 have e1 : j.puts_.length = n1:=s1.flen Row.cells_length (by omega)
 unfold Job.wt at hjw
 refine ⟨b,o,j,A0,n0,c0,A1,n1,c1,rfl,hb,hj,fun u v hu => ?_,s0,by omega,s1,by omega⟩
 have h3 : u < 2:=by have:=(List.getElem?_eq_some_iff.1 hu).1;simpa using this
 rw [hc u h3];exact hu
theorem jobsOk_le {cells : List Int} {jobs : List Job} (h : jobsOk cells jobs = true) : jobs.length ≤ 4:=(dec_true h).2.1
theorem jobsOk_vals {cells : List Int} {jobs : List Job} (h : jobsOk cells jobs = true) : valsOk cells = true:=(dec_true h).1

theorem Gro.imp {P : Program} {b : World} {o : Oper} {a : Act} {Φ Ψ : Value → Res → Prop} (h : Gro P b o a Φ) (k : ∀ v r,Φ v r → Ψ v r) : Gro P b o a Ψ:=fun w rs' M => by
 obtain ⟨v,w',r,h1,h2,h3⟩:=h w rs' M
 exact ⟨v,w',r,h1,h2,k _ _ h3⟩
theorem dAt_zero (o : Oper) (l : List Oper) : dAt (o::l) 0 = o.dst:=rfl
theorem dAt_succ (o : Oper) (l : List Oper) (i : Nat) : dAt (o::l) (i + 1) = dAt l i:=by unfold dAt;simp
theorem spec_back {w w' : World} {a b W r1 r2 r3 gd J H : Res} {L1 L2 FR : List Res} (h : ([r1,r2,r3] ++ L1).Perm L2) (M : Mine w w' (a::b::W::r1::r2::r3::gd::J::H::(L1 ++ FR))) : Mine w w' (gd::J::H::W::(L2 ++ FR)):=by
 have M1:=(M.tail.tail.perm (List.perm_append_comm_assoc [W,r1,r2,r3] [gd,J,H] (L1 ++ FR)))
 refine M1.perm ?_
 have h2:=(h.append_right FR).cons W
 simp only [List.cons_append,List.nil_append,List.append_assoc] at h2 ⊢
 exact ((h2.cons H).cons J).cons gd
theorem spec_backE {w w' : World} {E a b W r1 r2 r3 gd J H : Res} {L1 L2 L3 FR : List Res} (h : ([r1,r2,r3] ++ L1).Perm L2) (M : Mine w w' (E::a::b::W::r1::r2::r3::gd::J::H::(L1 ++ (L3 ++ FR)))) : Mine w w' (gd::J::H::W::(L2 ++ (L3 ++ ([E] ++ FR)))):=by
 have M0 : Mine w w' (a::b::W::r1::r2::r3::gd::J::H::(L1 ++ (L3 ++ ([E] ++ FR)))):=by
  refine M.perm ?_
  have h3 : (E::((a::b::W::r1::r2::r3::gd::J::H::L1) ++ L3 ++ FR)).Perm ((a::b::W::r1::r2::r3::gd::J::H::L1) ++ L3 ++ E::FR):=List.perm_middle.symm
  simpa using h3
 exact spec_back h M0
theorem DuelL.swapFR {w w' : World} {s : DS} {gd gJ n1 : Nat} {x y : Res} (h : DuelL w w' s gd gJ n1 [x,y]) : DuelL w w' s gd gJ n1 [y,x]:=by
 obtain ⟨AM,nm,cm,AH,nh,ch,js,es,h1,h2,M⟩:=h
 exact ⟨AM,nm,cm,AH,nh,ch,js,es,h1,h2,M.perm ((((((((List.Perm.swap y x []).append_left _).append_left _).cons _).cons _).cons _).cons _))⟩


end Go.Proofs.YtpmfhfpjiebcjaaGreat
namespace Go.Proofs.YtpmfhfpjiebcjaaGreat
open Go.RowKit Go.Deep
set_option linter.unusedSimpArgs false
set_option linter.unusedVariables false
set_option maxRecDepth 8000 in
set_option maxHeartbeats 32000000 in
theorem impl_DuelPlay (A0 : Option Addr) (n0 c0 : Nat) (l : List Int) (A1 : Option Addr) (n1 c1 : Nat) (jobs : List Job) (A2 : Option Addr) (n2 c2 : Nat) (picks : List Int) (w : World) (S0 : Nat → Prop) (h0 : Sl w S0 1 A0 n0 (ints l)) (hm0 : n0 ≤ 1048576) (S1 : Nat → Prop) (h1 : SlR Job.R 2 w S1 A1 n1 jobs) (hm1 : n1 ≤ 1048576) (hw : ∀ j ∈ jobs,Job.wt j ≤ 1048576) (S2 : Nat → Prop) (h2 : Sl w S2 1 A2 n2 (ints picks)) (hm2 : n2 ≤ 1048576) :
  Calls Tryz.prog 9 #[.slice A0 n0 c0,.slice A1 n1 c1,.slice A2 n2 c2] w fun e w' => ∃ AM nm cm AJ nj cj AH nh ch,e = .returned (.agg #[.int .i64 (duelPlay l jobs picks).m.clock_,.slice AM nm cm,.slice AJ nj cj,.slice AH nh ch]) ∧ Hid (DuelV w w' (duelPlay l jobs picks) AM nm cm AJ nj cj AH nh ch):=by
 have hl0 : l.length = n0:=h0.len
 have hl1 : jobs.length = n1:=h1.1
 have hl2 : picks.length = n2:=h2.len
 have H0:=Lib.hid h0
 have H1:=Lib.hid h1
 have H2:=Lib.hid h2
 have HW:=Lib.hid hw
 clear h0 h1 h2 hw
 have M:=Lib.hid (Mine.refl w)
 cases hok : jobsOk l jobs
 ·have hbad : ¬ (jobsOk l jobs = true ∧ picks.length ≤ 400):=fun z => by have:=z.1;rw [hok] at this;cases this
  have HZ:=Lib.hid (play_bad hbad)
  clear hbad
  go_enter Tryz.func9,Tryz.ntmps9
  go_wp2_with (((with_reducible show wpList _ _ _ (⟨_,_,_,_,_,none⟩::_) _ _);first|(refine Mine.wp_alloc M.out rfl 31 rfl (.agg #[.int .i64 0,.slice none 0 0,.slice none 0 0,.slice none 0 0]) (by kernel_rfl) ?_;intro gr w' M';(try simp only [Value.cells,zr_,zm_] at M');replace M:=Lib.hid M';clear M';(try simp only [zr_,zm_]))))
  go_wp2_with (first|(go_at_call 33;(with_reducible refine (impl_JobsOk A0 n0 c0 l A1 n1 c1 jobs _ S0 (H0.out.ext M.out.ext) hm0 S1 (H1.out.ext Job.R_good M.out.ext) hm1 HW.out).mono ?_);rintro e w' ⟨rfl,x9⟩;replace M:=Lib.hid (M.out.on x9);clear x9;rw [hok])|((with_reducible show wpList _ _ _ (⟨_,_,_,_,_,none⟩::_) _ _);first|(refine zSs M.out 31 0 ?_;intro w' M';(try simp only [zr_,zm_] at M');replace M:=Lib.hid M';clear M')))
  refine bodyPost_ret (M.out.results_cell Tryz.results9 _ 0 rfl rfl _ Tryz.underlying31 (by rfl) (by kernel_rfl)) rfl ?_
  rw [HZ.out]
  exact ⟨none,0,0,none,0,0,none,0,0,rfl,Lib.hid (DuelV.zero M.out)⟩
 by_cases hp : n2 ≤ 400
 rotate_left
 ·have hbad : ¬ (jobsOk l jobs = true ∧ picks.length ≤ 400):=fun z => hp (by omega)
  have d4 : decide ((400 : Int) < (n2 : Int)) = true:=decide_eq_true (by omega)
  clear hp
  have HZ:=Lib.hid (play_bad hbad)
  clear hbad
  go_enter Tryz.func9,Tryz.ntmps9
  go_wp2_with (((with_reducible show wpList _ _ _ (⟨_,_,_,_,_,none⟩::_) _ _);first|(refine Mine.wp_alloc M.out rfl 31 rfl (.agg #[.int .i64 0,.slice none 0 0,.slice none 0 0,.slice none 0 0]) (by kernel_rfl) ?_;intro gr w' M';(try simp only [Value.cells,zr_,zm_] at M');replace M:=Lib.hid M';clear M';(try simp only [zr_,zm_]))))
  go_wp2_with (first|(go_at_call 33;(with_reducible refine (impl_JobsOk A0 n0 c0 l A1 n1 c1 jobs _ S0 (H0.out.ext M.out.ext) hm0 S1 (H1.out.ext Job.R_good M.out.ext) hm1 HW.out).mono ?_);rintro e w' ⟨rfl,x9⟩;replace M:=Lib.hid (M.out.on x9);clear x9;rw [hok])|((with_reducible show wpList _ _ _ (⟨_,_,_,_,_,none⟩::_) _ _);first|(refine zSs M.out 31 0 ?_;intro w' M';(try simp only [zr_,zm_] at M');replace M:=Lib.hid M';clear M')))
  refine bodyPost_ret (M.out.results_cell Tryz.results9 _ 0 rfl rfl _ Tryz.underlying31 (by rfl) (by kernel_rfl)) rfl ?_
  rw [HZ.out]
  exact ⟨none,0,0,none,0,0,none,0,0,rfl,Lib.hid (DuelV.zero M.out)⟩
 have d4 : decide ((400 : Int) < (n2 : Int)) = false:=decide_eq_false (by omega)
 have HZ:=Lib.hid (play_good ⟨hok,by omega⟩ : duelPlay l jobs picks = _)
 have hn4 : n1 ≤ 4:=by have:=jobsOk_le hok;omega
 have HV:=Lib.hid (jobsOk_vals hok)
 have HD0:=Lib.hid (DI.zero l jobs (by omega))
 have hn1i : 0 ≤ (n1 : Int) ∧ (n1 : Int) ≤ 4:=by omega
 go_enter Tryz.func9,Tryz.ntmps9
 go_wp2_with (((with_reducible show wpList _ _ _ (⟨_,_,_,_,_,none⟩::_) _ _);first|(refine Mine.wp_alloc M.out rfl 31 rfl (.agg #[.int .i64 0,.slice none 0 0,.slice none 0 0,.slice none 0 0]) (by kernel_rfl) ?_;intro gr w' M';(try simp only [Value.cells,zr_,zm_] at M');replace M:=Lib.hid M';clear M';(try simp only [zr_,zm_]))))
 go_wp2_with (first|(go_at_call 33;(with_reducible refine (impl_JobsOk A0 n0 c0 l A1 n1 c1 jobs _ S0 (H0.out.ext M.out.ext) hm0 S1 (H1.out.ext Job.R_good M.out.ext) hm1 HW.out).mono ?_);rintro e w' ⟨rfl,x9⟩;replace M:=Lib.hid (M.out.on x9);clear x9;rw [hok])|(go_at_call 34;(with_reducible refine (impl_MemNew A0 n0 c0 l _ S0 (H0.out.ext M.out.ext) hm0 HV.out).mono ?_);rintro e w' ⟨B,d,rfl,M9⟩;have M8:=M.out.call M9;replace M:=Lib.hid M8;clear M8 M9)|((with_reducible show wpList _ _ _ (⟨_,_,_,_,_,none⟩::_) _ _);first|(refine Mine.wp_make M.out rfl _ _ 28 rfl 68 _ _ _ Tryz.underlying28 Tryz.infoJobRun n1 rfl rfl (by omega) (by unfold maxLen;omega) ?_;intro gJ w' M';(try simp only [zr_,zm_] at M');replace M:=Lib.hid M';clear M';(try simp only [zr_,zm_]))|(refine Mine.wp_alloc M.out rfl 31 rfl (.agg #[.int .i64 0,.slice none 0 0,.slice none 0 0,.slice none 0 0]) (by kernel_rfl) ?_;intro gd w' M';(try simp only [Value.cells,zr_,zm_] at M');replace M:=Lib.hid M';clear M';(try simp only [zr_,zm_]))|((first|refine zSs M.out 31 0 ?_|refine zSs M.out 27 1 ?_);intro w' M';(try simp only [zr_,zm_] at M');replace M:=Lib.hid M';clear M')))
 simp only [List.cons_append,List.nil_append,List.set_cons_succ,List.set_cons_zero,made_jobs2] at M
 have ML:=Lib.hid (DuelL.start (cells:=l) hl1 M.out)
 clear M
 go_wp2
 go_loopw [32] (fun i wr => ∃ q : Nat,q ≤ n2 ∧ i = .int .i64 q ∧ Hid (DuelL w wr (dto jobs (d0 l jobs) picks q) gd gJ n1 [.box gr 31 #[.int .i64 0,.slice none 0 0,.slice none 0 0,.slice none 0 0]])) (fun i _ => n2 - (intOf i).toNat)
 case atStart => exact ⟨0,Nat.zero_le _,rfl,ML⟩
 case round =>
  clear ML
  obtain ⟨q,hq,rfl,HL⟩:=hrel
  by_cases hlt : (q : Int) < (n2 : Int)
  rotate_left
  ·skip
   have e : picks.length = q:=by omega
   have HE:=Lib.hid e
   clear e
   obtain ⟨AM,nm,cm,AH,nh,ch,js,es,hs1,hs2,M1⟩:=HL.out.done
   have M:=Lib.hid M1
   have HS1:=Lib.hid hs1
   have HS2:=Lib.hid hs2
   clear M1 hs1 hs2
   go_wp2_with (((with_reducible show wpList _ _ _ (⟨_,_,_,_,_,none⟩::_) _ _);first|(refine zGs M.out 31 1 4 ?_;(try simp only [zr_,zm_]))|(refine zSs M.out 31 0 ?_;intro w' M';(try simp only [zr_,zm_] at M');replace M:=Lib.hid M';clear M')))
   refine bodyPost_ret (M.out.results_cell Tryz.results9 _ 0 rfl rfl _ Tryz.underlying31 (by rfl) (by kernel_rfl)) rfl ?_
   rw [HZ.out,HE.out]
   exact ⟨_,_,_,_,_,_,_,_,_,rfl,Lib.hid (DuelV.done HS1.out HS2.out M.out)⟩
  have HLT : Hid (q < n2):=by show _ < _;omega
  obtain ⟨b2,o2,rfl⟩:=H2.out.addr (by omega)
  obtain ⟨v,hv,hb,cv⟩:=H2.out.int_cell (k:=q) HLT.out
  have HPK:=Lib.hid hv
  have HC : Hid (w.cell? ⟨b2,o2 + q,none⟩ = some (.int .i64 v) ∧ b2 < w.heap.size):=⟨cv,hb⟩
  clear hv hb cv
  have M : Hid (Mine w wr []):=by obtain ⟨AM,nm,cm,AH,nh,ch,js,es,-,-,M1⟩:=HL.out;exact Lib.hid (M1.sub s0_)
  by_cases hz : 0 ≤ v ∧ v ≤ (n1 : Int) - 1
  rotate_left
  ·have dz : decide (0 ≤ v ∧ v ≤ (n1 : Int) - 1) = false:=decide_eq_false hz
   have HD:=Lib.hid (dto_miss (jobs:=jobs) (s:=d0 l jobs) HPK.out (by rw [hl1];exact hz))
   clear hz
   go_wp2_with (first|(go_at_call 35;(with_reducible refine (with_is dz _).mono ?_);rintro e w' ⟨rfl,rfl⟩)|((with_reducible show wpList _ _ _ (⟨_,_,_,_,_,none⟩::_) _ _);first|(refine Mine.wp_argc M.out rfl 3 _ rfl _ _ HC.out rfl _ Tryz.underlying3 (by rfl) ?_;(try simp only [zr_,zm_]))))
   go_roundw
   case rel => exact ⟨q + 1,HLT.out,by go_num,by rw [HD.out];exact HL⟩
   case measure => have:=HLT.out;simp [intOf];omega
  have dz : decide (0 ≤ v ∧ v ≤ (n1 : Int) - 1) = true:=decide_eq_true hz
  obtain ⟨k,rfl⟩ : ∃ k : Nat,v = (k : Int):=⟨v.toNat,by omega⟩
  have hk : k < n1:=by omega
  have HK : Hid (k < n1):=hk
  have hk1 : (k : Int) < (n1 : Int):=by omega
  have hdh:=dto_hit (jobs:=jobs) (s:=d0 l jobs) HPK.out (by rw [hl1];exact hz)
  rw [Int.toNat_natCast] at hdh
  have HDI:=Lib.hid (DI.to (cells:=l) (picks:=picks) HD0.out q)
  obtain ⟨s,hs⟩ : ∃ s,s = dto jobs (d0 l jobs) picks q:=⟨_,rfl⟩
  have HDI2 : Hid (DI q jobs s):=by rw [hs];exact HDI
  rw [← hs] at HL hdh
  have HD:=Lib.hid hdh
  clear hdh HDI hs hz
  obtain ⟨bJ,oJ,j,B0,k0,f0,B1,k1,f1,rfl,hbJ,hj,hrg,sj0,hk0,sj1,hkk1⟩:=job_at H1.out HW.out hk
  have HRG:=Lib.hid hrg
  have HRB:=Lib.hid hbJ
  have HJ:=Lib.hid hj
  have HS0:=Lib.hid sj0
  have HS1:=Lib.hid sj1
  obtain ⟨AM,nm,cm,AH,nh,ch,js,es,hs1,hs2,M1⟩:=HL.out
  clear M
  have HX1:=Lib.hid hs1
  have HX2:=Lib.hid hs2
  have hjl : js.length = n1:=by have h:=congrArg List.length hs1;rw [List.length_map,HDI2.out.2.1] at h;omega
  obtain ⟨p,hp⟩ : ∃ p,js[k]? = some p:=⟨_,List.getElem?_eq_getElem (by omega)⟩
  have HP:=Lib.hid hp
  have hx : s.xs[k]? = some p.x:=by rw [← hs1,List.getElem?_map,hp];rfl
  have HJI : Hid (JI q k j p.x):=by have h:=HDI2.out.2.2.2.2 k p.x hx;rw [List.getD_eq_getElem?_getD,hj] at h;exact h
  have HMC : Hid (s.m.cells_.length ≤ 1048576):=HDI2.out.1
  have HHL : Hid (es.length ≤ q):=by have h:=congrArg List.length hs2;rw [List.length_map] at h;have:=HDI2.out.2.2.1;show _ ≤ _;omega
  have hq4 : q ≤ 400:=by omega
  have M:=Lib.hid M1
  clear hrg hbJ hj sj0 sj1 hs1 hs2 hx hp hjl hk
  clear M1
  go_wp2_with (first|(go_at_call 35;(with_reducible refine (with_is dz _).mono ?_);rintro e w' ⟨rfl,rfl⟩)|(go_at_call 36;refine (impl_stepE s.m AM nm cm k q j B0 k0 f0 B1 k1 f1 js p es (some ⟨gJ,0,none⟩) n1 n1 AH nh ch gd HP.out hn4 w _ _ S1 S1 HS0.out hk0 HS1.out hkk1 HMC.out HJI.out hq4 HHL.out M.out).mono ?_;rintro e w' ⟨E1,x1,y1,p',AH',nh',ch',es',hp',he',rfl,M9⟩;replace M:=Lib.hid M9;clear M9;have HP1:=Lib.hid hp';have HE1:=Lib.hid he';clear hp' he')|((with_reducible show wpList _ _ _ (⟨_,_,_,_,_,none⟩::_) _ _);first|((first|refine Mine.wp_argc M.out rfl 3 _ rfl _ _ HC.out rfl _ Tryz.underlying3 (by rfl) ?_|refine Mine.wp_arg M.out rfl 72 _ rfl _ _ rfl [.slice B0 k0 f0,.slice B1 k1 f1] HRG.out HRB.out _ Tryz.underlying72 (by rfl) (by kernel_rfl) ?_);(try simp only [zr_,zm_]))))
  go_roundw
  case rel => exact ⟨q + 1,HLT.out,by go_num,by rw [HD.out];exact Lib.hid (DuelL.next HJ.out HP.out HX1.out HX2.out HP1.out HE1.out M.out)⟩
  case measure => have:=HLT.out;simp [intOf];omega

end Go.Proofs.YtpmfhfpjiebcjaaGreat
