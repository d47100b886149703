/- What holds all through a duel. No condition. A history that is owned: a row of entries, the puts of each a row of its own; how it reads. No condition. A step of a job in the reference: idle, done. No condition but lengths. -/
import Derived.Test.YtpmfhfpjiebcjaaGreatE30
import Derived.Test.YtpmfhfpjiebcjaaGreatE00
import Derived.Test.YtpmfhfpjiebcjaaGreatE28
namespace Go.Proofs.YtpmfhfpjiebcjaaGreat
open Go.RowKit Go.Deep
set_option linter.unusedSimpArgs false
set_option linter.unusedVariables false

theorem cs_len (m : Mem) (c : Commit) : (cstepS m c).xs.length = m.cells_.length:=by
 unfold cstepS
 simp only
 repeat' split
 all_goals simp [lockC_len,storeC_len,unlockC_len]
/-- What holds of a job behind q picks. -/
def JI (q k : Nat) (j : Job) (x : JobRun) : Prop:=(0 ≤ x.tries_ ∧ x.tries_ ≤ q) ∧ (0 ≤ x.at_ ∧ x.at_ ≤ (j.reads_.length : Int)) ∧ x.seen_.length ≤ q ∧ x.commit_.puts_.length ≤ 8 ∧ x.commit_.reads_.length ≤ 8 ∧ (x.phase_ = 2 → x.commit_.phase_ = 0 ∨ x.commit_.who_ = (k : Int) + 1)
theorem JI.more {q k : Nat} {j : Job} {x : JobRun} (h : JI q k j x) : JI (q + 1) k j x:=by
 obtain ⟨⟨h1,h2⟩,h3,h4,h5⟩:=h
 exact ⟨⟨h1,by omega⟩,h3,by omega,h5⟩
theorem JI.zero (q k : Nat) (j : Job) : JI q k j JobRun.zero:=by
 refine ⟨⟨by simp [JobRun.zero],by simp [JobRun.zero]⟩,⟨by simp [JobRun.zero],by simp [JobRun.zero]⟩,by simp [JobRun.zero],by simp [JobRun.zero],by simp [JobRun.zero],fun h => by simp [JobRun.zero] at h⟩
theorem JI.again {q k : Nat} {j : Job} {x : JobRun} (h : JI q k j x) : JI (q + 1) k j (again x.tries_):=by
 obtain ⟨⟨h1,h2⟩,h3,h4,h5⟩:=h
 refine ⟨⟨by simp only [Go.Proofs.YtpmfhfpjiebcjaaGreat.again];omega,by simp only [Go.Proofs.YtpmfhfpjiebcjaaGreat.again];omega⟩,⟨by simp [Go.Proofs.YtpmfhfpjiebcjaaGreat.again],by simp [Go.Proofs.YtpmfhfpjiebcjaaGreat.again]⟩,by simp [Go.Proofs.YtpmfhfpjiebcjaaGreat.again],by simp [Go.Proofs.YtpmfhfpjiebcjaaGreat.again],by simp [Go.Proofs.YtpmfhfpjiebcjaaGreat.again],fun h => by simp [Go.Proofs.YtpmfhfpjiebcjaaGreat.again] at h⟩
theorem cnew_puts (who rv : Int) (ps qs : List Row) : (cnew who rv ps qs).puts_.length ≤ 8:=by unfold cnew;split;exact net_le _;simp
theorem cnew_reads (who rv : Int) (ps qs : List Row) : (cnew who rv ps qs).reads_.length ≤ 8:=by unfold cnew;split;rw [List.length_map];exact net_le _;simp
theorem cnew_who (who rv : Int) (ps qs : List Row) : (cnew who rv ps qs).phase_ = 0 ∨ (cnew who rv ps qs).who_ = who:=by unfold cnew;split;exact .inr rfl;exact .inl rfl
theorem cs_ph0 {m : Mem} {c : Commit} (h : c.phase_ = 0) : (cstepS m c).ph = 0:=by rw [cs_rest] <;> simp [h]
theorem JI.step {q k : Nat} {j : Job} {x : JobRun} (h : JI q k j x) (m : Mem) : JI (q + 1) k j (jstep m ((k : Int) + 1) j x).2:=by
 have ⟨h1,h3,h4,h5,h6,h7⟩:=h.more
 unfold jstep
 split
 ·exact ⟨h1,h3,h4,h5,h6,fun e => by simp at e⟩
 split
 ·split
  ·split
   ·exact ⟨h1,h3,h4,h5,h6,fun e => by simp at e⟩
   ·exact ⟨h1,h3,h4,cnew_puts _ _ _ _,cnew_reads _ _ _ _,fun _ => cnew_who _ _ _ _⟩
  ·rename_i hp hz
   unfold jread
   simp only
   split
   ·exact h.again
   split
   ·refine ⟨h1,⟨by simp only;omega,by simp only;omega⟩,?_,h5,h6,fun e => ?_⟩
    ·have:=h.2.2.1;simp only [List.length_append,List.length_cons,List.length_nil];omega
    ·simp only at e;omega
   ·exact ⟨h1,h3,h4,h5,h6,fun e => by simp only at e;omega⟩
 split
 ·rename_i hp
  unfold jcommit
  simp only
  split
  ·exact h.again
  split
  ·exact ⟨h1,h3,h4,by simp,by simp,fun e => by simp at e⟩
  ·refine ⟨h1,h3,h4,h5,h6,fun _ => ?_⟩
   rcases h7 hp with e|e
   ·exact .inl (cs_ph0 e)
   ·exact .inr e
 ·exact ⟨h1,h3,h4,h5,h6,h7⟩
/-- The event,as the reference asks for it. -/
theorem evS_is (m : Mem) (who : Int) (j : Job) (x : JobRun) : evS m x = decide ((x.commit_.phase_ = 2 ∨ x.commit_.phase_ = 3) ∧ (jstep m who j x).2.commit_.phase_ = 4):=by
 have key : (x.phase_ = 2 ∧ (x.commit_.phase_ = 2 ∨ x.commit_.phase_ = 3) ∧ (cstepS m x.commit_).ph = 4) ↔ ((x.commit_.phase_ = 2 ∨ x.commit_.phase_ = 3) ∧ (jstep m who j x).2.commit_.phase_ = 4):=by
  constructor
  ·rintro ⟨h1,h2,h3⟩
   refine ⟨h2,?_⟩
   unfold jstep jcommit ccNew
   simp [h1,h3]
  ·rintro ⟨h2,h3⟩
   have h4 : x.phase_ = 2:=by
    apply Classical.byContradiction
    intro h1
    unfold jstep at h3
    split at h3
    ·simp only at h3;omega
    split at h3
    ·split at h3
     ·split at h3
      ·simp only at h3;omega
      ·simp only at h3
       unfold cnew at h3
       split at h3
       ·simp only at h3;split at h3 <;> omega
       ·simp at h3
     ·unfold jread at h3
      simp only at h3
      split at h3
      ·simp [Go.Proofs.YtpmfhfpjiebcjaaGreat.again] at h3
      split at h3
      ·simp only at h3;omega
      ·simp only at h3;omega
    simp only at h3;omega
   refine ⟨h4,h2,?_⟩
   unfold jstep jcommit ccNew at h3
   simp only [h4] at h3
   simp at h3
   split at h3
   ·simp [Go.Proofs.YtpmfhfpjiebcjaaGreat.again] at h3
   split at h3
   ·simp at h3
   ·exact h3
 unfold evS
 by_cases h : (x.phase_ = 2 ∧ (x.commit_.phase_ = 2 ∨ x.commit_.phase_ = 3) ∧ (cstepS m x.commit_).ph = 4)
 ·rw [dec_yes h,decide_eq_true (key.1 h)]
 ·rw [dec_no h,decide_eq_false (fun z => h (key.2 z))]
/-- What holds of a duel behind q picks. -/
def DI (q : Nat) (jobs : List Job) (s : DS) : Prop:=s.m.cells_.length ≤ 1048576 ∧ s.xs.length = jobs.length ∧ s.h.length ≤ q ∧ (∀ p ∈ s.h,p.puts_.length ≤ 8) ∧ ∀ (k : Nat) (x : JobRun),s.xs[k]? = some x → JI q k (jobs.getD k default) x
theorem DI.more {q : Nat} {jobs : List Job} {s : DS} (h : DI q jobs s) : DI (q + 1) jobs s:=⟨h.1,h.2.1,by have:=h.2.2.1;omega,h.2.2.2.1,fun k x hx => (h.2.2.2.2 k x hx).more⟩
theorem jstep_len (m : Mem) (who : Int) (j : Job) (x : JobRun) : (jstep m who j x).1.cells_.length = m.cells_.length:=by
 unfold jstep
 repeat' split
 all_goals first|rfl|exact cs_len _ _
theorem DI.step {q k : Nat} {jobs : List Job} {s : DS} (h : DI q jobs s) (hk : k < jobs.length) : DI (q + 1) jobs (dstep jobs s k):=by
 obtain ⟨h1,h2,h3,h4,h5⟩:=h
 obtain ⟨x,hx⟩ : ∃ x,s.xs[k]? = some x:=⟨_,List.getElem?_eq_getElem (by omega)⟩
 have hj:=(h5 k x hx).step s.m
 have hg : s.xs.getD k JobRun.zero = x:=by rw [List.getD_eq_getElem?_getD,hx];rfl
 unfold dstep
 simp only [hg]
 refine ⟨by rw [jstep_len];exact h1,by rw [List.length_set];exact h2,?_,?_,?_⟩
 ·split
  ·simp;omega
  ·simp only;omega
 ·intro p hp
  split at hp
  ·rcases List.mem_append.1 hp with hp|hp
   ·exact h4 p hp
   ·rw [List.mem_singleton] at hp;subst hp;exact hj.2.2.2.1
  ·exact h4 p hp
 ·intro i y hy
  rw [List.getElem?_set] at hy
  split at hy
  ·rename_i e
   subst e
   split at hy
   ·cases hy;exact hj
   ·cases hy
  ·exact (h5 i y hy).more
theorem DI.zero (cells : List Int) (jobs : List Job) (h : cells.length ≤ 1048576) : DI 0 jobs ⟨⟨0,cells.map mkW⟩,List.replicate jobs.length JobRun.zero,[]⟩:=by
 refine ⟨by simpa using h,by simp,by simp,by simp,fun k x hx => ?_⟩
 have:=(List.mem_of_getElem? hx)
 simp only [List.mem_replicate] at this
 rw [this.2]
 exact JI.zero _ _ _
theorem DI.to {cells picks : List Int} {jobs : List Job} {s : DS} (h : DI 0 jobs s) : ∀ q,DI q jobs (dto jobs s picks q)
 | 0 => h
 | q + 1 => by
  unfold dto
  split
  ·rename_i v hv
   by_cases hz : 0 ≤ v ∧ v ≤ (jobs.length : Int) - 1
   ·rw [dec_yes hz];exact (DI.to (cells:=cells) h q).step (by omega)
   ·rw [dec_no hz];exact (DI.to (cells:=cells) h q).more
  ·exact (DI.to (cells:=cells) h q).more
theorem dto_hit {jobs : List Job} {s : DS} {picks : List Int} {q : Nat} {v : Int} (h : picks[q]? = some v) (hz : 0 ≤ v ∧ v ≤ (jobs.length : Int) - 1) : dto jobs s picks (q + 1) = dstep jobs (dto jobs s picks q) v.toNat:=by
 conv => lhs;unfold dto
 simp only [h,dec_yes hz];rfl
theorem dto_miss {jobs : List Job} {s : DS} {picks : List Int} {q : Nat} {v : Int} (h : picks[q]? = some v) (hz : ¬ (0 ≤ v ∧ v ≤ (jobs.length : Int) - 1)) : dto jobs s picks (q + 1) = dto jobs s picks q:=by
 conv => lhs;unfold dto
 simp only [h,dec_no hz];rfl
end Go.Proofs.YtpmfhfpjiebcjaaGreat
namespace Go.Proofs.YtpmfhfpjiebcjaaGreat
open Go.RowKit Go.Deep
set_option linter.unusedSimpArgs false
set_option linter.unusedVariables false

/-- An entry and where its puts lie. -/
abbrev Ent:=(Option Addr × Nat × Nat) × Wrote
def ecell (p : Ent) : List Value:=[.int .i64 p.2.stamp_,.int .i64 p.2.who_,.slice p.1.1 p.1.2.1 p.1.2.2]
def erow (p : Ent) : Res:=.row 97 2 p.1.1 p.1.2.1 p.1.2.2 (p.2.puts_.flatMap Row.cells)
theorem ecell_length (p : Ent) : (ecell p).length = 3:=rfl
theorem hist_R {b w : World} {es : List Ent} {B : Option Addr} {m d : Nat} {fr : List Res} (M : Mine b w (.row 53 3 B m d (es.flatMap ecell)::(es.map erow ++ fr))) (hp : ∀ p ∈ es,p.2.puts_.length ≤ 1048576) :
  SlR Wrote.R 3 w (fun _ => True) B m (es.map (·.2)):=by
 have h:=M.row_sl 0 rfl
 have hl : es.length = m:=h.flen ecell_length (by omega)
 refine ⟨by simpa using hl,fun hn => ?_⟩
 obtain ⟨b',o,e,hS,hb,hc⟩:=h.2 hn
 refine ⟨b',o,e,trivial,hb,fun k x hx => ?_⟩
 rw [List.getElem?_map] at hx
 obtain ⟨p,hpk,rfl⟩:=Option.map_eq_some_iff.1 hx
 have hk:=(List.getElem?_eq_some_iff.1 hpk).1
 have hi : (Res.row 53 3 B m d (es.flatMap ecell)::(es.map erow ++ fr))[k + 1]? = some (erow p):=by
  rw [List.getElem?_cons_succ,List.getElem?_append_left (by simpa using hk),List.getElem?_map,hpk];rfl
 have hr:=M.row_at (k + 1) hi
 have hn0 : p.2.puts_.length = p.1.2.1:=(ownSl hr).flen Row.cells_length (by omega)
 refine ⟨ecell p,⟨p.1.1,p.1.2.1,p.1.2.2,rfl,own_cap hr,?_,ownSl hr⟩,fun j hj => ?_⟩
 ·have:=hp p (List.mem_of_getElem? hpk);omega
 ·rw [Nat.add_assoc]
  exact (hc (k * 3 + j) (by omega)).trans (flat_get ecell_length es k j p hpk hj)
end Go.Proofs.YtpmfhfpjiebcjaaGreat
namespace Go.Proofs.YtpmfhfpjiebcjaaGreat
open Go.RowKit Go.Deep
set_option linter.unusedSimpArgs false
set_option linter.unusedVariables false
set_option maxRecDepth 8000 in
set_option maxHeartbeats 16000000 in
theorem spec_k0 (m : Mem) (AM : Option Addr) (n cm : Nat) (who : Int) (j : Job) (A0 : Option Addr) (n0 c0 : Nat) (A1 : Option Addr) (n1 c1 : Nat) (at_ : Int) (tr rv st : Int) (seen : List Row) (busy : Bool) (pc pp pv pl cw crv cph cat cwv : Int) (cps : List Row) (crs : List Int) (As : Option Addr) (ns cs : Nat) (Ap : Option Addr) (np cp : Nat) (Ar : Option Addr) (nr cr : Nat) (b w : World) (fr : List Res) (S0 S1 : Nat → Prop) (h0 : Sl b S0 1 A0 n0 (ints j.reads_)) (hn0 : n0 ≤ 1048576) (h1 : Sl b S1 2 A1 n1 (j.puts_.flatMap Row.cells)) (hn1 : n1 ≤ 1048576) (hnM : n ≤ 1048576) (hns : ns ≤ 1000000) (hnp : np ≤ 1048576) (hnr : nr ≤ 1048576) (htr : 0 ≤ tr ∧ tr ≤ 1000000) (hat : 0 ≤ at_ ∧ at_ ≤ (n0 : Int)) (M1 : Mine b w (.row 102 3 AM n cm ((m.cells_).flatMap Word.cells)::.row 97 2 As ns cs ((seen).flatMap Row.cells)::.row 97 2 Ap np cp ((cps).flatMap Row.cells)::.row 3 1 Ar nr cr (ints (crs))::fr))  :
  Calls Tryz.prog 31 #[.agg #[.int .i64 m.clock_,.slice AM n cm],.int .i64 who,.agg #[.slice A0 n0 c0,.slice A1 n1 c1],.agg (List.toArray ((.int .i64 0)::(.int .i64 tr)::(.int .i64 rv)::(.int .i64 at_)::(.int .i64 st)::(.slice As ns cs)::(.bool busy)::(.int .i64 pc)::(.int .i64 pp)::(.int .i64 pv)::(.int .i64 pl)::(.int .i64 cw)::(.int .i64 crv)::(.int .i64 cph)::(.int .i64 cat)::(.int .i64 cwv)::(.slice Ap np cp)::(.slice Ar nr cr)::[]))] w fun e w' => ∃ B1 m1 e1 B2 m2 e2 B3 m3 e3 B4 m4 e4,e = .returned (.tuple #[.agg #[.int .i64 (jstep m who j ⟨0,tr,rv,at_,st,seen,busy,⟨pc,pp,pv,pl⟩,⟨cw,crv,cph,cat,cwv,cps,crs⟩⟩).1.clock_,.slice B1 m1 e1],.agg (List.toArray ((.int .i64 ((jstep m who j ⟨0,tr,rv,at_,st,seen,busy,⟨pc,pp,pv,pl⟩,⟨cw,crv,cph,cat,cwv,cps,crs⟩⟩).2).phase_)::(.int .i64 ((jstep m who j ⟨0,tr,rv,at_,st,seen,busy,⟨pc,pp,pv,pl⟩,⟨cw,crv,cph,cat,cwv,cps,crs⟩⟩).2).tries_)::(.int .i64 ((jstep m who j ⟨0,tr,rv,at_,st,seen,busy,⟨pc,pp,pv,pl⟩,⟨cw,crv,cph,cat,cwv,cps,crs⟩⟩).2).rv_)::(.int .i64 ((jstep m who j ⟨0,tr,rv,at_,st,seen,busy,⟨pc,pp,pv,pl⟩,⟨cw,crv,cph,cat,cwv,cps,crs⟩⟩).2).at_)::(.int .i64 ((jstep m who j ⟨0,tr,rv,at_,st,seen,busy,⟨pc,pp,pv,pl⟩,⟨cw,crv,cph,cat,cwv,cps,crs⟩⟩).2).stamp_)::(.slice B2 m2 e2)::(.bool ((jstep m who j ⟨0,tr,rv,at_,st,seen,busy,⟨pc,pp,pv,pl⟩,⟨cw,crv,cph,cat,cwv,cps,crs⟩⟩).2).busy_)::(.int .i64 ((jstep m who j ⟨0,tr,rv,at_,st,seen,busy,⟨pc,pp,pv,pl⟩,⟨cw,crv,cph,cat,cwv,cps,crs⟩⟩).2).probe_.cell_)::(.int .i64 ((jstep m who j ⟨0,tr,rv,at_,st,seen,busy,⟨pc,pp,pv,pl⟩,⟨cw,crv,cph,cat,cwv,cps,crs⟩⟩).2).probe_.phase_)::(.int .i64 ((jstep m who j ⟨0,tr,rv,at_,st,seen,busy,⟨pc,pp,pv,pl⟩,⟨cw,crv,cph,cat,cwv,cps,crs⟩⟩).2).probe_.ver_)::(.int .i64 ((jstep m who j ⟨0,tr,rv,at_,st,seen,busy,⟨pc,pp,pv,pl⟩,⟨cw,crv,cph,cat,cwv,cps,crs⟩⟩).2).probe_.val_)::(.int .i64 ((jstep m who j ⟨0,tr,rv,at_,st,seen,busy,⟨pc,pp,pv,pl⟩,⟨cw,crv,cph,cat,cwv,cps,crs⟩⟩).2).commit_.who_)::(.int .i64 ((jstep m who j ⟨0,tr,rv,at_,st,seen,busy,⟨pc,pp,pv,pl⟩,⟨cw,crv,cph,cat,cwv,cps,crs⟩⟩).2).commit_.rv_)::(.int .i64 ((jstep m who j ⟨0,tr,rv,at_,st,seen,busy,⟨pc,pp,pv,pl⟩,⟨cw,crv,cph,cat,cwv,cps,crs⟩⟩).2).commit_.phase_)::(.int .i64 ((jstep m who j ⟨0,tr,rv,at_,st,seen,busy,⟨pc,pp,pv,pl⟩,⟨cw,crv,cph,cat,cwv,cps,crs⟩⟩).2).commit_.at_)::(.int .i64 ((jstep m who j ⟨0,tr,rv,at_,st,seen,busy,⟨pc,pp,pv,pl⟩,⟨cw,crv,cph,cat,cwv,cps,crs⟩⟩).2).commit_.wv_)::(.slice B3 m3 e3)::(.slice B4 m4 e4)::[]))]) ∧ Mine b w' (.row 102 3 B1 m1 e1 (((jstep m who j ⟨0,tr,rv,at_,st,seen,busy,⟨pc,pp,pv,pl⟩,⟨cw,crv,cph,cat,cwv,cps,crs⟩⟩).1.cells_).flatMap Word.cells)::.row 97 2 B2 m2 e2 (((jstep m who j ⟨0,tr,rv,at_,st,seen,busy,⟨pc,pp,pv,pl⟩,⟨cw,crv,cph,cat,cwv,cps,crs⟩⟩).2.seen_).flatMap Row.cells)::.row 97 2 B3 m3 e3 (((jstep m who j ⟨0,tr,rv,at_,st,seen,busy,⟨pc,pp,pv,pl⟩,⟨cw,crv,cph,cat,cwv,cps,crs⟩⟩).2.commit_.puts_).flatMap Row.cells)::.row 3 1 B4 m4 e4 (ints ((jstep m who j ⟨0,tr,rv,at_,st,seen,busy,⟨pc,pp,pv,pl⟩,⟨cw,crv,cph,cat,cwv,cps,crs⟩⟩).2.commit_.reads_))::fr):=by
 have hl0 : j.reads_.length = n0:=h0.len
 have hl1 : j.puts_.length = n1:=h1.flen Row.cells_length (by omega)
 have H0:=Lib.hid h0
 have H1:=Lib.hid h1
 have M:=Lib.hid M1
 clear h0 h1 M1
 have HZ : Hid (jstep m who j ⟨0,tr,rv,at_,st,seen,busy,⟨pc,pp,pv,pl⟩,⟨cw,crv,cph,cat,cwv,cps,crs⟩⟩ = (m,⟨1,tr,m.clock_,at_,st,seen,busy,⟨pc,pp,pv,pl⟩,⟨cw,crv,cph,cat,cwv,cps,crs⟩⟩)):=by show _ = _;unfold jstep;simp
 go_enter Tryz.func31,Tryz.ntmps31
 go_wp2_with (((with_reducible show wpList _ _ _ (⟨_,_,_,_,_,none⟩::_) _ _);first|(refine Mine.wp_box M.out rfl 27 _ rfl _ rfl ?_;intro gm w' M';(try simp only [zr_,zm_] at M');replace M:=Lib.hid M';clear M';(try simp only [zr_,zm_]))|(refine Mine.wp_box M.out rfl 72 _ rfl _ rfl ?_;intro gj w' M';(try simp only [zr_,zm_] at M');replace M:=Lib.hid M';clear M';(try simp only [zr_,zm_]))|(refine Mine.wp_box M.out rfl 68 _ rfl _ rfl ?_;intro gx w' M';(try simp only [zr_,zm_] at M');replace M:=Lib.hid M';clear M';(try simp only [zr_,zm_]))|(refine Mine.wp_alloc M.out rfl 27 rfl (.agg #[.int .i64 0,.slice none 0 0]) (by kernel_rfl) ?_;intro g8 w' M';(try simp only [Value.cells,zr_,zm_] at M');replace M:=Lib.hid M';clear M';(try simp only [zr_,zm_]))|(refine Mine.wp_alloc M.out rfl 68 rfl (.agg (List.toArray ((.int .i64 0)::(.int .i64 0)::(.int .i64 0)::(.int .i64 0)::(.int .i64 0)::(.slice none 0 0)::(.bool false)::(.int .i64 0)::(.int .i64 0)::(.int .i64 0)::(.int .i64 0)::(.int .i64 0)::(.int .i64 0)::(.int .i64 0)::(.int .i64 0)::(.int .i64 0)::(.slice none 0 0)::(.slice none 0 0)::[]))) (by kernel_rfl) ?_;intro g9 w' M';(try simp only [Value.cells,zr_,zm_] at M');replace M:=Lib.hid M';clear M';(try simp only [zr_,zm_]))|((first|refine zG M.out 2 ?_|refine zG M.out 4 ?_);(try simp only [zr_,zm_]))|(refine zS M.out 2 ?_;intro w' M';(try simp only [zr_,zm_] at M');replace M:=Lib.hid M';clear M')))
 have MT:=Lib.hid (M.out.sub (sk_ (sd_ (sk_ (sk_ (sk_ (sk_ (sk_ (sk_ (sk_ s1_))))))))))
 refine Mine.region_headS MT.out M.out 3 (by kernel_rfl) (by kernel_rfl) ?_
 intro w' M'
 replace M:=Lib.hid M'
 clear M'
 clear MT
 refine zT 0 ?_;intro K hK;((refine zDs 27 3 2 ?_;(try simp only [zr_,zm_]);go_big_quiet_on))
 refine zT 1 ?_;intro K hK;((refine zDs 68 1 18 ?_;(try simp only [zr_,zm_]);go_big_quiet_on))
 refine HQ.noisy (rs:=[2]) (by kernel_rfl) (by simp) (AllG.cons rfl (Nat.le_of_ble_eq_true rfl) (fun K hK => ?_) AllG.nil)
 refine Mine.step_sets M.out (by rfl) 27 _ _ (by rfl) (by rfl) 1 _ (by rfl) (by rfl) _ (by rfl) (Nat.le_of_ble_eq_true rfl) (by simp [Value.oneCell']) (by kernel_rfl) ?_
 intro w' M'
 simp only [zr_,zm_] at M'
 replace M:=Lib.hid M'
 clear M'
 refine hK.out _ _ (M.out.sub (sk_ (sd_ (sk_ (sk_ (sk_ (sk_ (sk_ (sk_ (sk_ s1_)))))))))) ?_
 clear hK K
 (try simp only [zs_,zl_])
 refine HQ.end_ (by kernel_rfl) ?_
 simp only [List.drop_succ_cons,List.drop_zero]
 go_wp2_with (((with_reducible show wpList _ _ _ (⟨_,_,_,_,_,none⟩::_) _ _);first|(refine zSs M.out 68 0 ?_;intro w' M';(try simp only [zr_,zm_] at M');replace M:=Lib.hid M';clear M')))
 refine bodyPost_ret (M.out.results_cj Tryz.results31 _ 1 0 rfl rfl _ Tryz.underlying27 (by rfl) (by kernel_rfl) rfl rfl _ Tryz.underlying68 (by rfl) (by kernel_rfl)) rfl ?_
 rw [HZ.out]
 replace M:=Lib.hid (M.out.sub (sd_ (sd_ (sd_ (sd_ (sd_ (sk_ (sk_ (sk_ (sk_ s1_))))))))))
 replace M:=Lib.hid (M.out.perm (List.perm_middle (l₁:=[_,_,_])))
 simp only [List.cons_append,List.nil_append] at M
 replace M:=Lib.hid (M.out.perm (List.perm_middle (l₁:=[_,_,_])))
 simp only [List.cons_append,List.nil_append] at M
 replace M:=Lib.hid (M.out.perm (List.perm_middle (l₁:=[_,_,_])))
 simp only [List.cons_append,List.nil_append] at M
 replace M:=Lib.hid (M.out.perm (List.perm_middle (l₁:=[_,_,_])))
 simp only [List.cons_append,List.nil_append] at M
 exact ⟨_,_,_,_,_,_,_,_,_,_,_,_,rfl,M.out⟩
set_option maxRecDepth 8000 in
set_option maxHeartbeats 16000000 in
theorem spec_k9 (m : Mem) (AM : Option Addr) (n cm : Nat) (who : Int) (j : Job) (A0 : Option Addr) (n0 c0 : Nat) (A1 : Option Addr) (n1 c1 : Nat) (phs at_ : Int) (tr rv st : Int) (seen : List Row) (busy : Bool) (pc pp pv pl cw crv cph cat cwv : Int) (cps : List Row) (crs : List Int) (As : Option Addr) (ns cs : Nat) (Ap : Option Addr) (np cp : Nat) (Ar : Option Addr) (nr cr : Nat) (b w : World) (fr : List Res) (S0 S1 : Nat → Prop) (h0 : Sl b S0 1 A0 n0 (ints j.reads_)) (hn0 : n0 ≤ 1048576) (h1 : Sl b S1 2 A1 n1 (j.puts_.flatMap Row.cells)) (hn1 : n1 ≤ 1048576) (hnM : n ≤ 1048576) (hns : ns ≤ 1000000) (hnp : np ≤ 1048576) (hnr : nr ≤ 1048576) (htr : 0 ≤ tr ∧ tr ≤ 1000000) (hat : 0 ≤ at_ ∧ at_ ≤ (n0 : Int)) (M1 : Mine b w (.row 102 3 AM n cm ((m.cells_).flatMap Word.cells)::.row 97 2 As ns cs ((seen).flatMap Row.cells)::.row 97 2 Ap np cp ((cps).flatMap Row.cells)::.row 3 1 Ar nr cr (ints (crs))::fr)) (p0 : phs ≠ 0) (p1 : phs ≠ 1) (p2 : phs ≠ 2) :
  Calls Tryz.prog 31 #[.agg #[.int .i64 m.clock_,.slice AM n cm],.int .i64 who,.agg #[.slice A0 n0 c0,.slice A1 n1 c1],.agg (List.toArray ((.int .i64 phs)::(.int .i64 tr)::(.int .i64 rv)::(.int .i64 at_)::(.int .i64 st)::(.slice As ns cs)::(.bool busy)::(.int .i64 pc)::(.int .i64 pp)::(.int .i64 pv)::(.int .i64 pl)::(.int .i64 cw)::(.int .i64 crv)::(.int .i64 cph)::(.int .i64 cat)::(.int .i64 cwv)::(.slice Ap np cp)::(.slice Ar nr cr)::[]))] w fun e w' => ∃ B1 m1 e1 B2 m2 e2 B3 m3 e3 B4 m4 e4,e = .returned (.tuple #[.agg #[.int .i64 (jstep m who j ⟨phs,tr,rv,at_,st,seen,busy,⟨pc,pp,pv,pl⟩,⟨cw,crv,cph,cat,cwv,cps,crs⟩⟩).1.clock_,.slice B1 m1 e1],.agg (List.toArray ((.int .i64 ((jstep m who j ⟨phs,tr,rv,at_,st,seen,busy,⟨pc,pp,pv,pl⟩,⟨cw,crv,cph,cat,cwv,cps,crs⟩⟩).2).phase_)::(.int .i64 ((jstep m who j ⟨phs,tr,rv,at_,st,seen,busy,⟨pc,pp,pv,pl⟩,⟨cw,crv,cph,cat,cwv,cps,crs⟩⟩).2).tries_)::(.int .i64 ((jstep m who j ⟨phs,tr,rv,at_,st,seen,busy,⟨pc,pp,pv,pl⟩,⟨cw,crv,cph,cat,cwv,cps,crs⟩⟩).2).rv_)::(.int .i64 ((jstep m who j ⟨phs,tr,rv,at_,st,seen,busy,⟨pc,pp,pv,pl⟩,⟨cw,crv,cph,cat,cwv,cps,crs⟩⟩).2).at_)::(.int .i64 ((jstep m who j ⟨phs,tr,rv,at_,st,seen,busy,⟨pc,pp,pv,pl⟩,⟨cw,crv,cph,cat,cwv,cps,crs⟩⟩).2).stamp_)::(.slice B2 m2 e2)::(.bool ((jstep m who j ⟨phs,tr,rv,at_,st,seen,busy,⟨pc,pp,pv,pl⟩,⟨cw,crv,cph,cat,cwv,cps,crs⟩⟩).2).busy_)::(.int .i64 ((jstep m who j ⟨phs,tr,rv,at_,st,seen,busy,⟨pc,pp,pv,pl⟩,⟨cw,crv,cph,cat,cwv,cps,crs⟩⟩).2).probe_.cell_)::(.int .i64 ((jstep m who j ⟨phs,tr,rv,at_,st,seen,busy,⟨pc,pp,pv,pl⟩,⟨cw,crv,cph,cat,cwv,cps,crs⟩⟩).2).probe_.phase_)::(.int .i64 ((jstep m who j ⟨phs,tr,rv,at_,st,seen,busy,⟨pc,pp,pv,pl⟩,⟨cw,crv,cph,cat,cwv,cps,crs⟩⟩).2).probe_.ver_)::(.int .i64 ((jstep m who j ⟨phs,tr,rv,at_,st,seen,busy,⟨pc,pp,pv,pl⟩,⟨cw,crv,cph,cat,cwv,cps,crs⟩⟩).2).probe_.val_)::(.int .i64 ((jstep m who j ⟨phs,tr,rv,at_,st,seen,busy,⟨pc,pp,pv,pl⟩,⟨cw,crv,cph,cat,cwv,cps,crs⟩⟩).2).commit_.who_)::(.int .i64 ((jstep m who j ⟨phs,tr,rv,at_,st,seen,busy,⟨pc,pp,pv,pl⟩,⟨cw,crv,cph,cat,cwv,cps,crs⟩⟩).2).commit_.rv_)::(.int .i64 ((jstep m who j ⟨phs,tr,rv,at_,st,seen,busy,⟨pc,pp,pv,pl⟩,⟨cw,crv,cph,cat,cwv,cps,crs⟩⟩).2).commit_.phase_)::(.int .i64 ((jstep m who j ⟨phs,tr,rv,at_,st,seen,busy,⟨pc,pp,pv,pl⟩,⟨cw,crv,cph,cat,cwv,cps,crs⟩⟩).2).commit_.at_)::(.int .i64 ((jstep m who j ⟨phs,tr,rv,at_,st,seen,busy,⟨pc,pp,pv,pl⟩,⟨cw,crv,cph,cat,cwv,cps,crs⟩⟩).2).commit_.wv_)::(.slice B3 m3 e3)::(.slice B4 m4 e4)::[]))]) ∧ Mine b w' (.row 102 3 B1 m1 e1 (((jstep m who j ⟨phs,tr,rv,at_,st,seen,busy,⟨pc,pp,pv,pl⟩,⟨cw,crv,cph,cat,cwv,cps,crs⟩⟩).1.cells_).flatMap Word.cells)::.row 97 2 B2 m2 e2 (((jstep m who j ⟨phs,tr,rv,at_,st,seen,busy,⟨pc,pp,pv,pl⟩,⟨cw,crv,cph,cat,cwv,cps,crs⟩⟩).2.seen_).flatMap Row.cells)::.row 97 2 B3 m3 e3 (((jstep m who j ⟨phs,tr,rv,at_,st,seen,busy,⟨pc,pp,pv,pl⟩,⟨cw,crv,cph,cat,cwv,cps,crs⟩⟩).2.commit_.puts_).flatMap Row.cells)::.row 3 1 B4 m4 e4 (ints ((jstep m who j ⟨phs,tr,rv,at_,st,seen,busy,⟨pc,pp,pv,pl⟩,⟨cw,crv,cph,cat,cwv,cps,crs⟩⟩).2.commit_.reads_))::fr):=by
 have hl0 : j.reads_.length = n0:=h0.len
 have hl1 : j.puts_.length = n1:=h1.flen Row.cells_length (by omega)
 have H0:=Lib.hid h0
 have H1:=Lib.hid h1
 have M:=Lib.hid M1
 clear h0 h1 M1
 have HZ : Hid (jstep m who j ⟨phs,tr,rv,at_,st,seen,busy,⟨pc,pp,pv,pl⟩,⟨cw,crv,cph,cat,cwv,cps,crs⟩⟩ = (m,⟨phs,tr,rv,at_,st,seen,busy,⟨pc,pp,pv,pl⟩,⟨cw,crv,cph,cat,cwv,cps,crs⟩⟩)):=by show _ = _;unfold jstep;simp [p0,p1,p2]
 have b0 : (phs == 0) = false:=by simpa using p0
 have b1 : (phs == 1) = false:=by simpa using p1
 have b2 : (phs == 2) = false:=by simpa using p2
 clear p0 p1 p2
 go_enter Tryz.func31,Tryz.ntmps31
 go_wp2_with (((with_reducible show wpList _ _ _ (⟨_,_,_,_,_,none⟩::_) _ _);first|(refine Mine.wp_box M.out rfl 27 _ rfl _ rfl ?_;intro gm w' M';(try simp only [zr_,zm_] at M');replace M:=Lib.hid M';clear M';(try simp only [zr_,zm_]))|(refine Mine.wp_box M.out rfl 72 _ rfl _ rfl ?_;intro gj w' M';(try simp only [zr_,zm_] at M');replace M:=Lib.hid M';clear M';(try simp only [zr_,zm_]))|(refine Mine.wp_box M.out rfl 68 _ rfl _ rfl ?_;intro gx w' M';(try simp only [zr_,zm_] at M');replace M:=Lib.hid M';clear M';(try simp only [zr_,zm_]))|(refine Mine.wp_alloc M.out rfl 27 rfl (.agg #[.int .i64 0,.slice none 0 0]) (by kernel_rfl) ?_;intro g8 w' M';(try simp only [Value.cells,zr_,zm_] at M');replace M:=Lib.hid M';clear M';(try simp only [zr_,zm_]))|(refine Mine.wp_alloc M.out rfl 68 rfl (.agg (List.toArray ((.int .i64 0)::(.int .i64 0)::(.int .i64 0)::(.int .i64 0)::(.int .i64 0)::(.slice none 0 0)::(.bool false)::(.int .i64 0)::(.int .i64 0)::(.int .i64 0)::(.int .i64 0)::(.int .i64 0)::(.int .i64 0)::(.int .i64 0)::(.int .i64 0)::(.int .i64 0)::(.slice none 0 0)::(.slice none 0 0)::[]))) (by kernel_rfl) ?_;intro g9 w' M';(try simp only [Value.cells,zr_,zm_] at M');replace M:=Lib.hid M';clear M';(try simp only [zr_,zm_]))|(refine zG M.out 2 ?_;(try simp only [zr_,zm_]))))
 have MT:=Lib.hid (M.out.sub (sk_ (sd_ (sk_ (sk_ (sk_ (sk_ (sk_ (sk_ (sk_ s1_))))))))))
 refine Mine.region_headS MT.out M.out 3 (by kernel_rfl) (by kernel_rfl) ?_
 intro w' M'
 replace M:=Lib.hid M'
 clear M'
 clear MT
 refine zT 0 ?_;intro K hK;((refine zDs 27 3 2 ?_;(try simp only [zr_,zm_]);go_big_quiet_on))
 refine zT 1 ?_;intro K hK;((refine zDs 68 1 18 ?_;(try simp only [zr_,zm_]);go_big_quiet_on))
 refine HQ.noisy (rs:=[2]) (by kernel_rfl) (by simp) (AllG.cons rfl (Nat.le_of_ble_eq_true rfl) (fun K hK => ?_) AllG.nil)
 refine Mine.step_sets M.out (by rfl) 27 _ _ (by rfl) (by rfl) 1 _ (by rfl) (by rfl) _ (by rfl) (Nat.le_of_ble_eq_true rfl) (by simp [Value.oneCell']) (by kernel_rfl) ?_
 intro w' M'
 simp only [zr_,zm_] at M'
 replace M:=Lib.hid M'
 clear M'
 refine hK.out _ _ (M.out.sub (sk_ (sd_ (sk_ (sk_ (sk_ (sk_ (sk_ (sk_ (sk_ s1_)))))))))) ?_
 clear hK K
 (try simp only [zs_,zl_])
 refine HQ.end_ (by kernel_rfl) ?_
 simp only [List.drop_succ_cons,List.drop_zero]
 go_wp2_with (((with_reducible show wpList _ _ _ (⟨_,_,_,_,_,none⟩::_) _ _);first|(refine zSs M.out 68 0 ?_;intro w' M';(try simp only [zr_,zm_] at M');replace M:=Lib.hid M';clear M')))
 refine bodyPost_ret (M.out.results_cj Tryz.results31 _ 1 0 rfl rfl _ Tryz.underlying27 (by rfl) (by kernel_rfl) rfl rfl _ Tryz.underlying68 (by rfl) (by kernel_rfl)) rfl ?_
 rw [HZ.out]
 replace M:=Lib.hid (M.out.sub (sd_ (sd_ (sd_ (sd_ (sd_ (sk_ (sk_ (sk_ (sk_ s1_))))))))))
 replace M:=Lib.hid (M.out.perm (List.perm_middle (l₁:=[_,_,_])))
 simp only [List.cons_append,List.nil_append] at M
 replace M:=Lib.hid (M.out.perm (List.perm_middle (l₁:=[_,_,_])))
 simp only [List.cons_append,List.nil_append] at M
 replace M:=Lib.hid (M.out.perm (List.perm_middle (l₁:=[_,_,_])))
 simp only [List.cons_append,List.nil_append] at M
 replace M:=Lib.hid (M.out.perm (List.perm_middle (l₁:=[_,_,_])))
 simp only [List.cons_append,List.nil_append] at M
 exact ⟨_,_,_,_,_,_,_,_,_,_,_,_,rfl,M.out⟩

end Go.Proofs.YtpmfhfpjiebcjaaGreat
