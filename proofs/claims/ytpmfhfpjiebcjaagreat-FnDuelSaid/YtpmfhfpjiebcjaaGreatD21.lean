/- What holds all through a duel. No condition. A history that is owned: a row of entries, the puts of each a row of its own; how it reads. No condition. byStamp, slices.SortFunc at entries that are owned. Every entry's stamp in its range. -/
import Derived.Test.YtpmfhfpjiebcjaaGreatD20
import Derived.Test.YtpmfhfpjiebcjaaGreatD06
import Derived.Test.YtpmfhfpjiebcjaaGreatD01
import Derived.Test.YtpmfhfpjiebcjaaGreatD04
import Derived.Test.YtpmfhfpjiebcjaaGreatD00
namespace Go.Proofs.YtpmfhfpjiebcjaaGreat
open Go.RowKit Go.Deep
set_option linter.unnecessarySimpa false
set_option linter.unusedSimpArgs false
set_option linter.unusedVariables false

theorem cs_len (m : Mem) (c : Commit) : (cstepS m c).xs.length = m.cells_.length:=by
 unfold cstepS
 simp only
 repeat' split
 all_goals simp [lockC_len,storeC_len,unlockC_len]
/-- What holds of a job behind q picks. -/
def JI (q k : Nat) (j : Job) (x : JobRun) : Prop:=(0 ≤ x.tries_ ∧ x.tries_ ≤ q) ∧ (0 ≤ x.at_ ∧ x.at_ ≤ (j.reads_.length : Int)) ∧ x.seen_.length ≤ q ∧ x.commit_.puts_.length ≤ 8 ∧ x.commit_.reads_.length ≤ 8 ∧ (x.phase_ = 2 → x.commit_.phase_ = 0 ∨ x.commit_.who_ = (k : Int) + 1)
theorem JI.more {q k : Nat} {j : Job} {x : JobRun} (h : JI q k j x) : JI (q + 1) k j x:=by
 obtain ⟨⟨h1,h2⟩,h3,h4,h5⟩:=h
 exact ⟨⟨h1,by omega⟩,h3,by omega,h5⟩
theorem JI.zero (q k : Nat) (j : Job) : JI q k j JobRun.zero:=by
 refine ⟨⟨by simp [JobRun.zero],by simp [JobRun.zero]⟩,⟨by simp [JobRun.zero],by simp [JobRun.zero]⟩,by simp [JobRun.zero],by simp [JobRun.zero],by simp [JobRun.zero],fun h => by simp [JobRun.zero] at h⟩
theorem JI.again {q k : Nat} {j : Job} {x : JobRun} (h : JI q k j x) : JI (q + 1) k j (again x.tries_):=by
 obtain ⟨⟨h1,h2⟩,h3,h4,h5⟩:=h
 refine ⟨⟨by simp only [Go.Proofs.YtpmfhfpjiebcjaaGreat.again];omega,by simp only [Go.Proofs.YtpmfhfpjiebcjaaGreat.again];omega⟩,⟨by simp [Go.Proofs.YtpmfhfpjiebcjaaGreat.again],by simp [Go.Proofs.YtpmfhfpjiebcjaaGreat.again]⟩,by simp [Go.Proofs.YtpmfhfpjiebcjaaGreat.again],by simp [Go.Proofs.YtpmfhfpjiebcjaaGreat.again],by simp [Go.Proofs.YtpmfhfpjiebcjaaGreat.again],fun h => by simp [Go.Proofs.YtpmfhfpjiebcjaaGreat.again] at h⟩
theorem cnew_puts (who rv : Int) (ps qs : List Row) : (cnew who rv ps qs).puts_.length ≤ 8:=by unfold cnew;split;exact net_le _;simp
theorem cnew_reads (who rv : Int) (ps qs : List Row) : (cnew who rv ps qs).reads_.length ≤ 8:=by unfold cnew;split;rw [List.length_map];exact net_le _;simp
theorem cnew_who (who rv : Int) (ps qs : List Row) : (cnew who rv ps qs).phase_ = 0 ∨ (cnew who rv ps qs).who_ = who:=by unfold cnew;split;exact .inr rfl;exact .inl rfl
theorem cs_ph0 {m : Mem} {c : Commit} (h : c.phase_ = 0) : (cstepS m c).ph = 0:=by rw [cs_rest] <;> simp [h]
theorem JI.step {q k : Nat} {j : Job} {x : JobRun} (h : JI q k j x) (m : Mem) : JI (q + 1) k j (jstep m ((k : Int) + 1) j x).2:=by
 have ⟨h1,h3,h4,h5,h6,h7⟩:=h.more
 unfold jstep
 split
 ·exact ⟨h1,h3,h4,h5,h6,fun e => by simp at e⟩
 split
 ·split
  ·split
   ·exact ⟨h1,h3,h4,h5,h6,fun e => by simp at e⟩
   ·exact ⟨h1,h3,h4,cnew_puts _ _ _ _,cnew_reads _ _ _ _,fun _ => cnew_who _ _ _ _⟩
  ·rename_i hp hz
   unfold jread
   simp only
   split
   ·exact h.again
   split
   ·refine ⟨h1,⟨by simp only;omega,by simp only;omega⟩,?_,h5,h6,fun e => ?_⟩
    ·have:=h.2.2.1;simp only [List.length_append,List.length_cons,List.length_nil];omega
    ·simp only at e;omega
   ·exact ⟨h1,h3,h4,h5,h6,fun e => by simp only at e;omega⟩
 split
 ·rename_i hp
  unfold jcommit
  simp only
  split
  ·exact h.again
  split
  ·exact ⟨h1,h3,h4,by simp,by simp,fun e => by simp at e⟩
  ·refine ⟨h1,h3,h4,h5,h6,fun _ => ?_⟩
   rcases h7 hp with e|e
   ·exact .inl (cs_ph0 e)
   ·exact .inr e
 ·exact ⟨h1,h3,h4,h5,h6,h7⟩
/-- What holds of a duel behind q picks. -/
def DI (q : Nat) (jobs : List Job) (s : DS) : Prop:=s.m.cells_.length ≤ 1048576 ∧ s.xs.length = jobs.length ∧ s.h.length ≤ q ∧ (∀ p ∈ s.h,p.puts_.length ≤ 8) ∧ ∀ (k : Nat) (x : JobRun),s.xs[k]? = some x → JI q k (jobs.getD k default) x
theorem DI.more {q : Nat} {jobs : List Job} {s : DS} (h : DI q jobs s) : DI (q + 1) jobs s:=⟨h.1,h.2.1,by have:=h.2.2.1;omega,h.2.2.2.1,fun k x hx => (h.2.2.2.2 k x hx).more⟩
theorem jstep_len (m : Mem) (who : Int) (j : Job) (x : JobRun) : (jstep m who j x).1.cells_.length = m.cells_.length:=by
 unfold jstep
 repeat' split
 all_goals first|rfl|exact cs_len _ _
theorem DI.step {q k : Nat} {jobs : List Job} {s : DS} (h : DI q jobs s) (hk : k < jobs.length) : DI (q + 1) jobs (dstep jobs s k):=by
 obtain ⟨h1,h2,h3,h4,h5⟩:=h
 obtain ⟨x,hx⟩ : ∃ x,s.xs[k]? = some x:=⟨_,List.getElem?_eq_getElem (by omega)⟩
 have hj:=(h5 k x hx).step s.m
 have hg : s.xs.getD k JobRun.zero = x:=by rw [List.getD_eq_getElem?_getD,hx];rfl
 unfold dstep
 simp only [hg]
 refine ⟨by rw [jstep_len];exact h1,by rw [List.length_set];exact h2,?_,?_,?_⟩
 ·split
  ·simp;omega
  ·simp only;omega
 ·intro p hp
  split at hp
  ·rcases List.mem_append.1 hp with hp|hp
   ·exact h4 p hp
   ·rw [List.mem_singleton] at hp;subst hp;exact hj.2.2.2.1
  ·exact h4 p hp
 ·intro i y hy
  rw [List.getElem?_set] at hy
  split at hy
  ·rename_i e
   subst e
   split at hy
   ·cases hy;exact hj
   ·cases hy
  ·exact (h5 i y hy).more
theorem DI.zero (cells : List Int) (jobs : List Job) (h : cells.length ≤ 1048576) : DI 0 jobs ⟨⟨0,cells.map mkW⟩,List.replicate jobs.length JobRun.zero,[]⟩:=by
 refine ⟨by simpa using h,by simp,by simp,by simp,fun k x hx => ?_⟩
 have:=(List.mem_of_getElem? hx)
 simp only [List.mem_replicate] at this
 rw [this.2]
 exact JI.zero _ _ _
theorem DI.to {cells picks : List Int} {jobs : List Job} {s : DS} (h : DI 0 jobs s) : ∀ q,DI q jobs (dto jobs s picks q)
 | 0 => h
 | q + 1 => by
  unfold dto
  split
  ·rename_i v hv
   by_cases hz : 0 ≤ v ∧ v ≤ (jobs.length : Int) - 1
   ·rw [dec_yes hz];exact (DI.to (cells:=cells) h q).step (by omega)
   ·rw [dec_no hz];exact (DI.to (cells:=cells) h q).more
  ·exact (DI.to (cells:=cells) h q).more
theorem dto_hit {jobs : List Job} {s : DS} {picks : List Int} {q : Nat} {v : Int} (h : picks[q]? = some v) (hz : 0 ≤ v ∧ v ≤ (jobs.length : Int) - 1) : dto jobs s picks (q + 1) = dstep jobs (dto jobs s picks q) v.toNat:=by
 conv => lhs;unfold dto
 simp only [h,dec_yes hz];rfl
theorem dto_miss {jobs : List Job} {s : DS} {picks : List Int} {q : Nat} {v : Int} (h : picks[q]? = some v) (hz : ¬ (0 ≤ v ∧ v ≤ (jobs.length : Int) - 1)) : dto jobs s picks (q + 1) = dto jobs s picks q:=by
 conv => lhs;unfold dto
 simp only [h,dec_no hz];rfl
end Go.Proofs.YtpmfhfpjiebcjaaGreat
namespace Go.Proofs.YtpmfhfpjiebcjaaGreat
open Go.RowKit Go.Deep
set_option linter.unnecessarySimpa false
set_option linter.unusedSimpArgs false
set_option linter.unusedVariables false

/-- An entry and where its puts lie. -/
abbrev Ent:=(Option Addr × Nat × Nat) × Wrote
def ecell (p : Ent) : List Value:=[.int .i64 p.2.stamp_,.int .i64 p.2.who_,.slice p.1.1 p.1.2.1 p.1.2.2]
def erow (p : Ent) : Res:=.row 97 2 p.1.1 p.1.2.1 p.1.2.2 (p.2.puts_.flatMap Row.cells)
theorem ecell_length (p : Ent) : (ecell p).length = 3:=rfl
theorem hist_R {b w : World} {es : List Ent} {B : Option Addr} {m d : Nat} {fr : List Res} (M : Mine b w (.row 53 3 B m d (es.flatMap ecell)::(es.map erow ++ fr))) (hp : ∀ p ∈ es,p.2.puts_.length ≤ 1048576) :
  SlR Wrote.R 3 w (fun _ => True) B m (es.map (·.2)):=by
 have h:=M.row_sl 0 rfl
 have hl : es.length = m:=h.flen ecell_length (by omega)
 refine ⟨by simpa using hl,fun hn => ?_⟩
 obtain ⟨b',o,e,hS,hb,hc⟩:=h.2 hn
 refine ⟨b',o,e,trivial,hb,fun k x hx => ?_⟩
 rw [List.getElem?_map] at hx
 obtain ⟨p,hpk,rfl⟩:=Option.map_eq_some_iff.1 hx
 have hk:=(List.getElem?_eq_some_iff.1 hpk).1
 have hi : (Res.row 53 3 B m d (es.flatMap ecell)::(es.map erow ++ fr))[k + 1]? = some (erow p):=by
  rw [List.getElem?_cons_succ,List.getElem?_append_left (by simpa using hk),List.getElem?_map,hpk];rfl
 have hr:=M.row_at (k + 1) hi
 have hn0 : p.2.puts_.length = p.1.2.1:=(ownSl hr).flen Row.cells_length (by omega)
 refine ⟨ecell p,⟨p.1.1,p.1.2.1,p.1.2.2,rfl,own_cap hr,?_,ownSl hr⟩,fun j hj => ?_⟩
 ·have:=hp p (List.mem_of_getElem? hpk);omega
 ·rw [Nat.add_assoc]
  exact (hc (k * 3 + j) (by omega)).trans (flat_get ecell_length es k j p hpk hj)
end Go.Proofs.YtpmfhfpjiebcjaaGreat
namespace Go.Proofs.YtpmfhfpjiebcjaaGreat
open Go.RowKit Go.Deep Go.Shelf Go.Lib Go.Sort
set_option linter.unnecessarySimpa false
set_option linter.unusedSimpArgs false
set_option linter.unusedVariables false

def entFine (p : Ent) : Prop:=1 ≤ p.2.stamp_ ∧ p.2.stamp_ ≤ 1000000
structure FEnt where
 v : Ent
 h : entFine v
instance : Inhabited FEnt:=⟨⟨((none,0,0),⟨1,0,[]⟩),by unfold entFine;decide⟩⟩
def FEnt.enc (x : FEnt) : List Value:=ecell x.v
def FEnt.cmp (x y : FEnt) : Int:=x.v.2.stamp_ - y.v.2.stamp_
def entLt (x y : Ent) : Prop:=x.2.stamp_ < y.2.stamp_
theorem FEnt.lt_iff (x y : FEnt) : ltOf FEnt.cmp x y = true ↔ entLt x.v y.v:=by
 unfold ltOf FEnt.cmp entLt
 simp <;> omega
theorem FEnt.lt_not (x y : FEnt) : ltOf FEnt.cmp x y = false ↔ ¬ entLt x.v y.v:=by
 rw [← FEnt.lt_iff];simp
theorem FEnt.swo : SWO (ltOf FEnt.cmp) where
 irrefl x:=by rw [FEnt.lt_not];unfold entLt;omega
 trans x y z h1 h2:=by rw [FEnt.lt_iff] at *;unfold entLt at *;omega
 ntrans x y z h1 h2:=by rw [FEnt.lt_not] at *;unfold entLt at *;omega

set_option maxHeartbeats 1000000 in
theorem byStamp_grow (x0 x1 y0 y1 : Int) (A B : Option Addr) (n c m d : Nat) (hx : 1 ≤ x0 ∧ x0 ≤ 1000000) (hy : 1 ≤ y0 ∧ y0 ≤ 1000000) (W : World) :
  Calls Tryz.prog 110 #[.agg #[.int .i64 x0,.int .i64 x1,.slice A n c],.agg #[.int .i64 y0,.int .i64 y1,.slice B m d]] W fun e w' => e = .returned (.int .i64 (x0 - y0)) ∧ ∃ q os',w' = grow (W.drewN q) os':=by
 go_enter Tryz.func110,Tryz.ntmps110
 go_wp2
 go_ret
 exact ⟨by go_num,0,_,by rw [alloc_eq_grow,alloc_eq_grow,grow_grow];rfl⟩
theorem cmpLays_E (blk off size : Nat) (w : World) : CmpLays Tryz.prog 110 #[] FEnt.enc 3 FEnt.cmp blk off size w :=
 fun _ _ _ _ x y => byStamp_grow x.v.2.stamp_ x.v.2.who_ y.v.2.stamp_ y.v.2.who_ x.v.1.1 y.v.1.1 _ _ _ _ x.h y.h _

theorem permIn_list {α : Type} [Inhabited α] {d d' : Array α} (h : PermIn 0 d.size d d') : d'.toList.Perm d.toList:=by
 obtain ⟨hs,_,hp⟩:=h
 have e1 : (d'.extract 0 d.size) = d':=by rw [← hs];simp
 have e2 : (d.extract 0 d.size) = d:=by simp
 rw [e1,e2] at hp
 exact hp
theorem sortedIn_list {α : Type} [Inhabited α] {lt : α → α → Bool} {d : Array α} {n : Nat} (hn : d.size = n) (h : SortedIn lt 0 n d) : d.toList.Pairwise (fun x y => lt y x = false):=by
 rw [List.pairwise_iff_getElem]
 intro i j hi hj hij
 have hi' : i < d.size:=by simpa using hi
 have hj' : j < d.size:=by simpa using hj
 have:=h i j (Nat.zero_le _) hij (by omega)
 rw [getElem!_pos d j hj',getElem!_pos d i hi'] at this
 simpa using this
theorem Mine.sortEnts {b w : World} {rs : List Res} {i n c : Nat} {A : Option Addr} {l : List Ent} (M : Mine b w rs) (hi : rs[i]? = some (.row 53 3 A n c (l.flatMap ecell))) (hf : ∀ x ∈ l,entFine x) (hn : n ≤ 1048576) :
  Calls Tryz.prog 109 #[.slice A n c,.func (.func 110) #[] #[]] w fun e w' => e = .returned (.tuple #[]) ∧ ∃ l' : List Ent,l'.Perm l ∧ l'.Pairwise (fun x y => ¬ entLt y x) ∧ Mine b w' (rs.set i (.row 53 3 A n c (l'.flatMap ecell))):=by
 have hl : l.length = n:=by have h:=M.len i hi;rw [flat_length ecell_length] at h;omega
 rcases Nat.eq_zero_or_pos n with h0|h0
 ·subst h0
  obtain rfl : l = []:=List.eq_nil_of_length_eq_zero hl
  have h:=AnyF.slices_SortFunc_none Tryz.sortEnt A c (.func (.func 110) #[] #[]) w
  change Calls Tryz.prog 109 _ _ _ at h
  refine h.mono ?_
  rintro e w' ⟨rfl,hw⟩
  refine ⟨rfl,[],List.Perm.refl _,List.Pairwise.nil,?_⟩
  have hset : rs.set i (.row 53 3 A 0 c (([] : List Ent).flatMap ecell)) = rs:=by
   obtain ⟨hlt,he⟩:=List.getElem?_eq_some_iff.1 hi
   rw [← he];simp
  rw [hset]
  first|(rw [hw];exact M)|(obtain ⟨q,hw⟩:=hw;rw [hw];exact M.drN _)|(obtain ⟨q,os,hw⟩:=hw;rw [hw];exact M.drN _)
 obtain ⟨g,rfl⟩:=M.addr i hi h0
 let d : Array FEnt:=(l.attach.map fun x => (⟨x.1,hf x.1 x.2⟩ : FEnt)).toArray
 have hd : d.size = n:=by show (l.attach.map _).toArray.size = n;simp [hl]
 have henc : d.toList.flatMap FEnt.enc = l.flatMap ecell:=by
  show (l.attach.map _).flatMap FEnt.enc = _
  rw [List.flatMap_map]
  show l.attach.flatMap (fun x => ecell x.1) = _
  rw [← List.flatMap_map (f:=Subtype.val),List.attach_map_subtype_val]
 have hmap : d.toList.map FEnt.v = l:=by
  show (l.attach.map _).map FEnt.v = _
  rw [List.map_map]
  show l.attach.map Subtype.val = _
  rw [List.attach_map_subtype_val]
 rw [← henc] at hi
 have hk : ∀ x : FEnt,x.enc.length = 3:=fun _ => rfl
 have hH:=own_holdsK (enc:=FEnt.enc) hk (M.row_at i hi) hd
 have eg : ∀ args w,(callFunc 110 args).run Tryz.prog w = .ok (.enter 110 args) w:=enters_of Tryz.func110 (by kernel_rfl) rfl
 have hcon:=AnyQ.slices_SortFunc Tryz.sortEnt 3 Tryz.isAgg53 Tryz.sizeOf53 FEnt.enc hk (fun x v hv => by
  simp [FEnt.enc,ecell] at hv
  rcases hv with rfl|rfl|rfl <;> rfl) FEnt.cmp FEnt.swo 110 #[] g 0 c d w eg (cmpLays_E g 0 d.size w) hH (M.row_at i hi |>.lt g rfl).2 (by omega)
 change Calls Tryz.prog 109 _ _ _ at hcon
 rw [hd] at hcon
 refine hcon.mono ?_
 rintro e w' ⟨rfl,d',m,os,hp,hs,rfl⟩
 have hp' : PermIn 0 d.size d d':=by rw [hd];exact hp
 have hd' : d'.size = n:=by rw [hp'.1,hd]
 refine ⟨rfl,d'.toList.map FEnt.v,?_,?_,?_⟩
 ·have h1:=(permIn_list hp').map FEnt.v
  rw [hmap] at h1
  exact h1
 ·have h1:=sortedIn_list hd' hs
  rw [List.pairwise_map]
  exact h1.imp fun {x y} h => (FEnt.lt_not y x).1 h
 ·have h1:=M.sortedK hk hi hd m d' os hd'
  have e2 : d'.toList.flatMap FEnt.enc = (d'.toList.map FEnt.v).flatMap ecell:=by rw [List.flatMap_map];rfl
  rw [e2] at h1
  exact h1
end Go.Proofs.YtpmfhfpjiebcjaaGreat
