/- Steps of a duel within a commit. No condition. -/
import Derived.Test.YtpmfhfpjiebcjaaGreatD00
import Derived.Test.YtpmfhfpjiebcjaaGreatD26
namespace Go.Proofs.YtpmfhfpjiebcjaaGreat
open Go.RowKit Go.Deep
set_option linter.unnecessarySimpa false
set_option linter.unusedSimpArgs false
set_option linter.unusedVariables false

def jc (x : JobRun) (ph a wv : Int) : JobRun :=
 if ph = 8 then again x.tries_
 else if ph = 6 then ⟨3,x.tries_,x.rv_,x.at_,wv,x.seen_,x.busy_,x.probe_,⟨0,0,0,0,0,[],[]⟩⟩
 else ⟨x.phase_,x.tries_,x.rv_,x.at_,x.stamp_,x.seen_,x.busy_,x.probe_,⟨x.commit_.who_,x.commit_.rv_,ph,a,wv,x.commit_.puts_,x.commit_.reads_⟩⟩
theorem jcommit_is {m : Mem} {x : JobRun} {K ph a wv : Int} {XS : List Word} (hq : cstepS m x.commit_ = ⟨K,XS,ph,a,wv⟩) : jcommit m x = jc x ph a wv:=by
 unfold jcommit ccNew jc
 simp only [hq]
section
variable {x : JobRun} {ph a wv : Int}
theorem jc_seen : seenK x (jc x ph a wv):=by
 unfold jc seenK
 split
 ·exact .inl rfl
 split
 ·exact .inr ⟨rfl,rfl⟩
 ·exact .inr ⟨rfl,rfl⟩
theorem jc_out (h : ph = 8 ∨ ph = 6) : (jc x ph a wv).phase_ ≠ 2:=by
 unfold jc
 split
 ·simp [again]
 split
 ·simp
 ·omega
theorem jc_done (h : ph = 6) : (jc x ph a wv).phase_ = 3:=by unfold jc;rw [if_neg (by omega),if_pos h]
theorem jc_in (h8 : ph ≠ 8) (h6 : ph ≠ 6) : jc x ph a wv = ⟨x.phase_,x.tries_,x.rv_,x.at_,x.stamp_,x.seen_,x.busy_,x.probe_,⟨x.commit_.who_,x.commit_.rv_,ph,a,wv,x.commit_.puts_,x.commit_.reads_⟩⟩:=by unfold jc;rw [if_neg h8,if_neg h6]
theorem jc_job {cells : List Int} {jobs : List Job} {m m' : Mem} {xs xs' : List JobRun} {h : List Wrote} {k : Nat} (J : JInv cells jobs m xs h k x) (hp : x.phase_ = 2) (hc : m.clock_ ≤ m'.clock_) (hm : 0 ≤ m.clock_)
  (hps : x.commit_.who_ = (k : Int) + 1 ∧ x.commit_.puts_ = netR (jobs.getD k default).puts_ ∧ rowsOk x.commit_.puts_ = true ∧ rising (x.commit_.puts_.map (·.cell_))) : JInv cells jobs m' xs' h k (jc x ph a wv):=by
 unfold jc
 split
 ·exact JInv.again (by omega)
 split
 ·exact J.keep rfl rfl rfl (by simp) (by simp) (fun z => by simp at z) hc
 ·exact J.keep rfl rfl rfl (by simp [hp]) (by simp [hp]) (fun _ => hps) hc
end
/-- What the end of a commit's step is: no event. -/
theorem ev_no {m : Mem} {x : JobRun} {K ph a wv : Int} {XS : List Word} (hq : cstepS m x.commit_ = ⟨K,XS,ph,a,wv⟩) (h : ¬ ((x.commit_.phase_ = 2 ∨ x.commit_.phase_ = 3) ∧ ph = 4)) : evS m x = false:=by
 unfold evS
 refine dec_no fun z => h ⟨z.2.1,?_⟩
 have:=z.2.2
 rw [hq] at this
 exact this
theorem held_back {x : JobRun} (hp : x.phase_ = 2) {n : Nat} {wv : Int} (h1 : ∀ a : Nat,a < x.commit_.puts_.length → (heldAt x.commit_ a ↔ a < n)) (i : Nat) : held (jc x (backPA n).1 (backPA n).2 wv) i ↔ held x i:=by
 unfold backPA
 by_cases e : (n : Int) = 0
 ·rw [if_pos e]
  constructor
  ·intro z;exact absurd z.1 (jc_out (.inl rfl))
  ·rintro ⟨_,a,r,h2,_,h3⟩
   have:=(h1 a (List.getElem?_eq_some_iff.1 h2).1).1 h3
   omega
 ·rw [if_neg e,jc_in (by simp) (by simp)]
  constructor
  ·rintro ⟨_,a,r,h2,h3,h4⟩
   have hl:=(List.getElem?_eq_some_iff.1 h2).1
   refine ⟨hp,a,r,h2,h3,(h1 a hl).2 ?_⟩
   unfold heldAt at h4
   simp only at h4
   omega
  ·rintro ⟨_,a,r,h2,h3,h4⟩
   have hl:=(List.getElem?_eq_some_iff.1 h2).1
   have:=(h1 a hl).1 h4
   exact ⟨hp,a,r,h2,h3,.inr (.inr (.inr (.inr (.inr ⟨rfl,by show (a : Int) ≤ (n : Int) - 1;omega⟩))))⟩
theorem jc_back_in {x : JobRun} {n : Int} {wv : Int} : ¬ inH (jc x (backPA n).1 (backPA n).2 wv) ∧ ¬ ticked (jc x (backPA n).1 (backPA n).2 wv):=by
 unfold backPA
 split
 ·exact ⟨not_inH (jc_out (.inl rfl)),not_ticked (jc_out (.inl rfl))⟩
 ·rw [jc_in (by simp) (by simp)]
  exact ⟨fun z => by rcases z.2 with b|b <;> simp at b,fun z => by have:=z.2;simp at this⟩
/-- A job that commits steps. -/
theorem Inv.commits {cells : List Int} {jobs : List Job} {s : DS} (I : Inv cells jobs s) {k : Nat} {x : JobRun} (hx : s.xs[k]? = some x) (hp : x.phase_ = 2) :
  Inv cells jobs ⟨⟨(cstepS s.m x.commit_).k,(cstepS s.m x.commit_).xs⟩,s.xs.set k (jcommit s.m x),if evS s.m x = true then s.h ++ [entOf k (jcommit s.m x)] else s.h⟩:=by
 have J:=I.job k x hx
 have hcl:=I.mem.2.2
 by_cases hok : commitOk x.commit_ = true
 rotate_left
 ·have hq:=cs_bad (m:=s.m) (c:=x.commit_) fun z => hok z.2
  rw [ev_no hq (by omega),jcommit_is hq,hq]
  simp only [Bool.false_eq_true,if_false]
  by_cases h8 : x.commit_.phase_ = 8 ∨ x.commit_.phase_ = 6
  ·have hno : ∀ i,¬ held x i:=by
    rintro i ⟨_,a,r,_,_,h3⟩
    unfold heldAt at h3
    omega
   have hne:=jc_out (x:=x) (a:=x.commit_.at_) (wv:=x.commit_.wv_) h8
   refine I.still hx (fun z => by rcases z.2 with b|b <;> omega) (not_inH hne) (fun i => ⟨fun z => absurd z (not_held hne i),fun z => absurd z (hno i)⟩) (by omega) (fun z => absurd z (not_ticked hne)) jc_seen ?_
   rcases h8 with h8|h8
   ·unfold jc;rw [if_pos h8];exact JInv.again hcl.1
   ·unfold jc;rw [if_neg (by omega),if_pos h8]
    exact J.keep rfl rfl rfl (by simp) (by simp) (fun z => by simp at z) (Int.le_refl _)
  ·rw [jc_in (by omega) (by omega)]
   exact I.same hx
 obtain ⟨q1,q2,q3,q4,q5,q6,q7,q8⟩:=dec_true hok
 have hps:=J.puts hp (by omega)
 have hwx : x.commit_.who_ = (k : Int) + 1:=hps.1
 have jj : ∀ (m' : Mem) (xs' : List JobRun) (ph a wv : Int),s.m.clock_ ≤ m'.clock_ → JInv cells jobs m' xs' s.h k (jc x ph a wv):=fun m' xs' ph a wv hc => jc_job J hp hc hcl.1 hps
 have nin : x.commit_.phase_ ≠ 4 → x.commit_.phase_ ≠ 5 → ¬ inH x:=fun h4 h5 z => by rcases z.2 with b|b <;> omega
 -- an index among the rows
 have row : ∀ n : Nat,n < x.commit_.puts_.length → ∃ (r : Row) (i : Nat) (w : Word),x.commit_.puts_[n]? = some r ∧ r.cell_ = (i : Int) ∧ s.m.cells_[i]? = some w ∧ Word.fine s.m.clock_ w ∧ (0 ≤ r.val_ ∧ r.val_ ≤ 65535):=fun n hn => by
  obtain ⟨r,hr⟩ : ∃ r,x.commit_.puts_[n]? = some r:=⟨_,List.getElem?_eq_getElem hn⟩
  have h1:=(dec_true q5).2 n hn r hr
  obtain ⟨w,hw,_,hf⟩:=I.word (i:=r.cell_.toNat) (by have:=h1.1;omega)
  exact ⟨r,r.cell_.toNat,w,hr,by have:=h1.1;omega,hw,hf,h1.2⟩
 have only : ∀ {i : Nat} {w : Word},s.m.cells_[i]? = some w → held x i → ∀ (q : Nat) (z : JobRun),q ≠ k → s.xs[q]? = some z → ¬ held z i:=fun {i w} hw hh q z hq hz hz2 => by
  have a1:=I.hld k x i w hx hh hw
  have a2:=I.hld q z i w hz hz2 hw
  omega
 have uq : ∀ {a b : Nat} {r t : Row},x.commit_.puts_[a]? = some r → x.commit_.puts_[b]? = some t → r.cell_ = t.cell_ → a = b:=fun h1 h2 h3 => puts_uniq q6 h1 h2 h3
 obtain ⟨a,hca⟩ : ∃ a : Nat,x.commit_.at_ = (a : Int):=⟨x.commit_.at_.toNat,by omega⟩
 -- back: all that is locked is given free,nothing is written
 have back : ∀ (n : Nat),x.commit_.phase_ ≠ 4 → x.commit_.phase_ ≠ 5 → (∀ b : Nat,b < x.commit_.puts_.length → (heldAt x.commit_ b ↔ b < n)) → Inv cells jobs ⟨s.m,s.xs.set k (jc x (backPA n).1 (backPA n).2 x.commit_.wv_),s.h⟩:=fun n h4 h5 h1 =>
  I.still hx (nin h4 h5) jc_back_in.1 (held_back hp h1) (by omega) (fun z => absurd z jc_back_in.2) jc_seen (jj _ _ _ _ _ (Int.le_refl _))
 -- by phases
 by_cases c1 : x.commit_.phase_ = 1
 ·have ha : a < x.commit_.puts_.length:=by have:=q8.2;rw [c1] at this;simp [stepsN] at this;omega
  obtain ⟨r,i,w,hr,hri,hw,hf,hv⟩:=row a ha
  obtain ⟨⟨phs,tr,rv,at_,st,seen,busy,pr,⟨who,crv,cph,cat,cwv,ps,rs⟩⟩,rfl⟩ : ∃ y,y = x:=⟨x,rfl⟩
  simp only at hp c1 hca hwx hr ha
  subst hp c1 hca hwx
  by_cases ho : w.owner_ = 0
  ·have hq:=cs1_yes I.memOk hok hr hri hw ho
   rw [ev_no hq (by rintro ⟨h1,_⟩;simp at h1),jcommit_is hq,hq]
   simp only [Bool.false_eq_true,if_false]
   have hl : lockC s.m.cells_ i w ((k : Int) + 1) = s.m.cells_.set i ⟨w.val_,w.ver_,(k : Int) + 1⟩:=by unfold lockC;rw [dec_yes ho,if_pos rfl]
   rw [hl]
   have hnx : nextPA 1 (a : Int) 2 ps.length rs.length = if a + 1 = ps.length then (2,0) else (1,(a : Int) + 1):=by
    unfold nextPA stepsN onP
    by_cases e : a + 1 = ps.length
    ·rw [if_pos e,if_pos (by simp;omega)];simp
    ·rw [if_neg e,if_neg (by simp;omega)]
   rw [hnx]
   have hfree : ∀ (q : Nat) (z : JobRun),s.xs[q]? = some z → ¬ held z i:=fun q z hz hh => by have:=I.hld q z i w hz hh hw;omega
   have hnot : ¬ inH ⟨2,tr,rv,at_,st,seen,busy,pr,⟨(k : Int) + 1,crv,1,(a : Int),cwv,ps,rs⟩⟩:=nin (by simp) (by simp)
   obtain ⟨ph',a',e1,e2⟩ : ∃ ph' a' : Int,(if a + 1 = ps.length then ((2 : Int),(0 : Int)) else (1,(a : Int) + 1)) = (ph',a') ∧ ((ph' = 2 ∧ a + 1 = ps.length) ∨ (ph' = 1 ∧ a' = (a : Int) + 1)):=by
    split
    ·exact ⟨2,0,rfl,.inl ⟨rfl,by assumption⟩⟩
    ·exact ⟨1,_,rfl,.inr ⟨rfl,rfl⟩⟩
   rw [e1]
   simp only
   rw [jc_in (by omega) (by omega)]
   simp only
   have hH : ∀ j,held ⟨2,tr,rv,at_,st,seen,busy,pr,⟨(k : Int) + 1,crv,ph',a',cwv,ps,rs⟩⟩ j ↔ (held ⟨2,tr,rv,at_,st,seen,busy,pr,⟨(k : Int) + 1,crv,1,(a : Int),cwv,ps,rs⟩⟩ j ∨ j = i):=by
    intro j
    constructor
    ·rintro ⟨_,b,t,h1,h2,h3⟩
     simp only at h1
     have hb:=(List.getElem?_eq_some_iff.1 h1).1
     by_cases e : b = a
     ·subst e;rw [hr] at h1;cases h1;right;omega
     ·left
      refine ⟨rfl,b,t,h1,h2,.inl ⟨rfl,?_⟩⟩
      unfold heldAt at h3
      simp only at h3 ⊢
      omega
    ·rintro (⟨_,b,t,h1,h2,h3⟩|rfl)
     ·refine ⟨rfl,b,t,h1,h2,?_⟩
      unfold heldAt at h3 ⊢
      simp only at h3 ⊢
      omega
     ·refine ⟨rfl,a,r,hr,hri,?_⟩
      unfold heldAt
      simp only
      omega
   have hin' : ¬ inH ⟨2,tr,rv,at_,st,seen,busy,pr,⟨(k : Int) + 1,crv,ph',a',cwv,ps,rs⟩⟩:=fun z => by rcases z.2 with b|b <;> simp only at b <;> omega
   refine I.wordS hx hw ⟨hf.1,hf.2.1,by show 0 ≤ (k : Int) + 1 ∧ (k : Int) + 1 ≤ 99;simp only at q1;omega⟩ (fun q z _ hz => hfree q z hz) (fun j hj => ?_) (.inr ⟨rfl,(hH i).2 (.inr rfl)⟩) (Int.le_refl _) (fun _ => I.free i w hw ?_) (fun _ _ => ⟨rfl,fun z => hnot z.1⟩) (fun z => absurd z hin') (fun z => absurd z hin') (fun z => absurd z hin') (fun z => absurd z hnot) (by simp) (fun z => by have:=z.2;simp only at this;omega) (.inr ⟨rfl,rfl⟩) ?_
   ·rw [hH j];exact ⟨fun z => z.elim id fun e => absurd e hj,.inl⟩
   ·rintro ⟨q,z,hz,_,h2⟩;exact hfree q z hz h2
   ·exact J.keep rfl rfl rfl (by simp) (by simp) (fun _ => hps) (Int.le_refl _)
  ·have hq:=cs1_no I.memOk hok hr hri hw ho
   rw [ev_no hq (by rintro ⟨h1,_⟩;simp at h1),jcommit_is hq,hq]
   simp only [Bool.false_eq_true,if_false]
   have hl : lockC s.m.cells_ i w ((k : Int) + 1) = s.m.cells_:=by unfold lockC;rw [dec_no ho];simp
   rw [hl]
   refine back a (by simp) (by simp) fun b hb => ⟨fun z => ?_,fun z => .inl ⟨rfl,by show (b : Int) < (a : Int);omega⟩⟩
   unfold heldAt at z
   simp only at z
   omega
 by_cases c2 : x.commit_.phase_ = 2
 ·obtain ⟨⟨phs,tr,rv,at_,st,seen,busy,pr,⟨who,crv,cph,cat,cwv,ps,rs⟩⟩,rfl⟩ : ∃ y,y = x:=⟨x,rfl⟩
  simp only at hp c2 hca hwx
  subst hp c2 hca hwx
  by_cases hc : s.m.clock_ = 1000000
  ·have hq:=cs2_yes (ps:=ps) (rs:=rs) I.memOk hok hc
   have hp4 : ¬ (backPA (ps.length : Int)).1 = 4:=by unfold backPA;split <;> simp
   rw [ev_no hq (fun z => hp4 z.2),jcommit_is hq,hq]
   simp only [Bool.false_eq_true,if_false]
   exact back ps.length (by simp) (by simp) fun b hb => ⟨fun _ => hb,fun _ => .inr (.inl rfl)⟩
  ·have hq:=cs2_no (ps:=ps) (rs:=rs) I.memOk hok hc
   -- as if the check came first
   have V : Inv cells jobs ⟨⟨s.m.clock_ + 1,s.m.cells_⟩,s.xs.set k ⟨2,tr,rv,at_,st,seen,busy,pr,⟨(k : Int) + 1,crv,3,0,s.m.clock_ + 1,ps,rs⟩⟩,s.h⟩ :=
    I.tickS hx rfl rfl hc rfl rfl rfl rfl rfl rfl (J.keep rfl rfl rfl (by simp) (by simp) (fun _ => hps) (by show s.m.clock_ ≤ s.m.clock_ + 1;omega))
   have hk : k < s.xs.length:=(List.getElem?_eq_some_iff.1 hx).1
   have hxk : (s.xs.set k (⟨2,tr,rv,at_,st,seen,busy,pr,⟨(k : Int) + 1,crv,3,0,s.m.clock_ + 1,ps,rs⟩⟩ : JobRun))[k]? = some ⟨2,tr,rv,at_,st,seen,busy,pr,⟨(k : Int) + 1,crv,3,0,s.m.clock_ + 1,ps,rs⟩⟩:=by rw [List.getElem?_set,if_pos rfl,if_pos hk]
   have hss : ∀ y : JobRun,(s.xs.set k (⟨2,tr,rv,at_,st,seen,busy,pr,⟨(k : Int) + 1,crv,3,0,s.m.clock_ + 1,ps,rs⟩⟩ : JobRun)).set k y = s.xs.set k y:=fun y => List.set_set ..
   have hon : onP 3 ps.length rs.length = if rs.length = 0 then (if ps.length = 0 then 6 else 4) else 3:=by unfold onP;simp
   by_cases e3 : rs.length = 0
   ·by_cases e6 : ps.length = 0
    ·rw [hon,if_pos e3,if_pos e6] at hq
     rw [ev_no hq (by omega),jcommit_is hq,hq]
     simp only [Bool.false_eq_true,if_false]
     have hne:=jc_out (x:=⟨2,tr,rv,at_,st,seen,busy,pr,⟨(k : Int) + 1,crv,2,(a : Int),cwv,ps,rs⟩⟩) (ph:=6) (a:=0) (wv:=s.m.clock_ + 1) (.inr rfl)
     have hno : ∀ i,¬ held ⟨2,tr,rv,at_,st,seen,busy,pr,⟨(k : Int) + 1,crv,2,(a : Int),cwv,ps,rs⟩⟩ i:=by
      rintro i ⟨_,b,t,h1,_,_⟩
      have:=(List.getElem?_eq_some_iff.1 h1).1
      simp only at this;omega
     exact I.quiet hx (nin (by simp) (by simp)) hno (not_inH hne) (not_held hne) (not_ticked hne) (fun z => by simp at z) ⟨by omega,by omega⟩ (fun q z hq hz hty r hr hl => by
      unfold jc at hr ⊢
      rw [if_neg (by simp),if_pos rfl] at hr ⊢
      exact I.rd k ⟨2,tr,rv,at_,st,seen,busy,pr,⟨(k : Int) + 1,crv,2,(a : Int),cwv,ps,rs⟩⟩ q z hx hz hty r hr hl) (jj _ _ _ _ _ (by show s.m.clock_ ≤ s.m.clock_ + 1;omega))
    ·rw [hon,if_pos e3,if_neg e6] at hq
     have hev : evS s.m ⟨2,tr,rv,at_,st,seen,busy,pr,⟨(k : Int) + 1,crv,2,(a : Int),cwv,ps,rs⟩⟩ = true:=by
      unfold evS
      refine dec_yes ⟨rfl,.inl rfl,?_⟩
      rw [hq]
     rw [hev,if_pos rfl,jcommit_is hq,hq]
     simp only
     rw [jc_in (by simp) (by simp)]
     simp only
     have E:=V.event hxk ⟨rfl,rfl⟩ (x':=⟨2,tr,rv,at_,st,seen,busy,pr,⟨(k : Int) + 1,crv,4,0,s.m.clock_ + 1,ps,rs⟩⟩) rfl rfl rfl rfl rfl rfl rfl rfl rfl
     simp only [hss] at E
     exact E
   ·rw [hon,if_neg e3] at hq
    rw [ev_no hq (by omega),jcommit_is hq,hq]
    simp only [Bool.false_eq_true,if_false]
    rw [jc_in (by simp) (by simp)]
    exact V
 by_cases c3 : x.commit_.phase_ = 3
 ·have ha : a < x.commit_.reads_.length:=by have:=q8.2;rw [c3] at this;simp [stepsN] at this;omega
  obtain ⟨v,hv⟩ : ∃ v,x.commit_.reads_[a]? = some v:=⟨_,List.getElem?_eq_getElem ha⟩
  have hvr:=q7.1 v (List.mem_of_getElem? hv)
  obtain ⟨j,rfl⟩ : ∃ j : Nat,v = (j : Int):=⟨v.toNat,by omega⟩
  obtain ⟨w,hw,_,hf⟩:=I.word (i:=j) (by omega)
  obtain ⟨⟨phs,tr,rv,at_,st,seen,busy,pr,⟨who,crv,cph,cat,cwv,ps,rs⟩⟩,rfl⟩ : ∃ y,y = x:=⟨x,rfl⟩
  simp only at hp c3 hca hwx hv ha
  subst hp c3 hca hwx
  by_cases hc : (w.owner_ ≠ 0 ∧ w.owner_ ≠ (k : Int) + 1) ∨ crv < w.ver_
  ·have hq:=cs3_yes (ps:=ps) I.memOk hok hv hw hc
   have hp4 : ¬ (backPA (ps.length : Int)).1 = 4:=by unfold backPA;split <;> simp
   rw [ev_no hq (fun z => hp4 z.2),jcommit_is hq,hq]
   simp only [Bool.false_eq_true,if_false]
   exact back ps.length (by simp) (by simp) fun b hb => ⟨fun _ => hb,fun _ => .inr (.inr (.inl rfl))⟩
  ·have hq:=cs3_no (ps:=ps) I.memOk hok hv hw hc
   have hnx : nextPA 3 (a : Int) 4 ps.length rs.length = if a + 1 = rs.length then (if ps.length = 0 then (6,0) else (4,0)) else (3,(a : Int) + 1):=by
    unfold nextPA stepsN onP
    by_cases e : a + 1 = rs.length
    ·rw [if_pos e,if_pos (by simp;omega)]
     by_cases e2 : ps.length = 0 <;> simp [e2]
    ·rw [if_neg e,if_neg (by simp;omega)]
   rw [hnx] at hq
   have hnot : ¬ inH ⟨2,tr,rv,at_,st,seen,busy,pr,⟨(k : Int) + 1,crv,3,(a : Int),cwv,ps,rs⟩⟩:=nin (by simp) (by simp)
   by_cases e1 : a + 1 = rs.length
   ·by_cases e6 : ps.length = 0
    ·rw [if_pos e1,if_pos e6] at hq
     rw [ev_no hq (by omega),jcommit_is hq,hq]
     simp only [Bool.false_eq_true,if_false]
     have hne:=jc_out (x:=⟨2,tr,rv,at_,st,seen,busy,pr,⟨(k : Int) + 1,crv,3,(a : Int),cwv,ps,rs⟩⟩) (ph:=6) (a:=0) (wv:=cwv) (.inr rfl)
     have hno : ∀ i,¬ held ⟨2,tr,rv,at_,st,seen,busy,pr,⟨(k : Int) + 1,crv,3,(a : Int),cwv,ps,rs⟩⟩ i:=by
      rintro i ⟨_,b,t,h1,_,_⟩
      have:=(List.getElem?_eq_some_iff.1 h1).1
      simp only at this;omega
     exact I.still hx hnot (not_inH hne) (fun i => ⟨fun z => absurd z (not_held hne i),fun z => absurd z (hno i)⟩) (by simp) (fun z => absurd z (not_ticked hne)) jc_seen (jj _ _ _ _ _ (Int.le_refl _))
    ·rw [if_pos e1,if_neg e6] at hq
     have hev : evS s.m ⟨2,tr,rv,at_,st,seen,busy,pr,⟨(k : Int) + 1,crv,3,(a : Int),cwv,ps,rs⟩⟩ = true:=by
      unfold evS
      refine dec_yes ⟨rfl,.inr rfl,?_⟩
      rw [hq]
     rw [hev,if_pos rfl,jcommit_is hq,hq]
     simp only
     rw [jc_in (by simp) (by simp)]
     exact I.event hx ⟨rfl,rfl⟩ rfl rfl rfl rfl rfl rfl rfl rfl rfl
   ·rw [if_neg e1] at hq
    rw [ev_no hq (by omega),jcommit_is hq,hq]
    simp only [Bool.false_eq_true,if_false]
    rw [jc_in (by simp) (by simp)]
    refine I.still hx hnot (fun z => by rcases z.2 with b|b <;> simp at b) (fun i => ?_) (by simp) (fun _ => ⟨⟨rfl,rfl⟩,rfl,rfl,rfl,rfl⟩) (.inr ⟨rfl,rfl⟩) (J.keep rfl rfl rfl (by simp) (by simp) (fun _ => hps) (Int.le_refl _))
    constructor
    ·rintro ⟨_,b,t,h1,h2,_⟩;exact ⟨rfl,b,t,h1,h2,.inr (.inr (.inl rfl))⟩
    ·rintro ⟨_,b,t,h1,h2,_⟩;exact ⟨rfl,b,t,h1,h2,.inr (.inr (.inl rfl))⟩
 by_cases c4 : x.commit_.phase_ = 4
 ·have ha : a < x.commit_.puts_.length:=by have:=q8.2;rw [c4] at this;simp [stepsN] at this;omega
  obtain ⟨r,i,w,hr,hri,hw,hf,hv⟩:=row a ha
  obtain ⟨⟨phs,tr,rv,at_,st,seen,busy,pr,⟨who,crv,cph,cat,cwv,ps,rs⟩⟩,rfl⟩ : ∃ y,y = x:=⟨x,rfl⟩
  simp only at hp c4 hca hwx hr ha
  subst hp c4 hca hwx
  have hhi : held ⟨2,tr,rv,at_,st,seen,busy,pr,⟨(k : Int) + 1,crv,4,(a : Int),cwv,ps,rs⟩⟩ i:=⟨rfl,a,r,hr,hri,.inr (.inr (.inr (.inl rfl)))⟩
  have how:=I.hld k _ i w hx hhi hw
  have hq:=cs4 I.memOk hok hr hri hw
  have hl : storeC s.m.cells_ i w ((k : Int) + 1) r.val_ = s.m.cells_.set i ⟨r.val_,w.ver_,(k : Int) + 1⟩:=by unfold storeC;rw [dec_yes how,if_pos rfl,how]
  rw [hl] at hq
  have hnx : nextPA 4 (a : Int) 5 ps.length rs.length = if a + 1 = ps.length then (5,0) else (4,(a : Int) + 1):=by
   unfold nextPA stepsN onP
   by_cases e : a + 1 = ps.length
   ·rw [if_pos e,if_pos (by simp;omega)];simp
   ·rw [if_neg e,if_neg (by simp;omega)]
  rw [hnx] at hq
  obtain ⟨ph',a',e1,e2⟩ : ∃ ph' a' : Int,(if a + 1 = ps.length then ((5 : Int),(0 : Int)) else (4,(a : Int) + 1)) = (ph',a') ∧ ((ph' = 5 ∧ a' = 0 ∧ a + 1 = ps.length) ∨ (ph' = 4 ∧ a' = (a : Int) + 1)):=by
   split
   ·exact ⟨5,0,rfl,.inl ⟨rfl,rfl,by assumption⟩⟩
   ·exact ⟨4,_,rfl,.inr ⟨rfl,rfl⟩⟩
  rw [e1] at hq
  simp only at hq
  rw [ev_no hq (by rintro ⟨h1,_⟩;simp at h1),jcommit_is hq,hq]
  simp only [Bool.false_eq_true,if_false]
  rw [jc_in (by omega) (by omega)]
  simp only
  have hi0 : inH ⟨2,tr,rv,at_,st,seen,busy,pr,⟨(k : Int) + 1,crv,4,(a : Int),cwv,ps,rs⟩⟩:=⟨rfl,.inl rfl⟩
  have hi1 : inH ⟨2,tr,rv,at_,st,seen,busy,pr,⟨(k : Int) + 1,crv,ph',a',cwv,ps,rs⟩⟩:=⟨rfl,by show ph' = 4 ∨ ph' = 5;omega⟩
  have hH : ∀ j,held ⟨2,tr,rv,at_,st,seen,busy,pr,⟨(k : Int) + 1,crv,ph',a',cwv,ps,rs⟩⟩ j ↔ held ⟨2,tr,rv,at_,st,seen,busy,pr,⟨(k : Int) + 1,crv,4,(a : Int),cwv,ps,rs⟩⟩ j:=fun j => by
   constructor
   ·rintro ⟨_,b,t,h1,h2,_⟩;exact ⟨rfl,b,t,h1,h2,.inr (.inr (.inr (.inl rfl)))⟩
   ·rintro ⟨_,b,t,h1,h2,_⟩
    refine ⟨rfl,b,t,h1,h2,?_⟩
    unfold heldAt
    simp only
    omega
  have B:=fun j v hj hh => I.busy k _ j v hx hi0 hh hj
  refine I.wordS hx hw ⟨hv,hf.2.1,by show 0 ≤ (k : Int) + 1 ∧ (k : Int) + 1 ≤ 99;simp only at q1;omega⟩ (only hw hhi) (fun j _ => hH j) (.inr ⟨rfl,(hH i).2 hhi⟩) (Int.le_refl _) (fun z => absurd ⟨hi1,(hH i).2 hhi⟩ z) (fun _ z => absurd ⟨hi1,(hH i).2 hhi⟩ z) (fun _ _ => ?_) (fun _ j v hj hjw hh => ?_) (fun _ => ⟨hi0,rfl⟩) (fun _ => .inl hi1) (by simp) (fun z => by have:=z.2;simp only at this;omega) (.inr ⟨rfl,rfl⟩) (J.keep rfl rfl rfl (by simp) (by simp) (fun _ => hps) (Int.le_refl _))
  ·obtain ⟨b1,b2,_⟩:=B i w hw hhi
   refine ⟨b1,b2,fun b t h1 h2 => .inl ?_⟩
   have e:=uq h1 hr (by omega)
   subst e
   have h1' : ps[b]? = some t:=h1
   rw [hr] at h1';cases h1';rfl
  ·obtain ⟨b1,b2,b3⟩:=B j v hjw ((hH j).1 hh)
   refine ⟨b1,b2,fun b t h1 h2 => ?_⟩
   have hb:=(List.getElem?_eq_some_iff.1 h1).1
   rcases b3 b t h1 h2 with e|⟨_,e⟩
   ·exact .inl e
   ·have hne : b ≠ a:=fun q => by subst q;have h1' : ps[b]? = some t:=h1;rw [hr] at h1';cases h1';omega
    simp only at e hb ⊢
    right
    omega
 by_cases c5 : x.commit_.phase_ = 5
 ·have ha : a < x.commit_.puts_.length:=by have:=q8.2;rw [c5] at this;simp [stepsN] at this;omega
  obtain ⟨r,i,w,hr,hri,hw,hf,hv⟩:=row a ha
  obtain ⟨⟨phs,tr,rv,at_,st,seen,busy,pr,⟨who,crv,cph,cat,cwv,ps,rs⟩⟩,rfl⟩ : ∃ y,y = x:=⟨x,rfl⟩
  simp only at hp c5 hca hwx hr ha
  subst hp c5 hca hwx
  have hhi : held ⟨2,tr,rv,at_,st,seen,busy,pr,⟨(k : Int) + 1,crv,5,(a : Int),cwv,ps,rs⟩⟩ i:=⟨rfl,a,r,hr,hri,.inr (.inr (.inr (.inr (.inl ⟨rfl,Int.le_refl _⟩))))⟩
  have hi0 : inH ⟨2,tr,rv,at_,st,seen,busy,pr,⟨(k : Int) + 1,crv,5,(a : Int),cwv,ps,rs⟩⟩:=⟨rfl,.inr rfl⟩
  have how:=I.hld k _ i w hx hhi hw
  have hen:=I.inh k _ hx hi0
  have hcw : 1 ≤ cwv ∧ cwv ≤ s.m.clock_:=(I.hst _ hen).1
  obtain ⟨b1,b2,b3⟩:=I.busy k _ i w hx hi0 hhi hw
  simp only at b1 b2
  have bv : w.val_ = r.val_:=by
   rcases b3 a r hr hri with e|⟨e,_⟩
   ·exact e
   ·simp at e
  have hq:=cs5 I.memOk hok hr hri hw
  have hl : unlockC s.m.clock_ s.m.cells_ i w ((k : Int) + 1) cwv = s.m.cells_.set i ⟨w.val_,cwv,0⟩:=by unfold unlockC;rw [dec_yes ⟨how,by omega,hcw.2⟩,if_pos rfl]
  rw [hl] at hq
  have hnx : nextPA 5 (a : Int) 6 ps.length rs.length = if a + 1 = ps.length then (6,0) else (5,(a : Int) + 1):=by
   unfold nextPA stepsN onP
   by_cases e : a + 1 = ps.length
   ·rw [if_pos e,if_pos (by simp;omega)];simp
   ·rw [if_neg e,if_neg (by simp;omega)]
  rw [hnx] at hq
  have hli : lastV ps (i : Int) = some w.val_:=by rw [← hri,bv];exact lastV_at hps.2.2.1 hps.2.2.2 hr
  have hat : AtS cells s.h s.m.clock_ i w.val_ cwv:=.inr ⟨hcw.2,_,hen,rfl,hli,fun z hz _ hwz => b2 z hz hwz⟩
  have hfw : Word.fine s.m.clock_ ⟨w.val_,cwv,0⟩:=⟨hf.1,by show 0 ≤ cwv ∧ cwv ≤ _;omega,by show (0 : Int) ≤ 0 ∧ (0 : Int) ≤ 99;omega⟩
  by_cases e1 : a + 1 = ps.length
  ·rw [if_pos e1] at hq
   rw [ev_no hq (by omega),jcommit_is hq,hq]
   simp only [Bool.false_eq_true,if_false]
   have hne:=jc_out (x:=⟨2,tr,rv,at_,st,seen,busy,pr,⟨(k : Int) + 1,crv,5,(a : Int),cwv,ps,rs⟩⟩) (ph:=6) (a:=0) (wv:=cwv) (.inr rfl)
   refine I.wordS hx hw hfw (only hw hhi) (fun j hj => ⟨fun z => absurd z (not_held hne j),fun z => ?_⟩) (.inl ⟨rfl,not_held hne i⟩) (by show w.ver_ ≤ cwv;omega) (fun _ => hat) (fun z => by have : cwv = w.ver_:=z;omega) (fun z => absurd z (not_inH hne)) (fun z => absurd z (not_inH hne)) (fun z => absurd z (not_inH hne)) (fun _ => .inr (jc_done rfl)) (by simp) (not_ticked hne) jc_seen (jj _ _ _ _ _ (Int.le_refl _))
   obtain ⟨_,b,t,h1,h2,h3⟩:=z
   have hb:=(List.getElem?_eq_some_iff.1 h1).1
   unfold heldAt at h3
   simp only at h3 hb h1
   have : b = a:=by omega
   subst this
   rw [hr] at h1;cases h1
   omega
  ·rw [if_neg e1] at hq
   rw [ev_no hq (by omega),jcommit_is hq,hq]
   simp only [Bool.false_eq_true,if_false]
   rw [jc_in (by simp) (by simp)]
   simp only
   have hi1 : inH ⟨2,tr,rv,at_,st,seen,busy,pr,⟨(k : Int) + 1,crv,5,(a : Int) + 1,cwv,ps,rs⟩⟩:=⟨rfl,.inr rfl⟩
   have hno : ¬ held ⟨2,tr,rv,at_,st,seen,busy,pr,⟨(k : Int) + 1,crv,5,(a : Int) + 1,cwv,ps,rs⟩⟩ i:=by
    rintro ⟨_,b,t,h1,h2,h3⟩
    have:=uq h1 hr (by omega)
    subst this
    unfold heldAt at h3
    simp only at h3
    omega
   have hH : ∀ j,j ≠ i → (held ⟨2,tr,rv,at_,st,seen,busy,pr,⟨(k : Int) + 1,crv,5,(a : Int) + 1,cwv,ps,rs⟩⟩ j ↔ held ⟨2,tr,rv,at_,st,seen,busy,pr,⟨(k : Int) + 1,crv,5,(a : Int),cwv,ps,rs⟩⟩ j):=fun j hj => by
    constructor
    ·rintro ⟨_,b,t,h1,h2,h3⟩
     unfold heldAt at h3
     simp only at h3
     exact ⟨rfl,b,t,h1,h2,.inr (.inr (.inr (.inr (.inl ⟨rfl,by show (a : Int) ≤ (b : Int);omega⟩))))⟩
    ·rintro ⟨_,b,t,h1,h2,h3⟩
     have hne : b ≠ a:=fun q => by subst q;have h1' : ps[b]? = some t:=h1;rw [hr] at h1';cases h1';omega
     unfold heldAt at h3
     simp only at h3
     exact ⟨rfl,b,t,h1,h2,.inr (.inr (.inr (.inr (.inl ⟨rfl,by show (a : Int) + 1 ≤ (b : Int);omega⟩))))⟩
   refine I.wordS hx hw hfw (only hw hhi) hH (.inl ⟨rfl,hno⟩) (by show w.ver_ ≤ cwv;omega) (fun _ => hat) (fun z => by have : cwv = w.ver_:=z;omega) (fun _ z => absurd z hno) (fun _ j v hj hjw hh => ?_) (fun _ => ⟨hi0,rfl⟩) (fun _ => .inl hi1) (by simp) (fun z => by have:=z.2;simp at this) (.inr ⟨rfl,rfl⟩) (J.keep rfl rfl rfl (by simp) (by simp) (fun _ => hps) (Int.le_refl _))
   obtain ⟨d1,d2,d3⟩:=I.busy k _ j v hx hi0 ((hH j hj).1 hh) hjw
   refine ⟨d1,d2,fun b t h1 h2 => ?_⟩
   rcases d3 b t h1 h2 with e|⟨e,_⟩
   ·exact .inl e
   ·simp at e
 by_cases c7 : x.commit_.phase_ = 7
 ·have ha : a < x.commit_.puts_.length:=by have:=q8.2;rw [c7] at this;simp [stepsN] at this;omega
  obtain ⟨r,i,w,hr,hri,hw,hf,hv⟩:=row a ha
  obtain ⟨⟨phs,tr,rv,at_,st,seen,busy,pr,⟨who,crv,cph,cat,cwv,ps,rs⟩⟩,rfl⟩ : ∃ y,y = x:=⟨x,rfl⟩
  simp only at hp c7 hca hwx hr ha
  subst hp c7 hca hwx
  have hhi : held ⟨2,tr,rv,at_,st,seen,busy,pr,⟨(k : Int) + 1,crv,7,(a : Int),cwv,ps,rs⟩⟩ i:=⟨rfl,a,r,hr,hri,.inr (.inr (.inr (.inr (.inr ⟨rfl,Int.le_refl _⟩))))⟩
  have how:=I.hld k _ i w hx hhi hw
  have hnot : ¬ inH ⟨2,tr,rv,at_,st,seen,busy,pr,⟨(k : Int) + 1,crv,7,(a : Int),cwv,ps,rs⟩⟩:=nin (by simp) (by simp)
  have hq:=cs7 (rs:=rs) I.memOk hok hr hri hw
  have hl : unlockC s.m.clock_ s.m.cells_ i w ((k : Int) + 1) w.ver_ = s.m.cells_.set i ⟨w.val_,w.ver_,0⟩:=by unfold unlockC;rw [dec_yes ⟨how,Int.le_refl _,hf.2.1.2⟩,if_pos rfl]
  rw [hl] at hq
  have hp4 : ¬ (backPA (a : Int)).1 = 4:=by unfold backPA;split <;> simp
  rw [ev_no hq (fun z => hp4 z.2),jcommit_is hq,hq]
  simp only [Bool.false_eq_true,if_false]
  have hYi:=(jc_back_in (x:=⟨2,tr,rv,at_,st,seen,busy,pr,⟨(k : Int) + 1,crv,7,(a : Int),cwv,ps,rs⟩⟩) (n:=(a : Int)) (wv:=cwv)).1
  have hYt:=(jc_back_in (x:=⟨2,tr,rv,at_,st,seen,busy,pr,⟨(k : Int) + 1,crv,7,(a : Int),cwv,ps,rs⟩⟩) (n:=(a : Int)) (wv:=cwv)).2
  have hH : ∀ j,held (jc ⟨2,tr,rv,at_,st,seen,busy,pr,⟨(k : Int) + 1,crv,7,(a : Int),cwv,ps,rs⟩⟩ (backPA (a : Int)).1 (backPA (a : Int)).2 cwv) j ↔ (held ⟨2,tr,rv,at_,st,seen,busy,pr,⟨(k : Int) + 1,crv,7,(a : Int),cwv,ps,rs⟩⟩ j ∧ j ≠ i):=fun j => by
   unfold backPA
   by_cases e : (a : Int) = 0
   ·rw [if_pos e]
    constructor
    ·intro z;exact absurd z.1 (jc_out (.inl rfl))
    ·rintro ⟨⟨_,b,t,h1,h2,h3⟩,hj⟩
     unfold heldAt at h3
     simp only at h3 h1
     have : b = a:=by omega
     subst this
     rw [hr] at h1;cases h1
     omega
   ·rw [if_neg e,jc_in (by simp) (by simp)]
    constructor
    ·rintro ⟨_,b,t,h1,h2,h3⟩
     unfold heldAt at h3
     simp only at h3
     refine ⟨⟨rfl,b,t,h1,h2,.inr (.inr (.inr (.inr (.inr ⟨rfl,by show (b : Int) ≤ (a : Int);omega⟩))))⟩,fun q => ?_⟩
     subst q
     have:=uq h1 hr (by omega)
     omega
    ·rintro ⟨⟨_,b,t,h1,h2,h3⟩,hj⟩
     unfold heldAt at h3
     simp only at h3
     have hne : b ≠ a:=fun q => by subst q;have h1' : ps[b]? = some t:=h1;rw [hr] at h1';cases h1';omega
     exact ⟨rfl,b,t,h1,h2,.inr (.inr (.inr (.inr (.inr ⟨rfl,by show (b : Int) ≤ (a : Int) - 1;omega⟩))))⟩
  refine I.wordS hx hw ⟨hf.1,hf.2.1,by show (0 : Int) ≤ 0 ∧ (0 : Int) ≤ 99;omega⟩ (only hw hhi) (fun j hj => by rw [hH j];exact ⟨fun z => z.1,fun z => ⟨z,hj⟩⟩) (.inl ⟨rfl,fun z => ((hH i).1 z).2 rfl⟩) (Int.le_refl _) (fun _ => I.free i w hw ?_) (fun _ _ => ⟨rfl,fun z => hnot z.1⟩) (fun z => absurd z hYi) (fun z => absurd z hYi) (fun z => absurd z hYi) (fun z => absurd z hnot) (by simp) hYt jc_seen (jj _ _ _ _ _ (Int.le_refl _))
  rintro ⟨q,z,hz,h1,h2⟩
  have a2:=I.hld q z i w hz h2 hw
  have : q = k:=by omega
  subst this
  rw [hx] at hz;cases hz
  exact hnot h1
 have hq:=cs_rest (m:=s.m) (c:=x.commit_) c1 c2 c3 c4 c5 c7
 rw [ev_no hq (by omega),jcommit_is hq,hq]
 simp only [Bool.false_eq_true,if_false]
 have h8 : x.commit_.phase_ = 8 ∨ x.commit_.phase_ = 6:=by omega
 have hno : ∀ i,¬ held x i:=by
  rintro i ⟨_,a,r,_,_,h3⟩
  unfold heldAt at h3
  omega
 have hne:=jc_out (x:=x) (a:=x.commit_.at_) (wv:=x.commit_.wv_) h8
 exact I.still hx (nin c4 c5) (not_inH hne) (fun i => ⟨fun z => absurd z (not_held hne i),fun z => absurd z (hno i)⟩) (by omega) (fun z => absurd z (not_ticked hne)) jc_seen (jj _ _ _ _ _ (Int.le_refl _))
end Go.Proofs.YtpmfhfpjiebcjaaGreat
