/- What a step of a commit computes. No condition. CommitStep of the reference: nothing to do. No condition but lengths. CommitStep of the reference: a lock. No condition but lengths. CommitStep of the reference: the tick. No condition but lengths. CommitStep of the reference: a check. No condition but lengths. CommitStep of the reference: phase 4. No condition but lengths. CommitStep of the reference: phase 5. No condition but lengths. CommitStep of the reference: phase 7. No condition but lengths. CommitStep of the reference. No condition but lengths. -/
import Derived.Test.YtpmfhfpjiebcjaaGreatD00
import Derived.Test.YtpmfhfpjiebcjaaGreatD09
import Derived.Test.YtpmfhfpjiebcjaaGreatD10
namespace Go.Proofs.YtpmfhfpjiebcjaaGreat
open Go.RowKit Go.Deep
set_option linter.unnecessarySimpa false
set_option linter.unusedSimpArgs false
set_option linter.unusedVariables false
theorem Mine.wp_getsg {P : Program} {ops : Array Oper} {rest : List Oper} {o : Oper} {a : Act} {Q : Exit → Act → World → Prop} {b w : World} {rs : List Res} (M : Mine b w rs) (hw : Region.wanted o (yielded ops a.tmps) = true) (ty : TypeId) (x : Operand) (ho : o.op = .load ty x) (i j m : Nat) {g : Nat} {t : TypeId} {cs : List Value} (hi : rs[i]? = some (.box g t cs.toArray)) (hx : a.eval x = .pointer (some ⟨g,j,none⟩)) (hm : j + m ≤ cs.length)
  (d : TypeDesc) (hu : P.underlying ty = some d) (hd : d.isRow = true) (hf : (P.info? ty).map (·.size) = some m) (h : wpList P ops Q rest (a.put o.dst (.agg ((cs.drop j).take m).toArray)) w) : wpList P ops Q (o::rest) a w :=
 BigFrame.wpList_want hw fun _ hK => by
  have hrun:=run_loadVar_mid (P:=P) w g j ty ((cs.drop j).take m) d (fun k v hv => by
   rw [(M.box_at i hi).cell]
   rw [List.getElem?_take] at hv
   split at hv
   ·rw [List.getElem?_drop] at hv;simpa using hv
   ·cases hv) hu hd (by rw [hf,List.length_take,List.length_drop];congr 1;omega)
  unfold Oper.wp execOp
  simp only [ho,hx,Instr.loadAt,Instr.sureAddr,Sem.run_bind,Sem.run_pure,Result.andThen_ok,hrun]
  exact hK _ _ h
theorem Mine.step_gets {P : Program} {ops : Array Oper} {o : Oper} {a : Act} {Q : Exit → Act → World → Prop} {b w : World} {rs : List Res} {K : Act → World → Prop} {E : Prop} (M : Mine b w rs) (hgd : o.guard = none) (ty : TypeId) (x : Operand) (ho : o.op = .load ty x) (i j m : Nat) {g : Nat} {t : TypeId} {cs : List Value} (hi : rs[i]? = some (.box g t cs.toArray)) (hx : a.eval x = .pointer (some ⟨g,j,none⟩)) (hm : j + m ≤ cs.length)
  (d : TypeDesc) (hu : P.underlying ty = some d) (hd : d.isRow = true) (hf : (P.info? ty).map (·.size) = some m) (h : K (a.put o.dst (.agg ((cs.drop j).take m).toArray)) w) : if Region.wanted o (yielded ops a.tmps) = true then Oper.wp P o a w K Q else E:=by
 have hw : Region.wanted o (yielded ops a.tmps) = true:=by simp [Region.wanted,hgd]
 rw [if_pos hw]
 have hrun:=run_loadVar_mid (P:=P) w g j ty ((cs.drop j).take m) d (fun k v hv => by
  rw [(M.box_at i hi).cell]
  rw [List.getElem?_take] at hv
  split at hv
  ·rw [List.getElem?_drop] at hv;simpa using hv
  ·cases hv) hu hd (by rw [hf,List.length_take,List.length_drop];congr 1;omega)
 unfold Oper.wp execOp
 simp only [ho,hx,Instr.loadAt,Instr.sureAddr,Sem.run_bind,Sem.run_pure,Result.andThen_ok,hrun]
 exact h
theorem Mine.step_get {P : Program} {ops : Array Oper} {o : Oper} {a : Act} {Q : Exit → Act → World → Prop} {b w : World} {rs : List Res} {K : Act → World → Prop} {E : Prop} (M : Mine b w rs) (hgd : o.guard = none) (ty : TypeId) (x : Operand) (ho : o.op = .load ty x) (i j : Nat) {g : Nat} {t : TypeId} {cs : Array Value} (hi : rs[i]? = some (.box g t cs)) (hx : a.eval x = .pointer (some ⟨g,j,none⟩)) (v : Value) (hv : cs[j]? = some v)
  (d : TypeDesc) (hu : P.underlying ty = some d) (hd : d.isRow = false) (h : K (a.put o.dst v) w) : if Region.wanted o (yielded ops a.tmps) = true then Oper.wp P o a w K Q else E:=by
 have hw : Region.wanted o (yielded ops a.tmps) = true:=by simp [Region.wanted,hgd]
 rw [if_pos hw]
 unfold Oper.wp execOp
 simp only [ho,hx,Instr.loadAt,Instr.sureAddr,Sem.run_bind,Sem.run_pure,Result.andThen_ok,run_loadVar_cell w _ ty v d (((M.box_at i hi).cell j).trans hv) hu hd]
 exact h
theorem Mine.results_cc {P : Program} {b w : World} {rs : List Res} {fn : Func} {s k : Tmp} {ty ty2 : TypeId} (hr : fn.results = #[.cell s ty,.cell k ty2]) (M : Mine b w rs) (tmps : Array Value) (i : Nat) {g : Nat} {t : TypeId} {vs : List Value} (hi : rs[i]? = some (.box g t vs.toArray)) (hx : tmps.getD s undef = .pointer (some ⟨g,0,none⟩))
  (d : TypeDesc) (hu : P.underlying ty = some d) (hd : d.isRow = true) (hf : (P.info? ty).map (·.size) = some vs.length)
  (i2 : Nat) {g2 : Nat} {t2 : TypeId} {vs2 : List Value} (hi2 : rs[i2]? = some (.box g2 t2 vs2.toArray)) (hx2 : tmps.getD k undef = .pointer (some ⟨g2,0,none⟩))
  (d2 : TypeDesc) (hu2 : P.underlying ty2 = some d2) (hd2 : d2.isRow = true) (hf2 : (P.info? ty2).map (·.size) = some vs2.length) : (results fn tmps).run P w = .ok (.tuple #[.agg vs.toArray,.agg vs2.toArray]) w:=by
 have hrun:=run_loadVar_mid (P:=P) w g 0 ty vs d (fun k v hv => by rw [Nat.zero_add,(M.box_at i hi).cell];simpa using hv) hu hd hf
 have hrun2:=run_loadVar_mid (P:=P) w g2 0 ty2 vs2 d2 (fun k v hv => by rw [Nat.zero_add,(M.box_at i2 hi2).cell];simpa using hv) hu2 hd2 hf2
 have hx' : tmps[s]?.getD undef = .pointer (some ⟨g,0,none⟩):=by simpa using hx
 have hx2' : tmps[k]?.getD undef = .pointer (some ⟨g2,0,none⟩):=by simpa using hx2
 simp [results,hr,asAddr,hx',hrun,hx2',hrun2]
/-- What a step of a commit leaves: the clock,the words,the phase,the place,the stamp. -/
structure CS where
 k : Int
 xs : List Word
 ph : Int
 at_ : Int
 wv : Int
def wordAt (m : Mem) (i : Nat) : Word:=m.cells_.getD i default
noncomputable def cstepS (m : Mem) (c : Commit) : CS :=
 let np:=c.puts_.length
 let nr:=c.reads_.length
 let r : Row:=c.puts_.getD c.at_.toNat default
 let i:=r.cell_.toNat
 let x:=wordAt m i
 let y:=wordAt m (c.reads_.getD c.at_.toNat default).toNat
 let go (xs : List Word) (p : Int × Int) : CS:=⟨m.clock_,xs,p.1,p.2,c.wv_⟩
 if dec (memOk m = true ∧ commitOk c = true) = true then
  if c.phase_ = 1 then (if dec (x.owner_ = 0) = true then go (lockC m.cells_ i x c.who_) (nextPA 1 c.at_ 2 np nr) else go (lockC m.cells_ i x c.who_) (backPA c.at_))
  else if c.phase_ = 2 then (if dec (m.clock_ = 1000000) = true then go m.cells_ (backPA np) else ⟨m.clock_ + 1,m.cells_,onP 3 np nr,0,m.clock_ + 1⟩)
  else if c.phase_ = 3 then (if dec ((y.owner_ ≠ 0 ∧ y.owner_ ≠ c.who_) ∨ c.rv_ < y.ver_) = true then go m.cells_ (backPA np) else go m.cells_ (nextPA 3 c.at_ 4 np nr))
  else if c.phase_ = 4 then go (storeC m.cells_ i x c.who_ r.val_) (nextPA 4 c.at_ 5 np nr)
  else if c.phase_ = 5 then go (unlockC m.clock_ m.cells_ i x c.who_ c.wv_) (nextPA 5 c.at_ 6 np nr)
  else if c.phase_ = 7 then go (unlockC m.clock_ m.cells_ i x c.who_ x.ver_) (backPA c.at_)
  else go m.cells_ (c.phase_,c.at_)
 else go m.cells_ (c.phase_,c.at_)
theorem cs_bad {m : Mem} {c : Commit} (h : ¬ (memOk m = true ∧ commitOk c = true)) : cstepS m c = ⟨m.clock_,m.cells_,c.phase_,c.at_,c.wv_⟩:=by unfold cstepS;simp only;rw [dec_no h];rfl
section
variable {m : Mem} {who rv wv : Int} {a : Nat} {ps : List Row} {rs : List Int} {r : Row} {i : Nat} {x : Word}
theorem getD_of {α : Type} [Inhabited α] {l : List α} {k : Nat} {v : α} (h : l[k]? = some v) : l.getD k default = v:=by rw [List.getD_eq_getElem?_getD,h];rfl
theorem cs1_yes (hM : memOk m = true) (hC : commitOk ⟨who,rv,1,(a : Int),wv,ps,rs⟩ = true) (hr : ps[a]? = some r) (hi : r.cell_ = (i : Int)) (hx : m.cells_[i]? = some x) (h : x.owner_ = 0) : cstepS m ⟨who,rv,1,(a : Int),wv,ps,rs⟩ = ⟨m.clock_,lockC m.cells_ i x who,(nextPA 1 a 2 ps.length rs.length).1,(nextPA 1 a 2 ps.length rs.length).2,wv⟩:=by
 unfold cstepS wordAt;simp only;rw [dec_yes ⟨hM,hC⟩,Int.toNat_natCast,getD_of hr,hi,Int.toNat_natCast,getD_of hx,dec_yes h];simp
theorem cs1_no (hM : memOk m = true) (hC : commitOk ⟨who,rv,1,(a : Int),wv,ps,rs⟩ = true) (hr : ps[a]? = some r) (hi : r.cell_ = (i : Int)) (hx : m.cells_[i]? = some x) (h : ¬ x.owner_ = 0) : cstepS m ⟨who,rv,1,(a : Int),wv,ps,rs⟩ = ⟨m.clock_,lockC m.cells_ i x who,(backPA a).1,(backPA a).2,wv⟩:=by
 unfold cstepS wordAt;simp only;rw [dec_yes ⟨hM,hC⟩,Int.toNat_natCast,getD_of hr,hi,Int.toNat_natCast,getD_of hx,dec_no h];simp
theorem cs2_yes (hM : memOk m = true) (hC : commitOk ⟨who,rv,2,(a : Int),wv,ps,rs⟩ = true) (h : m.clock_ = 1000000) : cstepS m ⟨who,rv,2,(a : Int),wv,ps,rs⟩ = ⟨m.clock_,m.cells_,(backPA ps.length).1,(backPA ps.length).2,wv⟩:=by
 unfold cstepS;simp only;rw [dec_yes ⟨hM,hC⟩,dec_yes h];simp
theorem cs2_no (hM : memOk m = true) (hC : commitOk ⟨who,rv,2,(a : Int),wv,ps,rs⟩ = true) (h : ¬ m.clock_ = 1000000) : cstepS m ⟨who,rv,2,(a : Int),wv,ps,rs⟩ = ⟨m.clock_ + 1,m.cells_,onP 3 ps.length rs.length,0,m.clock_ + 1⟩:=by
 unfold cstepS;simp only;rw [dec_yes ⟨hM,hC⟩,dec_no h];simp
theorem cs3_yes {j : Nat} {y : Word} (hM : memOk m = true) (hC : commitOk ⟨who,rv,3,(a : Int),wv,ps,rs⟩ = true) (hr : rs[a]? = some (j : Int)) (hx : m.cells_[j]? = some y) (h : (y.owner_ ≠ 0 ∧ y.owner_ ≠ who) ∨ rv < y.ver_) : cstepS m ⟨who,rv,3,(a : Int),wv,ps,rs⟩ = ⟨m.clock_,m.cells_,(backPA ps.length).1,(backPA ps.length).2,wv⟩:=by
 unfold cstepS wordAt;simp only;rw [dec_yes ⟨hM,hC⟩,Int.toNat_natCast,getD_of hr,Int.toNat_natCast,getD_of hx,dec_yes h];simp
theorem cs3_no {j : Nat} {y : Word} (hM : memOk m = true) (hC : commitOk ⟨who,rv,3,(a : Int),wv,ps,rs⟩ = true) (hr : rs[a]? = some (j : Int)) (hx : m.cells_[j]? = some y) (h : ¬ ((y.owner_ ≠ 0 ∧ y.owner_ ≠ who) ∨ rv < y.ver_)) : cstepS m ⟨who,rv,3,(a : Int),wv,ps,rs⟩ = ⟨m.clock_,m.cells_,(nextPA 3 a 4 ps.length rs.length).1,(nextPA 3 a 4 ps.length rs.length).2,wv⟩:=by
 unfold cstepS wordAt;simp only;rw [dec_yes ⟨hM,hC⟩,Int.toNat_natCast,getD_of hr,Int.toNat_natCast,getD_of hx,dec_no h];simp
theorem cs4 (hM : memOk m = true) (hC : commitOk ⟨who,rv,4,(a : Int),wv,ps,rs⟩ = true) (hr : ps[a]? = some r) (hi : r.cell_ = (i : Int)) (hx : m.cells_[i]? = some x) : cstepS m ⟨who,rv,4,(a : Int),wv,ps,rs⟩ = ⟨m.clock_,storeC m.cells_ i x who r.val_,(nextPA 4 a 5 ps.length rs.length).1,(nextPA 4 a 5 ps.length rs.length).2,wv⟩:=by
 unfold cstepS wordAt;simp only;rw [dec_yes ⟨hM,hC⟩,Int.toNat_natCast,getD_of hr,hi,Int.toNat_natCast,getD_of hx];simp
theorem cs5 (hM : memOk m = true) (hC : commitOk ⟨who,rv,5,(a : Int),wv,ps,rs⟩ = true) (hr : ps[a]? = some r) (hi : r.cell_ = (i : Int)) (hx : m.cells_[i]? = some x) : cstepS m ⟨who,rv,5,(a : Int),wv,ps,rs⟩ = ⟨m.clock_,unlockC m.clock_ m.cells_ i x who wv,(nextPA 5 a 6 ps.length rs.length).1,(nextPA 5 a 6 ps.length rs.length).2,wv⟩:=by
 unfold cstepS wordAt;simp only;rw [dec_yes ⟨hM,hC⟩,Int.toNat_natCast,getD_of hr,hi,Int.toNat_natCast,getD_of hx];simp
theorem cs7 (hM : memOk m = true) (hC : commitOk ⟨who,rv,7,(a : Int),wv,ps,rs⟩ = true) (hr : ps[a]? = some r) (hi : r.cell_ = (i : Int)) (hx : m.cells_[i]? = some x) : cstepS m ⟨who,rv,7,(a : Int),wv,ps,rs⟩ = ⟨m.clock_,unlockC m.clock_ m.cells_ i x who x.ver_,(backPA a).1,(backPA a).2,wv⟩:=by
 unfold cstepS wordAt;simp only;rw [dec_yes ⟨hM,hC⟩,Int.toNat_natCast,getD_of hr,hi,Int.toNat_natCast,getD_of hx];simp
theorem cs_rest {m : Mem} {c : Commit} (h1 : c.phase_ ≠ 1) (h2 : c.phase_ ≠ 2) (h3 : c.phase_ ≠ 3) (h4 : c.phase_ ≠ 4) (h5 : c.phase_ ≠ 5) (h7 : c.phase_ ≠ 7) : cstepS m c = ⟨m.clock_,m.cells_,c.phase_,c.at_,c.wv_⟩:=by
 unfold cstepS;simp [h1,h2,h3,h4,h5,h7]
end


end Go.Proofs.YtpmfhfpjiebcjaaGreat
namespace Go.Proofs.YtpmfhfpjiebcjaaGreat
open Go.RowKit Go.Deep
set_option linter.unnecessarySimpa false
set_option linter.unusedSimpArgs false
set_option linter.unusedVariables false

end Go.Proofs.YtpmfhfpjiebcjaaGreat
namespace Go.Proofs.YtpmfhfpjiebcjaaGreat
open Go.RowKit Go.Deep
set_option linter.unnecessarySimpa false
set_option linter.unusedSimpArgs false
set_option linter.unusedVariables false
end Go.Proofs.YtpmfhfpjiebcjaaGreat
namespace Go.Proofs.YtpmfhfpjiebcjaaGreat
open Go.RowKit Go.Deep
set_option linter.unnecessarySimpa false
set_option linter.unusedSimpArgs false
set_option linter.unusedVariables false
end Go.Proofs.YtpmfhfpjiebcjaaGreat
namespace Go.Proofs.YtpmfhfpjiebcjaaGreat
open Go.RowKit Go.Deep
set_option linter.unnecessarySimpa false
set_option linter.unusedSimpArgs false
set_option linter.unusedVariables false
end Go.Proofs.YtpmfhfpjiebcjaaGreat
namespace Go.Proofs.YtpmfhfpjiebcjaaGreat
open Go.RowKit Go.Deep
set_option linter.unnecessarySimpa false
set_option linter.unusedSimpArgs false
set_option linter.unusedVariables false
end Go.Proofs.YtpmfhfpjiebcjaaGreat
namespace Go.Proofs.YtpmfhfpjiebcjaaGreat
open Go.RowKit Go.Deep
set_option linter.unnecessarySimpa false
set_option linter.unusedSimpArgs false
set_option linter.unusedVariables false
end Go.Proofs.YtpmfhfpjiebcjaaGreat
namespace Go.Proofs.YtpmfhfpjiebcjaaGreat
open Go.RowKit Go.Deep
set_option linter.unnecessarySimpa false
set_option linter.unusedSimpArgs false
set_option linter.unusedVariables false
end Go.Proofs.YtpmfhfpjiebcjaaGreat
namespace Go.Proofs.YtpmfhfpjiebcjaaGreat
open Go.RowKit Go.Deep
set_option linter.unnecessarySimpa false
set_option linter.unusedSimpArgs false
set_option linter.unusedVariables false
end Go.Proofs.YtpmfhfpjiebcjaaGreat
