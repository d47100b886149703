/- What a step of a commit computes. No condition. CommitStep of the reference: nothing to do. No condition but lengths. -/
import Derived.Test.YtpmfhfpjiebcjaaGreatE00
import Derived.Test.YtpmfhfpjiebcjaaGreatE09
import Derived.Test.YtpmfhfpjiebcjaaGreatE10
import Derived.Test.YtpmfhfpjiebcjaaGreatE11
import Derived.Test.YtpmfhfpjiebcjaaGreatE12
import Derived.Test.YtpmfhfpjiebcjaaGreatE13
namespace Go.Proofs.YtpmfhfpjiebcjaaGreat
open Go.RowKit Go.Deep
set_option linter.unusedSimpArgs false
set_option linter.unusedVariables false
theorem Mine.wp_getsg {P : Program} {ops : Array Oper} {rest : List Oper} {o : Oper} {a : Act} {Q : Exit → Act → World → Prop} {b w : World} {rs : List Res} (M : Mine b w rs) (hw : Region.wanted o (yielded ops a.tmps) = true) (ty : TypeId) (x : Operand) (ho : o.op = .load ty x) (i j m : Nat) {g : Nat} {t : TypeId} {cs : List Value} (hi : rs[i]? = some (.box g t cs.toArray)) (hx : a.eval x = .pointer (some ⟨g,j,none⟩)) (hm : j + m ≤ cs.length)
  (d : TypeDesc) (hu : P.underlying ty = some d) (hd : d.isRow = true) (hf : (P.info? ty).map (·.size) = some m) (h : wpList P ops Q rest (a.put o.dst (.agg ((cs.drop j).take m).toArray)) w) : wpList P ops Q (o::rest) a w :=
 BigFrame.wpList_want hw fun _ hK => by
  have hrun:=run_loadVar_mid (P:=P) w g j ty ((cs.drop j).take m) d (fun k v hv => by
   rw [(M.box_at i hi).cell]
   rw [List.getElem?_take] at hv
   split at hv
   ·rw [List.getElem?_drop] at hv;simpa using hv
   ·cases hv) hu hd (by rw [hf,List.length_take,List.length_drop];congr 1;omega)
  unfold Oper.wp execOp
  simp only [ho,hx,Instr.loadAt,Instr.sureAddr,Sem.run_bind,Sem.run_pure,Result.andThen_ok,hrun]
  exact hK _ _ h
theorem Mine.step_gets {P : Program} {ops : Array Oper} {o : Oper} {a : Act} {Q : Exit → Act → World → Prop} {b w : World} {rs : List Res} {K : Act → World → Prop} {E : Prop} (M : Mine b w rs) (hgd : o.guard = none) (ty : TypeId) (x : Operand) (ho : o.op = .load ty x) (i j m : Nat) {g : Nat} {t : TypeId} {cs : List Value} (hi : rs[i]? = some (.box g t cs.toArray)) (hx : a.eval x = .pointer (some ⟨g,j,none⟩)) (hm : j + m ≤ cs.length)
  (d : TypeDesc) (hu : P.underlying ty = some d) (hd : d.isRow = true) (hf : (P.info? ty).map (·.size) = some m) (h : K (a.put o.dst (.agg ((cs.drop j).take m).toArray)) w) : if Region.wanted o (yielded ops a.tmps) = true then Oper.wp P o a w K Q else E:=by
 have hw : Region.wanted o (yielded ops a.tmps) = true:=by simp [Region.wanted,hgd]
 rw [if_pos hw]
 have hrun:=run_loadVar_mid (P:=P) w g j ty ((cs.drop j).take m) d (fun k v hv => by
  rw [(M.box_at i hi).cell]
  rw [List.getElem?_take] at hv
  split at hv
  ·rw [List.getElem?_drop] at hv;simpa using hv
  ·cases hv) hu hd (by rw [hf,List.length_take,List.length_drop];congr 1;omega)
 unfold Oper.wp execOp
 simp only [ho,hx,Instr.loadAt,Instr.sureAddr,Sem.run_bind,Sem.run_pure,Result.andThen_ok,hrun]
 exact h
theorem Mine.step_get {P : Program} {ops : Array Oper} {o : Oper} {a : Act} {Q : Exit → Act → World → Prop} {b w : World} {rs : List Res} {K : Act → World → Prop} {E : Prop} (M : Mine b w rs) (hgd : o.guard = none) (ty : TypeId) (x : Operand) (ho : o.op = .load ty x) (i j : Nat) {g : Nat} {t : TypeId} {cs : Array Value} (hi : rs[i]? = some (.box g t cs)) (hx : a.eval x = .pointer (some ⟨g,j,none⟩)) (v : Value) (hv : cs[j]? = some v)
  (d : TypeDesc) (hu : P.underlying ty = some d) (hd : d.isRow = false) (h : K (a.put o.dst v) w) : if Region.wanted o (yielded ops a.tmps) = true then Oper.wp P o a w K Q else E:=by
 have hw : Region.wanted o (yielded ops a.tmps) = true:=by simp [Region.wanted,hgd]
 rw [if_pos hw]
 unfold Oper.wp execOp
 simp only [ho,hx,Instr.loadAt,Instr.sureAddr,Sem.run_bind,Sem.run_pure,Result.andThen_ok,run_loadVar_cell w _ ty v d (((M.box_at i hi).cell j).trans hv) hu hd]
 exact h
theorem Mine.results_cc {P : Program} {b w : World} {rs : List Res} {fn : Func} {s k : Tmp} {ty ty2 : TypeId} (hr : fn.results = #[.cell s ty,.cell k ty2]) (M : Mine b w rs) (tmps : Array Value) (i : Nat) {g : Nat} {t : TypeId} {vs : List Value} (hi : rs[i]? = some (.box g t vs.toArray)) (hx : tmps.getD s undef = .pointer (some ⟨g,0,none⟩))
  (d : TypeDesc) (hu : P.underlying ty = some d) (hd : d.isRow = true) (hf : (P.info? ty).map (·.size) = some vs.length)
  (i2 : Nat) {g2 : Nat} {t2 : TypeId} {vs2 : List Value} (hi2 : rs[i2]? = some (.box g2 t2 vs2.toArray)) (hx2 : tmps.getD k undef = .pointer (some ⟨g2,0,none⟩))
  (d2 : TypeDesc) (hu2 : P.underlying ty2 = some d2) (hd2 : d2.isRow = true) (hf2 : (P.info? ty2).map (·.size) = some vs2.length) : (results fn tmps).run P w = .ok (.tuple #[.agg vs.toArray,.agg vs2.toArray]) w:=by
 have hrun:=run_loadVar_mid (P:=P) w g 0 ty vs d (fun k v hv => by rw [Nat.zero_add,(M.box_at i hi).cell];simpa using hv) hu hd hf
 have hrun2:=run_loadVar_mid (P:=P) w g2 0 ty2 vs2 d2 (fun k v hv => by rw [Nat.zero_add,(M.box_at i2 hi2).cell];simpa using hv) hu2 hd2 hf2
 have hx' : tmps[s]?.getD undef = .pointer (some ⟨g,0,none⟩):=by simpa using hx
 have hx2' : tmps[k]?.getD undef = .pointer (some ⟨g2,0,none⟩):=by simpa using hx2
 simp [results,hr,asAddr,hx',hrun,hx2',hrun2]
/-- What a step of a commit leaves: the clock,the words,the phase,the place,the stamp. -/
structure CS where
 k : Int
 xs : List Word
 ph : Int
 at_ : Int
 wv : Int
def wordAt (m : Mem) (i : Nat) : Word:=m.cells_.getD i default
noncomputable def cstepS (m : Mem) (c : Commit) : CS :=
 let np:=c.puts_.length
 let nr:=c.reads_.length
 let r : Row:=c.puts_.getD c.at_.toNat default
 let i:=r.cell_.toNat
 let x:=wordAt m i
 let y:=wordAt m (c.reads_.getD c.at_.toNat default).toNat
 let go (xs : List Word) (p : Int × Int) : CS:=⟨m.clock_,xs,p.1,p.2,c.wv_⟩
 if dec (memOk m = true ∧ commitOk c = true) = true then
  if c.phase_ = 1 then (if dec (x.owner_ = 0) = true then go (lockC m.cells_ i x c.who_) (nextPA 1 c.at_ 2 np nr) else go (lockC m.cells_ i x c.who_) (backPA c.at_))
  else if c.phase_ = 2 then (if dec (m.clock_ = 1000000) = true then go m.cells_ (backPA np) else ⟨m.clock_ + 1,m.cells_,onP 3 np nr,0,m.clock_ + 1⟩)
  else if c.phase_ = 3 then (if dec ((y.owner_ ≠ 0 ∧ y.owner_ ≠ c.who_) ∨ c.rv_ < y.ver_) = true then go m.cells_ (backPA np) else go m.cells_ (nextPA 3 c.at_ 4 np nr))
  else if c.phase_ = 4 then go (storeC m.cells_ i x c.who_ r.val_) (nextPA 4 c.at_ 5 np nr)
  else if c.phase_ = 5 then go (unlockC m.clock_ m.cells_ i x c.who_ c.wv_) (nextPA 5 c.at_ 6 np nr)
  else if c.phase_ = 7 then go (unlockC m.clock_ m.cells_ i x c.who_ x.ver_) (backPA c.at_)
  else go m.cells_ (c.phase_,c.at_)
 else go m.cells_ (c.phase_,c.at_)
theorem cs_bad {m : Mem} {c : Commit} (h : ¬ (memOk m = true ∧ commitOk c = true)) : cstepS m c = ⟨m.clock_,m.cells_,c.phase_,c.at_,c.wv_⟩:=by unfold cstepS;simp only;rw [dec_no h];rfl
section
variable {m : Mem} {who rv wv : Int} {a : Nat} {ps : List Row} {rs : List Int} {r : Row} {i : Nat} {x : Word}
theorem getD_of {α : Type} [Inhabited α] {l : List α} {k : Nat} {v : α} (h : l[k]? = some v) : l.getD k default = v:=by rw [List.getD_eq_getElem?_getD,h];rfl
theorem cs1_yes (hM : memOk m = true) (hC : commitOk ⟨who,rv,1,(a : Int),wv,ps,rs⟩ = true) (hr : ps[a]? = some r) (hi : r.cell_ = (i : Int)) (hx : m.cells_[i]? = some x) (h : x.owner_ = 0) : cstepS m ⟨who,rv,1,(a : Int),wv,ps,rs⟩ = ⟨m.clock_,lockC m.cells_ i x who,(nextPA 1 a 2 ps.length rs.length).1,(nextPA 1 a 2 ps.length rs.length).2,wv⟩:=by
 unfold cstepS wordAt;simp only;rw [dec_yes ⟨hM,hC⟩,Int.toNat_natCast,getD_of hr,hi,Int.toNat_natCast,getD_of hx,dec_yes h];simp
theorem cs1_no (hM : memOk m = true) (hC : commitOk ⟨who,rv,1,(a : Int),wv,ps,rs⟩ = true) (hr : ps[a]? = some r) (hi : r.cell_ = (i : Int)) (hx : m.cells_[i]? = some x) (h : ¬ x.owner_ = 0) : cstepS m ⟨who,rv,1,(a : Int),wv,ps,rs⟩ = ⟨m.clock_,lockC m.cells_ i x who,(backPA a).1,(backPA a).2,wv⟩:=by
 unfold cstepS wordAt;simp only;rw [dec_yes ⟨hM,hC⟩,Int.toNat_natCast,getD_of hr,hi,Int.toNat_natCast,getD_of hx,dec_no h];simp
theorem cs2_yes (hM : memOk m = true) (hC : commitOk ⟨who,rv,2,(a : Int),wv,ps,rs⟩ = true) (h : m.clock_ = 1000000) : cstepS m ⟨who,rv,2,(a : Int),wv,ps,rs⟩ = ⟨m.clock_,m.cells_,(backPA ps.length).1,(backPA ps.length).2,wv⟩:=by
 unfold cstepS;simp only;rw [dec_yes ⟨hM,hC⟩,dec_yes h];simp
theorem cs2_no (hM : memOk m = true) (hC : commitOk ⟨who,rv,2,(a : Int),wv,ps,rs⟩ = true) (h : ¬ m.clock_ = 1000000) : cstepS m ⟨who,rv,2,(a : Int),wv,ps,rs⟩ = ⟨m.clock_ + 1,m.cells_,onP 3 ps.length rs.length,0,m.clock_ + 1⟩:=by
 unfold cstepS;simp only;rw [dec_yes ⟨hM,hC⟩,dec_no h];simp
theorem cs3_yes {j : Nat} {y : Word} (hM : memOk m = true) (hC : commitOk ⟨who,rv,3,(a : Int),wv,ps,rs⟩ = true) (hr : rs[a]? = some (j : Int)) (hx : m.cells_[j]? = some y) (h : (y.owner_ ≠ 0 ∧ y.owner_ ≠ who) ∨ rv < y.ver_) : cstepS m ⟨who,rv,3,(a : Int),wv,ps,rs⟩ = ⟨m.clock_,m.cells_,(backPA ps.length).1,(backPA ps.length).2,wv⟩:=by
 unfold cstepS wordAt;simp only;rw [dec_yes ⟨hM,hC⟩,Int.toNat_natCast,getD_of hr,Int.toNat_natCast,getD_of hx,dec_yes h];simp
theorem cs3_no {j : Nat} {y : Word} (hM : memOk m = true) (hC : commitOk ⟨who,rv,3,(a : Int),wv,ps,rs⟩ = true) (hr : rs[a]? = some (j : Int)) (hx : m.cells_[j]? = some y) (h : ¬ ((y.owner_ ≠ 0 ∧ y.owner_ ≠ who) ∨ rv < y.ver_)) : cstepS m ⟨who,rv,3,(a : Int),wv,ps,rs⟩ = ⟨m.clock_,m.cells_,(nextPA 3 a 4 ps.length rs.length).1,(nextPA 3 a 4 ps.length rs.length).2,wv⟩:=by
 unfold cstepS wordAt;simp only;rw [dec_yes ⟨hM,hC⟩,Int.toNat_natCast,getD_of hr,Int.toNat_natCast,getD_of hx,dec_no h];simp
theorem cs4 (hM : memOk m = true) (hC : commitOk ⟨who,rv,4,(a : Int),wv,ps,rs⟩ = true) (hr : ps[a]? = some r) (hi : r.cell_ = (i : Int)) (hx : m.cells_[i]? = some x) : cstepS m ⟨who,rv,4,(a : Int),wv,ps,rs⟩ = ⟨m.clock_,storeC m.cells_ i x who r.val_,(nextPA 4 a 5 ps.length rs.length).1,(nextPA 4 a 5 ps.length rs.length).2,wv⟩:=by
 unfold cstepS wordAt;simp only;rw [dec_yes ⟨hM,hC⟩,Int.toNat_natCast,getD_of hr,hi,Int.toNat_natCast,getD_of hx];simp
theorem cs5 (hM : memOk m = true) (hC : commitOk ⟨who,rv,5,(a : Int),wv,ps,rs⟩ = true) (hr : ps[a]? = some r) (hi : r.cell_ = (i : Int)) (hx : m.cells_[i]? = some x) : cstepS m ⟨who,rv,5,(a : Int),wv,ps,rs⟩ = ⟨m.clock_,unlockC m.clock_ m.cells_ i x who wv,(nextPA 5 a 6 ps.length rs.length).1,(nextPA 5 a 6 ps.length rs.length).2,wv⟩:=by
 unfold cstepS wordAt;simp only;rw [dec_yes ⟨hM,hC⟩,Int.toNat_natCast,getD_of hr,hi,Int.toNat_natCast,getD_of hx];simp
theorem cs7 (hM : memOk m = true) (hC : commitOk ⟨who,rv,7,(a : Int),wv,ps,rs⟩ = true) (hr : ps[a]? = some r) (hi : r.cell_ = (i : Int)) (hx : m.cells_[i]? = some x) : cstepS m ⟨who,rv,7,(a : Int),wv,ps,rs⟩ = ⟨m.clock_,unlockC m.clock_ m.cells_ i x who x.ver_,(backPA a).1,(backPA a).2,wv⟩:=by
 unfold cstepS wordAt;simp only;rw [dec_yes ⟨hM,hC⟩,Int.toNat_natCast,getD_of hr,hi,Int.toNat_natCast,getD_of hx];simp
theorem cs_rest {m : Mem} {c : Commit} (h1 : c.phase_ ≠ 1) (h2 : c.phase_ ≠ 2) (h3 : c.phase_ ≠ 3) (h4 : c.phase_ ≠ 4) (h5 : c.phase_ ≠ 5) (h7 : c.phase_ ≠ 7) : cstepS m c = ⟨m.clock_,m.cells_,c.phase_,c.at_,c.wv_⟩:=by
 unfold cstepS;simp [h1,h2,h3,h4,h5,h7]
end


end Go.Proofs.YtpmfhfpjiebcjaaGreat
namespace Go.Proofs.YtpmfhfpjiebcjaaGreat
open Go.RowKit Go.Deep
set_option linter.unusedSimpArgs false
set_option linter.unusedVariables false

theorem Mine.rd_arg {P : Program} {o : Oper} {a : Act} {b : World} {rs : List Res} {K : Act → Prop} (ty : TypeId) (x : Operand) (ho : o.op = .load ty x) (p : Addr) (v : Value) (hc : b.cell? p = some v ∧ p.block < b.heap.size) (hx : a.eval x = .pointer (some p))
  (d : TypeDesc) (hu : P.underlying ty = some d) (hd : d.isRow = false) (h : K (a.put o.dst v)) : Reads P o a (fun w' => Mine b w' rs) K :=
 ⟨v,fun w' M => by
  unfold execOp
  simp only [ho,hx,Instr.loadAt,Instr.sureAddr,Sem.run_bind,Sem.run_pure,Result.andThen_ok,run_loadVar_cell w' _ ty v d ((M.ext.cell hc.2).trans hc.1) hu hd],h⟩

set_option maxRecDepth 8000 in
set_option maxHeartbeats 16000000 in
theorem spec_csbad (m : Mem) (A : Option Addr) (n cm : Nat) (who rv wv : Int) (ph at_ : Int) (ps : List Row) (rs : List Int) (Ap : Option Addr) (np cp : Nat) (Ar : Option Addr) (nr cr : Nat) (w : World) (SM : Nat → Prop) (hsM : Sl w SM 3 A n (m.cells_.flatMap Word.cells)) (hnM : n ≤ 1048576) (S1 : Nat → Prop) (h1 : Sl w S1 2 Ap np (ps.flatMap Row.cells)) (hm1 : np ≤ 1048576) (S2 : Nat → Prop) (h2 : Sl w S2 1 Ar nr (ints rs)) (hm2 : nr ≤ 1048576) (hbad : ¬ (memOk m = true ∧ commitOk ⟨who,rv,ph,at_,wv,ps,rs⟩ = true)) :
  Calls Tryz.prog 80 #[.agg #[.int .i64 m.clock_,.slice A n cm],.agg #[.int .i64 who,.int .i64 rv,.int .i64 ph,.int .i64 at_,.int .i64 wv,.slice Ap np cp,.slice Ar nr cr]] w fun e w' => ∃ B d Bp dp Br dr,e = .returned (.tuple #[.agg #[.int .i64 (cstepS m ⟨who,rv,ph,at_,wv,ps,rs⟩).k,.slice B n d],.agg #[.int .i64 who,.int .i64 rv,.int .i64 (cstepS m ⟨who,rv,ph,at_,wv,ps,rs⟩).ph,.int .i64 (cstepS m ⟨who,rv,ph,at_,wv,ps,rs⟩).at_,.int .i64 (cstepS m ⟨who,rv,ph,at_,wv,ps,rs⟩).wv,.slice Bp np dp,.slice Br nr dr]]) ∧ Mine w w' [.row 102 3 B n d ((cstepS m ⟨who,rv,ph,at_,wv,ps,rs⟩).xs.flatMap Word.cells),.row 97 2 Bp np dp (ps.flatMap Row.cells),.row 3 1 Br nr dr (ints rs)]:=by
 have hl0 : m.cells_.length = n:=hsM.flen Word.cells_length (by omega)
 have hl1 : ps.length = np:=h1.flen Row.cells_length (by omega)
 have hl2 : rs.length = nr:=h2.len
 have HSM:=Lib.hid hsM
 have H1:=Lib.hid h1
 have H2:=Lib.hid h2
 clear hsM h1 h2
 have M:=Lib.hid (Mine.refl w)
 have HZ:=Lib.hid (cs_bad hbad)
 cases hM : memOk m
 ·skip
  go_enter Tryz.func80,Tryz.ntmps80
  go_wp2_with (first|(go_at_call 115;(with_reducible refine (spec_l3Copy_m m.clock_ _ n cm m.cells_ _ SM (HSM.out.ext M.out.ext) hnM).mono ?_);rintro e w' ⟨B,d,rfl,M9⟩;have M8:=M.out.call M9;replace M:=Lib.hid M8;clear M8 M9)|(go_at_call 116;(with_reducible refine (spec_l10Copy_m who rv ph at_ wv _ np cp _ nr cr ps rs _ S1 (H1.out.ext M.out.ext) hm1 S2 (H2.out.ext M.out.ext) hm2).mono ?_);rintro e w' ⟨Bp,dp,Br,dr,rfl,M9⟩;have M8:=M.out.call M9;replace M:=Lib.hid M8;clear M8 M9)|(go_at_call 58;(with_reducible refine (spec_MemOk m _ n cm _ SM (by omega) (HSM.out.ext M.out.ext)).mono ?_);rintro e w' ⟨rfl,x9⟩;replace M:=Lib.hid (M.out.on x9);clear x9;rw [hM])|((with_reducible show wpList _ _ _ (⟨_,_,_,_,_,none⟩::_) _ _);first|(refine Mine.wp_box M.out rfl 27 _ rfl _ rfl ?_;intro ga w' M';(try simp only [zr_,zm_] at M');replace M:=Lib.hid M';clear M';(try simp only [zr_,zm_]))|(refine Mine.wp_box M.out rfl 64 _ rfl _ rfl ?_;intro gc w' M';(try simp only [zr_,zm_] at M');replace M:=Lib.hid M';clear M';(try simp only [zr_,zm_]))|(refine Mine.wp_alloc M.out rfl 27 rfl (.agg #[.int .i64 0,.slice none 0 0]) (by kernel_rfl) ?_;intro gx w' M';(try simp only [Value.cells,zr_,zm_] at M');replace M:=Lib.hid M';clear M';(try simp only [zr_,zm_]))|(refine Mine.wp_alloc M.out rfl 64 rfl (.agg #[.int .i64 0,.int .i64 0,.int .i64 0,.int .i64 0,.int .i64 0,.slice none 0 0,.slice none 0 0]) (by kernel_rfl) ?_;intro gd w' M';(try simp only [Value.cells,zr_,zm_] at M');replace M:=Lib.hid M';clear M';(try simp only [zr_,zm_]))|((first|refine zGs M.out 27 3 2 ?_|refine zGs M.out 64 4 7 ?_|refine zGs M.out 27 8 2 ?_);(try simp only [zr_,zm_]))|((first|refine zSs M.out 27 0 ?_|refine zSs M.out 64 0 ?_);intro w' M';(try simp only [zr_,zm_] at M');replace M:=Lib.hid M';clear M')))
  simp only [List.cons_append,List.nil_append] at M
  have MT:=Lib.hid (M.out.sub (sk_ (sk_ (sk_ (sk_ (sk_ (sk_ (sd_ (sk_ (sk_ s0_))))))))))
  refine Mine.region_headS MT.out M.out 3 (by kernel_rfl) (by kernel_rfl) ?_
  intro w' M'
  replace M:=Lib.hid M'
  clear M'
  clear MT
  refine zT 0 ?_;intro K hK;((refine zDs 27 3 2 ?_;(try simp only [zr_,zm_]);go_big_quiet_on))
  refine zT 1 ?_;intro K hK;((refine zDs 64 0 7 ?_;(try simp only [zr_,zm_]);go_big_quiet_on))
  refine HQ.noisy (rs:=[2]) (by kernel_rfl) (by simp) (AllG.cons rfl (Nat.le_of_ble_eq_true rfl) (fun K hK => ?_) AllG.nil)
  refine Mine.step_sets M.out (by rfl) 27 _ _ (by rfl) (by rfl) 6 _ (by rfl) (by rfl) _ (by rfl) (Nat.le_of_ble_eq_true rfl) (by simp [Value.oneCell']) (by kernel_rfl) ?_
  intro w' M'
  simp only [zr_,zm_] at M'
  replace M:=Lib.hid M'
  clear M'
  refine hK.out _ _ (M.out.sub (sk_ (sk_ (sk_ (sk_ (sk_ (sk_ (sd_ (sk_ (sk_ s0_)))))))))) ?_
  clear hK K
  (try simp only [zs_,zl_])
  refine HQ.end_ (by kernel_rfl) ?_
  simp only [List.drop_succ_cons,List.drop_zero]
  go_wp2_with (((with_reducible show wpList _ _ _ (⟨_,_,_,_,_,none⟩::_) _ _);first|(refine zSs M.out 64 5 ?_;intro w' M';(try simp only [zr_,zm_] at M');replace M:=Lib.hid M';clear M')))
  refine bodyPost_ret (M.out.results_cc Tryz.results80 _ 6 rfl rfl _ Tryz.underlying27 (by rfl) (by kernel_rfl) 5 rfl rfl _ Tryz.underlying64 (by rfl) (by kernel_rfl)) rfl ?_
  rw [HZ.out]
  replace M:=Lib.hid (M.out.sub (sd_ (sk_ (sk_ (sd_ (sk_ (sd_ (sd_ (sd_ (sd_ s0_))))))))))
  replace M:=Lib.hid (M.out.perm (List.perm_middle (l₁:=[_,_])))
  simp only [List.cons_append,List.nil_append] at M
  exact ⟨_,_,_,_,_,_,rfl,M.out⟩
 have hC : commitOk ⟨who,rv,ph,at_,wv,ps,rs⟩ = false:=by cases h : commitOk ⟨who,rv,ph,at_,wv,ps,rs⟩ <;> simp_all
 go_enter Tryz.func80,Tryz.ntmps80
 go_wp2_with (first|(go_at_call 115;(with_reducible refine (spec_l3Copy_m m.clock_ _ n cm m.cells_ _ SM (HSM.out.ext M.out.ext) hnM).mono ?_);rintro e w' ⟨B,d,rfl,M9⟩;have M8:=M.out.call M9;replace M:=Lib.hid M8;clear M8 M9)|(go_at_call 116;(with_reducible refine (spec_l10Copy_m who rv ph at_ wv _ np cp _ nr cr ps rs _ S1 (H1.out.ext M.out.ext) hm1 S2 (H2.out.ext M.out.ext) hm2).mono ?_);rintro e w' ⟨Bp,dp,Br,dr,rfl,M9⟩;have M8:=M.out.call M9;replace M:=Lib.hid M8;clear M8 M9)|(go_at_call 58;(with_reducible refine (spec_MemOk m _ n cm _ SM (by omega) (HSM.out.ext M.out.ext)).mono ?_);rintro e w' ⟨rfl,x9⟩;replace M:=Lib.hid (M.out.on x9);clear x9;rw [hM])|(go_at_call 117;(with_reducible refine (spec_CommitOk ⟨who,rv,ph,at_,wv,ps,rs⟩ _ np cp _ nr cr _ S1 (H1.out.ext M.out.ext) hm1 S2 (H2.out.ext M.out.ext) hm2).mono ?_);rintro e w' ⟨rfl,x9⟩;replace M:=Lib.hid (M.out.on x9);clear x9;rw [hC])|((with_reducible show wpList _ _ _ (⟨_,_,_,_,_,none⟩::_) _ _);first|(refine Mine.wp_box M.out rfl 27 _ rfl _ rfl ?_;intro ga w' M';(try simp only [zr_,zm_] at M');replace M:=Lib.hid M';clear M';(try simp only [zr_,zm_]))|(refine Mine.wp_box M.out rfl 64 _ rfl _ rfl ?_;intro gc w' M';(try simp only [zr_,zm_] at M');replace M:=Lib.hid M';clear M';(try simp only [zr_,zm_]))|(refine Mine.wp_alloc M.out rfl 27 rfl (.agg #[.int .i64 0,.slice none 0 0]) (by kernel_rfl) ?_;intro gx w' M';(try simp only [Value.cells,zr_,zm_] at M');replace M:=Lib.hid M';clear M';(try simp only [zr_,zm_]))|(refine Mine.wp_alloc M.out rfl 64 rfl (.agg #[.int .i64 0,.int .i64 0,.int .i64 0,.int .i64 0,.int .i64 0,.slice none 0 0,.slice none 0 0]) (by kernel_rfl) ?_;intro gd w' M';(try simp only [Value.cells,zr_,zm_] at M');replace M:=Lib.hid M';clear M';(try simp only [zr_,zm_]))|((first|refine zGs M.out 27 3 2 ?_|refine zGs M.out 64 4 7 ?_|refine zGs M.out 27 8 2 ?_);(try simp only [zr_,zm_]))|((first|refine zSs M.out 27 0 ?_|refine zSs M.out 64 0 ?_);intro w' M';(try simp only [zr_,zm_] at M');replace M:=Lib.hid M';clear M'))|((with_reducible show wpList _ _ _ (⟨_,.load _ _,_,_,_,some _⟩::_) _ _);first|(refine Mine.wp_getsg M.out (by rfl) 64 _ rfl 7 _ 7 rfl rfl (Nat.le_of_ble_eq_true rfl) _ Tryz.underlying64 (by rfl) (by kernel_rfl) ?_;(try simp only [zr_,zm_]))))
 simp only [List.cons_append,List.nil_append] at M
 have MT:=Lib.hid (M.out.sub (sk_ (sk_ (sk_ (sk_ (sk_ (sk_ (sd_ (sk_ (sk_ s0_))))))))))
 refine Mine.region_headS MT.out M.out 3 (by kernel_rfl) (by kernel_rfl) ?_
 intro w' M'
 replace M:=Lib.hid M'
 clear M'
 clear MT
 refine zT 0 ?_;intro K hK;((refine zDs 27 3 2 ?_;(try simp only [zr_,zm_]);go_big_quiet_on))
 refine zT 1 ?_;intro K hK;((refine zDs 64 0 7 ?_;(try simp only [zr_,zm_]);go_big_quiet_on))
 refine HQ.noisy (rs:=[2]) (by kernel_rfl) (by simp) (AllG.cons rfl (Nat.le_of_ble_eq_true rfl) (fun K hK => ?_) AllG.nil)
 refine Mine.step_sets M.out (by rfl) 27 _ _ (by rfl) (by rfl) 6 _ (by rfl) (by rfl) _ (by rfl) (Nat.le_of_ble_eq_true rfl) (by simp [Value.oneCell']) (by kernel_rfl) ?_
 intro w' M'
 simp only [zr_,zm_] at M'
 replace M:=Lib.hid M'
 clear M'
 refine hK.out _ _ (M.out.sub (sk_ (sk_ (sk_ (sk_ (sk_ (sk_ (sd_ (sk_ (sk_ s0_)))))))))) ?_
 clear hK K
 (try simp only [zs_,zl_])
 refine HQ.end_ (by kernel_rfl) ?_
 simp only [List.drop_succ_cons,List.drop_zero]
 go_wp2_with (((with_reducible show wpList _ _ _ (⟨_,_,_,_,_,none⟩::_) _ _);first|(refine zSs M.out 64 5 ?_;intro w' M';(try simp only [zr_,zm_] at M');replace M:=Lib.hid M';clear M')))
 refine bodyPost_ret (M.out.results_cc Tryz.results80 _ 6 rfl rfl _ Tryz.underlying27 (by rfl) (by kernel_rfl) 5 rfl rfl _ Tryz.underlying64 (by rfl) (by kernel_rfl)) rfl ?_
 rw [HZ.out]
 replace M:=Lib.hid (M.out.sub (sd_ (sk_ (sk_ (sd_ (sk_ (sd_ (sd_ (sd_ (sd_ s0_))))))))))
 replace M:=Lib.hid (M.out.perm (List.perm_middle (l₁:=[_,_])))
 simp only [List.cons_append,List.nil_append] at M
 exact ⟨_,_,_,_,_,_,rfl,M.out⟩
set_option maxRecDepth 8000 in
set_option maxHeartbeats 16000000 in
theorem spec_csrest (m : Mem) (A : Option Addr) (n cm : Nat) (who rv wv : Int) (ph at_ : Int) (ps : List Row) (rs : List Int) (Ap : Option Addr) (np cp : Nat) (Ar : Option Addr) (nr cr : Nat) (w : World) (SM : Nat → Prop) (hsM : Sl w SM 3 A n (m.cells_.flatMap Word.cells)) (hnM : n ≤ 1048576) (S1 : Nat → Prop) (h1 : Sl w S1 2 Ap np (ps.flatMap Row.cells)) (hm1 : np ≤ 1048576) (S2 : Nat → Prop) (h2 : Sl w S2 1 Ar nr (ints rs)) (hm2 : nr ≤ 1048576) (hM : memOk m = true) (hC : commitOk ⟨who,rv,ph,at_,wv,ps,rs⟩ = true) (p1 : ph ≠ 1) (p2 : ph ≠ 2) (p3 : ph ≠ 3) (p4 : ph ≠ 4) (p5 : ph ≠ 5) (p7 : ph ≠ 7) :
  Calls Tryz.prog 80 #[.agg #[.int .i64 m.clock_,.slice A n cm],.agg #[.int .i64 who,.int .i64 rv,.int .i64 ph,.int .i64 at_,.int .i64 wv,.slice Ap np cp,.slice Ar nr cr]] w fun e w' => ∃ B d Bp dp Br dr,e = .returned (.tuple #[.agg #[.int .i64 (cstepS m ⟨who,rv,ph,at_,wv,ps,rs⟩).k,.slice B n d],.agg #[.int .i64 who,.int .i64 rv,.int .i64 (cstepS m ⟨who,rv,ph,at_,wv,ps,rs⟩).ph,.int .i64 (cstepS m ⟨who,rv,ph,at_,wv,ps,rs⟩).at_,.int .i64 (cstepS m ⟨who,rv,ph,at_,wv,ps,rs⟩).wv,.slice Bp np dp,.slice Br nr dr]]) ∧ Mine w w' [.row 102 3 B n d ((cstepS m ⟨who,rv,ph,at_,wv,ps,rs⟩).xs.flatMap Word.cells),.row 97 2 Bp np dp (ps.flatMap Row.cells),.row 3 1 Br nr dr (ints rs)]:=by
 have hl0 : m.cells_.length = n:=hsM.flen Word.cells_length (by omega)
 have hl1 : ps.length = np:=h1.flen Row.cells_length (by omega)
 have hl2 : rs.length = nr:=h2.len
 have HSM:=Lib.hid hsM
 have H1:=Lib.hid h1
 have H2:=Lib.hid h2
 clear hsM h1 h2
 have M:=Lib.hid (Mine.refl w)
 have HZ:=Lib.hid (cs_rest (m:=m) (c:=⟨who,rv,ph,at_,wv,ps,rs⟩) p1 p2 p3 p4 p5 p7)
 have b1 : (ph == 1) = false:=by simpa using p1
 have b2 : (ph == 2) = false:=by simpa using p2
 have b3 : (ph == 3) = false:=by simpa using p3
 have b4 : (ph == 4) = false:=by simpa using p4
 have b5 : (ph == 5) = false:=by simpa using p5
 have b7 : (ph == 7) = false:=by simpa using p7
 clear p1 p2 p3 p4 p5 p7
 go_enter Tryz.func80,Tryz.ntmps80
 go_wp2_with (first|(go_at_call 115;(with_reducible refine (spec_l3Copy_m m.clock_ _ n cm m.cells_ _ SM (HSM.out.ext M.out.ext) hnM).mono ?_);rintro e w' ⟨B,d,rfl,M9⟩;have M8:=M.out.call M9;replace M:=Lib.hid M8;clear M8 M9)|(go_at_call 116;(with_reducible refine (spec_l10Copy_m who rv ph at_ wv _ np cp _ nr cr ps rs _ S1 (H1.out.ext M.out.ext) hm1 S2 (H2.out.ext M.out.ext) hm2).mono ?_);rintro e w' ⟨Bp,dp,Br,dr,rfl,M9⟩;have M8:=M.out.call M9;replace M:=Lib.hid M8;clear M8 M9)|(go_at_call 58;(with_reducible refine (spec_MemOk m _ n cm _ SM (by omega) (HSM.out.ext M.out.ext)).mono ?_);rintro e w' ⟨rfl,x9⟩;replace M:=Lib.hid (M.out.on x9);clear x9;rw [hM])|(go_at_call 117;(with_reducible refine (spec_CommitOk ⟨who,rv,ph,at_,wv,ps,rs⟩ _ np cp _ nr cr _ S1 (H1.out.ext M.out.ext) hm1 S2 (H2.out.ext M.out.ext) hm2).mono ?_);rintro e w' ⟨rfl,x9⟩;replace M:=Lib.hid (M.out.on x9);clear x9;rw [hC])|((with_reducible show wpList _ _ _ (⟨_,_,_,_,_,none⟩::_) _ _);first|(refine Mine.wp_box M.out rfl 27 _ rfl _ rfl ?_;intro ga w' M';(try simp only [zr_,zm_] at M');replace M:=Lib.hid M';clear M';(try simp only [zr_,zm_]))|(refine Mine.wp_box M.out rfl 64 _ rfl _ rfl ?_;intro gc w' M';(try simp only [zr_,zm_] at M');replace M:=Lib.hid M';clear M';(try simp only [zr_,zm_]))|(refine Mine.wp_alloc M.out rfl 27 rfl (.agg #[.int .i64 0,.slice none 0 0]) (by kernel_rfl) ?_;intro gx w' M';(try simp only [Value.cells,zr_,zm_] at M');replace M:=Lib.hid M';clear M';(try simp only [zr_,zm_]))|(refine Mine.wp_alloc M.out rfl 64 rfl (.agg #[.int .i64 0,.int .i64 0,.int .i64 0,.int .i64 0,.int .i64 0,.slice none 0 0,.slice none 0 0]) (by kernel_rfl) ?_;intro gd w' M';(try simp only [Value.cells,zr_,zm_] at M');replace M:=Lib.hid M';clear M';(try simp only [zr_,zm_]))|((first|refine zGs M.out 27 3 2 ?_|refine zGs M.out 64 4 7 ?_|refine zGs M.out 27 8 2 ?_|refine zG M.out 7 ?_);(try simp only [zr_,zm_]))|((first|refine zSs M.out 27 0 ?_|refine zSs M.out 64 0 ?_);intro w' M';(try simp only [zr_,zm_] at M');replace M:=Lib.hid M';clear M'))|((with_reducible show wpList _ _ _ (⟨_,.load _ _,_,_,_,some _⟩::_) _ _);first|(refine Mine.wp_getsg M.out (by rfl) 64 _ rfl 7 _ 7 rfl rfl (Nat.le_of_ble_eq_true rfl) _ Tryz.underlying64 (by rfl) (by kernel_rfl) ?_;(try simp only [zr_,zm_]))))
 simp only [List.cons_append,List.nil_append] at M
 have MT:=Lib.hid (M.out.sub (sk_ (sk_ (sk_ (sk_ (sk_ (sk_ (sd_ (sk_ (sk_ s0_))))))))))
 refine Mine.region_headS MT.out M.out 3 (by kernel_rfl) (by kernel_rfl) ?_
 intro w' M'
 replace M:=Lib.hid M'
 clear M'
 clear MT
 refine zT 0 ?_;intro K hK;((refine zDs 27 3 2 ?_;(try simp only [zr_,zm_]);go_big_quiet_on))
 refine zT 1 ?_;intro K hK;((refine zDs 64 0 7 ?_;(try simp only [zr_,zm_]);go_big_quiet_on))
 refine HQ.noisy (rs:=[2]) (by kernel_rfl) (by simp) (AllG.cons rfl (Nat.le_of_ble_eq_true rfl) (fun K hK => ?_) AllG.nil)
 refine Mine.step_sets M.out (by rfl) 27 _ _ (by rfl) (by rfl) 6 _ (by rfl) (by rfl) _ (by rfl) (Nat.le_of_ble_eq_true rfl) (by simp [Value.oneCell']) (by kernel_rfl) ?_
 intro w' M'
 simp only [zr_,zm_] at M'
 replace M:=Lib.hid M'
 clear M'
 refine hK.out _ _ (M.out.sub (sk_ (sk_ (sk_ (sk_ (sk_ (sk_ (sd_ (sk_ (sk_ s0_)))))))))) ?_
 clear hK K
 (try simp only [zs_,zl_])
 refine HQ.end_ (by kernel_rfl) ?_
 simp only [List.drop_succ_cons,List.drop_zero]
 go_wp2_with (((with_reducible show wpList _ _ _ (⟨_,_,_,_,_,none⟩::_) _ _);first|(refine zSs M.out 64 5 ?_;intro w' M';(try simp only [zr_,zm_] at M');replace M:=Lib.hid M';clear M')))
 refine bodyPost_ret (M.out.results_cc Tryz.results80 _ 6 rfl rfl _ Tryz.underlying27 (by rfl) (by kernel_rfl) 5 rfl rfl _ Tryz.underlying64 (by rfl) (by kernel_rfl)) rfl ?_
 rw [HZ.out]
 replace M:=Lib.hid (M.out.sub (sd_ (sk_ (sk_ (sd_ (sk_ (sd_ (sd_ (sd_ (sd_ s0_))))))))))
 replace M:=Lib.hid (M.out.perm (List.perm_middle (l₁:=[_,_])))
 simp only [List.cons_append,List.nil_append] at M
 exact ⟨_,_,_,_,_,_,rfl,M.out⟩

end Go.Proofs.YtpmfhfpjiebcjaaGreat
