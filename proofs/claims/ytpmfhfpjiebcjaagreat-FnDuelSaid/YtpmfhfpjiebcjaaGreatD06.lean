/- Memories copied. No condition but lengths. Draws of duels: jobs. No condition but lengths. Contracts of the library at this seat, laid by the shelf. No condition. -/
import Derived.Test.YtpmfhfpjiebcjaaGreatD04
import Derived.Test.YtpmfhfpjiebcjaaGreatD00
import Derived.Test.YtpmfhfpjiebcjaaGreatD05
import Derived.Shelf.SlSortCmp.NoneTotal
import Derived.Ground.SlsfProg
import Derived.Test.YtpmfhfpjiebcjaaGreatRows
namespace Go.Proofs.YtpmfhfpjiebcjaaGreat
open Go.RowKit Go.Deep
set_option linter.unnecessarySimpa false
set_option linter.unusedSimpArgs false
set_option linter.unusedVariables false
theorem Mine.step_pour {P : Program} {ops : Array Oper} {o : Oper} {a : Act} {Q : Exit → Act → World → Prop} {b w : World} {rs : List Res} {K : Act → World → Prop} {E : Prop} (M : Mine b w rs) (hgd : o.guard = none) (s x : Operand) (t : TypeId) (ho : o.op = .call { callee:=.builtin .append,args:=#[s,x],argTypes:=#[t,t] })
  (e : TypeId) (z : Value) (size bytes : Nat) (ht : P.underlying t = some (.slice e)) (hf : (P.info? e).map (fun i => (i.zero,i.size,i.bytes)) = some (some z,size,bytes)) (hzs : z.cells.size = size) (hsz : 0 < size)
  (i : Nat) {A0 : Option Addr} {n0 c0 : Nat} {xs : List Value} (hi : rs[i]? = some (.row e size A0 n0 c0 xs)) (hs : a.eval s = .slice A0 n0 c0)
  (S : Nat → Prop) (A : Option Addr) (m c : Nat) (news : List Value) (hx : a.eval x = .slice A m c) (hr : Sl w S size A m news) (h1 : ∀ u ∈ news,u.oneCell' = true)
  (hbytes : (n0 + m) * bytes ≤ 140737488355328) (h63 : n0 + m ≤ maxLen)
  (h : ∀ A' c' w',Mine b w' (rs.set i (.row e size A' (n0 + m) c' (xs ++ news))) → K (a.put o.dst (.slice A' (n0 + m) c')) w') :
  if Region.wanted o (yielded ops a.tmps) = true then Oper.wp P o a w K Q else E:=by
 have hw : Region.wanted o (yielded ops a.tmps) = true:=by simp [Region.wanted,hgd]
 rw [if_pos hw]
 obtain ⟨i0,hf,hz0,hz1,hz2⟩:=info_parts hf
 obtain ⟨v',w',hrun,h2,h3,h5⟩:=run_pour (P:=P) w b.heap.size t o.type e i0 z size bytes ht hf hz0 hz1 hz2 hzs hsz (.slice A0 n0 c0) n0 xs (M.row_at i hi) S A m c news hr h1 h63 hbytes M.size
 obtain ⟨A',c',rfl⟩ : ∃ A' c',v' = .slice A' (n0 + m) c':=by
  rcases h2.2 with ⟨hv,h0⟩|⟨g,cap,cur,hv,_⟩
  ·exact ⟨none,0,by rw [hv,h0]⟩
  ·exact ⟨_,_,hv⟩
 unfold Oper.wp execOp
 simp [ho,resolve,invoke,builtin,hs,hx,hrun,Result.andThen]
 refine h A' c' w' (M.swap hi ((Chg.refl _ w).grown h3 (fun k hk => .inl hk)) (fun g hg => hg) h2 fun g hg => ?_)
 rcases h5 with q|q
 ·exact .inl (by show (Value.slice A0 n0 c0).ownBlock = some g;rw [← q];exact hg)
 ·right
  have hg' : (Value.slice A' (n0 + m) c').ownBlock = some g:=hg
  rw [q] at hg'
  injection hg' with hg'
  omega
theorem Mine.region_headS {P : Program} {b w : World} {rs rs1 : List Res} {Q : Exit → Act → World → Prop} {l : List Oper} {a : Act} {id : Nat} (MT : Mine b w rs1) (M : Mine b w rs) (n : Nat) (hm : P.follows .mixedOrders = true) (hB : headB .any l n = true)
  (h : ∀ w',Mine b w' rs → HQ P .any l Q (fun w' => Mine b w' rs1) n n (Array.replicate l.toArray.size false) a w') : (Code.region id l.toArray true).wp P Q a w:=YtpmfhfpjiebcjaaGreat.region_head n _ hm hB MT.dr (h _ M.dr)
/-- A struct in a box is written,a step of a region. -/
theorem Mine.step_sets {P : Program} {ops : Array Oper} {o : Oper} {a : Act} {Q : Exit → Act → World → Prop} {b w : World} {rs : List Res} {K : Act → World → Prop} {E : Prop} (M : Mine b w rs) (hgd : o.guard = none) (ty : TypeId) (x y : Operand) (ho : o.op = .store ty x y) (hd : o.dst = none) (i : Nat) (j : Nat) {g : Nat} {t : TypeId} {cs : List Value} (hi : rs[i]? = some (.box g t cs.toArray))
  (hx : a.eval x = .pointer (some ⟨g,j,none⟩)) (vs : List Value) (hy : a.eval y = .agg vs.toArray) (hj : j + vs.length ≤ cs.length) (h1 : ∀ u ∈ vs,u.oneCell' = true) (hu : (P.info? ty).map (·.size) = some vs.length)
  (h : ∀ w',Mine b w' (rs.set i (.box g t (putAt cs j vs).toArray)) → K a w') : if Region.wanted o (yielded ops a.tmps) = true then Oper.wp P o a w K Q else E:=by
 have hw : Region.wanted o (yielded ops a.tmps) = true:=by simp [Region.wanted,hgd]
 rw [if_pos hw]
 refine wp_store_mid ty x y ho g j vs.toArray hx hy (there_box (M.box_at i hi) (by simpa using hj)) (by simpa using hu) (all_oneCell_toArray h1) ?_
 rw [hd]
 refine h _ ?_
 have k : Chg (fun k => k = g) w (w.setCells g j vs.toArray.toList):=Chg.cells (S:=fun k => k = g) rfl _ _ (Chg.refl _ w)
 exact M.swap hi k (fun k hk => by rw [hk];rfl) ⟨M.box_le i hi,Bx.cells vs cs j (M.box_at i hi)⟩ (fun k hk => .inl hk)
theorem Mine.wp_getgc {P : Program} {ops : Array Oper} {rest : List Oper} {o : Oper} {a : Act} {Q : Exit → Act → World → Prop} {b w : World} {rs : List Res} (M : Mine b w rs) (hw : Region.wanted o (yielded ops a.tmps) = true) (ty : TypeId) (x : Operand) (ho : o.op = .load ty x) (p : Addr) (v : Value) (hc : b.cell? p = some v ∧ p.block < b.heap.size) (hx : a.eval x = .pointer (some p))
  (d : TypeDesc) (hu : P.underlying ty = some d) (hd : d.isRow = false) (h : wpList P ops Q rest (a.put o.dst v) w) : wpList P ops Q (o::rest) a w :=
 wpList_load_cellg hw ty x ho p hx v ((M.ext.cell hc.2).trans hc.1) d hu hd h

theorem Tryz.infoWord : (Tryz.prog.info? 102).map (fun i => (i.zero,i.size,i.bytes)) = some (some (.agg #[.int .i64 0,.int .i64 0,.int .i64 0]),3,24):=by kernel_rfl
theorem Tryz.infoWrote : (Tryz.prog.info? 53).map (fun i => (i.zero,i.size,i.bytes)) = some (some (.agg #[.int .i64 0,.int .i64 0,.slice none 0 0]),3,40):=by kernel_rfl
/-- A cell read from a slice of the caller's. -/
theorem word_at {w : World} {S : Nat → Prop} {b o n i : Nat} {xs : List Word} (h : Sl w S 3 (some ⟨b,o,none⟩) n (xs.flatMap Word.cells)) {x : Word} (hx : xs[i]? = some x) (hi : i < n) (f : Nat) (hf : f < 3) : w.cell? ⟨b,o + i * 3 + f,none⟩ = x.cells[f]? ∧ b < w.heap.size:=by
 obtain ⟨y,hy,hb,hc⟩:=h.flat_cell (k:=i) Word.cells_length (by omega) hi
 rw [hx] at hy
 injection hy with hy
 subst hy
 exact ⟨hc f hf,hb⟩
theorem word_one (l : List Word) : ∀ u ∈ l.flatMap Word.cells,u.oneCell' = true:=by
 intro u hu
 obtain ⟨x,_,hx⟩:=List.mem_flatMap.1 hu
 simp [Word.cells] at hx
 rcases hx with h|h|h <;> subst h <;> rfl
theorem row_one (l : List Row) : ∀ u ∈ l.flatMap Row.cells,u.oneCell' = true:=by
 intro u hu
 obtain ⟨x,_,hx⟩:=List.mem_flatMap.1 hu
 simp [Row.cells] at hx
 rcases hx with h|h <;> subst h <;> rfl
theorem memOk_len {m : Mem} (h : memOk m = true) : m.cells_.length = 8:=(dec_true h).2.1
noncomputable def lockC (l : List Word) (i : Nat) (x : Word) (who : Int) : List Word:=if dec (x.owner_ = 0) = true then l.set i ⟨x.val_,x.ver_,who⟩ else l
noncomputable def storeC (l : List Word) (i : Nat) (x : Word) (who v : Int) : List Word:=if dec (x.owner_ = who) = true then l.set i ⟨v,x.ver_,x.owner_⟩ else l
noncomputable def unlockC (k : Int) (l : List Word) (i : Nat) (x : Word) (who ver : Int) : List Word:=if dec (x.owner_ = who ∧ (x.ver_ ≤ ver ∧ ver ≤ k)) = true then l.set i ⟨x.val_,ver,0⟩ else l
noncomputable def tickK (k : Int) : Int:=if dec (k = 1000000) = true then k else k + 1
noncomputable def tickV (k : Int) : Int:=if dec (k = 1000000) = true then 0 else k + 1
theorem lockC_len (l : List Word) (i : Nat) (x : Word) (who : Int) : (lockC l i x who).length = l.length:=by unfold lockC;split <;> simp
theorem storeC_len (l : List Word) (i : Nat) (x : Word) (who v : Int) : (storeC l i x who v).length = l.length:=by unfold storeC;split <;> simp
theorem unlockC_len (k : Int) (l : List Word) (i : Nat) (x : Word) (who ver : Int) : (unlockC k l i x who ver).length = l.length:=by unfold unlockC;split <;> simp

theorem isOwner_any (x : Int) (w : World) :
  Calls Tryz.prog 105 #[.int .i64 x] w fun e w' => e = .returned (.bool (decide (1 ≤ x ∧ x ≤ 99))) ∧ w = w':=by
 go_enter Tryz.func105,Tryz.ntmps105
 go_wp2_with (go_at_call 35;refine (within_any _ _ _ _).mono ?_;rintro e w' ⟨rfl,rfl⟩)
 go_ret
 simp
theorem icell_is {x : Int} {v : Bool} (h : decide (0 ≤ x ∧ x ≤ 7) = v) (w : World) : Calls Tryz.prog 84 #[.int .i64 x] w fun e w' => e = .returned (.bool v) ∧ w = w':=h ▸ isCell_any x w
theorem scell_is {x : Int} {v : Bool} (h : decide (0 ≤ x ∧ x ≤ 7) = v) (w : World) : Calls Tryz.prog 57 #[.int .i64 x] w fun e w' => e = .returned (.bool v) ∧ w = w':=h ▸ l3Cell_any x w
theorem iown_is {x : Int} {v : Bool} (h : decide (1 ≤ x ∧ x ≤ 99) = v) (w : World) : Calls Tryz.prog 105 #[.int .i64 x] w fun e w' => e = .returned (.bool v) ∧ w = w':=h ▸ isOwner_any x w
theorem ival_is {x : Int} {v : Bool} (h : decide (0 ≤ x ∧ x ≤ 65535) = v) (w : World) : Calls Tryz.prog 104 #[.int .i64 x] w fun e w' => e = .returned (.bool v) ∧ w = w':=h ▸ isValue_any x w
theorem with_is {x lo hi : Int} {v : Bool} (h : decide (lo ≤ x ∧ x ≤ hi) = v) (w : World) : Calls Tryz.prog 35 #[.int .i64 x,.int .i64 lo,.int .i64 hi] w fun e w' => e = .returned (.bool v) ∧ w = w':=h ▸ within_any x lo hi w
theorem in_is {x lo hi : Int} {v : Bool} (h : decide (lo ≤ x ∧ x ≤ hi) = v) (w : World) : Calls Tryz.prog 30 #[.int .i64 x,.int .i64 lo,.int .i64 hi] w fun e w' => e = .returned (.bool v) ∧ w = w':=h ▸ l1In_any x lo hi w

set_option maxRecDepth 4000 in
set_option maxHeartbeats 4000000 in
theorem impl_copyMem_m (k : Int) (A : Option Addr) (n c : Nat) (xs : List Word) (w : World) (S : Nat → Prop) (hs : Sl w S 3 A n (xs.flatMap Word.cells)) (hn : n ≤ 1048576) :
  Calls Tryz.prog 129 #[.agg #[.int .i64 k,.slice A n c]] w fun e w' => ∃ B d,e = .returned (.agg #[.int .i64 k,.slice B n d]) ∧ Mine w w' [.row 102 3 B n d (xs.flatMap Word.cells)]:=by
 have HS:=Lib.hid hs
 clear hs
 have M:=Lib.hid (Mine.refl w)
 go_enter Tryz.func129,Tryz.ntmps129
 go_wp2_with (((with_reducible show wpList _ _ _ (⟨_,_,_,_,_,none⟩::_) _ _);first|(refine Mine.wp_box M.out rfl 27 _ rfl _ rfl ?_;intro ga w' M';(try simp only [zr_,zm_] at M');replace M:=Lib.hid M';clear M';(try simp only [zr_,zm_]))|(refine Mine.wp_alloc M.out rfl 27 rfl (.agg #[.int .i64 0,.slice none 0 0]) (by kernel_rfl) ?_;intro gr w' M';(try simp only [Value.cells,zr_,zm_] at M');replace M:=Lib.hid M';clear M';(try simp only [zr_,zm_]))))
 refine Mine.region_head M.out 6 (by kernel_rfl) (by kernel_rfl) ?_
 intro w' M'
 replace M:=Lib.hid M'
 clear M'
 refine zXT 0 ?_;(try simp only [zs_,zl_])
 refine zT 1 ?_;intro K hK;((refine zD 1 ?_;(try simp only [zr_,zm_]);go_big_quiet_on))
 refine zXT 2 ?_;(try simp only [zs_,zl_])
 refine zT 3 ?_;intro K hK;((refine zD 1 ?_;(try simp only [zr_,zm_]);go_big_quiet_on))
 refine HQ.noisy (rs:=[4]) (by kernel_rfl) (by simp) (AllG.cons rfl (Nat.le_of_ble_eq_true rfl) (fun K hK => ?_) AllG.nil)
 skip
 have M5:=M.out.nil 102 3
 rw [show ([] : List Value) = ([] : List Word).flatMap Word.cells from rfl] at M5
 replace M:=Lib.hid M5
 clear M5
 refine Mine.step_pour M.out rfl _ _ 25 rfl 102 _ _ _ Tryz.underlying25 Tryz.infoWord rfl (by omega) 0 rfl rfl _ A n c _ rfl (HS.out.ext M.out.ext) (word_one xs) (by omega) (by unfold maxLen;omega) ?_
 intro A2 c2 w' M'
 simp only [zr_,zm_,List.flatMap_nil,List.nil_append,Nat.zero_add] at M' ⊢
 replace M:=Lib.hid M'
 clear M'
 refine hK.out _ _ (M.out.tail) ?_
 clear hK K
 (try simp only [zs_,zl_])
 refine zXL 5 ?_;(try simp only [zs_,zl_])
 refine HQ.end_ (by kernel_rfl) ?_
 simp only [List.drop_succ_cons,List.drop_zero]
 go_wp2_with (((with_reducible show wpList _ _ _ (⟨_,_,_,_,_,none⟩::_) _ _);first|(refine zSs M.out 27 1 ?_;intro w' M';(try simp only [zr_,zm_] at M');replace M:=Lib.hid M';clear M')))
 refine bodyPost_ret (M.out.results_cell Tryz.results129 _ 1 rfl rfl _ Tryz.underlying27 (by rfl) (by kernel_rfl)) rfl ?_
 exact ⟨_,_,rfl,M.out.sub (sk_ (sd_ (sd_ s0_)))⟩
end Go.Proofs.YtpmfhfpjiebcjaaGreat
namespace Go.Proofs.YtpmfhfpjiebcjaaGreat
open Go.RowKit Go.Deep
set_option linter.unnecessarySimpa false
set_option linter.unusedSimpArgs false
set_option linter.unusedVariables false

theorem jobs_inN {b w : World} {C R N gj : Res} {E : GEnt} {es : List GEnt} {A2 : Option Addr} {n2 c2 : Nat} {xs : List Value} {fr : List Res} (hx : xs = es.flatMap gcell ++ gcell E) (h1 : grows E = [R,N]) (M : Mine b w (C::R::N::gj::.row 72 2 A2 n2 c2 xs::(es.flatMap grows ++ fr))) : Mine b w (C::.row 72 2 A2 n2 c2 ((es ++ [E]).flatMap gcell)::((es ++ [E]).flatMap grows ++ fr)):=by
 have e : [E].flatMap grows = [R,N]:=by simp [h1]
 have e2 : [E].flatMap gcell = gcell E:=by simp
 rw [List.flatMap_append,List.flatMap_append,e,e2,← hx]
 have M1:=M.sub (sk_ (sk_ (sk_ (sd_ s1_))))
 refine M1.perm ?_
 generalize Res.row _ _ A2 n2 c2 xs = J
 have p1 : (C::R::N::J::(es.flatMap grows ++ fr)).Perm (C::J::([R,N] ++ (es.flatMap grows ++ fr))):=List.Perm.cons _ (List.perm_middle (l₁:=[R,N]))
 refine p1.trans (List.Perm.cons _ (List.Perm.cons _ ?_))
 rw [← List.append_assoc]
 exact (List.perm_append_comm (l₁:=[R,N])).append_right fr
theorem jobs_inP {b w : World} {C P R N gj : Res} {E : GEnt} {es : List GEnt} {A2 : Option Addr} {n2 c2 : Nat} {xs : List Value} {fr : List Res} (hx : xs = es.flatMap gcell ++ gcell E) (h1 : grows E = [R,P]) (M : Mine b w (C::P::R::N::gj::.row 72 2 A2 n2 c2 xs::(es.flatMap grows ++ fr))) : Mine b w (C::.row 72 2 A2 n2 c2 ((es ++ [E]).flatMap gcell)::((es ++ [E]).flatMap grows ++ fr)):=by
 refine jobs_inN hx h1 (N:=P) (gj:=gj) ?_
 have M1:=M.sub (sk_ (sk_ (sk_ (sd_ s1_))))
 exact M1.perm (List.Perm.cons _ (List.Perm.swap _ _ _))

set_option maxRecDepth 8000 in
set_option maxHeartbeats 8000000 in
theorem l12Jobs_m {b w : World} {g : Nat} {A : Option Addr} {n c : Nat} {bs : List UInt8} {fr : List Res} (C0 : CurM b w g A n c bs fr) (hn : n ≤ 1048576) :
  Calls Tryz.prog 50 #[.pointer (some ⟨g,0,none⟩)] w fun e w' => ∃ (B : Option Addr) (m d : Nat) (es : List GEnt),e = .returned (.slice B m d) ∧ (1 ≤ m ∧ m ≤ 4) ∧ (∀ e ∈ es,e.j.reads_.length ≤ 100 ∧ e.j.puts_.length ≤ 100) ∧ CurM b w' g A n c bs (.row 72 2 B m d (es.flatMap gcell)::(es.flatMap grows ++ fr)):=by
 have C:=Lib.hid (C0.row ((Ext.refl' _).al _) (own_emptyG w))
 clear C0
 go_enter Tryz.func50,Tryz.ntmps50
 go_wp2_with fail
 refine (below_m C.out hn 4 (by omega)).mono ?_
 rintro e w9 ⟨⟨x0,rfl,hx0⟩,C1⟩
 replace C:=Lib.hid C1
 clear C1
 obtain ⟨N,hN⟩ : ∃ N : Nat,1 + x0 = (N : Int):=⟨(1 + x0).toNat,by omega⟩
 have hN4 : 1 ≤ N ∧ N ≤ 4:=by omega
 have hx4 : 0 ≤ x0 ∧ x0 ≤ 3:=by omega
 have HN:=Lib.hid hN
 clear hx0 hN
 go_wp2
 go_loopw [3,4] (fun u i wr => ∃ (m q d : Nat) (B : Option Addr) (es : List GEnt),m + q = N ∧ u = .slice B m d ∧ i = .int .i64 q ∧ (∀ e ∈ es,e.j.reads_.length ≤ 100 ∧ e.j.puts_.length ≤ 100) ∧ Hid (CurM b wr g A n c bs (.row 72 2 B m d (es.flatMap gcell)::(es.flatMap grows ++ fr)))) (fun _ i _ => (intOf i).toNat)
 case atStart => exact ⟨0,N,_,_,[],by omega,rfl,by rw [HN.out],fun _ h => by (cases h),C⟩
 case round =>
  clear C
  obtain ⟨m,q,d,B,es,hmq,rfl,rfl,hes,C⟩:=hrel
  have HES:=Lib.hid hes
  have HMQ:=Lib.hid hmq
  have hm4 : m ≤ 4:=by omega
  have hq4 : q ≤ 4:=by omega
  clear hes
  by_cases hlt : (0 : Int) < (q : Int)
  rotate_left
  ·skip
   have hm1 : Hid (1 ≤ m ∧ m ≤ 4):=by show _ ∧ _;omega
   clear hmq
   go_wp2
   go_ret
   first|exact ⟨_,_,_,es,rfl,hm1.out,HES.out,C.out⟩|exact ⟨_,_,_,rfl,es,hm1.out,HES.out,C.out⟩|exact ⟨_,_,_,rfl,hm1.out,es,HES.out,C.out⟩
  clear hmq
  have HLT : Hid (0 < q):=by show _ < _;omega
  obtain ⟨i9,q9,hi9,M9⟩:=C.out.op
  have M:=Lib.hid M9
  clear M9
  go_wp2_with (first|((with_reducible show wpList _ _ _ (⟨_,_,_,_,_,none⟩::_) _ _);first|(refine Mine.wp_alloc M.out rfl 72 rfl (.agg #[.slice none 0 0,.slice none 0 0]) (by kernel_rfl) ?_;intro gj w' M';(try simp only [Value.cells,zr_,zm_] at M');replace M:=Lib.hid M';clear M';(try simp only [zr_,zm_]))|(refine zSs M.out 72 0 ?_;intro w' M';(try simp only [zr_,zm_] at M');replace M:=Lib.hid M';clear M')))
  have M9:=(M.out.nil 97 2).nil 3 1
  replace C:=Lib.hid (C.out.cl hi9 (M9.perm (List.perm_middle (l₁:=[_,_,_]))))
  clear M M9 hi9
  simp only [List.cons_append,List.nil_append] at C
  go_wp2_with fail
  refine (below_m C.out hn 4 (by omega)).mono ?_
  rintro e w9 ⟨⟨x1,rfl,hx1⟩,C1⟩
  replace C:=Lib.hid C1
  clear C1
  obtain ⟨N1,rfl⟩ : ∃ N : Nat,x1 = (N : Int):=⟨x1.toNat,by omega⟩
  have hN1 : N1 ≤ 3:=by omega
  clear hx1
  go_wp2
  go_loopw [6] (fun i wr => ∃ (p q1 d1 : Nat) (B1 : Option Addr) (zs : List Int),p + q1 = N1 ∧ i = .int .i64 q1 ∧ Hid (CurM b wr g A n c bs (.row 3 1 B1 p d1 (ints zs)::.row 97 2 none 0 0 []::.box gj 72 #[.slice B1 p d1,.slice none 0 0]::.row 72 2 B m d (es.flatMap gcell)::(es.flatMap grows ++ fr)))) (fun i _ => (intOf i).toNat)
  case atStart => exact ⟨0,N1,_,_,[],by omega,rfl,C⟩
  case round =>
   clear C
   obtain ⟨p,q1,d1,B1,zs,hpq,rfl,C⟩:=hrel
   have HPQ:=Lib.hid hpq
   have hp3 : p ≤ 3:=by omega
   have hq3 : q1 ≤ 3:=by omega
   clear hpq
   by_cases hlt1 : (0 : Int) < (q1 : Int)
   rotate_left
   ·skip
    go_wp2_with fail
    refine (once_m C.out hn 4 (by omega)).mono ?_
    rintro e w9 ⟨⟨x,rfl⟩,C1⟩
    replace C:=Lib.hid C1
    clear C1
    cases x
    ·skip
     go_wp2_with fail
     refine (l8Rows_m C.out hn 3 (by omega)).mono ?_
     rintro e w9 ⟨Bp,mp,dp,rs,rfl,hrs,C1⟩
     replace C:=Lib.hid C1
     clear C1
     obtain ⟨i9,q9,hi9,M9⟩:=C.out.op
     have M:=Lib.hid M9
     clear M9
     go_wp2_with (first|(at_builtin;refine Mine.wp_push M.out rfl _ _ 34 rfl 72 _ _ _ Tryz.underlying34 Tryz.infoJob2 rfl (by omega) 5 rfl rfl _ _ rfl rfl rfl (by simp [Value.oneCell']) (by omega) (by unfold maxLen;omega) ?_;intro A2 c2 w' M';(try simp only [zr_,zm_] at M');replace M:=Lib.hid M';clear M')|((with_reducible show wpList _ _ _ (⟨_,_,_,_,_,none⟩::_) _ _);first|(refine zS M.out 4 ?_;intro w' M';(try simp only [zr_,zm_] at M');replace M:=Lib.hid M';clear M')|(refine zGs M.out 72 4 2 ?_;(try simp only [zr_,zm_]))))
     have M8:=jobs_inP (E:=⟨(B1,p,d1),(Bp,mp,dp),⟨zs,rs⟩⟩) rfl rfl M.out
     have hzl : zs.length ≤ 100:=by have h:=M.out.len1 2 rfl;rw [ints_length] at h;omega
     have hrl : rs.length ≤ 100:=by have h:=M.out.len 1 rfl;rw [flat_length Row.cells_length] at h;omega
     have HZL:=Lib.hid hzl
     clear hzl
     have HRL:=Lib.hid hrl
     clear hrl
     have q0:=HLT.out
     go_roundw
     case rel =>
      refine ⟨m + 1,q - 1,_,_,es ++ [⟨(B1,p,d1),(Bp,mp,dp),⟨zs,rs⟩⟩],by have:=HMQ.out;omega,rfl,by go_num,fun e he => ?_,Lib.hid (C.out.cl hi9 M8)⟩
      rcases List.mem_append.1 he with he|he
      ·exact HES.out e he
      ·rw [List.mem_singleton] at he;subst he;exact ⟨HZL.out,HRL.out⟩
     case measure => simp [intOf];omega
    ·skip
     obtain ⟨i9,q9,hi9,M9⟩:=C.out.op
     have M:=Lib.hid M9
     clear M9
     go_wp2_with (first|(at_builtin;refine Mine.wp_push M.out rfl _ _ 34 rfl 72 _ _ _ Tryz.underlying34 Tryz.infoJob2 rfl (by omega) 4 rfl rfl _ _ rfl rfl rfl (by simp [Value.oneCell']) (by omega) (by unfold maxLen;omega) ?_;intro A2 c2 w' M';(try simp only [zr_,zm_] at M');replace M:=Lib.hid M';clear M')|((with_reducible show wpList _ _ _ (⟨_,_,_,_,_,none⟩::_) _ _);first|(refine zGs M.out 72 3 2 ?_;(try simp only [zr_,zm_]))))
     have M8:=jobs_inN (E:=⟨(B1,p,d1),(none,0,0),⟨zs,[]⟩⟩) rfl rfl M.out
     have hzl : zs.length ≤ 100:=by have h:=M.out.len1 1 rfl;rw [ints_length] at h;omega
     have HZL:=Lib.hid hzl
     clear hzl
     have q0:=HLT.out
     go_roundw
     case rel =>
      refine ⟨m + 1,q - 1,_,_,es ++ [⟨(B1,p,d1),(none,0,0),⟨zs,[]⟩⟩],by have:=HMQ.out;omega,rfl,by go_num,fun e he => ?_,Lib.hid (C.out.cl hi9 M8)⟩
      rcases List.mem_append.1 he with he|he
      ·exact HES.out e he
      ·rw [List.mem_singleton] at he;subst he;exact ⟨HZL.out,by simp⟩
     case measure => simp [intOf];omega
   have HL1 : Hid (0 < q1):=by show _ < _;omega
   obtain ⟨i9,q9,hi9,M9⟩:=C.out.op
   have M:=Lib.hid M9
   clear M9
   go_wp2_with fail
   have MT:=Lib.hid (M.out.sub (sd_ (sd_ (sd_ (sk_ s0_)))))
   refine Mine.region_headS MT.out M.out 6 (by kernel_rfl) (by kernel_rfl) ?_
   intro w' M'
   replace M:=Lib.hid M'
   clear M'
   clear MT
   refine zT 0 ?_;intro K hK;(first|(refine zD 0 ?_;(try simp only [zr_,zm_]);go_big_quiet_on)|(refine zX ?_;(try simp only [zs_,zl_]);go_big_quiet_on))
   refine zT 1 ?_;intro K hK;(first|(refine zD 0 ?_;(try simp only [zr_,zm_]);go_big_quiet_on)|(refine zX ?_;(try simp only [zs_,zl_]);go_big_quiet_on))
   refine zT 2 ?_;intro K hK;(first|(refine zD 0 ?_;(try simp only [zr_,zm_]);go_big_quiet_on)|(refine zX ?_;(try simp only [zs_,zl_]);go_big_quiet_on))
   refine HQ.noisy (rs:=[3]) (by kernel_rfl) (by simp) (AllG.cons rfl (Nat.le_of_ble_eq_true rfl) (fun K hK => ?_) AllG.nil)
   have C4:=C.out.cl hi9 M.out
   go_simp
   go_at_call 100
   refine (l4DrawCell_m C4 hn).mono ?_
   rintro e w9 ⟨⟨x2,rfl⟩,C1⟩
   clear C4
   replace C:=Lib.hid C1
   clear C1 M hi9
   obtain ⟨i9,q9,hi9,M9⟩:=C.out.op
   have M:=Lib.hid M9
   clear M9
   refine hK.out _ _ (M.out.sub (sd_ (sd_ (sd_ (sk_ s0_))))) ?_
   clear hK K
   (try simp only [zs_,zl_])
   refine HQ.noisy (rs:=[4]) (by kernel_rfl) (by simp) (AllG.cons rfl (Nat.le_of_ble_eq_true rfl) (fun K hK => ?_) AllG.nil)
   go_simp
   refine hK.out _ _ ((M.out.sub (sd_ (sd_ (sd_ (sk_ s0_))))).al _) ?_
   clear hK K
   (try simp only [zs_,zl_])
   refine HQ.noisy (rs:=[5]) (by kernel_rfl) (by simp) (AllG.cons rfl (Nat.le_of_ble_eq_true rfl) (fun K hK => ?_) AllG.nil)
   refine Mine.step_push M.out (by rfl) _ _ _ (by rfl) 3 _ _ _ Tryz.underlying22 Tryz.infoInt rfl (by omega) 1 (by rfl) (by rfl) [.int .i64 x2] _ (by rfl) (by rfl) (by rfl) (by simp [Value.oneCell']) (by omega) (by unfold maxLen;omega) ?_
   intro A2 c2 w' M'
   simp only [zr_,zm_] at M'
   replace M:=Lib.hid M'
   clear M'
   refine hK.out _ _ (M.out.sub (sd_ (sd_ (sd_ (sk_ s0_))))) ?_
   clear hK K
   (try simp only [zs_,zl_])
   refine HQ.end_ (by kernel_rfl) ?_
   simp only [List.drop_succ_cons,List.drop_zero]
   go_wp2_with (first|((with_reducible show wpList _ _ _ (⟨_,_,_,_,_,none⟩::_) _ _);first|(refine zS M.out 3 ?_;intro w' M';(try simp only [zr_,zm_] at M');replace M:=Lib.hid M';clear M')))
   have q0:=HL1.out
   go_roundw
   case rel => exact ⟨p + 1,q1 - 1,_,_,zs ++ [x2],by have:=HPQ.out;omega,by go_num,Lib.hid (C.out.cl hi9 M.out)⟩
   case measure => simp [intOf];omega

end Go.Proofs.YtpmfhfpjiebcjaaGreat
namespace Go.Proofs.YtpmfhfpjiebcjaaGreat
open Go.Shelf
set_option linter.unnecessarySimpa false
def Tryz.sortEnt_ren : Go.Shelf.Ren:=⟨fun|6 => 109|15 => 146|14 => 145|28 => 161|29 => 162|20 => 153|21 => 154|22 => 155|23 => 156|24 => 157|25 => 158|26 => 159|27 => 160|46 => 163|47 => 164|48 => 165|49 => 166|50 => 167|57 => 168|n => n,fun|22 => 29|24 => 53|25 => 130|3 => 3|39 => 151|0 => 0|53 => 169|55 => 171|4 => 4|46 => 163|45 => 162|50 => 155|5 => 5|9 => 9|66 => 172|70 => 176|76 => 178|77 => 179|n => n,fun|n => n⟩
theorem Tryz.sortEnt : Go.Proofs.SlLaysF0.n6 Tryz.prog Tryz.sortEnt_ren:={
 mixed:=by kernel_rfl
 f6:=⟨Tryz.f109.name,by decide,Tryz.func109.trans (congrArg some (by kernel_rfl))⟩
 f14:=⟨Tryz.f145.name,by decide,Tryz.func145.trans (congrArg some (by kernel_rfl))⟩
 f15:=Tryz.func146.trans (congrArg some (by kernel_rfl))
 f20:=⟨Tryz.f153.name,by decide,Tryz.func153.trans (congrArg some (by kernel_rfl))⟩
 f21:=⟨Tryz.f154.name,by decide,Tryz.func154.trans (congrArg some (by kernel_rfl))⟩
 f22:=⟨Tryz.f155.name,by decide,Tryz.func155.trans (congrArg some (by kernel_rfl))⟩
 f23:=⟨Tryz.f156.name,by decide,Tryz.func156.trans (congrArg some (by kernel_rfl))⟩
 f24:=⟨Tryz.f157.name,by decide,Tryz.func157.trans (congrArg some (by kernel_rfl))⟩
 f25:=⟨Tryz.f158.name,by decide,Tryz.func158.trans (congrArg some (by kernel_rfl))⟩
 f26:=⟨Tryz.f159.name,by decide,Tryz.func159.trans (congrArg some (by kernel_rfl))⟩
 f27:=⟨Tryz.f160.name,by decide,Tryz.func160.trans (congrArg some (by kernel_rfl))⟩
 f28:=Tryz.func161.trans (congrArg some (by kernel_rfl))
 f29:=Tryz.func162.trans (congrArg some (by kernel_rfl))
 f46:=⟨Tryz.f163.name,by decide,Tryz.func163.trans (congrArg some (by kernel_rfl))⟩
 f47:=Tryz.func164.trans (congrArg some (by kernel_rfl))
 f48:=Tryz.func165.trans (congrArg some (by kernel_rfl))
 f49:=⟨Tryz.f166.name,by decide,Tryz.func166.trans (congrArg some (by kernel_rfl))⟩
 f50:=⟨Tryz.f167.name,by decide,Tryz.func167.trans (congrArg some (by kernel_rfl))⟩
 f57:=⟨Tryz.f168.name,by decide,Tryz.func168.trans (congrArg some (by kernel_rfl))⟩
 t0:=Tryz.underlying0
 a0:=Tryz.isAgg0
 z0:=Tryz.sizeOf0
 v0:=Tryz.zeroValue0
 t3:=Tryz.underlying3
 a3:=Tryz.isAgg3
 z3:=Tryz.sizeOf3
 v3:=Tryz.zeroValue3
 t4:=Tryz.underlying4
 a4:=Tryz.isAgg4
 z4:=Tryz.sizeOf4
 v4:=Tryz.zeroValue4
 t5:=Tryz.underlying5
 a5:=Tryz.isAgg5
 z5:=Tryz.sizeOf5
 v5:=Tryz.zeroValue5
 t9:=Tryz.underlying9
 a9:=Tryz.isAgg9
 z9:=Tryz.sizeOf9
 v9:=Tryz.zeroValue9
 t22:=Tryz.underlying29
 a22:=Tryz.isAgg29
 z22:=Tryz.sizeOf29
 v22:=Tryz.zeroValue29
 t25:=Tryz.underlying130
 a25:=Tryz.isAgg130
 z25:=Tryz.sizeOf130
 v25:=Tryz.zeroValue130
 t39:=Tryz.underlying151
 a39:=Tryz.isAgg151
 z39:=Tryz.sizeOf151
 v39:=Tryz.zeroValue151
 t45:=Tryz.underlying162
 a45:=Tryz.isAgg162
 z45:=Tryz.sizeOf162
 v45:=Tryz.zeroValue162
 t46:=Tryz.underlying163
 a46:=Tryz.isAgg163
 z46:=Tryz.sizeOf163
 v46:=Tryz.zeroValue163
 t50:=Tryz.underlying155
 a50:=Tryz.isAgg155
 z50:=Tryz.sizeOf155
 v50:=Tryz.zeroValue155
 t53:=Tryz.underlying169
 a53:=Tryz.isAgg169
 z53:=Tryz.sizeOf169
 v53:=Tryz.zeroValue169
 t55:=Tryz.underlying171
 a55:=Tryz.isAgg171
 z55:=Tryz.sizeOf171
 v55:=Tryz.zeroValue171
 t66:=Tryz.underlying172
 a66:=Tryz.isAgg172
 z66:=Tryz.sizeOf172
 v66:=Tryz.zeroValue172
 t70:=Tryz.underlying176
 a70:=Tryz.isAgg176
 z70:=Tryz.sizeOf176
 v70:=Tryz.zeroValue176
 t76:=Tryz.underlying178
 a76:=Tryz.isAgg178
 z76:=Tryz.sizeOf178
 v76:=Tryz.zeroValue178
 t77:=Tryz.underlying179
 a77:=Tryz.isAgg179
 z77:=Tryz.sizeOf179
 v77:=Tryz.zeroValue179 }
end Go.Proofs.YtpmfhfpjiebcjaaGreat
