/- Memories copied. No condition but lengths. RowsOk of program and reference. No condition but the length. -/
import Derived.Test.YtpmfhfpjiebcjaaGreatE00
import Derived.Test.YtpmfhfpjiebcjaaGreatE04
import Derived.Test.YtpmfhfpjiebcjaaGreatE01
import Derived.Test.YtpmfhfpjiebcjaaGreatE02
namespace Go.Proofs.YtpmfhfpjiebcjaaGreat
open Go.RowKit Go.Deep
set_option linter.unusedSimpArgs false
set_option linter.unusedVariables false
theorem Mine.wp_pour {P : Program} {ops : Array Oper} {rest : List Oper} {o : Oper} {a : Act} {Q : Exit → Act → World → Prop} {b w : World} {rs : List Res} (M : Mine b w rs) (hgd : o.guard = none) (s x : Operand) (t : TypeId) (ho : o.op = .call { callee:=.builtin .append,args:=#[s,x],argTypes:=#[t,t] })
  (e : TypeId) (z : Value) (size bytes : Nat) (ht : P.underlying t = some (.slice e)) (hf : (P.info? e).map (fun i => (i.zero,i.size,i.bytes)) = some (some z,size,bytes)) (hzs : z.cells.size = size) (hsz : 0 < size)
  (i : Nat) {A0 : Option Addr} {n0 c0 : Nat} {xs : List Value} (hi : rs[i]? = some (.row e size A0 n0 c0 xs)) (hs : a.eval s = .slice A0 n0 c0)
  (S : Nat → Prop) (A : Option Addr) (m c : Nat) (news : List Value) (hx : a.eval x = .slice A m c) (hr : Sl w S size A m news) (h1 : ∀ u ∈ news,u.oneCell' = true)
  (hbytes : (n0 + m) * bytes ≤ 140737488355328) (h63 : n0 + m ≤ maxLen)
  (h : ∀ A' c' w',Mine b w' (rs.set i (.row e size A' (n0 + m) c' (xs ++ news))) → wpList P ops Q rest (a.put o.dst (.slice A' (n0 + m) c')) w') : wpList P ops Q (o::rest) a w :=
 wpList_plain hgd fun _ hK => by
 obtain ⟨i0,hf,hz0,hz1,hz2⟩:=info_parts hf
 obtain ⟨v',w',hrun,h2,h3,h5⟩:=run_pour (P:=P) w b.heap.size t o.type e i0 z size bytes ht hf hz0 hz1 hz2 hzs hsz (.slice A0 n0 c0) n0 xs (M.row_at i hi) S A m c news hr h1 h63 hbytes M.size
 obtain ⟨A',c',rfl⟩ : ∃ A' c',v' = .slice A' (n0 + m) c':=by
  rcases h2.2 with ⟨hv,h0⟩|⟨g,cap,cur,hv,_⟩
  ·exact ⟨none,0,by rw [hv,h0]⟩
  ·exact ⟨_,_,hv⟩
 unfold Oper.wp execOp
 simp [ho,resolve,invoke,builtin,hs,hx,hrun,Result.andThen]
 refine hK _ _ (h A' c' w' (M.swap hi ((Chg.refl _ w).grown h3 (fun k hk => .inl hk)) (fun g hg => hg) h2 fun g hg => ?_))
 rcases h5 with q|q
 ·exact .inl (by show (Value.slice A0 n0 c0).ownBlock = some g;rw [← q];exact hg)
 ·right
  have hg' : (Value.slice A' (n0 + m) c').ownBlock = some g:=hg
  rw [q] at hg'
  injection hg' with hg'
  omega

theorem Mine.step_pour {P : Program} {ops : Array Oper} {o : Oper} {a : Act} {Q : Exit → Act → World → Prop} {b w : World} {rs : List Res} {K : Act → World → Prop} {E : Prop} (M : Mine b w rs) (hgd : o.guard = none) (s x : Operand) (t : TypeId) (ho : o.op = .call { callee:=.builtin .append,args:=#[s,x],argTypes:=#[t,t] })
  (e : TypeId) (z : Value) (size bytes : Nat) (ht : P.underlying t = some (.slice e)) (hf : (P.info? e).map (fun i => (i.zero,i.size,i.bytes)) = some (some z,size,bytes)) (hzs : z.cells.size = size) (hsz : 0 < size)
  (i : Nat) {A0 : Option Addr} {n0 c0 : Nat} {xs : List Value} (hi : rs[i]? = some (.row e size A0 n0 c0 xs)) (hs : a.eval s = .slice A0 n0 c0)
  (S : Nat → Prop) (A : Option Addr) (m c : Nat) (news : List Value) (hx : a.eval x = .slice A m c) (hr : Sl w S size A m news) (h1 : ∀ u ∈ news,u.oneCell' = true)
  (hbytes : (n0 + m) * bytes ≤ 140737488355328) (h63 : n0 + m ≤ maxLen)
  (h : ∀ A' c' w',Mine b w' (rs.set i (.row e size A' (n0 + m) c' (xs ++ news))) → K (a.put o.dst (.slice A' (n0 + m) c')) w') :
  if Region.wanted o (yielded ops a.tmps) = true then Oper.wp P o a w K Q else E:=by
 have hw : Region.wanted o (yielded ops a.tmps) = true:=by simp [Region.wanted,hgd]
 rw [if_pos hw]
 obtain ⟨i0,hf,hz0,hz1,hz2⟩:=info_parts hf
 obtain ⟨v',w',hrun,h2,h3,h5⟩:=run_pour (P:=P) w b.heap.size t o.type e i0 z size bytes ht hf hz0 hz1 hz2 hzs hsz (.slice A0 n0 c0) n0 xs (M.row_at i hi) S A m c news hr h1 h63 hbytes M.size
 obtain ⟨A',c',rfl⟩ : ∃ A' c',v' = .slice A' (n0 + m) c':=by
  rcases h2.2 with ⟨hv,h0⟩|⟨g,cap,cur,hv,_⟩
  ·exact ⟨none,0,by rw [hv,h0]⟩
  ·exact ⟨_,_,hv⟩
 unfold Oper.wp execOp
 simp [ho,resolve,invoke,builtin,hs,hx,hrun,Result.andThen]
 refine h A' c' w' (M.swap hi ((Chg.refl _ w).grown h3 (fun k hk => .inl hk)) (fun g hg => hg) h2 fun g hg => ?_)
 rcases h5 with q|q
 ·exact .inl (by show (Value.slice A0 n0 c0).ownBlock = some g;rw [← q];exact hg)
 ·right
  have hg' : (Value.slice A' (n0 + m) c').ownBlock = some g:=hg
  rw [q] at hg'
  injection hg' with hg'
  omega
theorem Mine.region_headS {P : Program} {b w : World} {rs rs1 : List Res} {Q : Exit → Act → World → Prop} {l : List Oper} {a : Act} {id : Nat} (MT : Mine b w rs1) (M : Mine b w rs) (n : Nat) (hm : P.follows .mixedOrders = true) (hB : headB .any l n = true)
  (h : ∀ w',Mine b w' rs → HQ P .any l Q (fun w' => Mine b w' rs1) n n (Array.replicate l.toArray.size false) a w') : (Code.region id l.toArray true).wp P Q a w:=YtpmfhfpjiebcjaaGreat.region_head n _ hm hB MT.dr (h _ M.dr)
/-- A struct in a box is written,a step of a region. -/
theorem Mine.step_sets {P : Program} {ops : Array Oper} {o : Oper} {a : Act} {Q : Exit → Act → World → Prop} {b w : World} {rs : List Res} {K : Act → World → Prop} {E : Prop} (M : Mine b w rs) (hgd : o.guard = none) (ty : TypeId) (x y : Operand) (ho : o.op = .store ty x y) (hd : o.dst = none) (i : Nat) (j : Nat) {g : Nat} {t : TypeId} {cs : List Value} (hi : rs[i]? = some (.box g t cs.toArray))
  (hx : a.eval x = .pointer (some ⟨g,j,none⟩)) (vs : List Value) (hy : a.eval y = .agg vs.toArray) (hj : j + vs.length ≤ cs.length) (h1 : ∀ u ∈ vs,u.oneCell' = true) (hu : (P.info? ty).map (·.size) = some vs.length)
  (h : ∀ w',Mine b w' (rs.set i (.box g t (putAt cs j vs).toArray)) → K a w') : if Region.wanted o (yielded ops a.tmps) = true then Oper.wp P o a w K Q else E:=by
 have hw : Region.wanted o (yielded ops a.tmps) = true:=by simp [Region.wanted,hgd]
 rw [if_pos hw]
 refine wp_store_mid ty x y ho g j vs.toArray hx hy (there_box (M.box_at i hi) (by simpa using hj)) (by simpa using hu) (all_oneCell_toArray h1) ?_
 rw [hd]
 refine h _ ?_
 have k : Chg (fun k => k = g) w (w.setCells g j vs.toArray.toList):=Chg.cells (S:=fun k => k = g) rfl _ _ (Chg.refl _ w)
 exact M.swap hi k (fun k hk => by rw [hk];rfl) ⟨M.box_le i hi,Bx.cells vs cs j (M.box_at i hi)⟩ (fun k hk => .inl hk)
theorem Mine.wp_getgc {P : Program} {ops : Array Oper} {rest : List Oper} {o : Oper} {a : Act} {Q : Exit → Act → World → Prop} {b w : World} {rs : List Res} (M : Mine b w rs) (hw : Region.wanted o (yielded ops a.tmps) = true) (ty : TypeId) (x : Operand) (ho : o.op = .load ty x) (p : Addr) (v : Value) (hc : b.cell? p = some v ∧ p.block < b.heap.size) (hx : a.eval x = .pointer (some p))
  (d : TypeDesc) (hu : P.underlying ty = some d) (hd : d.isRow = false) (h : wpList P ops Q rest (a.put o.dst v) w) : wpList P ops Q (o::rest) a w :=
 wpList_load_cellg hw ty x ho p hx v ((M.ext.cell hc.2).trans hc.1) d hu hd h

theorem Tryz.infoWord : (Tryz.prog.info? 102).map (fun i => (i.zero,i.size,i.bytes)) = some (some (.agg #[.int .i64 0,.int .i64 0,.int .i64 0]),3,24):=by kernel_rfl
theorem Tryz.infoWrote : (Tryz.prog.info? 53).map (fun i => (i.zero,i.size,i.bytes)) = some (some (.agg #[.int .i64 0,.int .i64 0,.slice none 0 0]),3,40):=by kernel_rfl
/-- A cell read from a slice of the caller's. -/
theorem word_at {w : World} {S : Nat → Prop} {b o n i : Nat} {xs : List Word} (h : Sl w S 3 (some ⟨b,o,none⟩) n (xs.flatMap Word.cells)) {x : Word} (hx : xs[i]? = some x) (hi : i < n) (f : Nat) (hf : f < 3) : w.cell? ⟨b,o + i * 3 + f,none⟩ = x.cells[f]? ∧ b < w.heap.size:=by
 obtain ⟨y,hy,hb,hc⟩:=h.flat_cell (k:=i) Word.cells_length (by omega) hi
 rw [hx] at hy
 injection hy with hy
 subst hy
 exact ⟨hc f hf,hb⟩
theorem word_one (l : List Word) : ∀ u ∈ l.flatMap Word.cells,u.oneCell' = true:=by
 intro u hu
 obtain ⟨x,_,hx⟩:=List.mem_flatMap.1 hu
 simp [Word.cells] at hx
 rcases hx with h|h|h <;> subst h <;> rfl
theorem row_one (l : List Row) : ∀ u ∈ l.flatMap Row.cells,u.oneCell' = true:=by
 intro u hu
 obtain ⟨x,_,hx⟩:=List.mem_flatMap.1 hu
 simp [Row.cells] at hx
 rcases hx with h|h <;> subst h <;> rfl
theorem own_emptyW (w : World) : (w.alloc (.cells #[] 102)).ownsRow w.heap.size 102 3 (.slice (some ⟨w.heap.size,0,none⟩) 0 0) 0 (([] : List Word).flatMap Word.cells) :=
 World.ownsRow_lit w #[] 0 (Nat.le_refl _) (Nat.zero_le _) (by simp)
theorem memOk_len {m : Mem} (h : memOk m = true) : m.cells_.length = 8:=(dec_true h).2.1
noncomputable def lockC (l : List Word) (i : Nat) (x : Word) (who : Int) : List Word:=if dec (x.owner_ = 0) = true then l.set i ⟨x.val_,x.ver_,who⟩ else l
noncomputable def storeC (l : List Word) (i : Nat) (x : Word) (who v : Int) : List Word:=if dec (x.owner_ = who) = true then l.set i ⟨v,x.ver_,x.owner_⟩ else l
noncomputable def unlockC (k : Int) (l : List Word) (i : Nat) (x : Word) (who ver : Int) : List Word:=if dec (x.owner_ = who ∧ (x.ver_ ≤ ver ∧ ver ≤ k)) = true then l.set i ⟨x.val_,ver,0⟩ else l
noncomputable def tickK (k : Int) : Int:=if dec (k = 1000000) = true then k else k + 1
noncomputable def tickV (k : Int) : Int:=if dec (k = 1000000) = true then 0 else k + 1
theorem lockC_len (l : List Word) (i : Nat) (x : Word) (who : Int) : (lockC l i x who).length = l.length:=by unfold lockC;split <;> simp
theorem storeC_len (l : List Word) (i : Nat) (x : Word) (who v : Int) : (storeC l i x who v).length = l.length:=by unfold storeC;split <;> simp
theorem unlockC_len (k : Int) (l : List Word) (i : Nat) (x : Word) (who ver : Int) : (unlockC k l i x who ver).length = l.length:=by unfold unlockC;split <;> simp

theorem isOwner_any (x : Int) (w : World) :
  Calls Tryz.prog 105 #[.int .i64 x] w fun e w' => e = .returned (.bool (decide (1 ≤ x ∧ x ≤ 99))) ∧ w = w':=by
 go_enter Tryz.func105,Tryz.ntmps105
 go_wp2_with (go_at_call 35;refine (within_any _ _ _ _).mono ?_;rintro e w' ⟨rfl,rfl⟩)
 go_ret
 simp
theorem icell_is {x : Int} {v : Bool} (h : decide (0 ≤ x ∧ x ≤ 7) = v) (w : World) : Calls Tryz.prog 84 #[.int .i64 x] w fun e w' => e = .returned (.bool v) ∧ w = w':=h ▸ isCell_any x w
theorem scell_is {x : Int} {v : Bool} (h : decide (0 ≤ x ∧ x ≤ 7) = v) (w : World) : Calls Tryz.prog 57 #[.int .i64 x] w fun e w' => e = .returned (.bool v) ∧ w = w':=h ▸ l3Cell_any x w
theorem iown_is {x : Int} {v : Bool} (h : decide (1 ≤ x ∧ x ≤ 99) = v) (w : World) : Calls Tryz.prog 105 #[.int .i64 x] w fun e w' => e = .returned (.bool v) ∧ w = w':=h ▸ isOwner_any x w
theorem ival_is {x : Int} {v : Bool} (h : decide (0 ≤ x ∧ x ≤ 65535) = v) (w : World) : Calls Tryz.prog 104 #[.int .i64 x] w fun e w' => e = .returned (.bool v) ∧ w = w':=h ▸ isValue_any x w
theorem sval_is {x : Int} {v : Bool} (h : decide (0 ≤ x ∧ x ≤ 65535) = v) (w : World) : Calls Tryz.prog 103 #[.int .i64 x] w fun e w' => e = .returned (.bool v) ∧ w = w':=h ▸ l3Val_any x w
theorem with_is {x lo hi : Int} {v : Bool} (h : decide (lo ≤ x ∧ x ≤ hi) = v) (w : World) : Calls Tryz.prog 35 #[.int .i64 x,.int .i64 lo,.int .i64 hi] w fun e w' => e = .returned (.bool v) ∧ w = w':=h ▸ within_any x lo hi w
theorem in_is {x lo hi : Int} {v : Bool} (h : decide (lo ≤ x ∧ x ≤ hi) = v) (w : World) : Calls Tryz.prog 30 #[.int .i64 x,.int .i64 lo,.int .i64 hi] w fun e w' => e = .returned (.bool v) ∧ w = w':=h ▸ l1In_any x lo hi w

set_option maxRecDepth 4000 in
set_option maxHeartbeats 4000000 in
theorem impl_copyMem_m (k : Int) (A : Option Addr) (n c : Nat) (xs : List Word) (w : World) (S : Nat → Prop) (hs : Sl w S 3 A n (xs.flatMap Word.cells)) (hn : n ≤ 1048576) :
  Calls Tryz.prog 129 #[.agg #[.int .i64 k,.slice A n c]] w fun e w' => ∃ B d,e = .returned (.agg #[.int .i64 k,.slice B n d]) ∧ Mine w w' [.row 102 3 B n d (xs.flatMap Word.cells)]:=by
 have HS:=Lib.hid hs
 clear hs
 have M:=Lib.hid (Mine.refl w)
 go_enter Tryz.func129,Tryz.ntmps129
 go_wp2_with (((with_reducible show wpList _ _ _ (⟨_,_,_,_,_,none⟩::_) _ _);first|(refine Mine.wp_box M.out rfl 27 _ rfl _ rfl ?_;intro ga w' M';(try simp only [zr_,zm_] at M');replace M:=Lib.hid M';clear M';(try simp only [zr_,zm_]))|(refine Mine.wp_alloc M.out rfl 27 rfl (.agg #[.int .i64 0,.slice none 0 0]) (by kernel_rfl) ?_;intro gr w' M';(try simp only [Value.cells,zr_,zm_] at M');replace M:=Lib.hid M';clear M';(try simp only [zr_,zm_]))))
 refine Mine.region_head M.out 6 (by kernel_rfl) (by kernel_rfl) ?_
 intro w' M'
 replace M:=Lib.hid M'
 clear M'
 refine zXT 0 ?_;(try simp only [zs_,zl_])
 refine zT 1 ?_;intro K hK;((refine zD 1 ?_;(try simp only [zr_,zm_]);go_big_quiet_on))
 refine zXT 2 ?_;(try simp only [zs_,zl_])
 refine zT 3 ?_;intro K hK;((refine zD 1 ?_;(try simp only [zr_,zm_]);go_big_quiet_on))
 refine HQ.noisy (rs:=[4]) (by kernel_rfl) (by simp) (AllG.cons rfl (Nat.le_of_ble_eq_true rfl) (fun K hK => ?_) AllG.nil)
 skip
 have M5:=M.out.nil 102 3
 rw [show ([] : List Value) = ([] : List Word).flatMap Word.cells from rfl] at M5
 replace M:=Lib.hid M5
 clear M5
 refine Mine.step_pour M.out rfl _ _ 25 rfl 102 _ _ _ Tryz.underlying25 Tryz.infoWord rfl (by omega) 0 rfl rfl _ A n c _ rfl (HS.out.ext M.out.ext) (word_one xs) (by omega) (by unfold maxLen;omega) ?_
 intro A2 c2 w' M'
 simp only [zr_,zm_,List.flatMap_nil,List.nil_append,Nat.zero_add] at M' ⊢
 replace M:=Lib.hid M'
 clear M'
 refine hK.out _ _ (M.out.tail) ?_
 clear hK K
 (try simp only [zs_,zl_])
 refine zXL 5 ?_;(try simp only [zs_,zl_])
 refine HQ.end_ (by kernel_rfl) ?_
 simp only [List.drop_succ_cons,List.drop_zero]
 go_wp2_with (((with_reducible show wpList _ _ _ (⟨_,_,_,_,_,none⟩::_) _ _);first|(refine zSs M.out 27 1 ?_;intro w' M';(try simp only [zr_,zm_] at M');replace M:=Lib.hid M';clear M')))
 refine bodyPost_ret (M.out.results_cell Tryz.results129 _ 1 rfl rfl _ Tryz.underlying27 (by rfl) (by kernel_rfl)) rfl ?_
 exact ⟨_,_,rfl,M.out.sub (sk_ (sd_ (sd_ s0_)))⟩
set_option maxRecDepth 4000 in
set_option maxHeartbeats 4000000 in
theorem spec_l3Copy_m (k : Int) (A : Option Addr) (n c : Nat) (xs : List Word) (w : World) (S : Nat → Prop) (hs : Sl w S 3 A n (xs.flatMap Word.cells)) (hn : n ≤ 1048576) :
  Calls Tryz.prog 115 #[.agg #[.int .i64 k,.slice A n c]] w fun e w' => ∃ B d,e = .returned (.agg #[.int .i64 k,.slice B n d]) ∧ Mine w w' [.row 102 3 B n d (xs.flatMap Word.cells)]:=by
 have HS:=Lib.hid hs
 clear hs
 have M:=Lib.hid (Mine.refl w)
 go_enter Tryz.func115,Tryz.ntmps115
 go_wp2_with (((with_reducible show wpList _ _ _ (⟨_,_,_,_,_,none⟩::_) _ _);first|(refine Mine.wp_box M.out rfl 27 _ rfl _ rfl ?_;intro ga w' M';(try simp only [zr_,zm_] at M');replace M:=Lib.hid M';clear M';(try simp only [zr_,zm_]))|(refine Mine.wp_alloc M.out rfl 27 rfl (.agg #[.int .i64 0,.slice none 0 0]) (by kernel_rfl) ?_;intro gr w' M';(try simp only [Value.cells,zr_,zm_] at M');replace M:=Lib.hid M';clear M';(try simp only [zr_,zm_]))))
 refine Mine.region_head M.out 7 (by kernel_rfl) (by kernel_rfl) ?_
 intro w' M'
 replace M:=Lib.hid M'
 clear M'
 refine zXT 0 ?_;(try simp only [zs_,zl_])
 refine zT 1 ?_;intro K hK;((refine zD 1 ?_;(try simp only [zr_,zm_]);go_big_quiet_on))
 refine zXT 3 ?_;(try simp only [zs_,zl_])
 refine zT 4 ?_;intro K hK;((refine zD 1 ?_;(try simp only [zr_,zm_]);go_big_quiet_on))
 refine HQ.noisy (rs:=[2]) (by kernel_rfl) (by simp) (AllG.cons rfl (Nat.le_of_ble_eq_true rfl) (fun K hK => ?_) AllG.nil)
 go_simp
 replace M:=Lib.hid (M.out.own (own_emptyW _) ((Ext.refl' _).al _))
 refine hK.out _ _ (M.out.tail) ?_
 clear hK K
 (try simp only [zs_,zl_])
 refine HQ.noisy (rs:=[5]) (by kernel_rfl) (by simp) (AllG.cons rfl (Nat.le_of_ble_eq_true rfl) (fun K hK => ?_) AllG.nil)
 refine Mine.step_pour M.out rfl _ _ 25 rfl 102 _ _ _ Tryz.underlying25 Tryz.infoWord rfl (by omega) 0 rfl rfl _ A n c _ rfl (HS.out.ext M.out.ext) (word_one xs) (by omega) (by unfold maxLen;omega) ?_
 intro A2 c2 w' M'
 simp only [zr_,zm_,List.flatMap_nil,List.nil_append,Nat.zero_add] at M' ⊢
 replace M:=Lib.hid M'
 clear M'
 refine hK.out _ _ (M.out.tail) ?_
 clear hK K
 (try simp only [zs_,zl_])
 refine zXL 6 ?_;(try simp only [zs_,zl_])
 refine HQ.end_ (by kernel_rfl) ?_
 simp only [List.drop_succ_cons,List.drop_zero]
 go_wp2_with (((with_reducible show wpList _ _ _ (⟨_,_,_,_,_,none⟩::_) _ _);first|(refine zSs M.out 27 1 ?_;intro w' M';(try simp only [zr_,zm_] at M');replace M:=Lib.hid M';clear M')))
 refine bodyPost_ret (M.out.results_cell Tryz.results115 _ 1 rfl rfl _ Tryz.underlying27 (by rfl) (by kernel_rfl)) rfl ?_
 exact ⟨_,_,rfl,M.out.sub (sk_ (sd_ (sd_ s0_)))⟩
set_option maxRecDepth 8000 in
set_option maxHeartbeats 8000000 in
theorem l3Mine_is (m : Mem) (b o n c i : Nat) (x : Word) (who : Int) (w : World) (S : Nat → Prop) (hs : Sl w S 3 (some ⟨b,o,none⟩) n (m.cells_.flatMap Word.cells)) (hM : memOk m = true) (hx : m.cells_[i]? = some x) (hi : i < 8) (hw : 1 ≤ who ∧ who ≤ 99) {v : Bool} (hv : dec (x.owner_ = who) = v) :
  Calls Tryz.prog 150 #[.agg #[.int .i64 m.clock_,.slice (some ⟨b,o,none⟩) n c],.int .i64 (i : Int),.int .i64 who] w fun e w' => e = .returned (.bool v) ∧ Ext w w':=by
 have hl : m.cells_.length = n:=hs.flen Word.cells_length (by omega)
 have HM:=Lib.hid hM
 have h8 : n = 8:=by have:=memOk_len hM;omega
 have HS:=Lib.hid hs
 have M:=Lib.hid (Mine.refl w)
 have HI : Hid (i < n):=by show _ < _;omega
 have HX:=Lib.hid hx
 have hi1 : (i : Int) < (n : Int):=by omega
 have HCO : Hid (w.cell? ⟨b,o + i * 3 + 2,none⟩ = some (.int .i64 x.owner_) ∧ b < w.heap.size):=word_at HS.out hx HI.out 2 (by omega)
 have HCV : Hid (w.cell? ⟨b,o + i * 3 + 1,none⟩ = some (.int .i64 x.ver_) ∧ b < w.heap.size):=word_at HS.out hx HI.out 1 (by omega)
 have HWW:=Lib.hid hw
 have dc : decide (0 ≤ (i : Int) ∧ (i : Int) ≤ 7) = true:=by simp only [decide_eq_true_eq];omega
 have dw : decide (1 ≤ who ∧ who ≤ 99) = true:=by simpa using hw
 have hn : n ≤ 1048576:=by omega
 have hn0 : 0 < n:=by omega
 clear hs hM h8 hx hw
 go_enter Tryz.func150,Tryz.ntmps150
 by_cases h : x.owner_ = who
 ·have bo : (x.owner_ == who) = true:=by simp [h]
  obtain rfl : v = true:=by rw [← hv];exact dec_yes h
  clear h hv
  go_wp2_with (first|(go_at_call 58;(with_reducible refine (spec_MemOk m (some ⟨b,o,none⟩) n c _ S (by omega) (HS.out.ext M.out.ext)).mono ?_);rintro e w' ⟨rfl,x9⟩;replace M:=Lib.hid (M.out.on x9);clear x9;rw [HM.out])|(go_at_call 57;(with_reducible refine (scell_is dc _).mono ?_);rintro e w' ⟨rfl,rfl⟩)|(go_at_call 30;(with_reducible refine (in_is dw _).mono ?_);rintro e w' ⟨rfl,rfl⟩)|((with_reducible show wpList _ _ _ (⟨_,_,_,_,_,none⟩::_) _ _);first|(refine Mine.wp_box M.out rfl 27 _ rfl _ rfl ?_;intro ga w' M';(try simp only [zr_,zm_] at M');replace M:=Lib.hid M';clear M';(try simp only [zr_,zm_]))|(refine zGs M.out 27 0 2 ?_;(try simp only [zr_,zm_])))|((with_reducible show wpList _ _ _ (⟨_,.load _ _,_,_,_,some _⟩::_) _ _);first|((first|refine zGg M.out 0 ?_|refine Mine.wp_getgc M.out (by rfl) 3 _ rfl _ _ HCO.out rfl _ Tryz.underlying3 (by rfl) ?_);(try simp only [zr_,zm_]))))
  go_ret
  exact ⟨rfl,M.out.ext⟩
 skip
 ·have bo : (x.owner_ == who) = false:=by simpa using h
  obtain rfl : v = false:=by rw [← hv];exact dec_no h
  clear h hv
  go_wp2_with (first|(go_at_call 58;(with_reducible refine (spec_MemOk m (some ⟨b,o,none⟩) n c _ S (by omega) (HS.out.ext M.out.ext)).mono ?_);rintro e w' ⟨rfl,x9⟩;replace M:=Lib.hid (M.out.on x9);clear x9;rw [HM.out])|(go_at_call 57;(with_reducible refine (scell_is dc _).mono ?_);rintro e w' ⟨rfl,rfl⟩)|(go_at_call 30;(with_reducible refine (in_is dw _).mono ?_);rintro e w' ⟨rfl,rfl⟩)|((with_reducible show wpList _ _ _ (⟨_,_,_,_,_,none⟩::_) _ _);first|(refine Mine.wp_box M.out rfl 27 _ rfl _ rfl ?_;intro ga w' M';(try simp only [zr_,zm_] at M');replace M:=Lib.hid M';clear M';(try simp only [zr_,zm_]))|(refine zGs M.out 27 0 2 ?_;(try simp only [zr_,zm_])))|((with_reducible show wpList _ _ _ (⟨_,.load _ _,_,_,_,some _⟩::_) _ _);first|((first|refine zGg M.out 0 ?_|refine Mine.wp_getgc M.out (by rfl) 3 _ rfl _ _ HCO.out rfl _ Tryz.underlying3 (by rfl) ?_);(try simp only [zr_,zm_]))))
  go_ret
  exact ⟨rfl,M.out.ext⟩

end Go.Proofs.YtpmfhfpjiebcjaaGreat
namespace Go.Proofs.YtpmfhfpjiebcjaaGreat
open Go.RowKit Go.Deep

def Row.ok (_ : Nat) (a : Row) : Prop:=(0 ≤ a.cell_ ∧ a.cell_ ≤ 7) ∧ (0 ≤ a.val_ ∧ a.val_ ≤ 65535)
noncomputable def rowsOk (l : List Row) : Bool:=dec (l.length ≤ 300 ∧ AllTo Row.ok l l.length)


set_option maxHeartbeats 4000000 in
theorem spec_RowsOk (A : Option Addr) (n c : Nat) (l : List Row) (w : World) (S : Nat → Prop) (hs : Sl w S 2 A n (l.flatMap Row.cells)) (hm : n ≤ 1048576) :
  Calls Tryz.prog 56 #[.slice A n c] w fun e w' => e = .returned (.bool (rowsOk l)) ∧ Ext w w':=by
 have H:=Lib.hid (hs.flen Row.cells_length (by omega))
 by_cases h60 : n ≤ 300
 rotate_left
 ·go_enter Tryz.func56,Tryz.ntmps56
  go_wp2
  go_ret
  exact ⟨by rw [rowsOk,dec_no fun h => h60 (by rw [← H.out];exact h.1)];rfl,Ext.refl' _⟩
 go_enter Tryz.func56,Tryz.ntmps56
 go_wp2
 go_loopw [3] (fun i wr => ∃ k : Nat,k ≤ n ∧ i = .int .i64 k ∧ AllTo Row.ok l k ∧ Ext w wr) (fun i _ => n - (intOf i).toNat)
 case atStart => exact ⟨0,Nat.zero_le _,rfl,AllTo.zero _ _,Ext.refl' _⟩
 case round =>
  obtain ⟨k,hk,rfl,hup,hxx⟩:=hrel
  by_cases hlt : k < n
  ·obtain ⟨b,o,s,rfl,hb,hx,hc⟩:=(hs.ext hxx).flat_at Row.cells_length (by omega) hlt
   obtain ⟨f0,f1⟩:=s
   have c0:=hc 0 (by omega)
   have c1:=hc 1 (by omega)
   simp only [Row.cells,List.getElem?_cons_zero,List.getElem?_cons_succ,Nat.add_zero] at c0 c1
   have HX:=Lib.hid hx
   have HU:=Lib.hid hup
   have HE:=Lib.hid hxx
   clear hx hup hc hxx
   by_cases h0 : 0 ≤ f0 ∧ f0 ≤ 7
   rotate_left
   ·have d0 : decide (0 ≤ f0 ∧ f0 ≤ 7) = false:=by simpa using h0
    go_wp2_with (first|(go_at_call 57;refine (l3Cell_any _ _).mono ?_;rintro e w' ⟨rfl,rfl⟩)|(go_at_call 103;refine (l3Val_any _ _).mono ?_;rintro e w' ⟨rfl,rfl⟩))
    go_ret
    exact ⟨by rw [rowsOk,dec_no fun h => AllTo.not HX.out (by rw [H.out];exact hlt) (fun q => h0 q.1) h.2];rfl,by first|exact HE.out|exact HE.out.al _⟩
   have d0 : decide (0 ≤ f0 ∧ f0 ≤ 7) = true:=by simpa using h0
   by_cases h1 : 0 ≤ f1 ∧ f1 ≤ 65535
   rotate_left
   ·have d1 : decide (0 ≤ f1 ∧ f1 ≤ 65535) = false:=by simpa using h1
    go_wp2_with (first|(go_at_call 57;refine (l3Cell_any _ _).mono ?_;rintro e w' ⟨rfl,rfl⟩)|(go_at_call 103;refine (l3Val_any _ _).mono ?_;rintro e w' ⟨rfl,rfl⟩))
    go_ret
    exact ⟨by rw [rowsOk,dec_no fun h => AllTo.not HX.out (by rw [H.out];exact hlt) (fun q => h1 q.2) h.2];rfl,by first|exact HE.out|exact HE.out.al _⟩
   have d1 : decide (0 ≤ f1 ∧ f1 ≤ 65535) = true:=by simpa using h1
   go_wp2_with (first|(go_at_call 57;refine (l3Cell_any _ _).mono ?_;rintro e w' ⟨rfl,rfl⟩)|(go_at_call 103;refine (l3Val_any _ _).mono ?_;rintro e w' ⟨rfl,rfl⟩))
   go_roundw
   case rel => exact ⟨k + 1,by omega,by go_num,HU.out.succ HX.out ⟨h0,h1⟩,by first|exact HE.out|exact HE.out.al _⟩
   case measure => simp [intOf];omega
  ·go_wp2
   go_ret
   have e : k = l.length:=by rw [H.out];omega
   exact ⟨by rw [rowsOk,dec_yes ⟨by rw [H.out];exact h60,by rw [← e];exact hup⟩];rfl,hxx⟩

set_option maxHeartbeats 4000000 in
theorem impl_RowsOk (A : Option Addr) (n c : Nat) (l : List Row) (w : World) (S : Nat → Prop) (hs : Sl w S 2 A n (l.flatMap Row.cells)) (hm : n ≤ 1048576) :
  Calls Tryz.prog 67 #[.slice A n c] w fun e w' => e = .returned (.bool (rowsOk l)) ∧ Ext w w':=by
 have H:=Lib.hid (hs.flen Row.cells_length (by omega))
 go_enter Tryz.func67,Tryz.ntmps67
 go_wp2
 go_loopw [7] (fun i wr => ∃ k : Nat,k ≤ n ∧ i = .int .i64 k ∧ AllTo Row.ok l k ∧ Ext w wr) (fun i _ => n - (intOf i).toNat)
 case atStart => exact ⟨0,Nat.zero_le _,rfl,AllTo.zero _ _,Ext.refl' _⟩
 case round =>
  obtain ⟨k,hk,rfl,hup,hxx⟩:=hrel
  by_cases hlt : k < n
  ·obtain ⟨b,o,s,rfl,hb,hx,hc⟩:=(hs.ext hxx).flat_at Row.cells_length (by omega) hlt
   obtain ⟨f0,f1⟩:=s
   have c0:=hc 0 (by omega)
   have c1:=hc 1 (by omega)
   simp only [Row.cells,List.getElem?_cons_zero,List.getElem?_cons_succ,Nat.add_zero] at c0 c1
   have HX:=Lib.hid hx
   have HU:=Lib.hid hup
   have HE:=Lib.hid hxx
   clear hx hup hc hxx
   by_cases h0 : 0 ≤ f0 ∧ f0 ≤ 7
   rotate_left
   ·have d0 : decide (0 ≤ f0 ∧ f0 ≤ 7) = false:=by simpa using h0
    go_wp2_with (first|(go_at_call 84;refine (isCell_any _ _).mono ?_;rintro e w' ⟨rfl,rfl⟩)|(go_at_call 104;refine (isValue_any _ _).mono ?_;rintro e w' ⟨rfl,rfl⟩))
    go_ret
    exact ⟨by rw [rowsOk,dec_no fun h => AllTo.not HX.out (by rw [H.out];exact hlt) (fun q => h0 q.1) h.2];rfl,by first|exact HE.out|exact HE.out.al _⟩
   have d0 : decide (0 ≤ f0 ∧ f0 ≤ 7) = true:=by simpa using h0
   by_cases h1 : 0 ≤ f1 ∧ f1 ≤ 65535
   rotate_left
   ·have d1 : decide (0 ≤ f1 ∧ f1 ≤ 65535) = false:=by simpa using h1
    go_wp2_with (first|(go_at_call 84;refine (isCell_any _ _).mono ?_;rintro e w' ⟨rfl,rfl⟩)|(go_at_call 104;refine (isValue_any _ _).mono ?_;rintro e w' ⟨rfl,rfl⟩))
    go_ret
    exact ⟨by rw [rowsOk,dec_no fun h => AllTo.not HX.out (by rw [H.out];exact hlt) (fun q => h1 q.2) h.2];rfl,by first|exact HE.out|exact HE.out.al _⟩
   have d1 : decide (0 ≤ f1 ∧ f1 ≤ 65535) = true:=by simpa using h1
   go_wp2_with (first|(go_at_call 84;refine (isCell_any _ _).mono ?_;rintro e w' ⟨rfl,rfl⟩)|(go_at_call 104;refine (isValue_any _ _).mono ?_;rintro e w' ⟨rfl,rfl⟩))
   go_roundw
   case rel => exact ⟨k + 1,by omega,by go_num,HU.out.succ HX.out ⟨h0,h1⟩,by first|exact HE.out|exact HE.out.al _⟩
   case measure => simp [intOf];omega
  ·have e : k = n:=by omega
   have HU : AllTo Row.ok l l.length:=by rw [H.out,← e];exact hup
   have HE:=Lib.hid hxx
   clear e hup hxx
   by_cases h60 : n ≤ 300
   ·have h60' : (n : Int) ≤ 300:=by omega
    go_wp2
    go_ret
    exact ⟨by rw [rowsOk,dec_yes ⟨by rw [H.out];exact h60,HU⟩];simp,HE.out⟩
   ·have h60' : ¬ (n : Int) ≤ 300:=by omega
    go_wp2
    go_ret
    exact ⟨by rw [rowsOk,dec_no fun h => h60 (by rw [← H.out];exact h.1)];simp,HE.out⟩

end Go.Proofs.YtpmfhfpjiebcjaaGreat
