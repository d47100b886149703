/- Last of program and reference. No condition but the length. Net of program and reference. No condition but the length. A commit copied. No condition but lengths. -/
import Derived.Test.YtpmfhfpjiebcjaaGreatD02
import Derived.Test.YtpmfhfpjiebcjaaGreatD00
import Derived.Test.YtpmfhfpjiebcjaaGreatD06
namespace Go.Proofs.YtpmfhfpjiebcjaaGreat
open Go.RowKit Go.Deep
set_option linter.unnecessarySimpa false
set_option linter.unusedSimpArgs false
set_option linter.unusedVariables false

/-- The value of the last of the first k rows that is of the cell. -/
def lastI (l : List Row) (y : Int) : Nat → Option Int
 | 0 => none
 | k + 1 => match l[k]? with
  | some r => if r.cell_ = y then some r.val_ else lastI l y k
  | none => lastI l y k
theorem lastI_hit {l : List Row} {y : Int} {k : Nat} {r : Row} (h : l[k]? = some r) (e : r.cell_ = y) : lastI l y (k + 1) = some r.val_:=by simp [lastI,h,e]
theorem lastI_miss {l : List Row} {y : Int} {k : Nat} {r : Row} (h : l[k]? = some r) (e : ¬ r.cell_ = y) : lastI l y (k + 1) = lastI l y k:=by simp [lastI,h,e]
noncomputable def lastV (l : List Row) (y : Int) : Option Int:=if rowsOk l = true then lastI l y l.length else none
theorem rowsOk_len {l : List Row} (h : rowsOk l = true) : l.length ≤ 300:=(dec_true h).1


set_option maxHeartbeats 4000000 in
theorem impl_Last (A : Option Addr) (n c : Nat) (l : List Row) (y : Int) (w : World) (S : Nat → Prop) (hs : Sl w S 2 A n (l.flatMap Row.cells)) (hm : n ≤ 1048576) :
  Calls Tryz.prog 151 #[.slice A n c,.int .i64 y] w fun e w' => e = .returned (.tuple #[.int .i64 ((lastV l y).getD 0),.bool (lastV l y).isSome]) ∧ Ext w w':=by
 have H:=Lib.hid (hs.flen Row.cells_length (by omega))
 have HS:=Lib.hid hs
 cases hv : rowsOk l
 ·have HZ : Hid (lastV l y = none):=by show _ = _;unfold lastV;rw [hv];rfl
  go_enter Tryz.func151,Tryz.ntmps151
  go_wp2_with fail
  refine (impl_RowsOk _ _ _ l _ S hs hm).mono ?_
  rintro e w1 ⟨rfl,x1⟩
  rw [hv]
  go_wp2
  go_ret2
  exact ⟨by rw [HZ.out];rfl,x1⟩
 have HZ : Hid (lastV l y = lastI l y n):=by show _ = _;unfold lastV;rw [hv,H.out];rfl
 have h300 : n ≤ 300:=by have:=rowsOk_len hv;rw [H.out] at this;exact this
 go_enter Tryz.func151,Tryz.ntmps151
 go_wp2_with fail
 refine (impl_RowsOk _ _ _ l _ S hs hm).mono ?_
 rintro e w1 ⟨rfl,x1⟩
 rw [hv]
 clear hv hs
 have X1:=Lib.hid x1
 clear x1
 go_wp2
 go_loopw [6] (fun i wr => ∃ k : Nat,k ≤ n ∧ i = .int .i64 ((k : Int) - 1) ∧ Hid (lastI l y n = lastI l y k) ∧ Hid (Ext w wr)) (fun i _ => (intOf i + 1).toNat)
 case atStart => exact ⟨n,Nat.le_refl _,by first|rfl|go_num,rfl,X1⟩
 case round =>
  obtain ⟨k,hk,rfl,hI,hX⟩:=hrel
  rcases Nat.eq_zero_or_pos k with h0|h0
  ·subst h0
   go_wp2
   go_ret2
   exact ⟨by rw [HZ.out,hI.out];rfl,hX.out⟩
  obtain ⟨j,rfl⟩ : ∃ j,k = j + 1:=⟨k - 1,by omega⟩
  have ej : ((j + 1 : Nat) : Int) - 1 = (j : Int):=by omega
  rw [ej]
  clear ej
  obtain ⟨b,o,s,rfl,hb,hx,hc⟩:=(HS.out.ext hX.out).flat_at Row.cells_length (by omega) (show j < n by omega)
  obtain ⟨f0,f1⟩:=s
  have c0:=hc 0 (by omega)
  have c1:=hc 1 (by omega)
  simp only [Row.cells,List.getElem?_cons_zero,List.getElem?_cons_succ,Nat.add_zero] at c0 c1
  have HX:=Lib.hid hx
  clear hx hc
  by_cases t0 : f0 = y
  ·have b0 : (f0 == y) = true:=by simpa using t0
   have HT:=Lib.hid t0
   clear t0
   go_wp2
   go_ret2
   exact ⟨by rw [HZ.out,hI.out,lastI_hit HX.out HT.out];rfl,hX.out⟩
  have b0 : (f0 == y) = false:=by simpa using t0
  have HT:=Lib.hid t0
  clear t0
  go_wp2
  go_roundw
  case rel => exact ⟨j,by omega,by go_num,Lib.hid (hI.out.trans (lastI_miss HX.out HT.out)),hX⟩
  case measure => simp [intOf] <;> omega

end Go.Proofs.YtpmfhfpjiebcjaaGreat
namespace Go.Proofs.YtpmfhfpjiebcjaaGreat
open Go.RowKit Go.Deep
set_option linter.unnecessarySimpa false
set_option linter.unusedSimpArgs false
set_option linter.unusedVariables false

noncomputable def netTo (l : List Row) : Nat → List Row
 | 0 => []
 | k + 1 => netTo l k ++ (match lastV l (k : Int) with|some v => [⟨(k : Int),v⟩]|none => [])
noncomputable def netR (l : List Row) : List Row:=netTo l 8
theorem netTo_some {l : List Row} {k : Nat} {v : Int} (h : lastV l (k : Int) = some v) : netTo l (k + 1) = netTo l k ++ [⟨(k : Int),v⟩]:=by simp [netTo,h]
theorem netTo_none {l : List Row} {k : Nat} (h : lastV l (k : Int) = none) : netTo l (k + 1) = netTo l k:=by simp [netTo,h]
theorem netTo_len (l : List Row) : ∀ k,(netTo l k).length ≤ k
 | 0 => Nat.le_refl _
 | k + 1 => by
  have:=netTo_len l k
  unfold netTo
  split <;> simp <;> omega
theorem net_bad {l : List Row} (h : rowsOk l = false) : ∀ k,netTo l k = []
 | 0 => rfl
 | k + 1 => by rw [netTo_none (by unfold lastV;rw [h];rfl),net_bad h k]
theorem own_emptyR (w : World) : (w.alloc (.cells #[] 97)).ownsRow w.heap.size 97 2 (.slice (some ⟨w.heap.size,0,none⟩) 0 0) 0 (([] : List Row).flatMap Row.cells) :=
 World.ownsRow_lit w #[] 0 (Nat.le_refl _) (Nat.zero_le _) (by simp)
theorem row_push (l : List Row) (x0 x1 : Int) : l.flatMap Row.cells ++ [.int .i64 x0,.int .i64 x1] = (l ++ [(⟨x0,x1⟩ : Row)]).flatMap Row.cells:=by simp [Row.cells]


set_option maxHeartbeats 4000000 in
theorem impl_Net (A : Option Addr) (n c : Nat) (l : List Row) (w : World) (S : Nat → Prop) (hs : Sl w S 2 A n (l.flatMap Row.cells)) (hm : n ≤ 1048576) :
  Calls Tryz.prog 126 #[.slice A n c] w fun e w' => ∃ B m d,e = .returned (.slice B m d) ∧ Mine w w' [.row 97 2 B m d ((netR l).flatMap Row.cells)]:=by
 have HS:=Lib.hid hs
 cases hv : rowsOk l
 ·have HZ : Hid (netR l = []):=net_bad hv 8
  go_enter Tryz.func126,Tryz.ntmps126
  go_wp2_with fail
  refine (impl_RowsOk _ _ _ l _ S hs hm).mono ?_
  rintro e w1 ⟨rfl,x1⟩
  rw [hv]
  go_wp2
  go_ret
  exact ⟨_,_,_,rfl,by rw [HZ.out];exact (Mine.of x1).nil 97 2⟩
 clear hs
 go_enter Tryz.func126,Tryz.ntmps126
 go_wp2_with fail
 refine (impl_RowsOk _ _ _ l _ S HS.out hm).mono ?_
 rintro e w1 ⟨rfl,x1⟩
 rw [hv]
 clear hv
 have HM0:=Lib.hid (Mine.of x1)
 clear x1
 go_wp2
 have M0:=Lib.hid ((HM0.out).own (own_emptyR w1) ((Ext.refl' _).al _))
 go_loopw [3,11] (fun u i wr => ∃ (k : Nat) (B : Option Addr) (m d : Nat),k ≤ 8 ∧ m ≤ k ∧ i = .int .i64 k ∧ u = .slice B m d ∧ Hid (Mine w wr [.row 97 2 B m d ((netTo l k).flatMap Row.cells)])) (fun _ i _ => 8 - (intOf i).toNat)
 case atStart => exact ⟨0,_,_,_,Nat.zero_le _,Nat.zero_le _,rfl,rfl,M0⟩
 case round =>
  obtain ⟨k,B,m,d,hk,hmk,rfl,rfl,M⟩:=hrel
  by_cases hlt : k < 8
  rotate_left
  ·go_wp2
   go_ret
   have e : k = 8:=by omega
   subst e
   exact ⟨_,_,_,rfl,M.out⟩
  have hk8 : (k : Int) < 8:=by omega
  go_wp2_with fail
  refine (impl_Last _ _ _ l _ _ S (HS.out.ext M.out.ext) hm).mono ?_
  rintro e w2 ⟨rfl,x2⟩
  replace M:=Lib.hid (M.out.on x2)
  clear x2
  cases hl : lastV l (k : Int) with
  | none =>
   have HN:=Lib.hid (netTo_none hl)
   clear hl
   go_wp2
   go_roundw
   case rel => exact ⟨k + 1,B,m,d,by omega,by omega,by go_num,rfl,by rw [HN.out];exact M⟩
   case measure => simp [intOf];omega
  | some v =>
   have HN:=Lib.hid (netTo_some hl)
   clear hl
   go_wp2_with (first|(at_builtin;refine Mine.wp_push M.out rfl _ _ 51 rfl 97 _ _ _ Tryz.underlying51 Tryz.infoRow rfl (by omega) 0 rfl rfl _ _ rfl rfl rfl (by simp [Value.oneCell']) (by omega) (by unfold maxLen;omega) ?_;intro A2 c2 w' M';(try simp only [zr_,zm_] at M');replace M:=Lib.hid M';clear M'))
   rw [row_push,← HN.out] at M
   go_roundw
   case rel => exact ⟨k + 1,_,m + 1,_,by omega,by omega,by go_num,rfl,M⟩
   case measure => simp [intOf];omega

end Go.Proofs.YtpmfhfpjiebcjaaGreat
namespace Go.Proofs.YtpmfhfpjiebcjaaGreat
open Go.RowKit Go.Deep
set_option linter.unnecessarySimpa false
set_option linter.unusedSimpArgs false
set_option linter.unusedVariables false

def stepsN (ph : Int) (n m : Nat) : Int:=if ph = 1 ∨ ph = 4 ∨ ph = 5 ∨ ph = 7 then (n : Int) else if ph = 3 then (m : Int) else 1
def onP (ph : Int) (n m : Nat) : Int:=if ph = 3 ∧ m = 0 then (if n = 0 then 6 else 4) else if ph = 4 ∧ n = 0 then 6 else ph
def backPA (n : Int) : Int × Int:=if n = 0 then (8,0) else (7,n - 1)
def nextPA (ph at_ ph2 : Int) (n m : Nat) : Int × Int:=if at_ + 1 = stepsN ph n m then (onP ph2 n m,0) else (ph,at_ + 1)
def rising (l : List Int) : Prop:=∀ (i : Nat) (x y : Int),l[i]? = some x → l[i + 1]? = some y → x < y
def Commit.fine (c : Commit) : Prop:=(1 ≤ c.who_ ∧ c.who_ ≤ 99) ∧ (0 ≤ c.rv_ ∧ c.rv_ ≤ 1000000) ∧ (0 ≤ c.wv_ ∧ c.wv_ ≤ 1000000) ∧ (1 ≤ c.phase_ ∧ c.phase_ ≤ 8) ∧ rowsOk c.puts_ = true ∧ rising (c.puts_.map (·.cell_)) ∧ ((∀ x ∈ c.reads_,0 ≤ x ∧ x ≤ 7) ∧ rising c.reads_) ∧ (0 ≤ c.at_ ∧ c.at_ ≤ stepsN c.phase_ c.puts_.length c.reads_.length - 1)
noncomputable def commitOk (c : Commit) : Bool:=dec c.fine
theorem ints_at {D : List Int} {j : Nat} {x : Int} (h : D[j]? = some x) : (ints D)[j]? = some (.int .i64 x):=by simp [ints,h]
theorem own_emptyI (w : World) : (w.alloc (.cells #[] 3)).ownsRow w.heap.size 3 1 (.slice (some ⟨w.heap.size,0,none⟩) 0 0) 0 (ints []) :=
 World.ownsRow_lit w #[] 0 (Nat.le_refl _) (Nat.zero_le _) (by simp [ints])
theorem Mine.wp_mkI {ops : Array Oper} {rest : List Oper} {o : Oper} {a : Act} {Q : Exit → Act → World → Prop} {b w : World} {rs : List Res} (M : Mine b w rs) (hgd : o.guard = none) (ho : o.op = .buildSlice 22 0 #[])
  (h : ∀ gv w',Mine b w' (.row 3 1 (some ⟨gv,0,none⟩) 0 0 (ints [])::rs) → wpList Tryz.prog ops Q rest (a.put o.dst (.slice (some ⟨gv,0,none⟩) 0 0)) w') : wpList Tryz.prog ops Q (o::rest) a w :=
 wpList_plain hgd fun _ hK => by
  have h1:=hK _ _ (h _ _ (M.own (own_emptyI w) ((Ext.refl' w).al _)))
  unfold Oper.wp execOp
  simp only [ho]
  go_simp
  exact h1
set_option maxHeartbeats 4000000 in
theorem copyRows_own (A : Option Addr) (n c : Nat) (l : List Row) (w : World) (S : Nat → Prop) (hs : Sl w S 2 A n (l.flatMap Row.cells)) (hm : n ≤ 1048576) :
  Calls Tryz.prog 90 #[.slice A n c] w fun e w' => ∃ B d,e = .returned (.slice B n d) ∧ w'.ownsRow w.heap.size 97 2 (.slice B n d) n (l.flatMap Row.cells) ∧ Ext w w':=by
 go_enter Tryz.func90,Tryz.ntmps90
 go_wp2_with (at_builtin;refine wp_pour rfl _ _ _ rfl w.heap.size 97 _ _ _ Tryz.underlying51 Tryz.infoRow rfl (by omega) (.slice none 0 0) 0 [] rfl (World.ownsRow_nil _ _ _ _) S A n c (l.flatMap Row.cells) rfl hs (row_one l) (by omega) (by unfold maxLen;omega) (Nat.le_refl _) ?_;intro A' c' w' hown hchg hat)
 go_ret
 exact ⟨A',c',by simp,by simpa using hown,hchg.none⟩

set_option maxRecDepth 8000 in
set_option maxHeartbeats 8000000 in
theorem impl_copyCommit_m (who rv ph at_ wv : Int) (Ap : Option Addr) (np cp : Nat) (Ar : Option Addr) (nr cr : Nat) (ps : List Row) (rs : List Int) (w : World) (S1 : Nat → Prop) (h1 : Sl w S1 2 Ap np (ps.flatMap Row.cells)) (hm1 : np ≤ 1048576) (S2 : Nat → Prop) (h2 : Sl w S2 1 Ar nr (ints rs)) (hm2 : nr ≤ 1048576) :
  Calls Tryz.prog 130 #[.agg #[.int .i64 who,.int .i64 rv,.int .i64 ph,.int .i64 at_,.int .i64 wv,.slice Ap np cp,.slice Ar nr cr]] w fun e w' => ∃ Bp dp Br dr,e = .returned (.agg #[.int .i64 who,.int .i64 rv,.int .i64 ph,.int .i64 at_,.int .i64 wv,.slice Bp np dp,.slice Br nr dr]) ∧ Mine w w' [.row 97 2 Bp np dp (ps.flatMap Row.cells),.row 3 1 Br nr dr (ints rs)]:=by
 have H1:=Lib.hid h1
 have H2:=Lib.hid h2
 clear h1 h2
 have M:=Lib.hid (Mine.refl w)
 go_enter Tryz.func130,Tryz.ntmps130
 go_wp2_with (first|(go_at_call 90;(with_reducible refine (copyRows_own Ap np cp ps _ S1 (H1.out.ext M.out.ext) hm1).mono ?_);rintro e w' ⟨Bp,dp,rfl,o9,x9⟩;replace M:=Lib.hid (M.out.own o9 x9);clear o9 x9)|(go_at_call 72;(with_reducible refine (copyInts_any Ar nr cr rs _ S2 (H2.out.ext M.out.ext) hm2).mono ?_);rintro e w' ⟨Br,dr,rfl,o9,x9⟩;replace M:=Lib.hid (M.out.own o9 x9);clear o9 x9)|((with_reducible show wpList _ _ _ (⟨_,_,_,_,_,none⟩::_) _ _);first|(refine Mine.wp_box M.out rfl 64 _ rfl _ rfl ?_;intro ga w' M';(try simp only [zr_,zm_] at M');replace M:=Lib.hid M';clear M';(try simp only [zr_,zm_]))|(refine Mine.wp_alloc M.out rfl 64 rfl (.agg #[.int .i64 0,.int .i64 0,.int .i64 0,.int .i64 0,.int .i64 0,.slice none 0 0,.slice none 0 0]) (by kernel_rfl) ?_;intro gr w' M';(try simp only [Value.cells,zr_,zm_] at M');replace M:=Lib.hid M';clear M';(try simp only [zr_,zm_]))|((first|refine zG M.out 1 ?_|refine zG M.out 2 ?_|refine zGs M.out 64 3 7 ?_);(try simp only [zr_,zm_]))|((first|refine zS M.out 2 ?_|refine zS M.out 3 ?_|refine zSs M.out 64 2 ?_);intro w' M';(try simp only [zr_,zm_] at M');replace M:=Lib.hid M';clear M')))
 refine bodyPost_ret (M.out.results_cell Tryz.results130 _ 2 rfl rfl _ Tryz.underlying64 (by rfl) (by kernel_rfl)) rfl ?_
 exact ⟨_,_,_,_,rfl,(M.out.sub (sk_ (sk_ (sd_ (sd_ s0_))))).perm (List.Perm.swap _ _ _)⟩
end Go.Proofs.YtpmfhfpjiebcjaaGreat
