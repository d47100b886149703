/- Overlay of program and reference. No condition but lengths. Stamps of the reference: the stamps of a history, ascending. No condition but the lengths. -/
import Derived.Test.YtpmfhfpjiebcjaaGreatD00
import Derived.Test.YtpmfhfpjiebcjaaGreatD02
import Derived.Deep.RegionLaw
namespace Go.Proofs.YtpmfhfpjiebcjaaGreat
open Go.RowKit Go.Deep
set_option linter.unnecessarySimpa false

def setTo (l : List Int) (rs : List Row) (k : Nat) : List Int:=(rs.take k).foldl (fun l r => l.set r.cell_.toNat r.val_) l
theorem setTo_succ {l : List Int} {rs : List Row} {k : Nat} {x : Row} (h : rs[k]? = some x) : setTo l rs (k + 1) = (setTo l rs k).set x.cell_.toNat x.val_:=by
 unfold setTo
 rw [List.take_add_one,h]
 simp [List.foldl_append]
theorem setTo_len (l : List Int) (rs : List Row) (k : Nat) : (setTo l rs k).length = l.length:=by
 unfold setTo
 generalize rs.take k = r
 induction r generalizing l with
 | nil => rfl
 | cons x r ih => rw [List.foldl_cons,ih];simp
noncomputable def overlayOf (l : List Int) (rs : List Row) : List Int:=if dec (valsOk l = true ∧ rowsOk rs = true) = true then setTo l rs rs.length else []
theorem overlay_le (l : List Int) (rs : List Row) : (overlayOf l rs).length ≤ 8:=by
 unfold overlayOf
 split
 ·rename_i h
  rw [setTo_len,valsOk_len (dec_true h).1]
  omega
 ·simp
theorem own_len1 {w : World} {b : Nat} {e : TypeId} {n : Nat} {v : Value} {xs : List Int} (h : w.ownsRow b e 1 v n (ints xs)) : xs.length = n:=by have:=own_len h;rwa [ints_length] at this
set_option maxHeartbeats 4000000 in
theorem impl_Overlay (A0 : Option Addr) (n0 c0 : Nat) (l0 : List Int) (A1 : Option Addr) (n1 c1 : Nat) (l1 : List Row) (w : World) (S0 : Nat → Prop) (hs0 : Sl w S0 1 A0 n0 (ints l0)) (hm0 : n0 ≤ 1048576) (S1 : Nat → Prop) (hs1 : Sl w S1 2 A1 n1 (l1.flatMap Row.cells)) (hm1 : n1 ≤ 1048576) :
  Calls Tryz.prog 73 #[.slice A0 n0 c0,.slice A1 n1 c1] w fun e w' => ∃ B m d,e = .returned (.slice B m d) ∧ w'.ownsRow w.heap.size 3 1 (.slice B m d) m (ints (overlayOf l0 l1)) ∧ Ext w w':=by
 have H1:=Lib.hid (hs1.flen Row.cells_length (by omega))
 have H0:=Lib.hid hs0.len
 have HS0:=Lib.hid hs0
 have HS1:=Lib.hid hs1
 cases hv : valsOk l0
 ·have HN : Hid (overlayOf l0 l1 = []):=by unfold overlayOf;rw [dec_no fun h => by rw [hv] at h;exact absurd h.1 (by simp)];rfl
  go_enter Tryz.func73,Tryz.ntmps73
  go_wp2_with (first|(go_at_call 64;refine (areValues_any _ _ _ l0 _ S0 hs0 (by omega)).mono ?_;rintro e w' ⟨rfl,rfl⟩))
  clear hv hs0 hs1
  go_wp2
  go_ret
  exact ⟨_,_,_,rfl,by rw [HN.out];exact World.ownsRow_nil _ _ _ _,Ext.refl' _⟩
 cases hr : rowsOk l1
 ·have HN : Hid (overlayOf l0 l1 = []):=by unfold overlayOf;rw [dec_no fun h => by rw [hr] at h;exact absurd h.2 (by simp)];rfl
  go_enter Tryz.func73,Tryz.ntmps73
  go_wp2_with (first|(go_at_call 64;refine (areValues_any _ _ _ l0 _ S0 hs0 (by omega)).mono ?_;rintro e w' ⟨rfl,rfl⟩))
  clear hv hs0
  go_wp2_with fail
  refine (impl_RowsOk _ _ _ l1 _ S1 hs1 hm1).mono ?_
  rintro e w1 ⟨rfl,x1⟩
  rw [hr]
  clear hr hs1
  have X1:=Lib.hid x1
  have z1 : w.heap.size ≤ w1.heap.size:=x1.size
  clear x1
  go_wp2
  go_ret
  exact ⟨_,_,_,rfl,by rw [HN.out];exact World.ownsRow_nil _ _ _ _,X1.out⟩
 have HY : Hid (overlayOf l0 l1 = setTo l0 l1 l1.length):=by unfold overlayOf;rw [dec_yes ⟨hv,hr⟩];rfl
 have H8:=Lib.hid (valsOk_len hv)
 have HRW:=Lib.hid (dec_true hr).2
 go_enter Tryz.func73,Tryz.ntmps73
 go_wp2_with (first|(go_at_call 64;refine (areValues_any _ _ _ l0 _ S0 hs0 (by omega)).mono ?_;rintro e w' ⟨rfl,rfl⟩))
 clear hv hs0
 go_wp2_with fail
 refine (impl_RowsOk _ _ _ l1 _ S1 hs1 hm1).mono ?_
 rintro e w1 ⟨rfl,x1⟩
 rw [hr]
 clear hr hs1
 have X1:=Lib.hid x1
 have z1 : w.heap.size ≤ w1.heap.size:=x1.size
 clear x1
 go_wp2_with fail
 refine (copyInts_any _ _ _ l0 _ S0 (HS0.out.ext X1.out) hm0).mono ?_
 rintro e w2 ⟨B,d,rfl,own2,x2⟩
 have X2:=Lib.hid (X1.out.tr x2)
 clear x2
 obtain rfl : n0 = 8:=by have h1:=H0.out;have h2:=H8.out;omega
 obtain ⟨g,rfl⟩ : ∃ g,B = some ⟨g,0,none⟩:=by
  rcases own2.2 with ⟨_,h0⟩|⟨g,cap,cur,hv,_⟩
  ·omega
  ·injection hv with h1;exact ⟨g,h1⟩
 have hg:=(own2.lt g rfl).1
 have O2:=Lib.hid (own_base (b':=w.heap.size) own2 (by omega))
 have hgb:=Lib.hid hg
 clear own2 hg
 go_wp2
 go_loopw [20] (fun i wr => ∃ k : Nat,k ≤ n1 ∧ i = .int .i64 k ∧ wr.ownsRow w.heap.size 3 1 (.slice (some ⟨g,0,none⟩) 8 d) 8 (ints (setTo l0 l1 k)) ∧ Ext w wr) (fun i _ => n1 - (intOf i).toNat)
 case atStart => exact ⟨0,Nat.zero_le _,rfl,O2.out,X2.out⟩
 case round =>
  obtain ⟨k,hk,rfl,ho,hx⟩:=hrel
  have HO:=Lib.hid ho
  have HX:=Lib.hid hx
  clear ho hx
  by_cases hlt : (k : Int) < (n1 : Int)
  rotate_left
  ·have e : Hid (k = l1.length):=by have h:=H1.out;show k = _;omega
   go_wp2
   go_ret
   exact ⟨_,_,_,rfl,by rw [HY.out,← e.out];exact HO.out,HX.out⟩
  obtain ⟨b,o,rfl⟩:=HS1.out.addr (by omega)
  obtain ⟨s,hsk,hblt,hc⟩:=(HS1.out.ext HX.out).flat_cell (k:=k) Row.cells_length (by omega) (by omega)
  have hb0:=(HS1.out.flat_cell (k:=k) Row.cells_length (by omega) (by omega)).choose_spec.2.1
  obtain ⟨g0,g1⟩:=s
  have k0:=hc 0 (by omega)
  have k1:=hc 1 (by omega)
  simp only [Row.cells,List.getElem?_cons_zero,List.getElem?_cons_succ,Nat.add_zero] at k0 k1
  have hok:=HRW.out k (by have h:=H1.out;omega) _ hsk
  obtain ⟨j,rfl⟩ : ∃ j : Nat,g0 = (j : Int):=⟨g0.toNat,by have:=hok.1.1;simp only at this;omega⟩
  have hj : j < 8:=by have:=hok.1.2;simp only at this;omega
  have HSK:=Lib.hid hsk
  obtain ⟨v,hv⟩ : ∃ v,wr.cell? ⟨g,j,none⟩ = some v:=by
   rw [HO.out.cellAt j (by omega)]
   exact ⟨_,List.getElem?_eq_getElem (by rw [ints_length,own_len1 HO.out];exact hj)⟩
  have hf:=HO.out.frozenAt (g:=g) j
  have hgl:=(HO.out.lt g rfl).2
  have hbg : b ≠ g:=by have:=hgb.out;omega
  have hj1 : (j : Int) < 8:=by omega
  have hj0 : (0 : Int) ≤ (j : Int):=by omega
  have hb1 : (0 : Int) ≤ (k : Int):=by omega
  have HJ8:=Lib.hid hj
  have HK:=Lib.hid hk
  have HLT : Hid (k < n1):=by show k < n1;omega
  clear hsk hc hok hj hb0 hk
  go_wp2
  go_roundw
  case rel =>
   exact ⟨k + 1,by have:=HLT.out;omega,by go_num,by rw [setTo_succ HSK.out,← ints_set];exact own_ext (HO.out.stored j (.int .i64 g1)).1 ((Ext.refl' _).al _),(HX.out.sc (p:=⟨g,j,none⟩) (by have:=hgb.out;show w.heap.size ≤ g;omega) _).al _⟩
  case measure => have:=HLT.out;simp [intOf];omega
 

set_option maxHeartbeats 4000000 in
theorem spec_Overlay (A0 : Option Addr) (n0 c0 : Nat) (l0 : List Int) (A1 : Option Addr) (n1 c1 : Nat) (l1 : List Row) (w : World) (S0 : Nat → Prop) (hs0 : Sl w S0 1 A0 n0 (ints l0)) (hm0 : n0 ≤ 1048576) (S1 : Nat → Prop) (hs1 : Sl w S1 2 A1 n1 (l1.flatMap Row.cells)) (hm1 : n1 ≤ 1048576) :
  Calls Tryz.prog 74 #[.slice A0 n0 c0,.slice A1 n1 c1] w fun e w' => ∃ B m d,e = .returned (.slice B m d) ∧ w'.ownsRow w.heap.size 3 1 (.slice B m d) m (ints (overlayOf l0 l1)) ∧ Ext w w':=by
 have H1:=Lib.hid (hs1.flen Row.cells_length (by omega))
 have H0:=Lib.hid hs0.len
 have HS0:=Lib.hid hs0
 have HS1:=Lib.hid hs1
 cases hv : valsOk l0
 ·have HN : Hid (overlayOf l0 l1 = []):=by unfold overlayOf;rw [dec_no fun h => by rw [hv] at h;exact absurd h.1 (by simp)];rfl
  go_enter Tryz.func74,Tryz.ntmps74
  go_wp2_with (first|(go_at_call 55;refine (l3Vals_any _ _ _ l0 _ S0 hs0 (by omega)).mono ?_;rintro e w' ⟨rfl,rfl⟩))
  clear hv hs0 hs1
  go_wp2
  go_ret
  exact ⟨_,_,_,rfl,by rw [HN.out];exact own_emptyC w,(Ext.refl' _).al _⟩
 cases hr : rowsOk l1
 ·have HN : Hid (overlayOf l0 l1 = []):=by unfold overlayOf;rw [dec_no fun h => by rw [hr] at h;exact absurd h.2 (by simp)];rfl
  go_enter Tryz.func74,Tryz.ntmps74
  go_wp2_with (first|(go_at_call 55;refine (l3Vals_any _ _ _ l0 _ S0 hs0 (by omega)).mono ?_;rintro e w' ⟨rfl,rfl⟩))
  clear hv hs0
  go_wp2_with fail
  refine (spec_RowsOk _ _ _ l1 _ S1 hs1 hm1).mono ?_
  rintro e w1 ⟨rfl,x1⟩
  rw [hr]
  clear hr hs1
  have X1:=Lib.hid x1
  have z1 : w.heap.size ≤ w1.heap.size:=x1.size
  clear x1
  go_wp2
  go_ret
  exact ⟨_,_,_,rfl,by rw [HN.out];exact own_base (own_emptyC w1) z1,X1.out.al _⟩
 have HY : Hid (overlayOf l0 l1 = setTo l0 l1 l1.length):=by unfold overlayOf;rw [dec_yes ⟨hv,hr⟩];rfl
 have H8:=Lib.hid (valsOk_len hv)
 have HRW:=Lib.hid (dec_true hr).2
 go_enter Tryz.func74,Tryz.ntmps74
 go_wp2_with (first|(go_at_call 55;refine (l3Vals_any _ _ _ l0 _ S0 hs0 (by omega)).mono ?_;rintro e w' ⟨rfl,rfl⟩))
 clear hv hs0
 go_wp2_with fail
 refine (spec_RowsOk _ _ _ l1 _ S1 hs1 hm1).mono ?_
 rintro e w1 ⟨rfl,x1⟩
 rw [hr]
 clear hr hs1
 have X1:=Lib.hid x1
 have z1 : w.heap.size ≤ w1.heap.size:=x1.size
 clear x1
 go_wp2_with (at_builtin;refine wp_pour rfl _ _ _ rfl w1.heap.size 3 _ _ _ Tryz.underlying22 Tryz.infoInt rfl (by omega) (.slice (some ⟨w1.heap.size,0,none⟩) 0 0) 0 (ints []) rfl (own_emptyC w1) S0 A0 n0 c0 (ints l0) rfl ((HS0.out.ext X1.out).ext ((Ext.refl' w1).al _)) (ints_one l0) (by omega) (by unfold maxLen;omega) (by simp) ?_;intro B d w2 hown hchg hat)
 have own2 : w2.ownsRow w1.heap.size 3 1 (.slice B n0 d) n0 (ints l0):=by simpa [ints] using hown
 have X2:=Lib.hid (X1.out.tr (hchg.ext ((Ext.refl' w1).al _) (fun k hk => by simp [Value.ownBlock] at hk;omega)))
 clear hown hchg hat
 obtain rfl : n0 = 8:=by have h1:=H0.out;have h2:=H8.out;omega
 obtain ⟨g,rfl⟩ : ∃ g,B = some ⟨g,0,none⟩:=by
  rcases own2.2 with ⟨_,h0⟩|⟨g,cap,cur,hv,_⟩
  ·omega
  ·injection hv with h1;exact ⟨g,h1⟩
 have hg:=(own2.lt g rfl).1
 have O2:=Lib.hid (own_base (b':=w.heap.size) own2 (by omega))
 have hgb:=Lib.hid hg
 clear own2 hg
 go_wp2
 go_loopw [6] (fun i wr => ∃ k : Nat,k ≤ n1 ∧ i = .int .i64 k ∧ wr.ownsRow w.heap.size 3 1 (.slice (some ⟨g,0,none⟩) 8 d) 8 (ints (setTo l0 l1 k)) ∧ Ext w wr) (fun i _ => n1 - (intOf i).toNat)
 case atStart => exact ⟨0,Nat.zero_le _,rfl,O2.out,X2.out⟩
 case round =>
  obtain ⟨k,hk,rfl,ho,hx⟩:=hrel
  have HO:=Lib.hid ho
  have HX:=Lib.hid hx
  clear ho hx
  by_cases hlt : (k : Int) < (n1 : Int)
  rotate_left
  ·have e : Hid (k = l1.length):=by have h:=H1.out;show k = _;omega
   go_wp2
   go_ret
   exact ⟨_,_,_,rfl,by rw [HY.out,← e.out];exact HO.out,HX.out⟩
  obtain ⟨b,o,rfl⟩:=HS1.out.addr (by omega)
  obtain ⟨s,hsk,hblt,hc⟩:=(HS1.out.ext HX.out).flat_cell (k:=k) Row.cells_length (by omega) (by omega)
  have hb0:=(HS1.out.flat_cell (k:=k) Row.cells_length (by omega) (by omega)).choose_spec.2.1
  obtain ⟨g0,g1⟩:=s
  have k0:=hc 0 (by omega)
  have k1:=hc 1 (by omega)
  simp only [Row.cells,List.getElem?_cons_zero,List.getElem?_cons_succ,Nat.add_zero] at k0 k1
  have hok:=HRW.out k (by have h:=H1.out;omega) _ hsk
  obtain ⟨j,rfl⟩ : ∃ j : Nat,g0 = (j : Int):=⟨g0.toNat,by have:=hok.1.1;simp only at this;omega⟩
  have hj : j < 8:=by have:=hok.1.2;simp only at this;omega
  have HSK:=Lib.hid hsk
  obtain ⟨v,hv⟩ : ∃ v,wr.cell? ⟨g,j,none⟩ = some v:=by
   rw [HO.out.cellAt j (by omega)]
   exact ⟨_,List.getElem?_eq_getElem (by rw [ints_length,own_len1 HO.out];exact hj)⟩
  have hf:=HO.out.frozenAt (g:=g) j
  have hgl:=(HO.out.lt g rfl).2
  have hbg : b ≠ g:=by have:=hgb.out;omega
  have hj1 : (j : Int) < 8:=by omega
  have hj0 : (0 : Int) ≤ (j : Int):=by omega
  have hb1 : (0 : Int) ≤ (k : Int):=by omega
  have HJ8:=Lib.hid hj
  have HK:=Lib.hid hk
  have HLT : Hid (k < n1):=by show k < n1;omega
  clear hsk hc hok hj hb0 hk
  go_wp2
  go_region_law (fail)
  all_goals
   go_wp2
   go_roundw
   case rel =>
    exact ⟨k + 1,by have:=HLT.out;omega,by go_num,by rw [setTo_succ HSK.out,← ints_set];exact HO.out.drew.stored j (.int .i64 g1) |>.1,(HX.out.dr).sc (p:=⟨g,j,none⟩) (by have:=hgb.out;show w.heap.size ≤ g;omega) _⟩
   case measure => have:=HLT.out;simp [intOf];omega
 
end Go.Proofs.YtpmfhfpjiebcjaaGreat
namespace Go.Proofs.YtpmfhfpjiebcjaaGreat
open Go.RowKit Go.Deep
set_option linter.unnecessarySimpa false
set_option linter.unusedSimpArgs false
set_option linter.unusedVariables false

def sorted (l : List Wrote) : List Int:=(l.map (·.stamp_)).mergeSort fun a b => decide (a ≤ b)
noncomputable def stampsOf (l : List Wrote) : List Int:=if histOk l = true then sorted l else []
theorem sorted_len (l : List Wrote) : (sorted l).length = l.length:=by unfold sorted;rw [(List.mergeSort_perm _ _).length_eq,List.length_map]
theorem sorted_mem {l : List Wrote} {x : Int} : x ∈ sorted l ↔ ∃ (i : Nat) (y : Wrote),l[i]? = some y ∧ y.stamp_ = x:=by
 unfold sorted
 rw [(List.mergeSort_perm _ _).mem_iff,List.mem_map]
 constructor
 ·rintro ⟨y,hy,e⟩
  obtain ⟨i,hi⟩:=List.mem_iff_getElem?.1 hy
  exact ⟨i,y,hi,e⟩
 ·rintro ⟨i,y,hy,e⟩
  exact ⟨y,List.mem_of_getElem? hy,e⟩
theorem hist_one {l : List Wrote} (h : histOk l = true) {i : Nat} {y : Wrote} (hy : l[i]? = some y) : hOne l i y:=(dec_true h).2 i (List.getElem?_eq_some_iff.1 hy).1 y hy
theorem sorted_lt {l : List Wrote} (h : histOk l = true) {i j : Nat} {x y : Int} (hij : i < j) (hx : (sorted l)[i]? = some x) (hy : (sorted l)[j]? = some y) : x < y:=by
 have hn : (l.map (·.stamp_)).Nodup:=by
  rw [List.Nodup,List.pairwise_iff_getElem]
  intro a b ha hb hab
  simp only [List.length_map] at ha hb
  have:=(hist_one h (List.getElem?_eq_getElem hb)).2.2.2 a _ hab (List.getElem?_eq_getElem ha)
  simpa using this
 have h1 : (sorted l).Nodup:=(List.mergeSort_perm _ _).symm.nodup hn
 have h2 : (sorted l).Pairwise (fun a b => decide (a ≤ b) = true):=List.pairwise_mergeSort (fun a b c h1 h2 => by simp at *;omega) (fun a b => by simp;omega) _
 obtain ⟨ix,ex⟩:=List.getElem?_eq_some_iff.1 hx
 obtain ⟨iy,ey⟩:=List.getElem?_eq_some_iff.1 hy
 have h3:=List.pairwise_iff_getElem.1 h1 i j ix iy hij
 have h4:=List.pairwise_iff_getElem.1 h2 i j ix iy hij
 rw [ex,ey] at h3 h4
 have h5 : x ≤ y:=by simpa using h4
 omega
theorem stamp_in {l : List Wrote} (h : histOk l = true) {x : Int} (hx : x ∈ sorted l) : 1 ≤ x ∧ x ≤ 1000000:=by
 obtain ⟨i,y,hy,rfl⟩:=sorted_mem.1 hx
 exact (hist_one h hy).1
/-- L is the last of the first k. -/
def lastIs (l : List Wrote) (k : Nat) (L : Int) : Prop:=(k = 0 ∧ L = 0) ∨ (0 < k ∧ (sorted l)[k - 1]? = some L)
/-- The least stamp behind L among the first j. -/
def bestIs (l : List Wrote) (L : Int) (j : Nat) (b : Int) : Prop:=(b = 1000001 ∨ ∃ (i : Nat) (y : Wrote),i < j ∧ l[i]? = some y ∧ y.stamp_ = b ∧ L < b) ∧ ∀ (i : Nat) (y : Wrote),i < j → l[i]? = some y → L < y.stamp_ → b ≤ y.stamp_
theorem best_next {l : List Wrote} (h : histOk l = true) {k : Nat} {L b : Int} (hk : k < l.length) (hL : lastIs l k L) (hb : bestIs l L l.length b) : (sorted l)[k]? = some b:=by
 have hks : k < (sorted l).length:=by rw [sorted_len];exact hk
 have hx:=List.getElem?_eq_getElem hks
 generalize (sorted l)[k] = x at hx
 have hxm : x ∈ sorted l:=List.mem_of_getElem? hx
 have hLx : L < x:=by
  rcases hL with ⟨_,rfl⟩|⟨h0,hl⟩
  ·have:=stamp_in h hxm;omega
  ·exact sorted_lt h (by omega) hl hx
 obtain ⟨i,y,hy,hyx⟩:=sorted_mem.1 hxm
 have h1:=hb.2 i y (List.getElem?_eq_some_iff.1 hy).1 hy (by rw [hyx];exact hLx)
 rw [hyx] at h1
 have hxi:=stamp_in h hxm
 rcases hb.1 with e|⟨i2,y2,_,hy2,e2,hLb⟩
 ·omega
 ·have hbm : b ∈ sorted l:=sorted_mem.2 ⟨i2,y2,hy2,e2⟩
  obtain ⟨q,hq⟩:=List.mem_iff_getElem?.1 hbm
  by_cases hqk : q < k
  ·exfalso
   rcases hL with ⟨h0,_⟩|⟨h0,hl⟩
   ·omega
   ·by_cases e : q = k - 1
    ·subst e;rw [hl] at hq;injection hq with hq;omega
    ·have:=sorted_lt h (show q < k - 1 by omega) hq hl;omega
  ·by_cases e : q = k
   ·subst e;exact hq
   ·have:=sorted_lt h (show k < q by omega) hx hq;omega
theorem best_skip {l : List Wrote} {L b : Int} {j : Nat} {y : Wrote} (hb : bestIs l L j b) (hy : l[j]? = some y) (h : ¬ (L < y.stamp_ ∧ y.stamp_ < b)) : bestIs l L (j + 1) b:=by
 refine ⟨?_,fun i z hi hz hL => ?_⟩
 ·rcases hb.1 with e|⟨i,z,hi,r⟩
  ·exact .inl e
  ·exact .inr ⟨i,z,by omega,r⟩
 ·by_cases e : i = j
  ·subst e;rw [hy] at hz;injection hz with hz;subst hz;omega
  ·exact hb.2 i z (by omega) hz hL
theorem best_take {l : List Wrote} {L b : Int} {j : Nat} {y : Wrote} (hb : bestIs l L j b) (hy : l[j]? = some y) (h : L < y.stamp_ ∧ y.stamp_ < b) : bestIs l L (j + 1) y.stamp_:=by
 refine ⟨.inr ⟨j,y,Nat.lt_succ_self j,hy,rfl,h.1⟩,fun i z hi hz hL => ?_⟩
 by_cases e : i = j
 ·subst e;rw [hy] at hz;injection hz with hz;subst hz;omega
 ·have:=hb.2 i z (by omega) hz hL;omega
def lenSt : Value → Nat
 | .slice _ n _ => n
 | _ => 0
theorem own_emptySt (w : World) : (w.alloc (.cells #[] 3)).ownsRow w.heap.size 3 1 (.slice (some ⟨w.heap.size,0,none⟩) 0 0) 0 (ints []) :=
 World.ownsRow_lit w #[] 0 (Nat.le_refl _) (Nat.zero_le _) (by simp [ints])

set_option maxRecDepth 4000 in
set_option maxHeartbeats 8000000 in
theorem spec_Stamps (A : Option Addr) (n c : Nat) (l : List Wrote) (w : World) (S : Nat → Prop) (hs : SlR Wrote.R 3 w S A n l) (hm : n ≤ 1048576) (hp : ∀ x ∈ l,x.puts_.length ≤ 1048576) :
  Calls Tryz.prog 23 #[.slice A n c] w fun e w' => ∃ B m d,e = .returned (.slice B m d) ∧ w'.ownsRow w.heap.size 3 1 (.slice B m d) m (ints (stampsOf l)) ∧ Ext w w':=by
 have H : Hid (l.length = n):=hs.1
 have HS:=Lib.hid hs
 have HP:=Lib.hid hp
 clear hs hp
 have M : Hid (Mine w w []):=Mine.refl w
 go_enter Tryz.func23,Tryz.ntmps23
 go_wp2_with fail
 replace M:=Lib.hid (M.out.own (own_emptySt _) ((Ext.refl' _).al _))
 refine (spec_HistOk A n c l _ S (HS.out.ext Wrote.R_good M.out.ext) hm HP.out).mono ?_
 rintro e w1 ⟨rfl,x1⟩
 replace M:=Lib.hid (M.out.on x1)
 clear x1
 cases hok : histOk l
 ·have e0 : Hid (stampsOf l = []):=by show _ = _;unfold stampsOf;rw [hok];rfl
  clear hok
  go_wp2
  go_ret
  rw [e0.out]
  exact ⟨_,_,_,rfl,M.out.row_at 0 rfl,M.out.ext⟩
 have e0 : Hid (stampsOf l = sorted l):=by show _ = _;unfold stampsOf;rw [hok];rfl
 have HOK:=Lib.hid hok
 have hn200 : (n : Int) ≤ 1048576:=by omega
 clear hok
 go_wp2
 go_loopw [3,4] (fun u la wr => ∃ (k d : Nat) (B : Option Addr) (L : Int),k ≤ n ∧ u = .slice B k d ∧ la = .int .i64 L ∧ Hid (lastIs l k L) ∧ Hid (Mine w wr [.row 3 1 B k d (ints ((sorted l).take k))])) (fun u _ _ => n - lenSt u)
 case atStart => exact ⟨0,_,_,0,Nat.zero_le _,rfl,rfl,.inl ⟨rfl,rfl⟩,M⟩
 case round =>
  clear M
  obtain ⟨k,d,B,L,hk,rfl,rfl,HL,M⟩:=hrel
  by_cases hlt : (k : Int) < (n : Int)
  rotate_left
  ·obtain rfl : n = k:=by omega
   go_wp2
   go_ret
   rw [e0.out]
   have h:=M.out
   rw [List.take_of_length_le (by rw [sorted_len,H.out];exact Nat.le_refl _)] at h
   exact ⟨_,_,_,rfl,h.row_at 0 rfl,h.ext⟩
  have HK : Hid (k < n):=by show _ < _;omega
  go_wp2
  go_loopw [5,6] (fun be i wr => ∃ (j : Nat) (b : Int),j ≤ n ∧ be = .int .i64 b ∧ i = .int .i64 j ∧ Hid (bestIs l L j b) ∧ Hid (Mine w wr [.row 3 1 B k d (ints ((sorted l).take k))])) (fun _ i _ => n - (intOf i).toNat)
  case atStart => exact ⟨0,1000001,Nat.zero_le _,rfl,rfl,⟨.inl rfl,fun _ _ h => absurd h (Nat.not_lt_zero _)⟩,M⟩
  case round =>
   clear M
   obtain ⟨j,b,hj,rfl,rfl,HB,M⟩:=hrel
   by_cases hjn : (j : Int) < (n : Int)
   rotate_left
   ·have hb:=HB.out
    rw [show j = l.length by rw [H.out];omega] at hb
    have hbk:=best_next HOK.out (by rw [H.out];exact HK.out) HL.out hb
    have HBK:=Lib.hid hbk
    clear hb hbk
    go_wp2_with (first|(at_builtin;refine Mine.wp_push M.out rfl _ _ 22 rfl 3 _ _ _ Tryz.underlying22 Tryz.infoInt rfl (by omega) 0 rfl rfl _ _ rfl rfl rfl (by simp [Value.oneCell']) (by omega) (by unfold maxLen;omega) ?_;intro A2 c2 w' M';(try simp only [zr_,zm_] at M');replace M:=Lib.hid M';clear M'))
    rw [show (sorted l).take k ++ [b] = (sorted l).take (k + 1) by rw [List.take_add_one,HBK.out];rfl] at M
    go_roundw
    case rel => exact ⟨k + 1,_,_,b,HK.out,rfl,rfl,.inr ⟨Nat.succ_pos _,HBK.out⟩,M⟩
    case measure => have:=HK.out;simp [lenSt];omega
   have HJ : Hid (j < n):=by show _ < _;omega
   obtain ⟨bb,o,rfl⟩:=HS.out.addr (by omega)
   obtain ⟨y,_,_,_,hy,hb,q0,_,_,_,_,_⟩:=hist_at (HS.out.ext Wrote.R_good M.out.ext) HJ.out
   obtain ⟨y0,y1,y2⟩:=y
   simp only at q0
   have HY:=Lib.hid hy
   clear hy
   by_cases h1 : L < y0
   rotate_left
   ·have b1 : decide (L < y0) = false:=decide_eq_false h1
    have HN:=Lib.hid (best_skip HB.out HY.out (fun q => h1 q.1))
    clear h1
    go_wp2
    go_roundw
    case rel => exact ⟨j + 1,b,HJ.out,rfl,by go_num,HN,M⟩
    case measure => have:=HJ.out;simp [intOf];omega
   have b1 : decide (L < y0) = true:=decide_eq_true h1
   by_cases h2 : y0 < b
   rotate_left
   ·have b2 : decide (y0 < b) = false:=decide_eq_false h2
    have HN:=Lib.hid (best_skip HB.out HY.out (fun q => h2 q.2))
    clear h2
    go_wp2
    go_roundw
    case rel => exact ⟨j + 1,b,HJ.out,rfl,by go_num,HN,M⟩
    case measure => have:=HJ.out;simp [intOf];omega
   have b2 : decide (y0 < b) = true:=decide_eq_true h2
   have HN:=Lib.hid (best_take HB.out HY.out ⟨h1,h2⟩)
   go_wp2
   go_roundw
   case rel => exact ⟨j + 1,y0,HJ.out,rfl,by go_num,HN,M⟩
   case measure => have:=HJ.out;simp [intOf];omega
end Go.Proofs.YtpmfhfpjiebcjaaGreat
