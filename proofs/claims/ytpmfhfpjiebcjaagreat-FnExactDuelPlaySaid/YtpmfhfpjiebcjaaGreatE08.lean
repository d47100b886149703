/- Rows that rise. No condition but lengths. -/
import Derived.Test.YtpmfhfpjiebcjaaGreatE00
import Derived.Test.YtpmfhfpjiebcjaaGreatE07
namespace Go.Proofs.YtpmfhfpjiebcjaaGreat
open Go.RowKit Go.Deep
set_option linter.unusedSimpArgs false
set_option linter.unusedVariables false

/-- Rising as far as the first k. -/
def risTo (l : List Int) (k : Nat) : Prop:=∀ (i : Nat) (x y : Int),i + 1 < k → l[i]? = some x → l[i + 1]? = some y → x < y
theorem risTo.all {l : List Int} {k : Nat} (h : risTo l k) (hk : l.length ≤ k) : rising l:=fun i x y hx hy => h i x y (by have:=(List.getElem?_eq_some_iff.1 hy).1;omega) hx hy
theorem risTo.next {l : List Int} {k : Nat} {x y : Int} (h : risTo l (k + 1)) (hx : l[k]? = some x) (hy : l[k + 1]? = some y) (hl : x < y) : risTo l (k + 2):=fun i a b hi ha hb => by
 by_cases e : i = k
 ·subst e;rw [hx] at ha;rw [hy] at hb;injection ha with ha;injection hb with hb;omega
 ·exact h i a b (by omega) ha hb
def readTo (l : List Int) (k : Nat) : Prop:=(∀ (i : Nat) (x : Int),i < k → l[i]? = some x → 0 ≤ x ∧ x ≤ 7) ∧ risTo l k
def readsOk (l : List Int) : Prop:=(∀ x ∈ l,0 ≤ x ∧ x ≤ 7) ∧ rising l
theorem readTo.zero (l : List Int) : readTo l 0:=⟨fun _ _ h => absurd h (Nat.not_lt_zero _),fun _ _ _ h => absurd h (Nat.not_lt_zero _)⟩
theorem readTo.all {l : List Int} {k : Nat} (h : readTo l k) (hk : l.length ≤ k) : readsOk l:=⟨fun x hx => by
 obtain ⟨i,hi⟩:=List.mem_iff_getElem?.1 hx
 exact h.1 i x (by have:=(List.getElem?_eq_some_iff.1 hi).1;omega) hi,h.2.all hk⟩
theorem readTo.next {l : List Int} {k : Nat} {x : Int} (h : readTo l k) (hx : l[k]? = some x) (hc : 0 ≤ x ∧ x ≤ 7) (hp : ∀ (j : Nat) (y : Int),k = j + 1 → l[j]? = some y → y < x) : readTo l (k + 1):=⟨fun i y hi hy => by
 by_cases e : i = k
 ·subst e;rw [hx] at hy;injection hy with hy;omega
 ·exact h.1 i y (by omega) hy,fun i a b hi ha hb => by
 by_cases e : i + 1 = k
 ·subst e;rw [hx] at hb;injection hb with hb;have:=hp i a rfl ha;omega
 ·exact h.2 i a b (by omega) ha hb⟩
theorem readsOk.cell {l : List Int} (h : readsOk l) {k : Nat} {x : Int} (hx : l[k]? = some x) : 0 ≤ x ∧ x ≤ 7:=h.1 x (List.mem_of_getElem? hx)
theorem map_cell {l : List Row} {k : Nat} {r : Row} (h : l[k]? = some r) : (l.map (·.cell_))[k]? = some r.cell_:=by rw [List.getElem?_map,h];rfl
noncomputable def readsB (l : List Int) : Bool:=dec (readsOk l)
/-- A row read from a slice of the caller's. -/
theorem rw_at {w : World} {S : Nat → Prop} {b o n i : Nat} {xs : List Row} (h : Sl w S 2 (some ⟨b,o,none⟩) n (xs.flatMap Row.cells)) (hi : i < n) : ∃ x : Row,xs[i]? = some x ∧ (w.cell? ⟨b,o + i * 2,none⟩ = some (.int .i64 x.cell_) ∧ b < w.heap.size) ∧ (w.cell? ⟨b,o + i * 2 + 1,none⟩ = some (.int .i64 x.val_) ∧ b < w.heap.size):=by
 obtain ⟨y,hy,hb,hc⟩:=h.flat_cell (k:=i) Row.cells_length (by omega) hi
 exact ⟨y,hy,⟨by have:=hc 0 (by omega);simpa [Row.cells] using this,hb⟩,⟨by have:=hc 1 (by omega);simpa [Row.cells] using this,hb⟩⟩

theorem stepsN_le (ph : Int) (n m : Nat) (hn : n ≤ 1048576) (hm : m ≤ 1048576) : 0 ≤ stepsN ph n m ∧ stepsN ph n m ≤ 1048576:=by
 unfold stepsN
 split
 ·omega
 ·split <;> omega

set_option maxRecDepth 8000 in
set_option maxHeartbeats 8000000 in
theorem l10Rising_any (A : Option Addr) (n c : Nat) (l : List Int) (w : World) (S : Nat → Prop) (hs : Sl w S 1 A n (ints l)) (hm : n ≤ 1048576) : Calls Tryz.prog 148 #[.slice A n c] w fun e w' => e = .returned (.bool (readsB l)) ∧ Ext w w':=by
 have hl : l.length = n:=hs.len
 have HS:=Lib.hid hs
 clear hs
 have M:=Lib.hid (Mine.refl w)
 go_enter Tryz.func148,Tryz.ntmps148
 go_wp2
 go_loopw [3] (fun i wr => ∃ k : Nat,k ≤ n ∧ i = .int .i64 k ∧ Hid (readTo l k) ∧ Hid (Mine w wr [])) (fun i _ => n - (intOf i).toNat)
 case atStart => exact ⟨0,Nat.zero_le _,rfl,readTo.zero _,M⟩
 case round =>
  clear M
  obtain ⟨k,hk,rfl,HU,M⟩:=hrel
  by_cases hlt : (k : Int) < (n : Int)
  rotate_left
  ·have HZ : Hid (readsB l = true):=dec_yes (HU.out.all (by omega))
   go_wp2
   go_ret
   exact ⟨by rw [HZ.out];rfl,M.out.ext⟩
  have HLT : Hid (k < n):=by show _ < _;omega
  obtain ⟨b,o,rfl⟩:=HS.out.addr (by omega)
  obtain ⟨x,hx,hb,cx⟩:=HS.out.int_cell (k:=k) HLT.out
  have HX:=Lib.hid hx
  have HC : Hid (w.cell? ⟨b,o + k,none⟩ = some (.int .i64 x) ∧ b < w.heap.size):=⟨cx,hb⟩
  clear hx hb cx
  by_cases hc : 0 ≤ x ∧ x ≤ 7
  rotate_left
  ·have HZ : Hid (readsB l = false):=dec_no fun z => hc (z.cell HX.out)
   have dc : decide (0 ≤ x ∧ x ≤ 7) = false:=by simpa using hc
   clear hc
   go_wp2
   refine Mine.region_quiet M.out (by kernel_rfl) (by kernel_rfl) ?_
   repeat (first|go_big_quiet_skip|(go_big_quiet_want;first|(refine Mine.oq_arg 3 _ rfl _ _ HC.out rfl _ Tryz.underlying3 (by rfl) ?_;(try simp only [zr_,zm_]);go_big_quiet_on)|(unfold Oper.quiet;apply Exists.intro;refine ⟨fun wq hq => ?_,?_⟩;(go_simp;go_at_call 57;(with_reducible refine (scell_is dc _).mono ?_);rintro e w2 ⟨rfl,rfl⟩;exact ⟨rfl,hq⟩);(try simp only [zs_,zl_]);go_big_quiet_on)|(unfold Oper.quiet;apply Exists.intro;refine ⟨fun wq hq => ?_,?_⟩;(clear hq;go_simp;first|done|rfl|exact ⟨rfl,rfl⟩);(try simp only [zs_,zl_]);go_big_quiet_on)))
   refine wpQuiet_nil ?_
   intro w' M'
   replace M:=Lib.hid M'
   clear M'
   go_wp2
   go_ret
   exact ⟨by rw [HZ.out];rfl,M.out.ext⟩
  have dc : decide (0 ≤ x ∧ x ≤ 7) = true:=by simpa using hc
  have HCC:=Lib.hid hc
  clear hc
  rcases Nat.eq_zero_or_pos k with h0|h0
  ·have d0 : decide ((0 : Int) < (k : Int)) = false:=by simp only [decide_eq_false_iff_not];omega
   have d0n : decide (0 < k) = false:=by simp only [decide_eq_false_iff_not];omega
   have HK0:=Lib.hid h0
   clear h0
   go_wp2
   refine Mine.region_quiet M.out (by kernel_rfl) (by kernel_rfl) ?_
   repeat (first|go_big_quiet_skip|(go_big_quiet_want;first|(refine Mine.oq_arg 3 _ rfl _ _ HC.out rfl _ Tryz.underlying3 (by rfl) ?_;(try simp only [zr_,zm_]);go_big_quiet_on)|(unfold Oper.quiet;apply Exists.intro;refine ⟨fun wq hq => ?_,?_⟩;(go_simp;go_at_call 57;(with_reducible refine (scell_is dc _).mono ?_);rintro e w2 ⟨rfl,rfl⟩;exact ⟨rfl,hq⟩);(try simp only [zs_,zl_]);go_big_quiet_on)|(unfold Oper.quiet;apply Exists.intro;refine ⟨fun wq hq => ?_,?_⟩;(clear hq;go_simp;first|done|rfl|exact ⟨rfl,rfl⟩);(try simp only [zs_,zl_]);go_big_quiet_on)))
   refine wpQuiet_nil ?_
   intro w' M'
   replace M:=Lib.hid M'
   clear M'
   go_wp2
   go_roundw
   case rel => exact ⟨k + 1,HLT.out,by go_num,Lib.hid (HU.out.next HX.out HCC.out (fun j y h => by have:=HK0.out;omega)),M⟩
   case measure => have:=HLT.out;simp [intOf];omega
  obtain ⟨j,hkj⟩ : ∃ j,k = j + 1:=⟨k - 1,by omega⟩
  have HKJ:=Lib.hid hkj
  have d0 : decide ((0 : Int) < (k : Int)) = true:=by simp only [decide_eq_true_eq];omega
  have d0n : decide (0 < k) = true:=by simp only [decide_eq_true_eq];omega
  have ej : IntKind.i64.wrap ((k : Int) - 1) = (j : Int):=by rw [Go.IntWalk.i64_in _ (by omega)];omega
  obtain ⟨y,hy,hb,cy⟩:=HS.out.int_cell (k:=j) (by have:=HLT.out;omega)
  have HY:=Lib.hid hy
  have HD : Hid (w.cell? ⟨b,o + j,none⟩ = some (.int .i64 y) ∧ b < w.heap.size):=⟨cy,hb⟩
  have hj1 : (j : Int) < (n : Int):=by omega
  clear hy hb cy h0 hkj
  by_cases hxy : x ≤ y
  ·have HZ : Hid (readsB l = false):=dec_no fun z => by have:=z.2 j y x HY.out (by rw [← HKJ.out];exact HX.out);omega
   have dd : decide (x ≤ y) = true:=decide_eq_true hxy
   clear hxy
   go_wp2
   refine Mine.region_quiet M.out (by kernel_rfl) (by kernel_rfl) ?_
   repeat (first|go_big_quiet_skip|(go_big_quiet_want;first|((first|refine Mine.oq_arg 3 _ rfl _ _ HC.out rfl _ Tryz.underlying3 (by rfl) ?_|refine Mine.oq_arg 3 _ rfl _ _ HD.out rfl _ Tryz.underlying3 (by rfl) ?_);(try simp only [zr_,zm_]);go_big_quiet_on)|(unfold Oper.quiet;apply Exists.intro;refine ⟨fun wq hq => ?_,?_⟩;(go_simp;go_at_call 57;(with_reducible refine (scell_is dc _).mono ?_);rintro e w2 ⟨rfl,rfl⟩;exact ⟨rfl,hq⟩);(try simp only [zs_,zl_]);go_big_quiet_on)|(unfold Oper.quiet;apply Exists.intro;refine ⟨fun wq hq => ?_,?_⟩;(clear hq;go_simp;first|done|rfl|exact ⟨rfl,rfl⟩);(try simp only [zs_,zl_]);go_big_quiet_on)))
   refine wpQuiet_nil ?_
   intro w' M'
   replace M:=Lib.hid M'
   clear M'
   go_wp2
   go_ret
   exact ⟨by rw [HZ.out];rfl,M.out.ext⟩
  have dd : decide (x ≤ y) = false:=decide_eq_false hxy
  have HXY : Hid (y < x):=by show _ < _;omega
  clear hxy
  go_wp2
  refine Mine.region_quiet M.out (by kernel_rfl) (by kernel_rfl) ?_
  repeat (first|go_big_quiet_skip|(go_big_quiet_want;first|((first|refine Mine.oq_arg 3 _ rfl _ _ HC.out rfl _ Tryz.underlying3 (by rfl) ?_|refine Mine.oq_arg 3 _ rfl _ _ HD.out rfl _ Tryz.underlying3 (by rfl) ?_);(try simp only [zr_,zm_]);go_big_quiet_on)|(unfold Oper.quiet;apply Exists.intro;refine ⟨fun wq hq => ?_,?_⟩;(go_simp;go_at_call 57;(with_reducible refine (scell_is dc _).mono ?_);rintro e w2 ⟨rfl,rfl⟩;exact ⟨rfl,hq⟩);(try simp only [zs_,zl_]);go_big_quiet_on)|(unfold Oper.quiet;apply Exists.intro;refine ⟨fun wq hq => ?_,?_⟩;(clear hq;go_simp;first|done|rfl|exact ⟨rfl,rfl⟩);(try simp only [zs_,zl_]);go_big_quiet_on)))
  refine wpQuiet_nil ?_
  intro w' M'
  replace M:=Lib.hid M'
  clear M'
  go_wp2
  go_roundw
  case rel => exact ⟨k + 1,HLT.out,by go_num,Lib.hid (HU.out.next HX.out HCC.out (fun i a h ha => by obtain rfl : j = i:=(by have:=HKJ.out;omega);rw [HY.out] at ha;injection ha with ha;rw [← ha];exact HXY.out)),M⟩
  case measure => have:=HLT.out;simp [intOf];omega

end Go.Proofs.YtpmfhfpjiebcjaaGreat
