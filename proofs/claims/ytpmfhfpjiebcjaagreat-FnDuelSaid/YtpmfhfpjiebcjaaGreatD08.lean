/- The small steps of a commit. No condition but ranges. Rows that rise. No condition but lengths. -/
import Derived.Test.YtpmfhfpjiebcjaaGreatD00
import Derived.Test.YtpmfhfpjiebcjaaGreatD07
namespace Go.Proofs.YtpmfhfpjiebcjaaGreat
open Go.RowKit Go.Deep
set_option linter.unnecessarySimpa false
set_option linter.unusedSimpArgs false
set_option linter.unusedVariables false
set_option maxRecDepth 8000 in
set_option maxHeartbeats 8000000 in
theorem impl_steps_m (who rv ph at_ wv : Int) (Ap : Option Addr) (np cp : Nat) (Ar : Option Addr) (nr cr : Nat) (w : World) : Calls Tryz.prog 152 #[.agg #[.int .i64 who,.int .i64 rv,.int .i64 ph,.int .i64 at_,.int .i64 wv,.slice Ap np cp,.slice Ar nr cr]] w fun e w' => e = .returned (.int .i64 (stepsN ph np nr)) ∧ Ext w w':=by
 have M:=Lib.hid (Mine.refl w)
 by_cases p1 : ph = 1
 ·have HZ : Hid (stepsN ph np nr = (np : Int)):=by show _ = _;unfold stepsN;simp [p1]
  subst p1
  go_enter Tryz.func152,Tryz.ntmps152
  go_wp2_with (((with_reducible show wpList _ _ _ (⟨_,_,_,_,_,none⟩::_) _ _);first|(refine Mine.wp_box M.out rfl 64 _ rfl _ rfl ?_;intro ga w' M';(try simp only [zr_,zm_] at M');replace M:=Lib.hid M';clear M';(try simp only [zr_,zm_]))|(refine zG M.out 0 ?_;(try simp only [zr_,zm_]))))
  go_ret
  exact ⟨by rw [HZ.out];rfl,M.out.ext⟩
 by_cases p4 : ph = 4
 ·have HZ : Hid (stepsN ph np nr = (np : Int)):=by show _ = _;unfold stepsN;simp [p4]
  subst p4
  clear p1
  go_enter Tryz.func152,Tryz.ntmps152
  go_wp2_with (((with_reducible show wpList _ _ _ (⟨_,_,_,_,_,none⟩::_) _ _);first|(refine Mine.wp_box M.out rfl 64 _ rfl _ rfl ?_;intro ga w' M';(try simp only [zr_,zm_] at M');replace M:=Lib.hid M';clear M';(try simp only [zr_,zm_]))|(refine zG M.out 0 ?_;(try simp only [zr_,zm_]))))
  go_ret
  exact ⟨by rw [HZ.out];rfl,M.out.ext⟩
 by_cases p5 : ph = 5
 ·have HZ : Hid (stepsN ph np nr = (np : Int)):=by show _ = _;unfold stepsN;simp [p5]
  subst p5
  clear p1 p4
  go_enter Tryz.func152,Tryz.ntmps152
  go_wp2_with (((with_reducible show wpList _ _ _ (⟨_,_,_,_,_,none⟩::_) _ _);first|(refine Mine.wp_box M.out rfl 64 _ rfl _ rfl ?_;intro ga w' M';(try simp only [zr_,zm_] at M');replace M:=Lib.hid M';clear M';(try simp only [zr_,zm_]))|(refine zG M.out 0 ?_;(try simp only [zr_,zm_]))))
  go_ret
  exact ⟨by rw [HZ.out];rfl,M.out.ext⟩
 by_cases p7 : ph = 7
 ·have HZ : Hid (stepsN ph np nr = (np : Int)):=by show _ = _;unfold stepsN;simp [p7]
  subst p7
  clear p1 p4 p5
  go_enter Tryz.func152,Tryz.ntmps152
  go_wp2_with (((with_reducible show wpList _ _ _ (⟨_,_,_,_,_,none⟩::_) _ _);first|(refine Mine.wp_box M.out rfl 64 _ rfl _ rfl ?_;intro ga w' M';(try simp only [zr_,zm_] at M');replace M:=Lib.hid M';clear M';(try simp only [zr_,zm_]))|(refine zG M.out 0 ?_;(try simp only [zr_,zm_]))))
  go_ret
  exact ⟨by rw [HZ.out];rfl,M.out.ext⟩
 by_cases p3 : ph = 3
 ·have HZ : Hid (stepsN ph np nr = (nr : Int)):=by show _ = _;unfold stepsN;simp [p3]
  subst p3
  clear p1 p4 p5 p7
  go_enter Tryz.func152,Tryz.ntmps152
  go_wp2_with (((with_reducible show wpList _ _ _ (⟨_,_,_,_,_,none⟩::_) _ _);first|(refine Mine.wp_box M.out rfl 64 _ rfl _ rfl ?_;intro ga w' M';(try simp only [zr_,zm_] at M');replace M:=Lib.hid M';clear M';(try simp only [zr_,zm_]))|(refine zG M.out 0 ?_;(try simp only [zr_,zm_]))))
  go_ret
  exact ⟨by rw [HZ.out];rfl,M.out.ext⟩
 have HZ : Hid (stepsN ph np nr = 1):=by show _ = _;unfold stepsN;simp [p1,p4,p5,p7,p3]
 have b1 : (ph == 1) = false:=by simpa using p1
 have b4 : (ph == 4) = false:=by simpa using p4
 have b5 : (ph == 5) = false:=by simpa using p5
 have b7 : (ph == 7) = false:=by simpa using p7
 have b3 : (ph == 3) = false:=by simpa using p3
 clear p1 p4 p5 p7 p3
 go_enter Tryz.func152,Tryz.ntmps152
 go_wp2_with (((with_reducible show wpList _ _ _ (⟨_,_,_,_,_,none⟩::_) _ _);first|(refine Mine.wp_box M.out rfl 64 _ rfl _ rfl ?_;intro ga w' M';(try simp only [zr_,zm_] at M');replace M:=Lib.hid M';clear M';(try simp only [zr_,zm_]))|(refine zG M.out 0 ?_;(try simp only [zr_,zm_]))))
 go_ret
 exact ⟨by rw [HZ.out];rfl,M.out.ext⟩
set_option maxRecDepth 8000 in
set_option maxHeartbeats 8000000 in
theorem impl_back_m (who rv ph at_ wv : Int) (Ap : Option Addr) (np cp : Nat) (Ar : Option Addr) (nr cr : Nat) (n : Int) (hn : 0 ≤ n ∧ n ≤ 1048576) (b w : World) (g : Nat) (fr : List Res) (M1 : Mine b w (.box g 64 #[.int .i64 who,.int .i64 rv,.int .i64 ph,.int .i64 at_,.int .i64 wv,.slice Ap np cp,.slice Ar nr cr]::fr)) : Calls Tryz.prog 134 #[.pointer (some ⟨g,0,none⟩),.int .i64 n] w fun e w' => e = .returned (.tuple #[]) ∧ Mine b w' (.box g 64 #[.int .i64 who,.int .i64 rv,.int .i64 ((backPA n).1),.int .i64 ((backPA n).2),.int .i64 wv,.slice Ap np cp,.slice Ar nr cr]::fr):=by
 have M:=Lib.hid M1
 clear M1
 by_cases h : n = 0
 ·have HZ : Hid (backPA n = (8,0)):=by show _ = _;unfold backPA;simp [h]
  subst h
  go_enter Tryz.func134,Tryz.ntmps134
  go_wp2_with (((with_reducible show wpList _ _ _ (⟨_,_,_,_,_,none⟩::_) _ _);first|(refine zS M.out 0 ?_;intro w' M';(try simp only [zr_,zm_] at M');replace M:=Lib.hid M';clear M')))
  first|refine bodyPost_ret (v:=.tuple #[]) (by simp [results,Tryz.results134,go_sem]) rfl ?_|refine bodyPost_end (v:=.tuple #[]) (by simp [results,Tryz.results134,go_sem]) rfl ?_
  rw [HZ.out]
  exact ⟨rfl,M.out⟩
 skip
 ·have HZ : Hid (backPA n = (7,n - 1)):=by show _ = _;unfold backPA;simp [h]
  have b0 : (n == 0) = false:=by simpa using h
  go_enter Tryz.func134,Tryz.ntmps134
  go_wp2_with (((with_reducible show wpList _ _ _ (⟨_,_,_,_,_,none⟩::_) _ _);first|(refine zS M.out 0 ?_;intro w' M';(try simp only [zr_,zm_] at M');replace M:=Lib.hid M';clear M')))
  first|refine bodyPost_ret (v:=.tuple #[]) (by simp [results,Tryz.results134,go_sem]) rfl ?_|refine bodyPost_end (v:=.tuple #[]) (by simp [results,Tryz.results134,go_sem]) rfl ?_
  rw [HZ.out]
  exact ⟨rfl,M.out⟩
set_option maxRecDepth 8000 in
set_option maxHeartbeats 8000000 in
theorem impl_on_m (who rv ph at_ wv : Int) (Ap : Option Addr) (np cp : Nat) (Ar : Option Addr) (nr cr : Nat) (q : Int) (b w : World) (g : Nat) (fr : List Res) (M1 : Mine b w (.box g 64 #[.int .i64 who,.int .i64 rv,.int .i64 ph,.int .i64 at_,.int .i64 wv,.slice Ap np cp,.slice Ar nr cr]::fr)) : Calls Tryz.prog 136 #[.pointer (some ⟨g,0,none⟩),.int .i64 q] w fun e w' => e = .returned (.tuple #[]) ∧ Mine b w' (.box g 64 #[.int .i64 who,.int .i64 rv,.int .i64 (onP q np nr),.int .i64 0,.int .i64 wv,.slice Ap np cp,.slice Ar nr cr]::fr):=by
 have M:=Lib.hid M1
 clear M1
 by_cases h3 : q = 3
 ·subst h3
  by_cases hr : nr = 0
  ·have r0 : ((nr : Int) == 0) = true:=by simp;omega
   by_cases hp : np = 0
   ·have n0 : ((np : Int) == 0) = true:=by simp;omega
    have HZ : Hid (onP 3 np nr = 6):=by show _ = _;unfold onP;simp [hr,hp]
    go_enter Tryz.func136,Tryz.ntmps136
    go_wp2_with (first|((with_reducible show wpList _ _ _ (⟨_,_,_,_,_,none⟩::_) _ _);first|(refine zS M.out 0 ?_;intro w' M';(try simp only [zr_,zm_] at M');replace M:=Lib.hid M';clear M'))|((with_reducible show wpList _ _ _ (⟨_,.load _ _,_,_,_,some _⟩::_) _ _);first|(refine zGg M.out 0 ?_;(try simp only [zr_,zm_]))))
    first|refine bodyPost_ret (v:=.tuple #[]) (by simp [results,Tryz.results136,go_sem]) rfl ?_|refine bodyPost_end (v:=.tuple #[]) (by simp [results,Tryz.results136,go_sem]) rfl ?_
    rw [HZ.out]
    exact ⟨rfl,M.out⟩
   ·have n0 : ((np : Int) == 0) = false:=by simp;omega
    have HZ : Hid (onP 3 np nr = 4):=by show _ = _;unfold onP;simp [hr,hp]
    go_enter Tryz.func136,Tryz.ntmps136
    go_wp2_with (first|((with_reducible show wpList _ _ _ (⟨_,_,_,_,_,none⟩::_) _ _);first|(refine zS M.out 0 ?_;intro w' M';(try simp only [zr_,zm_] at M');replace M:=Lib.hid M';clear M'))|((with_reducible show wpList _ _ _ (⟨_,.load _ _,_,_,_,some _⟩::_) _ _);first|(refine zGg M.out 0 ?_;(try simp only [zr_,zm_]))))
    first|refine bodyPost_ret (v:=.tuple #[]) (by simp [results,Tryz.results136,go_sem]) rfl ?_|refine bodyPost_end (v:=.tuple #[]) (by simp [results,Tryz.results136,go_sem]) rfl ?_
    rw [HZ.out]
    exact ⟨rfl,M.out⟩
  ·have r0 : ((nr : Int) == 0) = false:=by simp;omega
   have HZ : Hid (onP 3 np nr = 3):=by show _ = _;unfold onP;simp [hr]
   go_enter Tryz.func136,Tryz.ntmps136
   go_wp2_with (first|((with_reducible show wpList _ _ _ (⟨_,_,_,_,_,none⟩::_) _ _);first|(refine zS M.out 0 ?_;intro w' M';(try simp only [zr_,zm_] at M');replace M:=Lib.hid M';clear M'))|((with_reducible show wpList _ _ _ (⟨_,.load _ _,_,_,_,some _⟩::_) _ _);first|(refine zGg M.out 0 ?_;(try simp only [zr_,zm_]))))
   first|refine bodyPost_ret (v:=.tuple #[]) (by simp [results,Tryz.results136,go_sem]) rfl ?_|refine bodyPost_end (v:=.tuple #[]) (by simp [results,Tryz.results136,go_sem]) rfl ?_
   rw [HZ.out]
   exact ⟨rfl,M.out⟩
 have b3 : (q == 3) = false:=by simpa using h3
 by_cases h4 : q = 4
 ·subst h4
  by_cases hp : np = 0
  ·have n0 : ((np : Int) == 0) = true:=by simp;omega
   have HZ : Hid (onP 4 np nr = 6):=by show _ = _;unfold onP;simp [hp]
   go_enter Tryz.func136,Tryz.ntmps136
   go_wp2_with (first|((with_reducible show wpList _ _ _ (⟨_,_,_,_,_,none⟩::_) _ _);first|(refine zS M.out 0 ?_;intro w' M';(try simp only [zr_,zm_] at M');replace M:=Lib.hid M';clear M'))|((with_reducible show wpList _ _ _ (⟨_,.load _ _,_,_,_,some _⟩::_) _ _);first|(refine zGg M.out 0 ?_;(try simp only [zr_,zm_]))))
   first|refine bodyPost_ret (v:=.tuple #[]) (by simp [results,Tryz.results136,go_sem]) rfl ?_|refine bodyPost_end (v:=.tuple #[]) (by simp [results,Tryz.results136,go_sem]) rfl ?_
   rw [HZ.out]
   exact ⟨rfl,M.out⟩
  ·have n0 : ((np : Int) == 0) = false:=by simp;omega
   have HZ : Hid (onP 4 np nr = 4):=by show _ = _;unfold onP;simp [hp]
   go_enter Tryz.func136,Tryz.ntmps136
   go_wp2_with (first|((with_reducible show wpList _ _ _ (⟨_,_,_,_,_,none⟩::_) _ _);first|(refine zS M.out 0 ?_;intro w' M';(try simp only [zr_,zm_] at M');replace M:=Lib.hid M';clear M'))|((with_reducible show wpList _ _ _ (⟨_,.load _ _,_,_,_,some _⟩::_) _ _);first|(refine zGg M.out 0 ?_;(try simp only [zr_,zm_]))))
   first|refine bodyPost_ret (v:=.tuple #[]) (by simp [results,Tryz.results136,go_sem]) rfl ?_|refine bodyPost_end (v:=.tuple #[]) (by simp [results,Tryz.results136,go_sem]) rfl ?_
   rw [HZ.out]
   exact ⟨rfl,M.out⟩
 have b4 : (q == 4) = false:=by simpa using h4
 have HZ : Hid (onP q np nr = q):=by show _ = _;unfold onP;simp [h3,h4]
 go_enter Tryz.func136,Tryz.ntmps136
 go_wp2_with (((with_reducible show wpList _ _ _ (⟨_,_,_,_,_,none⟩::_) _ _);first|(refine zS M.out 0 ?_;intro w' M';(try simp only [zr_,zm_] at M');replace M:=Lib.hid M';clear M')))
 first|refine bodyPost_ret (v:=.tuple #[]) (by simp [results,Tryz.results136,go_sem]) rfl ?_|refine bodyPost_end (v:=.tuple #[]) (by simp [results,Tryz.results136,go_sem]) rfl ?_
 rw [HZ.out]
 exact ⟨rfl,M.out⟩
set_option maxRecDepth 8000 in
set_option maxHeartbeats 8000000 in
theorem impl_next_m (who rv ph at_ wv : Int) (Ap : Option Addr) (np cp : Nat) (Ar : Option Addr) (nr cr : Nat) (q : Int) (ha : 0 ≤ at_ ∧ at_ ≤ 1048576) (b w : World) (g : Nat) (fr : List Res) (M1 : Mine b w (.box g 64 #[.int .i64 who,.int .i64 rv,.int .i64 ph,.int .i64 at_,.int .i64 wv,.slice Ap np cp,.slice Ar nr cr]::fr)) : Calls Tryz.prog 133 #[.pointer (some ⟨g,0,none⟩),.int .i64 q] w fun e w' => e = .returned (.tuple #[]) ∧ Mine b w' (.box g 64 #[.int .i64 who,.int .i64 rv,.int .i64 ((nextPA ph at_ q np nr).1),.int .i64 ((nextPA ph at_ q np nr).2),.int .i64 wv,.slice Ap np cp,.slice Ar nr cr]::fr):=by
 have M:=Lib.hid M1
 clear M1
 by_cases h : at_ + 1 = stepsN ph np nr
 ·have HZ : Hid (nextPA ph at_ q np nr = (onP q np nr,0)):=by show _ = _;unfold nextPA;simp [h]
  have bs : (at_ + 1 == stepsN ph np nr) = true:=by simpa using h
  clear h
  go_enter Tryz.func133,Tryz.ntmps133
  go_wp2_with (((with_reducible show wpList _ _ _ (⟨_,_,_,_,_,none⟩::_) _ _);first|(refine zG M.out 0 ?_;(try simp only [zr_,zm_]))|(refine zS M.out 0 ?_;intro w' M';(try simp only [zr_,zm_] at M');replace M:=Lib.hid M';clear M')))
  refine Mine.region_quiet M.out (by kernel_rfl) (by kernel_rfl) ?_
  repeat (first|go_big_quiet_skip|(go_big_quiet_want;first|((first|refine zQ 0 ?_|refine zQs 64 0 7 ?_);(try simp only [zr_,zm_]);go_big_quiet_on)|(unfold Oper.quiet;apply Exists.intro;refine ⟨fun wq hq => ?_,?_⟩;(go_simp;go_at_call 152;(with_reducible refine (impl_steps_m who rv ph (at_ + 1) wv Ap np cp Ar nr cr _).mono ?_);rintro e w2 ⟨rfl,x2⟩;exact ⟨rfl,hq.on x2⟩);(try simp only [zs_,zl_]);go_big_quiet_on)|(unfold Oper.quiet;apply Exists.intro;refine ⟨fun wq hq => ?_,?_⟩;(clear hq;go_simp;first|done|rfl|exact ⟨rfl,rfl⟩);(try simp only [zs_,zl_]);go_big_quiet_on)))
  refine wpQuiet_nil ?_
  intro w' M'
  replace M:=Lib.hid M'
  clear M'
  go_wp2_with ((go_at_call 136;(with_reducible refine (impl_on_m who rv ph (at_ + 1) wv Ap np cp Ar nr cr q b _ g fr M.out).mono ?_);rintro e w' ⟨rfl,M9⟩;replace M:=Lib.hid M9;clear M9))
  first|refine bodyPost_ret (v:=.tuple #[]) (by simp [results,Tryz.results133,go_sem]) rfl ?_|refine bodyPost_end (v:=.tuple #[]) (by simp [results,Tryz.results133,go_sem]) rfl ?_
  rw [HZ.out]
  exact ⟨rfl,M.out⟩
 skip
 ·have HZ : Hid (nextPA ph at_ q np nr = (ph,at_ + 1)):=by show _ = _;unfold nextPA;simp [h]
  have bs : (at_ + 1 == stepsN ph np nr) = false:=by simpa using h
  clear h
  go_enter Tryz.func133,Tryz.ntmps133
  go_wp2_with (((with_reducible show wpList _ _ _ (⟨_,_,_,_,_,none⟩::_) _ _);first|(refine zG M.out 0 ?_;(try simp only [zr_,zm_]))|(refine zS M.out 0 ?_;intro w' M';(try simp only [zr_,zm_] at M');replace M:=Lib.hid M';clear M')))
  refine Mine.region_quiet M.out (by kernel_rfl) (by kernel_rfl) ?_
  repeat (first|go_big_quiet_skip|(go_big_quiet_want;first|((first|refine zQ 0 ?_|refine zQs 64 0 7 ?_);(try simp only [zr_,zm_]);go_big_quiet_on)|(unfold Oper.quiet;apply Exists.intro;refine ⟨fun wq hq => ?_,?_⟩;(go_simp;go_at_call 152;(with_reducible refine (impl_steps_m who rv ph (at_ + 1) wv Ap np cp Ar nr cr _).mono ?_);rintro e w2 ⟨rfl,x2⟩;exact ⟨rfl,hq.on x2⟩);(try simp only [zs_,zl_]);go_big_quiet_on)|(unfold Oper.quiet;apply Exists.intro;refine ⟨fun wq hq => ?_,?_⟩;(clear hq;go_simp;first|done|rfl|exact ⟨rfl,rfl⟩);(try simp only [zs_,zl_]);go_big_quiet_on)))
  refine wpQuiet_nil ?_
  intro w' M'
  replace M:=Lib.hid M'
  clear M'
  go_wp2_with (fail)
  first|refine bodyPost_ret (v:=.tuple #[]) (by simp [results,Tryz.results133,go_sem]) rfl ?_|refine bodyPost_end (v:=.tuple #[]) (by simp [results,Tryz.results133,go_sem]) rfl ?_
  rw [HZ.out]
  exact ⟨rfl,M.out⟩

end Go.Proofs.YtpmfhfpjiebcjaaGreat
namespace Go.Proofs.YtpmfhfpjiebcjaaGreat
open Go.RowKit Go.Deep
set_option linter.unnecessarySimpa false
set_option linter.unusedSimpArgs false
set_option linter.unusedVariables false

/-- Rising as far as the first k. -/
def risTo (l : List Int) (k : Nat) : Prop:=∀ (i : Nat) (x y : Int),i + 1 < k → l[i]? = some x → l[i + 1]? = some y → x < y
theorem risTo.all {l : List Int} {k : Nat} (h : risTo l k) (hk : l.length ≤ k) : rising l:=fun i x y hx hy => h i x y (by have:=(List.getElem?_eq_some_iff.1 hy).1;omega) hx hy
theorem risTo.next {l : List Int} {k : Nat} {x y : Int} (h : risTo l (k + 1)) (hx : l[k]? = some x) (hy : l[k + 1]? = some y) (hl : x < y) : risTo l (k + 2):=fun i a b hi ha hb => by
 by_cases e : i = k
 ·subst e;rw [hx] at ha;rw [hy] at hb;injection ha with ha;injection hb with hb;omega
 ·exact h i a b (by omega) ha hb
def readTo (l : List Int) (k : Nat) : Prop:=(∀ (i : Nat) (x : Int),i < k → l[i]? = some x → 0 ≤ x ∧ x ≤ 7) ∧ risTo l k
def readsOk (l : List Int) : Prop:=(∀ x ∈ l,0 ≤ x ∧ x ≤ 7) ∧ rising l
theorem readTo.zero (l : List Int) : readTo l 0:=⟨fun _ _ h => absurd h (Nat.not_lt_zero _),fun _ _ _ h => absurd h (Nat.not_lt_zero _)⟩
theorem readTo.all {l : List Int} {k : Nat} (h : readTo l k) (hk : l.length ≤ k) : readsOk l:=⟨fun x hx => by
 obtain ⟨i,hi⟩:=List.mem_iff_getElem?.1 hx
 exact h.1 i x (by have:=(List.getElem?_eq_some_iff.1 hi).1;omega) hi,h.2.all hk⟩
theorem readTo.next {l : List Int} {k : Nat} {x : Int} (h : readTo l k) (hx : l[k]? = some x) (hc : 0 ≤ x ∧ x ≤ 7) (hp : ∀ (j : Nat) (y : Int),k = j + 1 → l[j]? = some y → y < x) : readTo l (k + 1):=⟨fun i y hi hy => by
 by_cases e : i = k
 ·subst e;rw [hx] at hy;injection hy with hy;omega
 ·exact h.1 i y (by omega) hy,fun i a b hi ha hb => by
 by_cases e : i + 1 = k
 ·subst e;rw [hx] at hb;injection hb with hb;have:=hp i a rfl ha;omega
 ·exact h.2 i a b (by omega) ha hb⟩
theorem readsOk.cell {l : List Int} (h : readsOk l) {k : Nat} {x : Int} (hx : l[k]? = some x) : 0 ≤ x ∧ x ≤ 7:=h.1 x (List.mem_of_getElem? hx)
theorem map_cell {l : List Row} {k : Nat} {r : Row} (h : l[k]? = some r) : (l.map (·.cell_))[k]? = some r.cell_:=by rw [List.getElem?_map,h];rfl
/-- A row read from a slice of the caller's. -/
theorem rw_at {w : World} {S : Nat → Prop} {b o n i : Nat} {xs : List Row} (h : Sl w S 2 (some ⟨b,o,none⟩) n (xs.flatMap Row.cells)) (hi : i < n) : ∃ x : Row,xs[i]? = some x ∧ (w.cell? ⟨b,o + i * 2,none⟩ = some (.int .i64 x.cell_) ∧ b < w.heap.size) ∧ (w.cell? ⟨b,o + i * 2 + 1,none⟩ = some (.int .i64 x.val_) ∧ b < w.heap.size):=by
 obtain ⟨y,hy,hb,hc⟩:=h.flat_cell (k:=i) Row.cells_length (by omega) hi
 exact ⟨y,hy,⟨by have:=hc 0 (by omega);simpa [Row.cells] using this,hb⟩,⟨by have:=hc 1 (by omega);simpa [Row.cells] using this,hb⟩⟩

theorem stepsN_le (ph : Int) (n m : Nat) (hn : n ≤ 1048576) (hm : m ≤ 1048576) : 0 ≤ stepsN ph n m ∧ stepsN ph n m ≤ 1048576:=by
 unfold stepsN
 split
 ·omega
 ·split <;> omega

end Go.Proofs.YtpmfhfpjiebcjaaGreat
