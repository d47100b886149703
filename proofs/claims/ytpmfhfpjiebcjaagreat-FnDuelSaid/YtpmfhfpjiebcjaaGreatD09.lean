/- CommitOk of the program. No condition but lengths. CommitOk of the reference. No condition but lengths. Lock of program and reference, of a right memory. No other condition but ranges. -/
import Derived.Test.YtpmfhfpjiebcjaaGreatD00
import Derived.Test.YtpmfhfpjiebcjaaGreatD08
import Derived.Test.YtpmfhfpjiebcjaaGreatD06
namespace Go.Proofs.YtpmfhfpjiebcjaaGreat
open Go.RowKit Go.Deep
set_option linter.unnecessarySimpa false
set_option linter.unusedSimpArgs false
set_option linter.unusedVariables false
set_option maxRecDepth 8000 in
set_option maxHeartbeats 16000000 in
theorem impl_CommitOk (c : Commit) (Ap : Option Addr) (np cp : Nat) (Ar : Option Addr) (nr cr : Nat) (w : World) (S1 : Nat → Prop) (h1 : Sl w S1 2 Ap np (c.puts_.flatMap Row.cells)) (hm1 : np ≤ 1048576) (S2 : Nat → Prop) (h2 : Sl w S2 1 Ar nr (ints c.reads_)) (hm2 : nr ≤ 1048576) : Calls Tryz.prog 131 #[.agg #[.int .i64 c.who_,.int .i64 c.rv_,.int .i64 c.phase_,.int .i64 c.at_,.int .i64 c.wv_,.slice Ap np cp,.slice Ar nr cr]] w fun e w' => e = .returned (.bool (commitOk c)) ∧ Ext w w':=by
 have hl1 : c.puts_.length = np:=h1.flen Row.cells_length (by omega)
 have hl2 : c.reads_.length = nr:=h2.len
 have H1:=Lib.hid h1
 have H2:=Lib.hid h2
 clear h1 h2
 have M:=Lib.hid (Mine.refl w)
 by_cases q1 : 1 ≤ c.who_ ∧ c.who_ ≤ 99
 rotate_left
 ·have HZ : Hid (commitOk c = false):=dec_no fun z => q1 z.1
  have d1 : decide (1 ≤ c.who_ ∧ c.who_ ≤ 99) = false:=by simpa using q1
  clear q1
  go_enter Tryz.func131,Tryz.ntmps131
  go_wp2_with (first|(go_at_call 105;(with_reducible refine (iown_is d1 _).mono ?_);rintro e w' ⟨rfl,rfl⟩)|((with_reducible show wpList _ _ _ (⟨_,_,_,_,_,none⟩::_) _ _);first|(refine Mine.wp_box M.out rfl 64 _ rfl _ rfl ?_;intro ga w' M';(try simp only [zr_,zm_] at M');replace M:=Lib.hid M';clear M';(try simp only [zr_,zm_]))|(refine zG M.out 0 ?_;(try simp only [zr_,zm_]))))
  go_ret
  exact ⟨by rw [HZ.out];rfl,M.out.ext⟩
 have d1 : decide (1 ≤ c.who_ ∧ c.who_ ≤ 99) = true:=by simpa using q1
 have Q1:=Lib.hid q1
 clear q1
 by_cases q2 : 0 ≤ c.rv_ ∧ c.rv_ ≤ 1000000
 rotate_left
 ·have HZ : Hid (commitOk c = false):=dec_no fun z => q2 z.2.1
  have d2 : decide (0 ≤ c.rv_ ∧ c.rv_ ≤ 1000000) = false:=by simpa using q2
  clear q2
  go_enter Tryz.func131,Tryz.ntmps131
  go_wp2_with (first|(go_at_call 35;(with_reducible refine (with_is d2 _).mono ?_);rintro e w' ⟨rfl,rfl⟩)|(go_at_call 105;(with_reducible refine (iown_is d1 _).mono ?_);rintro e w' ⟨rfl,rfl⟩)|((with_reducible show wpList _ _ _ (⟨_,_,_,_,_,none⟩::_) _ _);first|(refine Mine.wp_box M.out rfl 64 _ rfl _ rfl ?_;intro ga w' M';(try simp only [zr_,zm_] at M');replace M:=Lib.hid M';clear M';(try simp only [zr_,zm_]))|(refine zG M.out 0 ?_;(try simp only [zr_,zm_])))|((with_reducible show wpList _ _ _ (⟨_,.load _ _,_,_,_,some _⟩::_) _ _);first|(refine zGg M.out 0 ?_;(try simp only [zr_,zm_]))))
  go_ret
  exact ⟨by rw [HZ.out];rfl,M.out.ext⟩
 have d2 : decide (0 ≤ c.rv_ ∧ c.rv_ ≤ 1000000) = true:=by simpa using q2
 have Q2:=Lib.hid q2
 clear q2
 by_cases q3 : 0 ≤ c.wv_ ∧ c.wv_ ≤ 1000000
 rotate_left
 ·have HZ : Hid (commitOk c = false):=dec_no fun z => q3 z.2.2.1
  have d3 : decide (0 ≤ c.wv_ ∧ c.wv_ ≤ 1000000) = false:=by simpa using q3
  clear q3
  go_enter Tryz.func131,Tryz.ntmps131
  go_wp2_with (first|(go_at_call 35;(with_reducible refine (with_is d2 _).mono ?_);rintro e w' ⟨rfl,rfl⟩)|(go_at_call 35;(with_reducible refine (with_is d3 _).mono ?_);rintro e w' ⟨rfl,rfl⟩)|(go_at_call 105;(with_reducible refine (iown_is d1 _).mono ?_);rintro e w' ⟨rfl,rfl⟩)|((with_reducible show wpList _ _ _ (⟨_,_,_,_,_,none⟩::_) _ _);first|(refine Mine.wp_box M.out rfl 64 _ rfl _ rfl ?_;intro ga w' M';(try simp only [zr_,zm_] at M');replace M:=Lib.hid M';clear M';(try simp only [zr_,zm_]))|(refine zG M.out 0 ?_;(try simp only [zr_,zm_])))|((with_reducible show wpList _ _ _ (⟨_,.load _ _,_,_,_,some _⟩::_) _ _);first|(refine zGg M.out 0 ?_;(try simp only [zr_,zm_]))))
  go_ret
  exact ⟨by rw [HZ.out];rfl,M.out.ext⟩
 have d3 : decide (0 ≤ c.wv_ ∧ c.wv_ ≤ 1000000) = true:=by simpa using q3
 have Q3:=Lib.hid q3
 clear q3
 by_cases q4 : 1 ≤ c.phase_ ∧ c.phase_ ≤ 8
 rotate_left
 ·have HZ : Hid (commitOk c = false):=dec_no fun z => q4 z.2.2.2.1
  have d4 : decide (1 ≤ c.phase_ ∧ c.phase_ ≤ 8) = false:=by simpa using q4
  clear q4
  go_enter Tryz.func131,Tryz.ntmps131
  go_wp2_with (first|(go_at_call 35;(with_reducible refine (with_is d2 _).mono ?_);rintro e w' ⟨rfl,rfl⟩)|(go_at_call 35;(with_reducible refine (with_is d3 _).mono ?_);rintro e w' ⟨rfl,rfl⟩)|(go_at_call 35;(with_reducible refine (with_is d4 _).mono ?_);rintro e w' ⟨rfl,rfl⟩)|(go_at_call 105;(with_reducible refine (iown_is d1 _).mono ?_);rintro e w' ⟨rfl,rfl⟩)|((with_reducible show wpList _ _ _ (⟨_,_,_,_,_,none⟩::_) _ _);first|(refine Mine.wp_box M.out rfl 64 _ rfl _ rfl ?_;intro ga w' M';(try simp only [zr_,zm_] at M');replace M:=Lib.hid M';clear M';(try simp only [zr_,zm_]))|(refine zG M.out 0 ?_;(try simp only [zr_,zm_])))|((with_reducible show wpList _ _ _ (⟨_,.load _ _,_,_,_,some _⟩::_) _ _);first|(refine zGg M.out 0 ?_;(try simp only [zr_,zm_]))))
  go_ret
  exact ⟨by rw [HZ.out];rfl,M.out.ext⟩
 have d4 : decide (1 ≤ c.phase_ ∧ c.phase_ ≤ 8) = true:=by simpa using q4
 have Q4:=Lib.hid q4
 clear q4
 cases h5 : rowsOk c.puts_
 ·have HZ : Hid (commitOk c = false):=dec_no fun z => by have:=z.2.2.2.2.1;rw [h5] at this;exact absurd this (by simp)
  go_enter Tryz.func131,Tryz.ntmps131
  go_wp2_with (first|(go_at_call 35;(with_reducible refine (with_is d2 _).mono ?_);rintro e w' ⟨rfl,rfl⟩)|(go_at_call 35;(with_reducible refine (with_is d3 _).mono ?_);rintro e w' ⟨rfl,rfl⟩)|(go_at_call 35;(with_reducible refine (with_is d4 _).mono ?_);rintro e w' ⟨rfl,rfl⟩)|(go_at_call 105;(with_reducible refine (iown_is d1 _).mono ?_);rintro e w' ⟨rfl,rfl⟩)|(go_at_call 67;(with_reducible refine (impl_RowsOk Ap np cp c.puts_ _ S1 (H1.out.ext M.out.ext) hm1).mono ?_);rintro e w' ⟨rfl,x9⟩;replace M:=Lib.hid (M.out.on x9);clear x9;rw [h5])|((with_reducible show wpList _ _ _ (⟨_,_,_,_,_,none⟩::_) _ _);first|(refine Mine.wp_box M.out rfl 64 _ rfl _ rfl ?_;intro ga w' M';(try simp only [zr_,zm_] at M');replace M:=Lib.hid M';clear M';(try simp only [zr_,zm_]))|(refine zG M.out 0 ?_;(try simp only [zr_,zm_])))|((with_reducible show wpList _ _ _ (⟨_,.load _ _,_,_,_,some _⟩::_) _ _);first|(refine zGg M.out 0 ?_;(try simp only [zr_,zm_]))))
  go_ret
  exact ⟨by rw [HZ.out];rfl,M.out.ext⟩
 have H5:=Lib.hid h5
 go_enter Tryz.func131,Tryz.ntmps131
 go_wp2_with (first|(go_at_call 35;(with_reducible refine (with_is d2 _).mono ?_);rintro e w' ⟨rfl,rfl⟩)|(go_at_call 35;(with_reducible refine (with_is d3 _).mono ?_);rintro e w' ⟨rfl,rfl⟩)|(go_at_call 35;(with_reducible refine (with_is d4 _).mono ?_);rintro e w' ⟨rfl,rfl⟩)|(go_at_call 105;(with_reducible refine (iown_is d1 _).mono ?_);rintro e w' ⟨rfl,rfl⟩)|(go_at_call 67;(with_reducible refine (impl_RowsOk Ap np cp c.puts_ _ S1 (H1.out.ext M.out.ext) hm1).mono ?_);rintro e w' ⟨rfl,x9⟩;replace M:=Lib.hid (M.out.on x9);clear x9;rw [h5])|((with_reducible show wpList _ _ _ (⟨_,_,_,_,_,none⟩::_) _ _);first|(refine Mine.wp_box M.out rfl 64 _ rfl _ rfl ?_;intro ga w' M';(try simp only [zr_,zm_] at M');replace M:=Lib.hid M';clear M';(try simp only [zr_,zm_]))|(refine zG M.out 0 ?_;(try simp only [zr_,zm_])))|((with_reducible show wpList _ _ _ (⟨_,.load _ _,_,_,_,some _⟩::_) _ _);first|(refine zGg M.out 0 ?_;(try simp only [zr_,zm_]))))
 clear h5 d1 d2 d3 d4
 go_loopw [3] (fun i wr => ∃ K : Nat,1 ≤ K ∧ (K ≤ np ∨ K = 1) ∧ i = .int .i64 K ∧ Hid (risTo (c.puts_.map (·.cell_)) K) ∧ Hid (Mine w wr [.box ga 64 #[.int .i64 c.who_,.int .i64 c.rv_,.int .i64 c.phase_,.int .i64 c.at_,.int .i64 c.wv_,.slice Ap np cp,.slice Ar nr cr]])) (fun i _ => np + 1 - (intOf i).toNat)
 case atStart => exact ⟨1,Nat.le_refl _,.inr rfl,rfl,(fun i x y h => absurd h (by omega)),M⟩
 case round =>
  clear M
  obtain ⟨K,hK1,hK2,rfl,HU,M⟩:=hrel
  by_cases hlt : (K : Int) < (np : Int)
  rotate_left
  ·have HRIS : Hid (rising (c.puts_.map (·.cell_))):=HU.out.all (by rw [List.length_map,hl1];omega)
   go_wp2_with (((with_reducible show wpList _ _ _ (⟨_,_,_,_,_,none⟩::_) _ _);first|(refine zG M.out 0 ?_;(try simp only [zr_,zm_]))))
   go_loopw [58] (fun i wr => ∃ k : Nat,k ≤ nr ∧ i = .int .i64 k ∧ Hid (readTo c.reads_ k) ∧ Hid (Mine w wr [.box ga 64 #[.int .i64 c.who_,.int .i64 c.rv_,.int .i64 c.phase_,.int .i64 c.at_,.int .i64 c.wv_,.slice Ap np cp,.slice Ar nr cr]])) (fun i _ => nr - (intOf i).toNat)
   case atStart => exact ⟨0,Nat.zero_le _,rfl,readTo.zero _,M⟩
   case round =>
    clear M HU
    obtain ⟨k,hk,rfl,HU,M⟩:=hrel
    by_cases hlt : (k : Int) < (nr : Int)
    rotate_left
    ·have HRD : Hid (readsOk c.reads_):=HU.out.all (by omega)
     obtain ⟨T,hT⟩ : ∃ T,stepsN c.phase_ np nr = T:=⟨_,rfl⟩
     have hTb:=stepsN_le c.phase_ np nr hm1 hm2
     rw [hT] at hTb
     have HT:=Lib.hid hT
     have ew : IntKind.i64.wrap (T - 1) = T - 1:=Go.IntWalk.i64_in _ (by omega)
     clear hT
     by_cases q8 : 0 ≤ c.at_ ∧ c.at_ ≤ T - 1
     ·have HZ : Hid (commitOk c = true):=dec_yes ⟨Q1.out,Q2.out,Q3.out,Q4.out,H5.out,HRIS.out,HRD.out,by rw [hl1,hl2,HT.out];exact q8⟩
      have dt : decide (0 ≤ c.at_ ∧ c.at_ ≤ T - 1) = true:=by simpa using q8
      clear q8
      go_wp2_with (fail)
      refine Mine.region_quiet M.out (by kernel_rfl) (by kernel_rfl) ?_
      repeat (first|go_big_quiet_skip|(go_big_quiet_want;first|((first|refine zQ 0 ?_|refine zQs 64 0 7 ?_);(try simp only [zr_,zm_]);go_big_quiet_on)|(unfold Oper.quiet;apply Exists.intro;refine ⟨fun wq hq => ?_,?_⟩;(go_simp;go_at_call 152;(with_reducible refine (impl_steps_m c.who_ c.rv_ c.phase_ c.at_ c.wv_ Ap np cp Ar nr cr _).mono ?_);rintro e w2 ⟨rfl,x2⟩;rw [HT.out];exact ⟨rfl,hq.on x2⟩);(try simp only [zs_,zl_]);go_big_quiet_on)|(unfold Oper.quiet;apply Exists.intro;refine ⟨fun wq hq => ?_,?_⟩;(go_simp;go_at_call 35;(with_reducible refine (with_is dt _).mono ?_);rintro e w2 ⟨rfl,rfl⟩;exact ⟨rfl,hq⟩);(try simp only [zs_,zl_]);go_big_quiet_on)|(unfold Oper.quiet;apply Exists.intro;refine ⟨fun wq hq => ?_,?_⟩;(clear hq;go_simp;first|done|rfl|exact ⟨rfl,rfl⟩);(try simp only [zs_,zl_]);go_big_quiet_on)))
      refine wpQuiet_nil ?_
      intro w' M'
      replace M:=Lib.hid M'
      clear M'
      go_wp2
      go_ret
      exact ⟨by rw [HZ.out];rfl,M.out.ext⟩
     skip
     ·have HZ : Hid (commitOk c = false):=dec_no fun z => q8 (by have:=z.2.2.2.2.2.2.2;rw [hl1,hl2,HT.out] at this;exact this)
      have dt : decide (0 ≤ c.at_ ∧ c.at_ ≤ T - 1) = false:=by simpa using q8
      clear q8
      go_wp2_with (fail)
      refine Mine.region_quiet M.out (by kernel_rfl) (by kernel_rfl) ?_
      repeat (first|go_big_quiet_skip|(go_big_quiet_want;first|((first|refine zQ 0 ?_|refine zQs 64 0 7 ?_);(try simp only [zr_,zm_]);go_big_quiet_on)|(unfold Oper.quiet;apply Exists.intro;refine ⟨fun wq hq => ?_,?_⟩;(go_simp;go_at_call 152;(with_reducible refine (impl_steps_m c.who_ c.rv_ c.phase_ c.at_ c.wv_ Ap np cp Ar nr cr _).mono ?_);rintro e w2 ⟨rfl,x2⟩;rw [HT.out];exact ⟨rfl,hq.on x2⟩);(try simp only [zs_,zl_]);go_big_quiet_on)|(unfold Oper.quiet;apply Exists.intro;refine ⟨fun wq hq => ?_,?_⟩;(go_simp;go_at_call 35;(with_reducible refine (with_is dt _).mono ?_);rintro e w2 ⟨rfl,rfl⟩;exact ⟨rfl,hq⟩);(try simp only [zs_,zl_]);go_big_quiet_on)|(unfold Oper.quiet;apply Exists.intro;refine ⟨fun wq hq => ?_,?_⟩;(clear hq;go_simp;first|done|rfl|exact ⟨rfl,rfl⟩);(try simp only [zs_,zl_]);go_big_quiet_on)))
      refine wpQuiet_nil ?_
      intro w' M'
      replace M:=Lib.hid M'
      clear M'
      go_wp2
      go_ret
      exact ⟨by rw [HZ.out];rfl,M.out.ext⟩
    have HLT : Hid (k < nr):=by show _ < _;omega
    obtain ⟨b,o,rfl⟩:=H2.out.addr (by omega)
    obtain ⟨x,hx,hb,cx⟩:=H2.out.int_cell (k:=k) HLT.out
    have HX:=Lib.hid hx
    have HC : Hid (w.cell? ⟨b,o + k,none⟩ = some (.int .i64 x) ∧ b < w.heap.size):=⟨cx,hb⟩
    clear hx hb cx
    by_cases hc : 0 ≤ x ∧ x ≤ 7
    rotate_left
    ·have HZ : Hid (commitOk c = false):=dec_no fun z => hc (z.2.2.2.2.2.2.1.1 x (List.mem_of_getElem? HX.out))
     have dc : decide (0 ≤ x ∧ x ≤ 7) = false:=by simpa using hc
     clear hc
     go_wp2_with (first|(go_at_call 84;(with_reducible refine (icell_is dc _).mono ?_);rintro e w' ⟨rfl,rfl⟩)|((with_reducible show wpList _ _ _ (⟨_,_,_,_,_,none⟩::_) _ _);first|(refine Mine.wp_argc M.out rfl 3 _ rfl _ _ HC.out rfl _ Tryz.underlying3 (by rfl) ?_;(try simp only [zr_,zm_]))))
     go_ret
     exact ⟨by rw [HZ.out];rfl,M.out.ext⟩
    have dc : decide (0 ≤ x ∧ x ≤ 7) = true:=by simpa using hc
    have HCC:=Lib.hid hc
    clear hc
    rcases Nat.eq_zero_or_pos k with h0|h0
    ·have d0 : decide ((0 : Int) < (k : Int)) = false:=by simp only [decide_eq_false_iff_not];omega
     have d0n : decide (0 < k) = false:=by simp only [decide_eq_false_iff_not];omega
     have HK0:=Lib.hid h0
     clear h0
     go_wp2_with (first|(go_at_call 84;(with_reducible refine (icell_is dc _).mono ?_);rintro e w' ⟨rfl,rfl⟩)|((with_reducible show wpList _ _ _ (⟨_,_,_,_,_,none⟩::_) _ _);first|(refine Mine.wp_argc M.out rfl 3 _ rfl _ _ HC.out rfl _ Tryz.underlying3 (by rfl) ?_;(try simp only [zr_,zm_]))))
     go_roundw
     case rel => exact ⟨k + 1,HLT.out,by go_num,Lib.hid (HU.out.next HX.out HCC.out (fun j y h => by have:=HK0.out;omega)),M⟩
     case measure => have:=HLT.out;simp [intOf];omega
    obtain ⟨j,hkj⟩ : ∃ j,k = j + 1:=⟨k - 1,by omega⟩
    have HKJ:=Lib.hid hkj
    have d0 : decide ((0 : Int) < (k : Int)) = true:=by simp only [decide_eq_true_eq];omega
    have d0n : decide (0 < k) = true:=by simp only [decide_eq_true_eq];omega
    have ej : IntKind.i64.wrap ((k : Int) - 1) = (j : Int):=by rw [Go.IntWalk.i64_in _ (by omega)];omega
    obtain ⟨y,hy,hb,cy⟩:=H2.out.int_cell (k:=j) (by have:=HLT.out;omega)
    have HY:=Lib.hid hy
    have HD : Hid (w.cell? ⟨b,o + j,none⟩ = some (.int .i64 y) ∧ b < w.heap.size):=⟨cy,hb⟩
    have hj1 : (j : Int) < (nr : Int):=by omega
    clear hy hb cy h0 hkj
    by_cases hxy : x ≤ y
    ·have HZ : Hid (commitOk c = false):=dec_no fun z => by have:=z.2.2.2.2.2.2.1.2 j y x HY.out (by rw [← HKJ.out];exact HX.out);omega
     have dd : decide (x ≤ y) = true:=decide_eq_true hxy
     clear hxy
     go_wp2_with (first|(go_at_call 84;(with_reducible refine (icell_is dc _).mono ?_);rintro e w' ⟨rfl,rfl⟩)|((with_reducible show wpList _ _ _ (⟨_,_,_,_,_,none⟩::_) _ _);first|(refine Mine.wp_argc M.out rfl 3 _ rfl _ _ HC.out rfl _ Tryz.underlying3 (by rfl) ?_;(try simp only [zr_,zm_])))|((with_reducible show wpList _ _ _ (⟨_,.load _ _,_,_,_,some _⟩::_) _ _);first|((first|refine zGg M.out 0 ?_|refine Mine.wp_getgc M.out (by rfl) 3 _ rfl _ _ HD.out rfl _ Tryz.underlying3 (by rfl) ?_);(try simp only [zr_,zm_]))))
     go_ret
     exact ⟨by rw [HZ.out];rfl,M.out.ext⟩
    have dd : decide (x ≤ y) = false:=decide_eq_false hxy
    have HXY : Hid (y < x):=by show _ < _;omega
    clear hxy
    go_wp2_with (first|(go_at_call 84;(with_reducible refine (icell_is dc _).mono ?_);rintro e w' ⟨rfl,rfl⟩)|((with_reducible show wpList _ _ _ (⟨_,_,_,_,_,none⟩::_) _ _);first|(refine Mine.wp_argc M.out rfl 3 _ rfl _ _ HC.out rfl _ Tryz.underlying3 (by rfl) ?_;(try simp only [zr_,zm_])))|((with_reducible show wpList _ _ _ (⟨_,.load _ _,_,_,_,some _⟩::_) _ _);first|((first|refine zGg M.out 0 ?_|refine Mine.wp_getgc M.out (by rfl) 3 _ rfl _ _ HD.out rfl _ Tryz.underlying3 (by rfl) ?_);(try simp only [zr_,zm_]))))
    go_roundw
    case rel => exact ⟨k + 1,HLT.out,by go_num,Lib.hid (HU.out.next HX.out HCC.out (fun i a h ha => by obtain rfl : j = i:=(by have:=HKJ.out;omega);rw [HY.out] at ha;injection ha with ha;rw [← ha];exact HXY.out)),M⟩
    case measure => have:=HLT.out;simp [intOf];omega
  have HLT : Hid (K < np):=by show _ < _;omega
  obtain ⟨b,o,rfl⟩:=H1.out.addr (by omega)
  obtain ⟨j,hkj⟩ : ∃ j,K = j + 1:=⟨K - 1,by omega⟩
  have HKJ:=Lib.hid hkj
  have ej : IntKind.i64.wrap ((K : Int) - 1) = (j : Int):=by rw [Go.IntWalk.i64_in _ (by omega)];omega
  have hj1 : (j : Int) < (np : Int):=by omega
  obtain ⟨x,hx,cx,-⟩:=rw_at H1.out (i:=j) (by omega)
  obtain ⟨y,hy,cy,-⟩:=rw_at H1.out (i:=K) HLT.out
  have HX:=Lib.hid (map_cell hx)
  have HY:=Lib.hid (map_cell hy)
  have HCX:=Lib.hid cx
  have HCY:=Lib.hid cy
  clear hx hy cx cy hkj hK2
  by_cases hxy : y.cell_ ≤ x.cell_
  ·have HZ : Hid (commitOk c = false):=dec_no fun z => by have:=z.2.2.2.2.2.1 j _ _ HX.out (by rw [← HKJ.out];exact HY.out);omega
   have dd : decide (y.cell_ ≤ x.cell_) = true:=decide_eq_true hxy
   clear hxy
   go_wp2_with (((with_reducible show wpList _ _ _ (⟨_,_,_,_,_,none⟩::_) _ _);first|(refine zG M.out 0 ?_;(try simp only [zr_,zm_]))))
   refine Mine.region_quiet M.out (by kernel_rfl) (by kernel_rfl) ?_
   repeat (first|go_big_quiet_skip|(go_big_quiet_want;first|((first|refine zQ 0 ?_|refine Mine.oq_arg 3 _ rfl _ _ HCX.out rfl _ Tryz.underlying3 (by rfl) ?_|refine Mine.oq_arg 3 _ rfl _ _ HCY.out rfl _ Tryz.underlying3 (by rfl) ?_);(try simp only [zr_,zm_]);go_big_quiet_on)|(unfold Oper.quiet;apply Exists.intro;refine ⟨fun wq hq => ?_,?_⟩;(clear hq;go_simp;first|done|rfl|exact ⟨rfl,rfl⟩);(try simp only [zs_,zl_]);go_big_quiet_on)))
   refine wpQuiet_nil ?_
   intro w' M'
   replace M:=Lib.hid M'
   clear M'
   go_wp2
   go_ret
   exact ⟨by rw [HZ.out];rfl,M.out.ext⟩
  have dd : decide (y.cell_ ≤ x.cell_) = false:=decide_eq_false hxy
  have HXY : Hid (x.cell_ < y.cell_):=by show _ < _;omega
  clear hxy
  go_wp2_with (((with_reducible show wpList _ _ _ (⟨_,_,_,_,_,none⟩::_) _ _);first|(refine zG M.out 0 ?_;(try simp only [zr_,zm_]))))
  refine Mine.region_quiet M.out (by kernel_rfl) (by kernel_rfl) ?_
  repeat (first|go_big_quiet_skip|(go_big_quiet_want;first|((first|refine zQ 0 ?_|refine Mine.oq_arg 3 _ rfl _ _ HCX.out rfl _ Tryz.underlying3 (by rfl) ?_|refine Mine.oq_arg 3 _ rfl _ _ HCY.out rfl _ Tryz.underlying3 (by rfl) ?_);(try simp only [zr_,zm_]);go_big_quiet_on)|(unfold Oper.quiet;apply Exists.intro;refine ⟨fun wq hq => ?_,?_⟩;(clear hq;go_simp;first|done|rfl|exact ⟨rfl,rfl⟩);(try simp only [zs_,zl_]);go_big_quiet_on)))
  refine wpQuiet_nil ?_
  intro w' M'
  replace M:=Lib.hid M'
  clear M'
  go_wp2
  go_roundw
  case rel => exact ⟨K + 1,by omega,.inl HLT.out,by go_num,Lib.hid (by have h:=HU.out;rw [HKJ.out] at h ⊢;exact h.next HX.out (by rw [← HKJ.out];exact HY.out) HXY.out),M⟩
  case measure => have:=HLT.out;simp [intOf];omega

end Go.Proofs.YtpmfhfpjiebcjaaGreat
namespace Go.Proofs.YtpmfhfpjiebcjaaGreat
open Go.RowKit Go.Deep
set_option linter.unnecessarySimpa false
set_option linter.unusedSimpArgs false
set_option linter.unusedVariables false
end Go.Proofs.YtpmfhfpjiebcjaaGreat
namespace Go.Proofs.YtpmfhfpjiebcjaaGreat
open Go.RowKit Go.Deep
set_option linter.unnecessarySimpa false
set_option linter.unusedSimpArgs false
set_option linter.unusedVariables false
set_option maxRecDepth 8000 in
set_option maxHeartbeats 8000000 in
theorem impl_Lock_m (m : Mem) (b o n c i : Nat) (x : Word) (who : Int) (w : World) (S : Nat → Prop) (hs : Sl w S 3 (some ⟨b,o,none⟩) n (m.cells_.flatMap Word.cells)) (hM : memOk m = true) (hx : m.cells_[i]? = some x) (hi : i < 8) (hw : 1 ≤ who ∧ who ≤ 99) :
  Calls Tryz.prog 132 #[.agg #[.int .i64 m.clock_,.slice (some ⟨b,o,none⟩) n c],.int .i64 (i : Int),.int .i64 who] w fun e w' => ∃ B d,e = .returned (.tuple #[.agg #[.int .i64 (m.clock_),.slice B n d],.bool (dec (x.owner_ = 0))]) ∧ Mine w w' [.row 102 3 B n d ((lockC m.cells_ i x who).flatMap Word.cells)]:=by
 have hl : m.cells_.length = n:=hs.flen Word.cells_length (by omega)
 have HM:=Lib.hid hM
 have h8 : n = 8:=by have:=memOk_len hM;omega
 have HS:=Lib.hid hs
 have M:=Lib.hid (Mine.refl w)
 have HI : Hid (i < n):=by show _ < _;omega
 have HX:=Lib.hid hx
 have hi1 : (i : Int) < (n : Int):=by omega
 have HCO : Hid (w.cell? ⟨b,o + i * 3 + 2,none⟩ = some (.int .i64 x.owner_) ∧ b < w.heap.size):=word_at HS.out hx HI.out 2 (by omega)
 have HCV : Hid (w.cell? ⟨b,o + i * 3 + 1,none⟩ = some (.int .i64 x.ver_) ∧ b < w.heap.size):=word_at HS.out hx HI.out 1 (by omega)
 have HWW:=Lib.hid hw
 have dc : decide (0 ≤ (i : Int) ∧ (i : Int) ≤ 7) = true:=by simp only [decide_eq_true_eq];omega
 have dw : decide (1 ≤ who ∧ who ≤ 99) = true:=by simpa using hw
 have hn : n ≤ 1048576:=by omega
 have hn0 : 0 < n:=by omega
 clear hs hM h8 hx hw
 by_cases h : x.owner_ = 0
 rotate_left
 ·have HD : Hid (dec (x.owner_ = 0) = false):=dec_no h
  have bo : (x.owner_ != 0) = true:=by simpa using h
  clear h
  go_enter Tryz.func132,Tryz.ntmps132
  go_wp2_with (first|(go_at_call 129;(with_reducible refine (impl_copyMem_m m.clock_ (some ⟨b,o,none⟩) n c m.cells_ _ S (HS.out.ext M.out.ext) hn).mono ?_);rintro e w' ⟨B,d,rfl,M9⟩;have M8:=M.out.call M9;replace M:=Lib.hid M8;clear M8 M9;obtain ⟨gB,rfl⟩:=M.out.addr 0 rfl hn0)|(go_at_call 65;(with_reducible refine (impl_MemOk m (some ⟨b,o,none⟩) n c _ S (by omega) (HS.out.ext M.out.ext)).mono ?_);rintro e w' ⟨rfl,x9⟩;replace M:=Lib.hid (M.out.on x9);clear x9;rw [HM.out])|(go_at_call 84;(with_reducible refine (icell_is dc _).mono ?_);rintro e w' ⟨rfl,rfl⟩)|(go_at_call 105;(with_reducible refine (iown_is dw _).mono ?_);rintro e w' ⟨rfl,rfl⟩)|((with_reducible show wpList _ _ _ (⟨_,_,_,_,_,none⟩::_) _ _);first|(refine Mine.wp_box M.out rfl 27 _ rfl _ rfl ?_;intro ga w' M';(try simp only [zr_,zm_] at M');replace M:=Lib.hid M';clear M';(try simp only [zr_,zm_]))|(refine Mine.wp_alloc M.out rfl 27 rfl (.agg #[.int .i64 0,.slice none 0 0]) (by kernel_rfl) ?_;intro gr w' M';(try simp only [Value.cells,zr_,zm_] at M');replace M:=Lib.hid M';clear M';(try simp only [zr_,zm_]))|((first|refine zGs M.out 27 1 2 ?_|refine zGs M.out 27 3 2 ?_|refine zGs M.out 27 0 2 ?_);(try simp only [zr_,zm_]))|((first|refine zSs M.out 27 0 ?_|refine zSs M.out 27 2 ?_);intro w' M';(try simp only [zr_,zm_] at M');replace M:=Lib.hid M';clear M'))|((with_reducible show wpList _ _ _ (⟨_,.load _ _,_,_,_,some _⟩::_) _ _);first|((first|refine zGg M.out 3 ?_|refine Mine.wp_getgc M.out (by rfl) 3 _ rfl _ _ HCO.out rfl _ Tryz.underlying3 (by rfl) ?_);(try simp only [zr_,zm_]))))
  refine bodyPost_ret (M.out.results_cell2 Tryz.results132 _ 2 rfl rfl _ Tryz.underlying27 (by rfl) (by kernel_rfl)) rfl ?_
  have e3 : lockC m.cells_ i x who = m.cells_:=by unfold lockC;rw [HD.out];rfl
  exact ⟨_,_,by rw [HD.out];rfl,by rw [e3];exact M.out.sub (sd_ (sk_ (sd_ (sd_ s0_))))⟩
 have bo : (x.owner_ != 0) = false:=by simp [h]
 have HD : Hid (dec (x.owner_ = 0) = true):=dec_yes h
 clear h
 go_enter Tryz.func132,Tryz.ntmps132
 go_wp2_with (first|(go_at_call 129;(with_reducible refine (impl_copyMem_m m.clock_ (some ⟨b,o,none⟩) n c m.cells_ _ S (HS.out.ext M.out.ext) hn).mono ?_);rintro e w' ⟨B,d,rfl,M9⟩;have M8:=M.out.call M9;replace M:=Lib.hid M8;clear M8 M9;obtain ⟨gB,rfl⟩:=M.out.addr 0 rfl hn0)|(go_at_call 65;(with_reducible refine (impl_MemOk m (some ⟨b,o,none⟩) n c _ S (by omega) (HS.out.ext M.out.ext)).mono ?_);rintro e w' ⟨rfl,x9⟩;replace M:=Lib.hid (M.out.on x9);clear x9;rw [HM.out])|(go_at_call 84;(with_reducible refine (icell_is dc _).mono ?_);rintro e w' ⟨rfl,rfl⟩)|(go_at_call 105;(with_reducible refine (iown_is dw _).mono ?_);rintro e w' ⟨rfl,rfl⟩)|((with_reducible show wpList _ _ _ (⟨_,_,_,_,_,none⟩::_) _ _);first|(refine Mine.wp_box M.out rfl 27 _ rfl _ rfl ?_;intro ga w' M';(try simp only [zr_,zm_] at M');replace M:=Lib.hid M';clear M';(try simp only [zr_,zm_]))|(refine Mine.wp_alloc M.out rfl 27 rfl (.agg #[.int .i64 0,.slice none 0 0]) (by kernel_rfl) ?_;intro gr w' M';(try simp only [Value.cells,zr_,zm_] at M');replace M:=Lib.hid M';clear M';(try simp only [zr_,zm_]))|((first|refine zGs M.out 27 1 2 ?_|refine zGs M.out 27 3 2 ?_|refine zGs M.out 27 0 2 ?_|refine zG M.out 0 ?_);(try simp only [zr_,zm_]))|((first|refine zSs M.out 27 0 ?_|refine zSs M.out 27 2 ?_|refine Mine.wp_put M.out rfl _ _ _ rfl rfl 1 _ rfl rfl _ (by (conv => lhs;whnf) <;> rfl) (by omega) (by rfl) (by kernel_rfl) ?_);intro w' M';(try simp only [zr_,zm_] at M');replace M:=Lib.hid M';clear M'))|((with_reducible show wpList _ _ _ (⟨_,.load _ _,_,_,_,some _⟩::_) _ _);first|((first|refine zGg M.out 3 ?_|refine Mine.wp_getgc M.out (by rfl) 3 _ rfl _ _ HCO.out rfl _ Tryz.underlying3 (by rfl) ?_);(try simp only [zr_,zm_]))))
 refine bodyPost_ret (M.out.results_cell2 Tryz.results132 _ 2 rfl rfl _ Tryz.underlying27 (by rfl) (by kernel_rfl)) rfl ?_
 have e1:=flat_set (v:=.int .i64 who) (f:=2) (a:=⟨x.val_,x.ver_,who⟩) Word.cells_length (by omega) HX.out (by omega) rfl
 rw [e1] at M
 have e3 : lockC m.cells_ i x who = m.cells_.set i ⟨x.val_,x.ver_,who⟩:=by unfold lockC;rw [HD.out];rfl
 exact ⟨_,_,by rw [HD.out];rfl,by rw [e3];exact M.out.sub (sd_ (sk_ (sd_ (sd_ s0_))))⟩
end Go.Proofs.YtpmfhfpjiebcjaaGreat
