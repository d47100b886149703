/- CommitOk of the reference. No condition but lengths. -/
import Derived.Test.YtpmfhfpjiebcjaaGreatE00
import Derived.Test.YtpmfhfpjiebcjaaGreatE08
namespace Go.Proofs.YtpmfhfpjiebcjaaGreat
open Go.RowKit Go.Deep
set_option linter.unusedSimpArgs false
set_option linter.unusedVariables false
set_option maxRecDepth 8000 in
set_option maxHeartbeats 16000000 in
theorem spec_CommitOk (c : Commit) (Ap : Option Addr) (np cp : Nat) (Ar : Option Addr) (nr cr : Nat) (w : World) (S1 : Nat → Prop) (h1 : Sl w S1 2 Ap np (c.puts_.flatMap Row.cells)) (hm1 : np ≤ 1048576) (S2 : Nat → Prop) (h2 : Sl w S2 1 Ar nr (ints c.reads_)) (hm2 : nr ≤ 1048576) : Calls Tryz.prog 117 #[.agg #[.int .i64 c.who_,.int .i64 c.rv_,.int .i64 c.phase_,.int .i64 c.at_,.int .i64 c.wv_,.slice Ap np cp,.slice Ar nr cr]] w fun e w' => e = .returned (.bool (commitOk c)) ∧ Ext w w':=by
 have hl1 : c.puts_.length = np:=h1.flen Row.cells_length (by omega)
 have hl2 : c.reads_.length = nr:=h2.len
 have H1:=Lib.hid h1
 have H2:=Lib.hid h2
 clear h1 h2
 have M:=Lib.hid (Mine.refl w)
 by_cases q1 : 1 ≤ c.who_ ∧ c.who_ ≤ 99
 rotate_left
 ·have HZ : Hid (commitOk c = false):=dec_no fun z => q1 z.1
  have d1 : decide (1 ≤ c.who_ ∧ c.who_ ≤ 99) = false:=by simpa using q1
  clear q1
  go_enter Tryz.func117,Tryz.ntmps117
  go_wp2_with (first|(go_at_call 30;(with_reducible refine (in_is d1 _).mono ?_);rintro e w' ⟨rfl,rfl⟩)|((with_reducible show wpList _ _ _ (⟨_,_,_,_,_,none⟩::_) _ _);first|(refine Mine.wp_box M.out rfl 64 _ rfl _ rfl ?_;intro ga w' M';(try simp only [zr_,zm_] at M');replace M:=Lib.hid M';clear M';(try simp only [zr_,zm_]))|(refine zG M.out 0 ?_;(try simp only [zr_,zm_]))))
  go_ret
  exact ⟨by rw [HZ.out];rfl,M.out.ext⟩
 have d1 : decide (1 ≤ c.who_ ∧ c.who_ ≤ 99) = true:=by simpa using q1
 have Q1:=Lib.hid q1
 clear q1
 by_cases q2 : 0 ≤ c.rv_ ∧ c.rv_ ≤ 1000000
 rotate_left
 ·have HZ : Hid (commitOk c = false):=dec_no fun z => q2 z.2.1
  have d2 : decide (0 ≤ c.rv_ ∧ c.rv_ ≤ 1000000) = false:=by simpa using q2
  clear q2
  go_enter Tryz.func117,Tryz.ntmps117
  go_wp2_with (first|(go_at_call 30;(with_reducible refine (in_is d2 _).mono ?_);rintro e w' ⟨rfl,rfl⟩)|(go_at_call 30;(with_reducible refine (in_is d1 _).mono ?_);rintro e w' ⟨rfl,rfl⟩)|((with_reducible show wpList _ _ _ (⟨_,_,_,_,_,none⟩::_) _ _);first|(refine Mine.wp_box M.out rfl 64 _ rfl _ rfl ?_;intro ga w' M';(try simp only [zr_,zm_] at M');replace M:=Lib.hid M';clear M';(try simp only [zr_,zm_]))|(refine zG M.out 0 ?_;(try simp only [zr_,zm_])))|((with_reducible show wpList _ _ _ (⟨_,.load _ _,_,_,_,some _⟩::_) _ _);first|(refine zGg M.out 0 ?_;(try simp only [zr_,zm_]))))
  go_ret
  exact ⟨by rw [HZ.out];rfl,M.out.ext⟩
 have d2 : decide (0 ≤ c.rv_ ∧ c.rv_ ≤ 1000000) = true:=by simpa using q2
 have Q2:=Lib.hid q2
 clear q2
 by_cases q3 : 0 ≤ c.wv_ ∧ c.wv_ ≤ 1000000
 rotate_left
 ·have HZ : Hid (commitOk c = false):=dec_no fun z => q3 z.2.2.1
  have d3 : decide (0 ≤ c.wv_ ∧ c.wv_ ≤ 1000000) = false:=by simpa using q3
  clear q3
  go_enter Tryz.func117,Tryz.ntmps117
  go_wp2_with (first|(go_at_call 30;(with_reducible refine (in_is d2 _).mono ?_);rintro e w' ⟨rfl,rfl⟩)|(go_at_call 30;(with_reducible refine (in_is d3 _).mono ?_);rintro e w' ⟨rfl,rfl⟩)|(go_at_call 30;(with_reducible refine (in_is d1 _).mono ?_);rintro e w' ⟨rfl,rfl⟩)|((with_reducible show wpList _ _ _ (⟨_,_,_,_,_,none⟩::_) _ _);first|(refine Mine.wp_box M.out rfl 64 _ rfl _ rfl ?_;intro ga w' M';(try simp only [zr_,zm_] at M');replace M:=Lib.hid M';clear M';(try simp only [zr_,zm_]))|(refine zG M.out 0 ?_;(try simp only [zr_,zm_])))|((with_reducible show wpList _ _ _ (⟨_,.load _ _,_,_,_,some _⟩::_) _ _);first|(refine zGg M.out 0 ?_;(try simp only [zr_,zm_]))))
  go_ret
  exact ⟨by rw [HZ.out];rfl,M.out.ext⟩
 have d3 : decide (0 ≤ c.wv_ ∧ c.wv_ ≤ 1000000) = true:=by simpa using q3
 have Q3:=Lib.hid q3
 clear q3
 by_cases q4 : 1 ≤ c.phase_ ∧ c.phase_ ≤ 8
 rotate_left
 ·have HZ : Hid (commitOk c = false):=dec_no fun z => q4 z.2.2.2.1
  have d4 : decide (1 ≤ c.phase_ ∧ c.phase_ ≤ 8) = false:=by simpa using q4
  clear q4
  go_enter Tryz.func117,Tryz.ntmps117
  go_wp2_with (first|(go_at_call 30;(with_reducible refine (in_is d2 _).mono ?_);rintro e w' ⟨rfl,rfl⟩)|(go_at_call 30;(with_reducible refine (in_is d3 _).mono ?_);rintro e w' ⟨rfl,rfl⟩)|(go_at_call 30;(with_reducible refine (in_is d4 _).mono ?_);rintro e w' ⟨rfl,rfl⟩)|(go_at_call 30;(with_reducible refine (in_is d1 _).mono ?_);rintro e w' ⟨rfl,rfl⟩)|((with_reducible show wpList _ _ _ (⟨_,_,_,_,_,none⟩::_) _ _);first|(refine Mine.wp_box M.out rfl 64 _ rfl _ rfl ?_;intro ga w' M';(try simp only [zr_,zm_] at M');replace M:=Lib.hid M';clear M';(try simp only [zr_,zm_]))|(refine zG M.out 0 ?_;(try simp only [zr_,zm_])))|((with_reducible show wpList _ _ _ (⟨_,.load _ _,_,_,_,some _⟩::_) _ _);first|(refine zGg M.out 0 ?_;(try simp only [zr_,zm_]))))
  go_ret
  exact ⟨by rw [HZ.out];rfl,M.out.ext⟩
 have d4 : decide (1 ≤ c.phase_ ∧ c.phase_ ≤ 8) = true:=by simpa using q4
 have Q4:=Lib.hid q4
 clear q4
 cases h5 : rowsOk c.puts_
 ·have HZ : Hid (commitOk c = false):=dec_no fun z => by have:=z.2.2.2.2.1;rw [h5] at this;exact absurd this (by simp)
  go_enter Tryz.func117,Tryz.ntmps117
  go_wp2_with (first|(go_at_call 30;(with_reducible refine (in_is d2 _).mono ?_);rintro e w' ⟨rfl,rfl⟩)|(go_at_call 30;(with_reducible refine (in_is d3 _).mono ?_);rintro e w' ⟨rfl,rfl⟩)|(go_at_call 30;(with_reducible refine (in_is d4 _).mono ?_);rintro e w' ⟨rfl,rfl⟩)|(go_at_call 30;(with_reducible refine (in_is d1 _).mono ?_);rintro e w' ⟨rfl,rfl⟩)|(go_at_call 56;(with_reducible refine (spec_RowsOk Ap np cp c.puts_ _ S1 (H1.out.ext M.out.ext) hm1).mono ?_);rintro e w' ⟨rfl,x9⟩;replace M:=Lib.hid (M.out.on x9);clear x9;rw [h5])|((with_reducible show wpList _ _ _ (⟨_,_,_,_,_,none⟩::_) _ _);first|(refine Mine.wp_box M.out rfl 64 _ rfl _ rfl ?_;intro ga w' M';(try simp only [zr_,zm_] at M');replace M:=Lib.hid M';clear M';(try simp only [zr_,zm_]))|(refine zG M.out 0 ?_;(try simp only [zr_,zm_])))|((with_reducible show wpList _ _ _ (⟨_,.load _ _,_,_,_,some _⟩::_) _ _);first|(refine zGg M.out 0 ?_;(try simp only [zr_,zm_]))))
  go_ret
  exact ⟨by rw [HZ.out];rfl,M.out.ext⟩
 have H5:=Lib.hid h5
 cases h6 : readsB c.reads_
 ·have HZ : Hid (commitOk c = false):=dec_no fun z => dec_false h6 z.2.2.2.2.2.2.1
  go_enter Tryz.func117,Tryz.ntmps117
  go_wp2_with (first|(go_at_call 30;(with_reducible refine (in_is d2 _).mono ?_);rintro e w' ⟨rfl,rfl⟩)|(go_at_call 30;(with_reducible refine (in_is d3 _).mono ?_);rintro e w' ⟨rfl,rfl⟩)|(go_at_call 30;(with_reducible refine (in_is d4 _).mono ?_);rintro e w' ⟨rfl,rfl⟩)|(go_at_call 30;(with_reducible refine (in_is d1 _).mono ?_);rintro e w' ⟨rfl,rfl⟩)|(go_at_call 56;(with_reducible refine (spec_RowsOk Ap np cp c.puts_ _ S1 (H1.out.ext M.out.ext) hm1).mono ?_);rintro e w' ⟨rfl,x9⟩;replace M:=Lib.hid (M.out.on x9);clear x9;rw [h5])|(go_at_call 148;(with_reducible refine (l10Rising_any Ar nr cr c.reads_ _ S2 (H2.out.ext M.out.ext) hm2).mono ?_);rintro e w' ⟨rfl,x9⟩;replace M:=Lib.hid (M.out.on x9);clear x9;rw [h6])|((with_reducible show wpList _ _ _ (⟨_,_,_,_,_,none⟩::_) _ _);first|(refine Mine.wp_box M.out rfl 64 _ rfl _ rfl ?_;intro ga w' M';(try simp only [zr_,zm_] at M');replace M:=Lib.hid M';clear M';(try simp only [zr_,zm_]))|(refine zG M.out 0 ?_;(try simp only [zr_,zm_])))|((with_reducible show wpList _ _ _ (⟨_,.load _ _,_,_,_,some _⟩::_) _ _);first|(refine zGg M.out 0 ?_;(try simp only [zr_,zm_]))))
  go_ret
  exact ⟨by rw [HZ.out];rfl,M.out.ext⟩
 have H6 : Hid (readsOk c.reads_):=dec_true h6
 go_enter Tryz.func117,Tryz.ntmps117
 go_wp2_with (first|(go_at_call 30;(with_reducible refine (in_is d2 _).mono ?_);rintro e w' ⟨rfl,rfl⟩)|(go_at_call 30;(with_reducible refine (in_is d3 _).mono ?_);rintro e w' ⟨rfl,rfl⟩)|(go_at_call 30;(with_reducible refine (in_is d4 _).mono ?_);rintro e w' ⟨rfl,rfl⟩)|(go_at_call 30;(with_reducible refine (in_is d1 _).mono ?_);rintro e w' ⟨rfl,rfl⟩)|(go_at_call 56;(with_reducible refine (spec_RowsOk Ap np cp c.puts_ _ S1 (H1.out.ext M.out.ext) hm1).mono ?_);rintro e w' ⟨rfl,x9⟩;replace M:=Lib.hid (M.out.on x9);clear x9;rw [h5])|(go_at_call 148;(with_reducible refine (l10Rising_any Ar nr cr c.reads_ _ S2 (H2.out.ext M.out.ext) hm2).mono ?_);rintro e w' ⟨rfl,x9⟩;replace M:=Lib.hid (M.out.on x9);clear x9;rw [h6])|((with_reducible show wpList _ _ _ (⟨_,_,_,_,_,none⟩::_) _ _);first|(refine Mine.wp_box M.out rfl 64 _ rfl _ rfl ?_;intro ga w' M';(try simp only [zr_,zm_] at M');replace M:=Lib.hid M';clear M';(try simp only [zr_,zm_]))|(refine zG M.out 0 ?_;(try simp only [zr_,zm_])))|((with_reducible show wpList _ _ _ (⟨_,.load _ _,_,_,_,some _⟩::_) _ _);first|(refine zGg M.out 0 ?_;(try simp only [zr_,zm_]))))
 clear h5 d1 d2 d3 d4 h6
 go_loopw [3] (fun i wr => ∃ K : Nat,1 ≤ K ∧ (K ≤ np ∨ K = 1) ∧ i = .int .i64 K ∧ Hid (risTo (c.puts_.map (·.cell_)) K) ∧ Hid (Mine w wr [.box ga 64 #[.int .i64 c.who_,.int .i64 c.rv_,.int .i64 c.phase_,.int .i64 c.at_,.int .i64 c.wv_,.slice Ap np cp,.slice Ar nr cr]])) (fun i _ => np + 1 - (intOf i).toNat)
 case atStart => exact ⟨1,Nat.le_refl _,.inr rfl,rfl,(fun i x y h => absurd h (by omega)),M⟩
 case round =>
  clear M
  obtain ⟨K,hK1,hK2,rfl,HU,M⟩:=hrel
  by_cases hlt : (K : Int) < (np : Int)
  rotate_left
  ·have HRIS : Hid (rising (c.puts_.map (·.cell_))):=HU.out.all (by rw [List.length_map,hl1];omega)
   obtain ⟨T,hT⟩ : ∃ T,stepsN c.phase_ np nr = T:=⟨_,rfl⟩
   have hTb:=stepsN_le c.phase_ np nr hm1 hm2
   rw [hT] at hTb
   have HT:=Lib.hid hT
   have ew : IntKind.i64.wrap (T - 1) = T - 1:=Go.IntWalk.i64_in _ (by omega)
   clear hT
   by_cases q8 : 0 ≤ c.at_ ∧ c.at_ ≤ T - 1
   ·have HZ : Hid (commitOk c = true):=dec_yes ⟨Q1.out,Q2.out,Q3.out,Q4.out,H5.out,HRIS.out,H6.out,by rw [hl1,hl2,HT.out];exact q8⟩
    have dt : decide (0 ≤ c.at_ ∧ c.at_ ≤ T - 1) = true:=by simpa using q8
    clear q8
    go_wp2_with (((with_reducible show wpList _ _ _ (⟨_,_,_,_,_,none⟩::_) _ _);first|(refine zG M.out 0 ?_;(try simp only [zr_,zm_]))))
    refine Mine.region_quiet M.out (by kernel_rfl) (by kernel_rfl) ?_
    repeat (first|go_big_quiet_skip|(go_big_quiet_want;first|((first|refine zQ 0 ?_|refine zQs 64 0 7 ?_);(try simp only [zr_,zm_]);go_big_quiet_on)|(unfold Oper.quiet;apply Exists.intro;refine ⟨fun wq hq => ?_,?_⟩;(go_simp;go_at_call 149;(with_reducible refine (spec_steps_m c.who_ c.rv_ c.phase_ c.at_ c.wv_ Ap np cp Ar nr cr _).mono ?_);rintro e w2 ⟨rfl,x2⟩;rw [HT.out];exact ⟨rfl,hq.on x2⟩);(try simp only [zs_,zl_]);go_big_quiet_on)|(unfold Oper.quiet;apply Exists.intro;refine ⟨fun wq hq => ?_,?_⟩;(go_simp;go_at_call 30;(with_reducible refine (in_is dt _).mono ?_);rintro e w2 ⟨rfl,rfl⟩;exact ⟨rfl,hq⟩);(try simp only [zs_,zl_]);go_big_quiet_on)|(unfold Oper.quiet;apply Exists.intro;refine ⟨fun wq hq => ?_,?_⟩;(clear hq;go_simp;first|done|rfl|exact ⟨rfl,rfl⟩);(try simp only [zs_,zl_]);go_big_quiet_on)))
    refine wpQuiet_nil ?_
    intro w' M'
    replace M:=Lib.hid M'
    clear M'
    go_wp2
    go_ret
    exact ⟨by rw [HZ.out];rfl,M.out.ext⟩
   skip
   ·have HZ : Hid (commitOk c = false):=dec_no fun z => q8 (by have:=z.2.2.2.2.2.2.2;rw [hl1,hl2,HT.out] at this;exact this)
    have dt : decide (0 ≤ c.at_ ∧ c.at_ ≤ T - 1) = false:=by simpa using q8
    clear q8
    go_wp2_with (((with_reducible show wpList _ _ _ (⟨_,_,_,_,_,none⟩::_) _ _);first|(refine zG M.out 0 ?_;(try simp only [zr_,zm_]))))
    refine Mine.region_quiet M.out (by kernel_rfl) (by kernel_rfl) ?_
    repeat (first|go_big_quiet_skip|(go_big_quiet_want;first|((first|refine zQ 0 ?_|refine zQs 64 0 7 ?_);(try simp only [zr_,zm_]);go_big_quiet_on)|(unfold Oper.quiet;apply Exists.intro;refine ⟨fun wq hq => ?_,?_⟩;(go_simp;go_at_call 149;(with_reducible refine (spec_steps_m c.who_ c.rv_ c.phase_ c.at_ c.wv_ Ap np cp Ar nr cr _).mono ?_);rintro e w2 ⟨rfl,x2⟩;rw [HT.out];exact ⟨rfl,hq.on x2⟩);(try simp only [zs_,zl_]);go_big_quiet_on)|(unfold Oper.quiet;apply Exists.intro;refine ⟨fun wq hq => ?_,?_⟩;(go_simp;go_at_call 30;(with_reducible refine (in_is dt _).mono ?_);rintro e w2 ⟨rfl,rfl⟩;exact ⟨rfl,hq⟩);(try simp only [zs_,zl_]);go_big_quiet_on)|(unfold Oper.quiet;apply Exists.intro;refine ⟨fun wq hq => ?_,?_⟩;(clear hq;go_simp;first|done|rfl|exact ⟨rfl,rfl⟩);(try simp only [zs_,zl_]);go_big_quiet_on)))
    refine wpQuiet_nil ?_
    intro w' M'
    replace M:=Lib.hid M'
    clear M'
    go_wp2
    go_ret
    exact ⟨by rw [HZ.out];rfl,M.out.ext⟩
  have HLT : Hid (K < np):=by show _ < _;omega
  obtain ⟨b,o,rfl⟩:=H1.out.addr (by omega)
  obtain ⟨j,hkj⟩ : ∃ j,K = j + 1:=⟨K - 1,by omega⟩
  have HKJ:=Lib.hid hkj
  have ej : IntKind.i64.wrap ((K : Int) - 1) = (j : Int):=by rw [Go.IntWalk.i64_in _ (by omega)];omega
  have hj1 : (j : Int) < (np : Int):=by omega
  obtain ⟨x,hx,cx,-⟩:=rw_at H1.out (i:=j) (by omega)
  obtain ⟨y,hy,cy,-⟩:=rw_at H1.out (i:=K) HLT.out
  have HX:=Lib.hid (map_cell hx)
  have HY:=Lib.hid (map_cell hy)
  have HCX:=Lib.hid cx
  have HCY:=Lib.hid cy
  clear hx hy cx cy hkj hK2
  by_cases hxy : y.cell_ ≤ x.cell_
  ·have HZ : Hid (commitOk c = false):=dec_no fun z => by have:=z.2.2.2.2.2.1 j _ _ HX.out (by rw [← HKJ.out];exact HY.out);omega
   have dd : decide (y.cell_ ≤ x.cell_) = true:=decide_eq_true hxy
   clear hxy
   go_wp2_with (((with_reducible show wpList _ _ _ (⟨_,_,_,_,_,none⟩::_) _ _);first|(refine zG M.out 0 ?_;(try simp only [zr_,zm_]))))
   refine Mine.region_quiet M.out (by kernel_rfl) (by kernel_rfl) ?_
   repeat (first|go_big_quiet_skip|(go_big_quiet_want;first|((first|refine zQ 0 ?_|refine Mine.oq_arg 3 _ rfl _ _ HCX.out rfl _ Tryz.underlying3 (by rfl) ?_|refine Mine.oq_arg 3 _ rfl _ _ HCY.out rfl _ Tryz.underlying3 (by rfl) ?_);(try simp only [zr_,zm_]);go_big_quiet_on)|(unfold Oper.quiet;apply Exists.intro;refine ⟨fun wq hq => ?_,?_⟩;(clear hq;go_simp;first|done|rfl|exact ⟨rfl,rfl⟩);(try simp only [zs_,zl_]);go_big_quiet_on)))
   refine wpQuiet_nil ?_
   intro w' M'
   replace M:=Lib.hid M'
   clear M'
   go_wp2
   go_ret
   exact ⟨by rw [HZ.out];rfl,M.out.ext⟩
  have dd : decide (y.cell_ ≤ x.cell_) = false:=decide_eq_false hxy
  have HXY : Hid (x.cell_ < y.cell_):=by show _ < _;omega
  clear hxy
  go_wp2_with (((with_reducible show wpList _ _ _ (⟨_,_,_,_,_,none⟩::_) _ _);first|(refine zG M.out 0 ?_;(try simp only [zr_,zm_]))))
  refine Mine.region_quiet M.out (by kernel_rfl) (by kernel_rfl) ?_
  repeat (first|go_big_quiet_skip|(go_big_quiet_want;first|((first|refine zQ 0 ?_|refine Mine.oq_arg 3 _ rfl _ _ HCX.out rfl _ Tryz.underlying3 (by rfl) ?_|refine Mine.oq_arg 3 _ rfl _ _ HCY.out rfl _ Tryz.underlying3 (by rfl) ?_);(try simp only [zr_,zm_]);go_big_quiet_on)|(unfold Oper.quiet;apply Exists.intro;refine ⟨fun wq hq => ?_,?_⟩;(clear hq;go_simp;first|done|rfl|exact ⟨rfl,rfl⟩);(try simp only [zs_,zl_]);go_big_quiet_on)))
  refine wpQuiet_nil ?_
  intro w' M'
  replace M:=Lib.hid M'
  clear M'
  go_wp2
  go_roundw
  case rel => exact ⟨K + 1,by omega,.inl HLT.out,by go_num,Lib.hid (by have h:=HU.out;rw [HKJ.out] at h ⊢;exact h.next HX.out (by rw [← HKJ.out];exact HY.out) HXY.out),M⟩
  case measure => have:=HLT.out;simp [intOf];omega

end Go.Proofs.YtpmfhfpjiebcjaaGreat
