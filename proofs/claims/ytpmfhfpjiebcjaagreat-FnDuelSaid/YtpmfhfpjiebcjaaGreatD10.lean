/- Tick of program and reference, of a right memory. No other condition but ranges. Store of program and reference, of a right memory. No other condition but ranges. Unlock of program and reference, of a right memory. No other condition but ranges. -/
import Derived.Test.YtpmfhfpjiebcjaaGreatD00
import Derived.Test.YtpmfhfpjiebcjaaGreatD06
namespace Go.Proofs.YtpmfhfpjiebcjaaGreat
open Go.RowKit Go.Deep
set_option linter.unnecessarySimpa false
set_option linter.unusedSimpArgs false
set_option linter.unusedVariables false
set_option maxRecDepth 8000 in
set_option maxHeartbeats 8000000 in
theorem impl_Tick_m (m : Mem) (A : Option Addr) (n c : Nat) (w : World) (S : Nat → Prop) (hs : Sl w S 3 A n (m.cells_.flatMap Word.cells)) (hM : memOk m = true) :
  Calls Tryz.prog 135 #[.agg #[.int .i64 m.clock_,.slice A n c]] w fun e w' => ∃ B d,e = .returned (.tuple #[.agg #[.int .i64 (tickK m.clock_),.slice B n d],.int .i64 (tickV m.clock_)]) ∧ Mine w w' [.row 102 3 B n d ((m.cells_).flatMap Word.cells)]:=by
 have hl : m.cells_.length = n:=hs.flen Word.cells_length (by omega)
 have HM:=Lib.hid hM
 have h8 : n = 8:=by have:=memOk_len hM;omega
 have HS:=Lib.hid hs
 have M:=Lib.hid (Mine.refl w)
 have HCK : Hid (0 ≤ m.clock_ ∧ m.clock_ ≤ 1000000):=(dec_true hM).2.2
 have hk0 : 0 ≤ m.clock_ ∧ m.clock_ ≤ 1000000:=HCK.out
 have hn : n ≤ 1048576:=by omega
 have hn0 : 0 < n:=by omega
 clear hs hM h8
 by_cases h : m.clock_ = 1000000
 ·have HD : Hid (dec (m.clock_ = 1000000) = true):=dec_yes h
  have bk : (m.clock_ == 1000000) = true:=by simp [h]
  have bk2 : decide (1000000 ≤ m.clock_) = true:=by simp only [decide_eq_true_eq];omega
  clear h hk0
  go_enter Tryz.func135,Tryz.ntmps135
  go_wp2_with (first|(go_at_call 129;(with_reducible refine (impl_copyMem_m m.clock_ A n c m.cells_ _ S (HS.out.ext M.out.ext) hn).mono ?_);rintro e w' ⟨B,d,rfl,M9⟩;have M8:=M.out.call M9;replace M:=Lib.hid M8;clear M8 M9;obtain ⟨gB,rfl⟩:=M.out.addr 0 rfl hn0)|(go_at_call 65;(with_reducible refine (impl_MemOk m A n c _ S (by omega) (HS.out.ext M.out.ext)).mono ?_);rintro e w' ⟨rfl,x9⟩;replace M:=Lib.hid (M.out.on x9);clear x9;rw [HM.out])|((with_reducible show wpList _ _ _ (⟨_,_,_,_,_,none⟩::_) _ _);first|(refine Mine.wp_box M.out rfl 27 _ rfl _ rfl ?_;intro ga w' M';(try simp only [zr_,zm_] at M');replace M:=Lib.hid M';clear M';(try simp only [zr_,zm_]))|(refine Mine.wp_alloc M.out rfl 27 rfl (.agg #[.int .i64 0,.slice none 0 0]) (by kernel_rfl) ?_;intro gr w' M';(try simp only [Value.cells,zr_,zm_] at M');replace M:=Lib.hid M';clear M';(try simp only [zr_,zm_]))|((first|refine zGs M.out 27 1 2 ?_|refine zGs M.out 27 3 2 ?_|refine zGs M.out 27 0 2 ?_);(try simp only [zr_,zm_]))|((first|refine zSs M.out 27 0 ?_|refine zSs M.out 27 2 ?_);intro w' M';(try simp only [zr_,zm_] at M');replace M:=Lib.hid M';clear M'))|((with_reducible show wpList _ _ _ (⟨_,.load _ _,_,_,_,some _⟩::_) _ _);first|(refine zGg M.out 3 ?_;(try simp only [zr_,zm_]))))
  refine bodyPost_ret (M.out.results_cell2 Tryz.results135 _ 2 rfl rfl _ Tryz.underlying27 (by rfl) (by kernel_rfl)) rfl ?_
  exact ⟨_,_,by unfold tickK tickV;rw [HD.out];rfl,M.out.sub (sd_ (sk_ (sd_ (sd_ s0_))))⟩
 ·have HD : Hid (dec (m.clock_ = 1000000) = false):=dec_no h
  have bk : (m.clock_ == 1000000) = false:=by simpa using h
  have bk2 : decide (1000000 ≤ m.clock_) = false:=by simp only [decide_eq_false_iff_not];omega
  go_enter Tryz.func135,Tryz.ntmps135
  go_wp2_with (first|(go_at_call 129;(with_reducible refine (impl_copyMem_m m.clock_ A n c m.cells_ _ S (HS.out.ext M.out.ext) hn).mono ?_);rintro e w' ⟨B,d,rfl,M9⟩;have M8:=M.out.call M9;replace M:=Lib.hid M8;clear M8 M9;obtain ⟨gB,rfl⟩:=M.out.addr 0 rfl hn0)|(go_at_call 65;(with_reducible refine (impl_MemOk m A n c _ S (by omega) (HS.out.ext M.out.ext)).mono ?_);rintro e w' ⟨rfl,x9⟩;replace M:=Lib.hid (M.out.on x9);clear x9;rw [HM.out])|((with_reducible show wpList _ _ _ (⟨_,_,_,_,_,none⟩::_) _ _);first|(refine Mine.wp_box M.out rfl 27 _ rfl _ rfl ?_;intro ga w' M';(try simp only [zr_,zm_] at M');replace M:=Lib.hid M';clear M';(try simp only [zr_,zm_]))|(refine Mine.wp_alloc M.out rfl 27 rfl (.agg #[.int .i64 0,.slice none 0 0]) (by kernel_rfl) ?_;intro gr w' M';(try simp only [Value.cells,zr_,zm_] at M');replace M:=Lib.hid M';clear M';(try simp only [zr_,zm_]))|((first|refine zGs M.out 27 1 2 ?_|refine zGs M.out 27 3 2 ?_|refine zG M.out 0 ?_);(try simp only [zr_,zm_]))|((first|refine zSs M.out 27 0 ?_|refine zS M.out 0 ?_);intro w' M';(try simp only [zr_,zm_] at M');replace M:=Lib.hid M';clear M'))|((with_reducible show wpList _ _ _ (⟨_,.load _ _,_,_,_,some _⟩::_) _ _);first|(refine zGg M.out 3 ?_;(try simp only [zr_,zm_]))))
  have MT:=Lib.hid (M.out.sub (sk_ (sk_ (sd_ (sk_ s0_)))))
  refine Mine.region_headS MT.out M.out 4 (by kernel_rfl) (by kernel_rfl) ?_
  intro w' M'
  replace M:=Lib.hid M'
  clear M'
  clear MT
  refine zT 0 ?_;intro K hK;((refine zDs 27 0 2 ?_;(try simp only [zr_,zm_]);go_big_quiet_on))
  refine zXT 1 ?_;(try simp only [zs_,zl_])
  refine zT 2 ?_;intro K hK;((refine zD 0 ?_;(try simp only [zr_,zm_]);go_big_quiet_on))
  refine HQ.noisy (rs:=[3]) (by kernel_rfl) (by simp) (AllG.cons rfl (Nat.le_of_ble_eq_true rfl) (fun K hK => ?_) AllG.nil)
  refine Mine.step_sets M.out (by rfl) 27 _ _ (by rfl) (by rfl) 2 _ (by rfl) (by rfl) _ (by rfl) (Nat.le_of_ble_eq_true rfl) (by simp [Value.oneCell']) (by kernel_rfl) ?_
  intro w' M'
  simp only [zr_,zm_] at M'
  replace M:=Lib.hid M'
  clear M'
  refine hK.out _ _ (M.out.sub (sk_ (sk_ (sd_ (sk_ s0_))))) ?_
  clear hK K
  (try simp only [zs_,zl_])
  refine HQ.end_ (by kernel_rfl) ?_
  simp only [List.drop_succ_cons,List.drop_zero]
  go_wp2_with (fail)
  refine bodyPost_ret (M.out.results_cell2 Tryz.results135 _ 2 rfl rfl _ Tryz.underlying27 (by rfl) (by kernel_rfl)) rfl ?_
  exact ⟨_,_,by unfold tickK tickV;rw [HD.out];rfl,M.out.sub (sd_ (sk_ (sd_ (sd_ s0_))))⟩
end Go.Proofs.YtpmfhfpjiebcjaaGreat
namespace Go.Proofs.YtpmfhfpjiebcjaaGreat
open Go.RowKit Go.Deep
set_option linter.unnecessarySimpa false
set_option linter.unusedSimpArgs false
set_option linter.unusedVariables false
set_option maxRecDepth 8000 in
set_option maxHeartbeats 8000000 in
theorem impl_Store_m (m : Mem) (b o n c i : Nat) (x : Word) (who : Int) (w : World) (S : Nat → Prop) (hs : Sl w S 3 (some ⟨b,o,none⟩) n (m.cells_.flatMap Word.cells)) (hM : memOk m = true) (hx : m.cells_[i]? = some x) (hi : i < 8) (hw : 1 ≤ who ∧ who ≤ 99) (v : Int) (hv : 0 ≤ v ∧ v ≤ 65535) :
  Calls Tryz.prog 137 #[.agg #[.int .i64 m.clock_,.slice (some ⟨b,o,none⟩) n c],.int .i64 (i : Int),.int .i64 who,.int .i64 v] w fun e w' => ∃ B d,e = .returned (.tuple #[.agg #[.int .i64 (m.clock_),.slice B n d],.bool (dec (x.owner_ = who))]) ∧ Mine w w' [.row 102 3 B n d ((storeC m.cells_ i x who v).flatMap Word.cells)]:=by
 have hl : m.cells_.length = n:=hs.flen Word.cells_length (by omega)
 have HM:=Lib.hid hM
 have h8 : n = 8:=by have:=memOk_len hM;omega
 have HS:=Lib.hid hs
 have M:=Lib.hid (Mine.refl w)
 have HI : Hid (i < n):=by show _ < _;omega
 have HX:=Lib.hid hx
 have hi1 : (i : Int) < (n : Int):=by omega
 have HCO : Hid (w.cell? ⟨b,o + i * 3 + 2,none⟩ = some (.int .i64 x.owner_) ∧ b < w.heap.size):=word_at HS.out hx HI.out 2 (by omega)
 have HCV : Hid (w.cell? ⟨b,o + i * 3 + 1,none⟩ = some (.int .i64 x.ver_) ∧ b < w.heap.size):=word_at HS.out hx HI.out 1 (by omega)
 have HWW:=Lib.hid hw
 have dc : decide (0 ≤ (i : Int) ∧ (i : Int) ≤ 7) = true:=by simp only [decide_eq_true_eq];omega
 have dw : decide (1 ≤ who ∧ who ≤ 99) = true:=by simpa using hw
 have hn : n ≤ 1048576:=by omega
 have hn0 : 0 < n:=by omega
 clear hs hM h8 hx hw
 have dv : decide (0 ≤ v ∧ v ≤ 65535) = true:=by simpa using hv
 clear hv
 by_cases h : x.owner_ = who
 rotate_left
 ·have HD : Hid (dec (x.owner_ = who) = false):=dec_no h
  have bo : (x.owner_ != who) = true:=by simpa using h
  have HMI : Hid (dec (x.owner_ = who) = false):=dec_no h
  clear h
  go_enter Tryz.func137,Tryz.ntmps137
  go_wp2_with (first|(go_at_call 129;(with_reducible refine (impl_copyMem_m m.clock_ (some ⟨b,o,none⟩) n c m.cells_ _ S (HS.out.ext M.out.ext) hn).mono ?_);rintro e w' ⟨B,d,rfl,M9⟩;have M8:=M.out.call M9;replace M:=Lib.hid M8;clear M8 M9;obtain ⟨gB,rfl⟩:=M.out.addr 0 rfl hn0)|(go_at_call 65;(with_reducible refine (impl_MemOk m (some ⟨b,o,none⟩) n c _ S (by omega) (HS.out.ext M.out.ext)).mono ?_);rintro e w' ⟨rfl,x9⟩;replace M:=Lib.hid (M.out.on x9);clear x9;rw [HM.out])|(go_at_call 84;(with_reducible refine (icell_is dc _).mono ?_);rintro e w' ⟨rfl,rfl⟩)|(go_at_call 105;(with_reducible refine (iown_is dw _).mono ?_);rintro e w' ⟨rfl,rfl⟩)|((with_reducible show wpList _ _ _ (⟨_,_,_,_,_,none⟩::_) _ _);first|(refine Mine.wp_box M.out rfl 27 _ rfl _ rfl ?_;intro ga w' M';(try simp only [zr_,zm_] at M');replace M:=Lib.hid M';clear M';(try simp only [zr_,zm_]))|(refine Mine.wp_alloc M.out rfl 27 rfl (.agg #[.int .i64 0,.slice none 0 0]) (by kernel_rfl) ?_;intro gr w' M';(try simp only [Value.cells,zr_,zm_] at M');replace M:=Lib.hid M';clear M';(try simp only [zr_,zm_]))|((first|refine zGs M.out 27 1 2 ?_|refine zGs M.out 27 3 2 ?_|refine zGs M.out 27 0 2 ?_);(try simp only [zr_,zm_]))|((first|refine zSs M.out 27 0 ?_|refine zSs M.out 27 2 ?_);intro w' M';(try simp only [zr_,zm_] at M');replace M:=Lib.hid M';clear M'))|((with_reducible show wpList _ _ _ (⟨_,.load _ _,_,_,_,some _⟩::_) _ _);first|((first|refine zGg M.out 3 ?_|refine Mine.wp_getgc M.out (by rfl) 3 _ rfl _ _ HCO.out rfl _ Tryz.underlying3 (by rfl) ?_);(try simp only [zr_,zm_]))))
  refine bodyPost_ret (M.out.results_cell2 Tryz.results137 _ 2 rfl rfl _ Tryz.underlying27 (by rfl) (by kernel_rfl)) rfl ?_
  have e3 : storeC m.cells_ i x who v = m.cells_:=by unfold storeC;rw [HD.out];rfl
  exact ⟨_,_,by rw [HD.out];rfl,by rw [e3];exact M.out.sub (sd_ (sk_ (sd_ (sd_ s0_))))⟩
 have bo : (x.owner_ != who) = false:=by simp [h]
 have HMI : Hid (dec (x.owner_ = who) = true):=dec_yes h
 have HD : Hid (dec (x.owner_ = who) = true):=dec_yes h
 clear h
 go_enter Tryz.func137,Tryz.ntmps137
 go_wp2_with (first|(go_at_call 129;(with_reducible refine (impl_copyMem_m m.clock_ (some ⟨b,o,none⟩) n c m.cells_ _ S (HS.out.ext M.out.ext) hn).mono ?_);rintro e w' ⟨B,d,rfl,M9⟩;have M8:=M.out.call M9;replace M:=Lib.hid M8;clear M8 M9;obtain ⟨gB,rfl⟩:=M.out.addr 0 rfl hn0)|(go_at_call 65;(with_reducible refine (impl_MemOk m (some ⟨b,o,none⟩) n c _ S (by omega) (HS.out.ext M.out.ext)).mono ?_);rintro e w' ⟨rfl,x9⟩;replace M:=Lib.hid (M.out.on x9);clear x9;rw [HM.out])|(go_at_call 84;(with_reducible refine (icell_is dc _).mono ?_);rintro e w' ⟨rfl,rfl⟩)|(go_at_call 105;(with_reducible refine (iown_is dw _).mono ?_);rintro e w' ⟨rfl,rfl⟩)|(go_at_call 104;(with_reducible refine (ival_is dv _).mono ?_);rintro e w' ⟨rfl,rfl⟩)|((with_reducible show wpList _ _ _ (⟨_,_,_,_,_,none⟩::_) _ _);first|(refine Mine.wp_box M.out rfl 27 _ rfl _ rfl ?_;intro ga w' M';(try simp only [zr_,zm_] at M');replace M:=Lib.hid M';clear M';(try simp only [zr_,zm_]))|(refine Mine.wp_alloc M.out rfl 27 rfl (.agg #[.int .i64 0,.slice none 0 0]) (by kernel_rfl) ?_;intro gr w' M';(try simp only [Value.cells,zr_,zm_] at M');replace M:=Lib.hid M';clear M';(try simp only [zr_,zm_]))|((first|refine zGs M.out 27 1 2 ?_|refine zGs M.out 27 3 2 ?_|refine zGs M.out 27 0 2 ?_|refine zG M.out 0 ?_);(try simp only [zr_,zm_]))|((first|refine zSs M.out 27 0 ?_|refine zSs M.out 27 2 ?_|refine Mine.wp_put M.out rfl _ _ _ rfl rfl 1 _ rfl rfl _ (by (conv => lhs;whnf) <;> rfl) (by omega) (by rfl) (by kernel_rfl) ?_);intro w' M';(try simp only [zr_,zm_] at M');replace M:=Lib.hid M';clear M'))|((with_reducible show wpList _ _ _ (⟨_,.load _ _,_,_,_,some _⟩::_) _ _);first|((first|refine zGg M.out 3 ?_|refine Mine.wp_getgc M.out (by rfl) 3 _ rfl _ _ HCO.out rfl _ Tryz.underlying3 (by rfl) ?_);(try simp only [zr_,zm_]))))
 refine bodyPost_ret (M.out.results_cell2 Tryz.results137 _ 2 rfl rfl _ Tryz.underlying27 (by rfl) (by kernel_rfl)) rfl ?_
 have e1:=flat_set (v:=.int .i64 v) (f:=0) (a:=⟨v,x.ver_,x.owner_⟩) Word.cells_length (by omega) HX.out (by omega) rfl
 simp only [Nat.add_zero] at e1
 rw [e1] at M
 have e3 : storeC m.cells_ i x who v = m.cells_.set i ⟨v,x.ver_,x.owner_⟩:=by unfold storeC;rw [HD.out];rfl
 exact ⟨_,_,by rw [HD.out];rfl,by rw [e3];exact M.out.sub (sd_ (sk_ (sd_ (sd_ s0_))))⟩
end Go.Proofs.YtpmfhfpjiebcjaaGreat
namespace Go.Proofs.YtpmfhfpjiebcjaaGreat
open Go.RowKit Go.Deep
set_option linter.unnecessarySimpa false
set_option linter.unusedSimpArgs false
set_option linter.unusedVariables false
set_option maxRecDepth 8000 in
set_option maxHeartbeats 8000000 in
theorem impl_Unlock_m (m : Mem) (b o n c i : Nat) (x : Word) (who : Int) (w : World) (S : Nat → Prop) (hs : Sl w S 3 (some ⟨b,o,none⟩) n (m.cells_.flatMap Word.cells)) (hM : memOk m = true) (hx : m.cells_[i]? = some x) (hi : i < 8) (hw : 1 ≤ who ∧ who ≤ 99) (ver : Int) :
  Calls Tryz.prog 138 #[.agg #[.int .i64 m.clock_,.slice (some ⟨b,o,none⟩) n c],.int .i64 (i : Int),.int .i64 who,.int .i64 ver] w fun e w' => ∃ B d,e = .returned (.tuple #[.agg #[.int .i64 (m.clock_),.slice B n d],.bool (dec (x.owner_ = who ∧ (x.ver_ ≤ ver ∧ ver ≤ m.clock_)))]) ∧ Mine w w' [.row 102 3 B n d ((unlockC m.clock_ m.cells_ i x who ver).flatMap Word.cells)]:=by
 have hl : m.cells_.length = n:=hs.flen Word.cells_length (by omega)
 have HM:=Lib.hid hM
 have h8 : n = 8:=by have:=memOk_len hM;omega
 have HS:=Lib.hid hs
 have M:=Lib.hid (Mine.refl w)
 have HI : Hid (i < n):=by show _ < _;omega
 have HX:=Lib.hid hx
 have hi1 : (i : Int) < (n : Int):=by omega
 have HCO : Hid (w.cell? ⟨b,o + i * 3 + 2,none⟩ = some (.int .i64 x.owner_) ∧ b < w.heap.size):=word_at HS.out hx HI.out 2 (by omega)
 have HCV : Hid (w.cell? ⟨b,o + i * 3 + 1,none⟩ = some (.int .i64 x.ver_) ∧ b < w.heap.size):=word_at HS.out hx HI.out 1 (by omega)
 have HWW:=Lib.hid hw
 have dc : decide (0 ≤ (i : Int) ∧ (i : Int) ≤ 7) = true:=by simp only [decide_eq_true_eq];omega
 have dw : decide (1 ≤ who ∧ who ≤ 99) = true:=by simpa using hw
 have hn : n ≤ 1048576:=by omega
 have hn0 : 0 < n:=by omega
 clear hs hM h8 hx hw
 by_cases h : x.owner_ = who
 rotate_left
 ·have HD : Hid (dec (x.owner_ = who ∧ (x.ver_ ≤ ver ∧ ver ≤ m.clock_)) = false):=dec_no (fun q => h q.1)
  have bo : (x.owner_ != who) = true:=by simpa using h
  have HMI : Hid (dec (x.owner_ = who) = false):=dec_no h
  clear h
  go_enter Tryz.func138,Tryz.ntmps138
  go_wp2_with (first|(go_at_call 129;(with_reducible refine (impl_copyMem_m m.clock_ (some ⟨b,o,none⟩) n c m.cells_ _ S (HS.out.ext M.out.ext) hn).mono ?_);rintro e w' ⟨B,d,rfl,M9⟩;have M8:=M.out.call M9;replace M:=Lib.hid M8;clear M8 M9;obtain ⟨gB,rfl⟩:=M.out.addr 0 rfl hn0)|((with_reducible show wpList _ _ _ (⟨_,_,_,_,_,none⟩::_) _ _);first|(refine Mine.wp_box M.out rfl 27 _ rfl _ rfl ?_;intro ga w' M';(try simp only [zr_,zm_] at M');replace M:=Lib.hid M';clear M';(try simp only [zr_,zm_]))|(refine Mine.wp_alloc M.out rfl 27 rfl (.agg #[.int .i64 0,.slice none 0 0]) (by kernel_rfl) ?_;intro gr w' M';(try simp only [Value.cells,zr_,zm_] at M');replace M:=Lib.hid M';clear M';(try simp only [zr_,zm_]))|(refine zGs M.out 27 1 2 ?_;(try simp only [zr_,zm_]))|(refine zSs M.out 27 0 ?_;intro w' M';(try simp only [zr_,zm_] at M');replace M:=Lib.hid M';clear M')))
  refine Mine.region_quiet M.out (by kernel_rfl) (by kernel_rfl) ?_
  repeat (first|go_big_quiet_skip|(go_big_quiet_want;first|((first|refine zQs 27 3 2 ?_|refine zQ 3 ?_|refine Mine.oq_arg 3 _ rfl _ _ HCO.out rfl _ Tryz.underlying3 (by rfl) ?_);(try simp only [zr_,zm_]);go_big_quiet_on)|(unfold Oper.quiet;apply Exists.intro;refine ⟨fun wq hq => ?_,?_⟩;(go_simp;go_at_call 65;(with_reducible refine (impl_MemOk m (some ⟨b,o,none⟩) n c _ S (by omega) (HS.out.ext hq.ext)).mono ?_);rintro e w2 ⟨rfl,x2⟩;rw [HM.out];exact ⟨rfl,hq.on x2⟩);(try simp only [zs_,zl_]);go_big_quiet_on)|(unfold Oper.quiet;apply Exists.intro;refine ⟨fun wq hq => ?_,?_⟩;(go_simp;go_at_call 84;(with_reducible refine (icell_is dc _).mono ?_);rintro e w2 ⟨rfl,rfl⟩;exact ⟨rfl,hq⟩);(try simp only [zs_,zl_]);go_big_quiet_on)|(unfold Oper.quiet;apply Exists.intro;refine ⟨fun wq hq => ?_,?_⟩;(go_simp;go_at_call 105;(with_reducible refine (iown_is dw _).mono ?_);rintro e w2 ⟨rfl,rfl⟩;exact ⟨rfl,hq⟩);(try simp only [zs_,zl_]);go_big_quiet_on)|(unfold Oper.quiet;apply Exists.intro;refine ⟨fun wq hq => ?_,?_⟩;(clear hq;go_simp;first|done|rfl|exact ⟨rfl,rfl⟩);(try simp only [zs_,zl_]);go_big_quiet_on)))
  refine wpQuiet_nil ?_
  intro w' M'
  replace M:=Lib.hid M'
  clear M'
  go_wp2_with (((with_reducible show wpList _ _ _ (⟨_,_,_,_,_,none⟩::_) _ _);first|(refine zGs M.out 27 0 2 ?_;(try simp only [zr_,zm_]))|(refine zSs M.out 27 2 ?_;intro w' M';(try simp only [zr_,zm_] at M');replace M:=Lib.hid M';clear M')))
  refine bodyPost_ret (M.out.results_cell2 Tryz.results138 _ 2 rfl rfl _ Tryz.underlying27 (by rfl) (by kernel_rfl)) rfl ?_
  have e3 : unlockC m.clock_ m.cells_ i x who ver = m.cells_:=by unfold unlockC;rw [HD.out];rfl
  exact ⟨_,_,by rw [HD.out];rfl,by rw [e3];exact M.out.sub (sd_ (sk_ (sd_ (sd_ s0_))))⟩
 have bo : (x.owner_ != who) = false:=by simp [h]
 have HMI : Hid (dec (x.owner_ = who) = true):=dec_yes h
 by_cases h2 : x.ver_ ≤ ver ∧ ver ≤ m.clock_
 rotate_left
 ·have HD : Hid (dec (x.owner_ = who ∧ (x.ver_ ≤ ver ∧ ver ≤ m.clock_)) = false):=dec_no (fun q => h2 q.2)
  have dt : decide (x.ver_ ≤ ver ∧ ver ≤ m.clock_) = false:=by simpa using h2
  clear h h2
  go_enter Tryz.func138,Tryz.ntmps138
  go_wp2_with (first|(go_at_call 129;(with_reducible refine (impl_copyMem_m m.clock_ (some ⟨b,o,none⟩) n c m.cells_ _ S (HS.out.ext M.out.ext) hn).mono ?_);rintro e w' ⟨B,d,rfl,M9⟩;have M8:=M.out.call M9;replace M:=Lib.hid M8;clear M8 M9;obtain ⟨gB,rfl⟩:=M.out.addr 0 rfl hn0)|((with_reducible show wpList _ _ _ (⟨_,_,_,_,_,none⟩::_) _ _);first|(refine Mine.wp_box M.out rfl 27 _ rfl _ rfl ?_;intro ga w' M';(try simp only [zr_,zm_] at M');replace M:=Lib.hid M';clear M';(try simp only [zr_,zm_]))|(refine Mine.wp_alloc M.out rfl 27 rfl (.agg #[.int .i64 0,.slice none 0 0]) (by kernel_rfl) ?_;intro gr w' M';(try simp only [Value.cells,zr_,zm_] at M');replace M:=Lib.hid M';clear M';(try simp only [zr_,zm_]))|(refine zGs M.out 27 1 2 ?_;(try simp only [zr_,zm_]))|(refine zSs M.out 27 0 ?_;intro w' M';(try simp only [zr_,zm_] at M');replace M:=Lib.hid M';clear M')))
  refine Mine.region_quiet M.out (by kernel_rfl) (by kernel_rfl) ?_
  repeat (first|go_big_quiet_skip|(go_big_quiet_want;first|((first|refine zQs 27 3 2 ?_|refine zQ 3 ?_|refine Mine.oq_arg 3 _ rfl _ _ HCO.out rfl _ Tryz.underlying3 (by rfl) ?_|refine Mine.oq_arg 3 _ rfl _ _ HCV.out rfl _ Tryz.underlying3 (by rfl) ?_);(try simp only [zr_,zm_]);go_big_quiet_on)|(unfold Oper.quiet;apply Exists.intro;refine ⟨fun wq hq => ?_,?_⟩;(go_simp;go_at_call 35;(with_reducible refine (with_is dt _).mono ?_);rintro e w2 ⟨rfl,rfl⟩;exact ⟨rfl,hq⟩);(try simp only [zs_,zl_]);go_big_quiet_on)|(unfold Oper.quiet;apply Exists.intro;refine ⟨fun wq hq => ?_,?_⟩;(go_simp;go_at_call 65;(with_reducible refine (impl_MemOk m (some ⟨b,o,none⟩) n c _ S (by omega) (HS.out.ext hq.ext)).mono ?_);rintro e w2 ⟨rfl,x2⟩;rw [HM.out];exact ⟨rfl,hq.on x2⟩);(try simp only [zs_,zl_]);go_big_quiet_on)|(unfold Oper.quiet;apply Exists.intro;refine ⟨fun wq hq => ?_,?_⟩;(go_simp;go_at_call 84;(with_reducible refine (icell_is dc _).mono ?_);rintro e w2 ⟨rfl,rfl⟩;exact ⟨rfl,hq⟩);(try simp only [zs_,zl_]);go_big_quiet_on)|(unfold Oper.quiet;apply Exists.intro;refine ⟨fun wq hq => ?_,?_⟩;(go_simp;go_at_call 105;(with_reducible refine (iown_is dw _).mono ?_);rintro e w2 ⟨rfl,rfl⟩;exact ⟨rfl,hq⟩);(try simp only [zs_,zl_]);go_big_quiet_on)|(unfold Oper.quiet;apply Exists.intro;refine ⟨fun wq hq => ?_,?_⟩;(clear hq;go_simp;first|done|rfl|exact ⟨rfl,rfl⟩);(try simp only [zs_,zl_]);go_big_quiet_on)))
  refine wpQuiet_nil ?_
  intro w' M'
  replace M:=Lib.hid M'
  clear M'
  go_wp2_with (((with_reducible show wpList _ _ _ (⟨_,_,_,_,_,none⟩::_) _ _);first|(refine zGs M.out 27 0 2 ?_;(try simp only [zr_,zm_]))|(refine zSs M.out 27 2 ?_;intro w' M';(try simp only [zr_,zm_] at M');replace M:=Lib.hid M';clear M')))
  refine bodyPost_ret (M.out.results_cell2 Tryz.results138 _ 2 rfl rfl _ Tryz.underlying27 (by rfl) (by kernel_rfl)) rfl ?_
  have e3 : unlockC m.clock_ m.cells_ i x who ver = m.cells_:=by unfold unlockC;rw [HD.out];rfl
  exact ⟨_,_,by rw [HD.out];rfl,by rw [e3];exact M.out.sub (sd_ (sk_ (sd_ (sd_ s0_))))⟩
 have HD : Hid (dec (x.owner_ = who ∧ (x.ver_ ≤ ver ∧ ver ≤ m.clock_)) = true):=dec_yes ⟨h,h2⟩
 have dt : decide (x.ver_ ≤ ver ∧ ver ≤ m.clock_) = true:=by simpa using h2
 clear h h2
 go_enter Tryz.func138,Tryz.ntmps138
 go_wp2_with (first|(go_at_call 129;(with_reducible refine (impl_copyMem_m m.clock_ (some ⟨b,o,none⟩) n c m.cells_ _ S (HS.out.ext M.out.ext) hn).mono ?_);rintro e w' ⟨B,d,rfl,M9⟩;have M8:=M.out.call M9;replace M:=Lib.hid M8;clear M8 M9;obtain ⟨gB,rfl⟩:=M.out.addr 0 rfl hn0)|((with_reducible show wpList _ _ _ (⟨_,_,_,_,_,none⟩::_) _ _);first|(refine Mine.wp_box M.out rfl 27 _ rfl _ rfl ?_;intro ga w' M';(try simp only [zr_,zm_] at M');replace M:=Lib.hid M';clear M';(try simp only [zr_,zm_]))|(refine Mine.wp_alloc M.out rfl 27 rfl (.agg #[.int .i64 0,.slice none 0 0]) (by kernel_rfl) ?_;intro gr w' M';(try simp only [Value.cells,zr_,zm_] at M');replace M:=Lib.hid M';clear M';(try simp only [zr_,zm_]))|(refine zGs M.out 27 1 2 ?_;(try simp only [zr_,zm_]))|(refine zSs M.out 27 0 ?_;intro w' M';(try simp only [zr_,zm_] at M');replace M:=Lib.hid M';clear M')))
 refine Mine.region_quiet M.out (by kernel_rfl) (by kernel_rfl) ?_
 repeat (first|go_big_quiet_skip|(go_big_quiet_want;first|((first|refine zQs 27 3 2 ?_|refine zQ 3 ?_|refine Mine.oq_arg 3 _ rfl _ _ HCO.out rfl _ Tryz.underlying3 (by rfl) ?_|refine Mine.oq_arg 3 _ rfl _ _ HCV.out rfl _ Tryz.underlying3 (by rfl) ?_);(try simp only [zr_,zm_]);go_big_quiet_on)|(unfold Oper.quiet;apply Exists.intro;refine ⟨fun wq hq => ?_,?_⟩;(go_simp;go_at_call 35;(with_reducible refine (with_is dt _).mono ?_);rintro e w2 ⟨rfl,rfl⟩;exact ⟨rfl,hq⟩);(try simp only [zs_,zl_]);go_big_quiet_on)|(unfold Oper.quiet;apply Exists.intro;refine ⟨fun wq hq => ?_,?_⟩;(go_simp;go_at_call 65;(with_reducible refine (impl_MemOk m (some ⟨b,o,none⟩) n c _ S (by omega) (HS.out.ext hq.ext)).mono ?_);rintro e w2 ⟨rfl,x2⟩;rw [HM.out];exact ⟨rfl,hq.on x2⟩);(try simp only [zs_,zl_]);go_big_quiet_on)|(unfold Oper.quiet;apply Exists.intro;refine ⟨fun wq hq => ?_,?_⟩;(go_simp;go_at_call 84;(with_reducible refine (icell_is dc _).mono ?_);rintro e w2 ⟨rfl,rfl⟩;exact ⟨rfl,hq⟩);(try simp only [zs_,zl_]);go_big_quiet_on)|(unfold Oper.quiet;apply Exists.intro;refine ⟨fun wq hq => ?_,?_⟩;(go_simp;go_at_call 105;(with_reducible refine (iown_is dw _).mono ?_);rintro e w2 ⟨rfl,rfl⟩;exact ⟨rfl,hq⟩);(try simp only [zs_,zl_]);go_big_quiet_on)|(unfold Oper.quiet;apply Exists.intro;refine ⟨fun wq hq => ?_,?_⟩;(clear hq;go_simp;first|done|rfl|exact ⟨rfl,rfl⟩);(try simp only [zs_,zl_]);go_big_quiet_on)))
 refine wpQuiet_nil ?_
 intro w' M'
 replace M:=Lib.hid M'
 clear M'
 go_wp2_with (((with_reducible show wpList _ _ _ (⟨_,_,_,_,_,none⟩::_) _ _);first|((first|refine zGs M.out 27 0 2 ?_|refine zG M.out 0 ?_);(try simp only [zr_,zm_]))|((first|refine zSs M.out 27 2 ?_|refine Mine.wp_put M.out rfl _ _ _ rfl rfl 1 _ rfl rfl _ (by (conv => lhs;whnf) <;> rfl) (by omega) (by rfl) (by kernel_rfl) ?_);intro w' M';(try simp only [zr_,zm_] at M');replace M:=Lib.hid M';clear M')))
 refine bodyPost_ret (M.out.results_cell2 Tryz.results138 _ 2 rfl rfl _ Tryz.underlying27 (by rfl) (by kernel_rfl)) rfl ?_
 have e1:=flat_set (v:=.int .i64 0) (f:=2) (a:=⟨x.val_,x.ver_,0⟩) Word.cells_length (by omega) HX.out (by omega) rfl
 have hx2 : (m.cells_.set i ⟨x.val_,x.ver_,0⟩)[i]? = some ⟨x.val_,x.ver_,0⟩:=by rw [List.getElem?_set_self (List.getElem?_eq_some_iff.1 HX.out).1]
 have e2:=flat_set (v:=.int .i64 ver) (f:=1) (a:=⟨x.val_,ver,0⟩) Word.cells_length (by omega) hx2 (by omega) rfl
 rw [List.set_set] at e2
 rw [e1,e2] at M
 have e3 : unlockC m.clock_ m.cells_ i x who ver = m.cells_.set i ⟨x.val_,ver,0⟩:=by unfold unlockC;rw [HD.out];rfl
 exact ⟨_,_,by rw [HD.out];rfl,by rw [e3];exact M.out.sub (sd_ (sk_ (sd_ (sd_ s0_))))⟩
end Go.Proofs.YtpmfhfpjiebcjaaGreat
