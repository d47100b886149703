/- CellsOf, CommitNew of program and reference. No condition but lengths. Probes. No condition. -/
import Derived.Test.YtpmfhfpjiebcjaaGreatD00
import Derived.Test.YtpmfhfpjiebcjaaGreatD11
namespace Go.Proofs.YtpmfhfpjiebcjaaGreat
open Go.RowKit Go.Deep
set_option linter.unnecessarySimpa false
set_option linter.unusedSimpArgs false
set_option linter.unusedVariables false

theorem map_take {l : List Row} {k : Nat} {r : Row} (h : l[k]? = some r) : (l.take k).map (·.cell_) ++ [r.cell_] = (l.take (k + 1)).map (·.cell_):=by rw [List.take_add_one,h,List.map_append];rfl
noncomputable def cnewOk (who rv : Int) (ps qs : List Row) : Bool:=dec ((1 ≤ who ∧ who ≤ 99) ∧ (0 ≤ rv ∧ rv ≤ 1000000) ∧ rowsOk ps = true ∧ rowsOk qs = true)
noncomputable def cnew (who rv : Int) (ps qs : List Row) : Commit:=if cnewOk who rv ps qs = true then ⟨who,rv,if (netR ps).length = 0 then 2 else 1,0,0,netR ps,(netR qs).map (·.cell_)⟩ else ⟨0,0,0,0,0,[],[]⟩
theorem net_le (l : List Row) : (netR l).length ≤ 8:=netTo_len l 8

set_option maxRecDepth 8000 in
set_option maxHeartbeats 8000000 in
theorem impl_CellsOf (A : Option Addr) (n c : Nat) (l : List Row) (w : World) (S : Nat → Prop) (hs : Sl w S 2 A n (l.flatMap Row.cells)) (hm : n ≤ 1048576) :
  Calls Tryz.prog 127 #[.slice A n c] w fun e w' => ∃ B m d,e = .returned (.slice B m d) ∧ Mine w w' [.row 3 1 B m d (ints ((netR l).map (·.cell_)))]:=by
 have HS:=Lib.hid hs
 clear hs
 have M:=Lib.hid (Mine.refl w)
 go_enter Tryz.func127,Tryz.ntmps127
 go_wp2_with (first|(go_at_call 126;(with_reducible refine (impl_Net A n c l _ S (HS.out.ext M.out.ext) hm).mono ?_);rintro e w' ⟨B,m,d,rfl,M9⟩;have M8:=M.out.call M9;replace M:=Lib.hid M8;clear M8 M9)|((with_reducible show wpList _ _ _ (⟨_,_,_,_,_,none⟩::_) _ _);first|(refine Mine.wp_mkI M.out rfl rfl ?_;intro gv w' M';replace M:=Lib.hid M';clear M';(try simp only [zr_,zm_]))))
 simp only [List.cons_append,List.nil_append] at M
 obtain ⟨L,hL⟩ : ∃ L,L = netR l:=⟨_,rfl⟩
 rw [← hL] at M
 have HL:=Lib.hid hL
 have HL8 : Hid (L.length ≤ 8):=by show _ ≤ _;rw [hL];exact net_le l
 have HLM : Hid (L.length = m):=by have h:=M.out.len 0 rfl;rw [flat_length Row.cells_length] at h;show _ = _;omega
 have hm8 : m ≤ 8:=by have:=HL8.out;have:=HLM.out;omega
 clear hL
 go_loopw [3,10] (fun u i wr => ∃ (k e2 f : Nat) (B2 : Option Addr),k ≤ m ∧ e2 = k ∧ u = .slice B2 e2 f ∧ i = .int .i64 k ∧ Hid (Mine w wr [.row 97 2 B m d (L.flatMap Row.cells),.row 3 1 B2 e2 f (ints ((L.take k).map (·.cell_)))])) (fun _ i _ => m - (intOf i).toNat)
 case atStart => exact ⟨0,0,_,_,Nat.zero_le _,rfl,rfl,rfl,M⟩
 case round =>
  clear M
  obtain ⟨k,e2,f,B2,hk,he2,rfl,rfl,M⟩:=hrel
  have HE2:=Lib.hid he2
  have he8 : e2 ≤ 8:=by omega
  clear he2
  by_cases hlt : (k : Int) < (m : Int)
  rotate_left
  ·have e : Hid (k = L.length):=by have:=HLM.out;show _ = _;omega
   go_wp2
   go_ret
   have M9:=M.out.tail
   rw [e.out,List.take_length,HL.out] at M9
   exact ⟨_,_,_,rfl,M9⟩
  have HLT : Hid (k < m):=by show _ < _;omega
  obtain ⟨g,rfl⟩:=M.out.addr 0 rfl (by omega)
  obtain ⟨r,hr⟩ : ∃ r,L[k]? = some r:=⟨_,List.getElem?_eq_getElem (by have:=HLM.out;have:=HLT.out;omega)⟩
  have HR:=Lib.hid hr
  have HC0 : Hid ((L.flatMap Row.cells)[k * 2]? = some (.int .i64 r.cell_)):=by have h:=flat_get Row.cells_length L k 0 _ hr (by omega);rw [Nat.add_zero] at h;exact h
  have HCA : Hid (∀ q,q < [Value.int .i64 r.cell_,.int .i64 r.val_].length → (L.flatMap Row.cells)[k * 2 + q]? = [Value.int .i64 r.cell_,.int .i64 r.val_][q]?):=fun q hq => flat_get Row.cells_length L k q r hr hq
  clear hr
  go_wp2_with (first|(at_builtin;refine Mine.wp_push M.out rfl _ _ 22 rfl 3 _ _ _ Tryz.underlying22 Tryz.infoInt rfl (by omega) 2 rfl rfl _ _ rfl rfl rfl (by simp [Value.oneCell']) (by omega) (by unfold maxLen;omega) ?_;intro A2 c2 w' M';(try simp only [zr_,zm_] at M');replace M:=Lib.hid M';clear M')|((with_reducible show wpList _ _ _ (⟨_,_,_,_,_,none⟩::_) _ _);first|((first|refine Mine.wp_getrs M.out rfl 97 _ rfl 0 _ rfl rfl [.int .i64 r.cell_,.int .i64 r.val_] HCA.out _ Tryz.underlying97 (by rfl) (by kernel_rfl) ?_|refine zG M.out 0 ?_);(try simp only [zr_,zm_]))|(refine Mine.wp_alloc M.out rfl 97 rfl (.agg #[.int .i64 0,.int .i64 0]) (by kernel_rfl) ?_;intro gx w' M';(try simp only [Value.cells,zr_,zm_] at M');replace M:=Lib.hid M';clear M';(try simp only [zr_,zm_]))|(refine zSs M.out 97 0 ?_;intro w' M';(try simp only [zr_,zm_] at M');replace M:=Lib.hid M';clear M')))
  rw [map_take HR.out] at M
  go_roundw
  case rel => exact ⟨k + 1,e2 + 1,_,_,HLT.out,by rw [HE2.out],rfl,by go_num,Lib.hid M.out.tail⟩
  case measure => have:=HLT.out;simp [intOf];omega
set_option maxRecDepth 8000 in
set_option maxHeartbeats 8000000 in
theorem impl_CommitNew (who rv : Int) (A : Option Addr) (n c : Nat) (ps : List Row) (A2 : Option Addr) (n2 c2 : Nat) (qs : List Row) (w : World) (S1 : Nat → Prop) (h1 : Sl w S1 2 A n (ps.flatMap Row.cells)) (hm1 : n ≤ 1048576) (S2 : Nat → Prop) (h2 : Sl w S2 2 A2 n2 (qs.flatMap Row.cells)) (hm2 : n2 ≤ 1048576) :
  Calls Tryz.prog 85 #[.int .i64 who,.int .i64 rv,.slice A n c,.slice A2 n2 c2] w fun e w' => ∃ Bp np dp Br nr dr b,e = .returned (.tuple #[.agg #[.int .i64 (cnew who rv ps qs).who_,.int .i64 (cnew who rv ps qs).rv_,.int .i64 (cnew who rv ps qs).phase_,.int .i64 (cnew who rv ps qs).at_,.int .i64 (cnew who rv ps qs).wv_,.slice Bp np dp,.slice Br nr dr],.bool b]) ∧ Mine w w' [.row 97 2 Bp np dp ((cnew who rv ps qs).puts_.flatMap Row.cells),.row 3 1 Br nr dr (ints (cnew who rv ps qs).reads_)]:=by
 have H1:=Lib.hid h1
 have H2:=Lib.hid h2
 clear h1 h2
 have M:=Lib.hid (Mine.refl w)
 by_cases q1 : 1 ≤ who ∧ who ≤ 99
 rotate_left
 ·have HZ : Hid (cnew who rv ps qs = ⟨0,0,0,0,0,[],[]⟩):=by show _ = _;unfold cnew cnewOk;rw [dec_no fun z => q1 z.1];rfl
  have d1 : decide (1 ≤ who ∧ who ≤ 99) = false:=by simpa using q1
  clear q1
  go_enter Tryz.func85,Tryz.ntmps85
  go_wp2_with (first|(go_at_call 105;(with_reducible refine (iown_is d1 _).mono ?_);rintro e w' ⟨rfl,rfl⟩)|((with_reducible show wpList _ _ _ (⟨_,_,_,_,_,none⟩::_) _ _);first|(refine Mine.wp_alloc M.out rfl 64 rfl (.agg #[.int .i64 0,.int .i64 0,.int .i64 0,.int .i64 0,.int .i64 0,.slice none 0 0,.slice none 0 0]) (by kernel_rfl) ?_;intro gr w' M';(try simp only [Value.cells,zr_,zm_] at M');replace M:=Lib.hid M';clear M';(try simp only [zr_,zm_]))|(refine zSs M.out 64 0 ?_;intro w' M';(try simp only [zr_,zm_] at M');replace M:=Lib.hid M';clear M')))
  refine bodyPost_ret (M.out.results_cell2 Tryz.results85 _ 0 rfl rfl _ Tryz.underlying64 (by rfl) (by kernel_rfl)) rfl ?_
  rw [HZ.out]
  have M9:=(M.out.tail.nil 3 1).nil 97 2
  exact ⟨_,_,_,_,_,_,_,rfl,M9⟩
 have d1 : decide (1 ≤ who ∧ who ≤ 99) = true:=by simpa using q1
 by_cases q2 : 0 ≤ rv ∧ rv ≤ 1000000
 rotate_left
 ·have HZ : Hid (cnew who rv ps qs = ⟨0,0,0,0,0,[],[]⟩):=by show _ = _;unfold cnew cnewOk;rw [dec_no fun z => q2 z.2.1];rfl
  have d2 : decide (0 ≤ rv ∧ rv ≤ 1000000) = false:=by simpa using q2
  clear q1 q2
  go_enter Tryz.func85,Tryz.ntmps85
  go_wp2_with (first|(go_at_call 35;(with_reducible refine (with_is d2 _).mono ?_);rintro e w' ⟨rfl,rfl⟩)|(go_at_call 105;(with_reducible refine (iown_is d1 _).mono ?_);rintro e w' ⟨rfl,rfl⟩)|((with_reducible show wpList _ _ _ (⟨_,_,_,_,_,none⟩::_) _ _);first|(refine Mine.wp_alloc M.out rfl 64 rfl (.agg #[.int .i64 0,.int .i64 0,.int .i64 0,.int .i64 0,.int .i64 0,.slice none 0 0,.slice none 0 0]) (by kernel_rfl) ?_;intro gr w' M';(try simp only [Value.cells,zr_,zm_] at M');replace M:=Lib.hid M';clear M';(try simp only [zr_,zm_]))|(refine zSs M.out 64 0 ?_;intro w' M';(try simp only [zr_,zm_] at M');replace M:=Lib.hid M';clear M')))
  refine bodyPost_ret (M.out.results_cell2 Tryz.results85 _ 0 rfl rfl _ Tryz.underlying64 (by rfl) (by kernel_rfl)) rfl ?_
  rw [HZ.out]
  have M9:=(M.out.tail.nil 3 1).nil 97 2
  exact ⟨_,_,_,_,_,_,_,rfl,M9⟩
 have d2 : decide (0 ≤ rv ∧ rv ≤ 1000000) = true:=by simpa using q2
 cases h5 : rowsOk ps
 ·have HZ : Hid (cnew who rv ps qs = ⟨0,0,0,0,0,[],[]⟩):=by show _ = _;unfold cnew cnewOk;rw [dec_no fun z => by have:=z.2.2.1;rw [h5] at this;exact absurd this (by simp)];rfl
  clear q1 q2
  go_enter Tryz.func85,Tryz.ntmps85
  go_wp2_with (first|(go_at_call 35;(with_reducible refine (with_is d2 _).mono ?_);rintro e w' ⟨rfl,rfl⟩)|(go_at_call 105;(with_reducible refine (iown_is d1 _).mono ?_);rintro e w' ⟨rfl,rfl⟩)|(go_at_call 67;(with_reducible refine (impl_RowsOk A n c ps _ S1 (H1.out.ext M.out.ext) hm1).mono ?_);rintro e w' ⟨rfl,x9⟩;replace M:=Lib.hid (M.out.on x9);clear x9;rw [h5])|((with_reducible show wpList _ _ _ (⟨_,_,_,_,_,none⟩::_) _ _);first|(refine Mine.wp_alloc M.out rfl 64 rfl (.agg #[.int .i64 0,.int .i64 0,.int .i64 0,.int .i64 0,.int .i64 0,.slice none 0 0,.slice none 0 0]) (by kernel_rfl) ?_;intro gr w' M';(try simp only [Value.cells,zr_,zm_] at M');replace M:=Lib.hid M';clear M';(try simp only [zr_,zm_]))|(refine zSs M.out 64 0 ?_;intro w' M';(try simp only [zr_,zm_] at M');replace M:=Lib.hid M';clear M')))
  refine bodyPost_ret (M.out.results_cell2 Tryz.results85 _ 0 rfl rfl _ Tryz.underlying64 (by rfl) (by kernel_rfl)) rfl ?_
  rw [HZ.out]
  have M9:=(M.out.tail.nil 3 1).nil 97 2
  exact ⟨_,_,_,_,_,_,_,rfl,M9⟩
 cases h6 : rowsOk qs
 ·have HZ : Hid (cnew who rv ps qs = ⟨0,0,0,0,0,[],[]⟩):=by show _ = _;unfold cnew cnewOk;rw [dec_no fun z => by have:=z.2.2.2;rw [h6] at this;exact absurd this (by simp)];rfl
  clear q1 q2
  go_enter Tryz.func85,Tryz.ntmps85
  go_wp2_with (first|(go_at_call 35;(with_reducible refine (with_is d2 _).mono ?_);rintro e w' ⟨rfl,rfl⟩)|(go_at_call 105;(with_reducible refine (iown_is d1 _).mono ?_);rintro e w' ⟨rfl,rfl⟩)|(go_at_call 67;(with_reducible refine (impl_RowsOk A n c ps _ S1 (H1.out.ext M.out.ext) hm1).mono ?_);rintro e w' ⟨rfl,x9⟩;replace M:=Lib.hid (M.out.on x9);clear x9;rw [h5])|(go_at_call 67;(with_reducible refine (impl_RowsOk A2 n2 c2 qs _ S2 (H2.out.ext M.out.ext) hm2).mono ?_);rintro e w' ⟨rfl,x9⟩;replace M:=Lib.hid (M.out.on x9);clear x9;rw [h6])|((with_reducible show wpList _ _ _ (⟨_,_,_,_,_,none⟩::_) _ _);first|(refine Mine.wp_alloc M.out rfl 64 rfl (.agg #[.int .i64 0,.int .i64 0,.int .i64 0,.int .i64 0,.int .i64 0,.slice none 0 0,.slice none 0 0]) (by kernel_rfl) ?_;intro gr w' M';(try simp only [Value.cells,zr_,zm_] at M');replace M:=Lib.hid M';clear M';(try simp only [zr_,zm_]))|(refine zSs M.out 64 0 ?_;intro w' M';(try simp only [zr_,zm_] at M');replace M:=Lib.hid M';clear M')))
  refine bodyPost_ret (M.out.results_cell2 Tryz.results85 _ 0 rfl rfl _ Tryz.underlying64 (by rfl) (by kernel_rfl)) rfl ?_
  rw [HZ.out]
  have M9:=(M.out.tail.nil 3 1).nil 97 2
  exact ⟨_,_,_,_,_,_,_,rfl,M9⟩
 by_cases hz : (netR ps).length = 0
 ·have HZ : Hid (cnew who rv ps qs = ⟨who,rv,2,0,0,netR ps,(netR qs).map (·.cell_)⟩):=by show _ = _;unfold cnew cnewOk;rw [dec_yes ⟨q1,q2,h5,h6⟩];simp [hz]
  have HZL:=Lib.hid hz
  clear q1 q2 hz
  go_enter Tryz.func85,Tryz.ntmps85
  go_wp2_with (first|(go_at_call 35;(with_reducible refine (with_is d2 _).mono ?_);rintro e w' ⟨rfl,rfl⟩)|(go_at_call 105;(with_reducible refine (iown_is d1 _).mono ?_);rintro e w' ⟨rfl,rfl⟩)|(go_at_call 67;(with_reducible refine (impl_RowsOk A n c ps _ S1 (H1.out.ext M.out.ext) hm1).mono ?_);rintro e w' ⟨rfl,x9⟩;replace M:=Lib.hid (M.out.on x9);clear x9;rw [h5])|(go_at_call 67;(with_reducible refine (impl_RowsOk A2 n2 c2 qs _ S2 (H2.out.ext M.out.ext) hm2).mono ?_);rintro e w' ⟨rfl,x9⟩;replace M:=Lib.hid (M.out.on x9);clear x9;rw [h6])|(go_at_call 126;(with_reducible refine (impl_Net A n c ps _ S1 (H1.out.ext M.out.ext) hm1).mono ?_);rintro e w' ⟨Bp,np,dp,rfl,M9⟩;have M8:=M.out.call M9;replace M:=Lib.hid M8;clear M8 M9)|(go_at_call 127;(with_reducible refine (impl_CellsOf A2 n2 c2 qs _ S2 (H2.out.ext M.out.ext) hm2).mono ?_);rintro e w' ⟨Br,nr,dr,rfl,M9⟩;have M8:=M.out.call M9;replace M:=Lib.hid M8;clear M8 M9;have HNP : Hid ((netR ps).length = np):=(by have h:=M.out.len 1 rfl;rw [flat_length Row.cells_length] at h;show _ = _;omega);have n0 : ((np : Int) == 0) = true:=(by have h1:=HNP.out;have h2:=HZL.out;simp;omega))|((with_reducible show wpList _ _ _ (⟨_,_,_,_,_,none⟩::_) _ _);first|(refine Mine.wp_alloc M.out rfl 64 rfl (.agg #[.int .i64 0,.int .i64 0,.int .i64 0,.int .i64 0,.int .i64 0,.slice none 0 0,.slice none 0 0]) (by kernel_rfl) ?_;intro gr w' M';(try simp only [Value.cells,zr_,zm_] at M');replace M:=Lib.hid M';clear M';(try simp only [zr_,zm_]))|((first|refine zSs M.out 64 0 ?_|refine zSs M.out 64 3 ?_|refine zS M.out 0 ?_);intro w' M';(try simp only [zr_,zm_] at M');replace M:=Lib.hid M';clear M')|((first|refine zG M.out 0 ?_|refine zGs M.out 64 0 7 ?_);(try simp only [zr_,zm_]))))
  simp only [List.cons_append,List.nil_append] at M
  refine bodyPost_ret (M.out.results_cell2 Tryz.results85 _ 3 rfl rfl _ Tryz.underlying64 (by rfl) (by kernel_rfl)) rfl ?_
  rw [HZ.out]
  exact ⟨_,_,_,_,_,_,_,rfl,(M.out.sub (sd_ (sk_ (sk_ (sd_ s0_))))).perm (List.Perm.swap _ _ _)⟩
 skip
 ·have HZ : Hid (cnew who rv ps qs = ⟨who,rv,1,0,0,netR ps,(netR qs).map (·.cell_)⟩):=by show _ = _;unfold cnew cnewOk;rw [dec_yes ⟨q1,q2,h5,h6⟩];simp [hz]
  have HZL:=Lib.hid hz
  clear q1 q2 hz
  go_enter Tryz.func85,Tryz.ntmps85
  go_wp2_with (first|(go_at_call 35;(with_reducible refine (with_is d2 _).mono ?_);rintro e w' ⟨rfl,rfl⟩)|(go_at_call 105;(with_reducible refine (iown_is d1 _).mono ?_);rintro e w' ⟨rfl,rfl⟩)|(go_at_call 67;(with_reducible refine (impl_RowsOk A n c ps _ S1 (H1.out.ext M.out.ext) hm1).mono ?_);rintro e w' ⟨rfl,x9⟩;replace M:=Lib.hid (M.out.on x9);clear x9;rw [h5])|(go_at_call 67;(with_reducible refine (impl_RowsOk A2 n2 c2 qs _ S2 (H2.out.ext M.out.ext) hm2).mono ?_);rintro e w' ⟨rfl,x9⟩;replace M:=Lib.hid (M.out.on x9);clear x9;rw [h6])|(go_at_call 126;(with_reducible refine (impl_Net A n c ps _ S1 (H1.out.ext M.out.ext) hm1).mono ?_);rintro e w' ⟨Bp,np,dp,rfl,M9⟩;have M8:=M.out.call M9;replace M:=Lib.hid M8;clear M8 M9)|(go_at_call 127;(with_reducible refine (impl_CellsOf A2 n2 c2 qs _ S2 (H2.out.ext M.out.ext) hm2).mono ?_);rintro e w' ⟨Br,nr,dr,rfl,M9⟩;have M8:=M.out.call M9;replace M:=Lib.hid M8;clear M8 M9;have HNP : Hid ((netR ps).length = np):=(by have h:=M.out.len 1 rfl;rw [flat_length Row.cells_length] at h;show _ = _;omega);have n0 : ((np : Int) == 0) = false:=(by have h1:=HNP.out;have h2:=HZL.out;simp;omega))|((with_reducible show wpList _ _ _ (⟨_,_,_,_,_,none⟩::_) _ _);first|(refine Mine.wp_alloc M.out rfl 64 rfl (.agg #[.int .i64 0,.int .i64 0,.int .i64 0,.int .i64 0,.int .i64 0,.slice none 0 0,.slice none 0 0]) (by kernel_rfl) ?_;intro gr w' M';(try simp only [Value.cells,zr_,zm_] at M');replace M:=Lib.hid M';clear M';(try simp only [zr_,zm_]))|((first|refine zSs M.out 64 0 ?_|refine zSs M.out 64 3 ?_);intro w' M';(try simp only [zr_,zm_] at M');replace M:=Lib.hid M';clear M')|((first|refine zG M.out 0 ?_|refine zGs M.out 64 0 7 ?_);(try simp only [zr_,zm_]))))
  simp only [List.cons_append,List.nil_append] at M
  refine bodyPost_ret (M.out.results_cell2 Tryz.results85 _ 3 rfl rfl _ Tryz.underlying64 (by rfl) (by kernel_rfl)) rfl ?_
  rw [HZ.out]
  exact ⟨_,_,_,_,_,_,_,rfl,(M.out.sub (sd_ (sk_ (sk_ (sd_ s0_))))).perm (List.Perm.swap _ _ _)⟩
end Go.Proofs.YtpmfhfpjiebcjaaGreat
namespace Go.Proofs.YtpmfhfpjiebcjaaGreat
open Go.RowKit Go.Deep
set_option linter.unnecessarySimpa false
set_option linter.unusedSimpArgs false
set_option linter.unusedVariables false

noncomputable def pnew (cell : Int) : Probe:=if dec (0 ≤ cell ∧ cell ≤ 7) = true then ⟨cell,0,0,0⟩ else ⟨0,0,0,0⟩
noncomputable def probeOk (p : Probe) : Bool:=dec ((0 ≤ p.cell_ ∧ p.cell_ ≤ 7) ∧ (0 ≤ p.phase_ ∧ p.phase_ ≤ 4) ∧ (0 ≤ p.ver_ ∧ p.ver_ ≤ 1000000) ∧ (0 ≤ p.val_ ∧ p.val_ ≤ 65535))
noncomputable def pstep (m : Mem) (rv : Int) (p : Probe) : Probe :=
 let x:=wordAt m p.cell_.toNat
 if dec (memOk m = true ∧ probeOk p = true) = true then
  if p.phase_ = 0 then (if dec (x.owner_ = 0 ∧ x.ver_ ≤ rv) = true then ⟨p.cell_,1,x.ver_,p.val_⟩ else ⟨p.cell_,4,p.ver_,p.val_⟩)
  else if p.phase_ = 1 then ⟨p.cell_,2,p.ver_,x.val_⟩
  else if p.phase_ = 2 then (if dec (x.owner_ = 0 ∧ x.ver_ = p.ver_) = true then ⟨p.cell_,3,p.ver_,p.val_⟩ else ⟨p.cell_,4,p.ver_,p.val_⟩)
  else p
 else p
theorem pstep_bad {m : Mem} {rv : Int} {p : Probe} (h : ¬ (memOk m = true ∧ probeOk p = true)) : pstep m rv p = p:=by unfold pstep;simp only;rw [dec_no h];rfl
section
variable {m : Mem} {rv : Int} {i : Nat} {pv pl : Int} {x : Word}
theorem ps0_yes (hM : memOk m = true) (hP : probeOk ⟨(i : Int),0,pv,pl⟩ = true) (hx : m.cells_[i]? = some x) (h : x.owner_ = 0 ∧ x.ver_ ≤ rv) : pstep m rv ⟨(i : Int),0,pv,pl⟩ = ⟨(i : Int),1,x.ver_,pl⟩:=by
 unfold pstep wordAt;simp only;rw [dec_yes ⟨hM,hP⟩,Int.toNat_natCast,getD_of hx,dec_yes h];simp
theorem ps0_no (hM : memOk m = true) (hP : probeOk ⟨(i : Int),0,pv,pl⟩ = true) (hx : m.cells_[i]? = some x) (h : ¬ (x.owner_ = 0 ∧ x.ver_ ≤ rv)) : pstep m rv ⟨(i : Int),0,pv,pl⟩ = ⟨(i : Int),4,pv,pl⟩:=by
 unfold pstep wordAt;simp only;rw [dec_yes ⟨hM,hP⟩,Int.toNat_natCast,getD_of hx,dec_no h];simp
theorem ps1 (hM : memOk m = true) (hP : probeOk ⟨(i : Int),1,pv,pl⟩ = true) (hx : m.cells_[i]? = some x) : pstep m rv ⟨(i : Int),1,pv,pl⟩ = ⟨(i : Int),2,pv,x.val_⟩:=by
 unfold pstep wordAt;simp only;rw [dec_yes ⟨hM,hP⟩,Int.toNat_natCast,getD_of hx];simp
theorem ps2_yes (hM : memOk m = true) (hP : probeOk ⟨(i : Int),2,pv,pl⟩ = true) (hx : m.cells_[i]? = some x) (h : x.owner_ = 0 ∧ x.ver_ = pv) : pstep m rv ⟨(i : Int),2,pv,pl⟩ = ⟨(i : Int),3,pv,pl⟩:=by
 unfold pstep wordAt;simp only;rw [dec_yes ⟨hM,hP⟩,Int.toNat_natCast,getD_of hx,dec_yes h];simp
theorem ps2_no (hM : memOk m = true) (hP : probeOk ⟨(i : Int),2,pv,pl⟩ = true) (hx : m.cells_[i]? = some x) (h : ¬ (x.owner_ = 0 ∧ x.ver_ = pv)) : pstep m rv ⟨(i : Int),2,pv,pl⟩ = ⟨(i : Int),4,pv,pl⟩:=by
 unfold pstep wordAt;simp only;rw [dec_yes ⟨hM,hP⟩,Int.toNat_natCast,getD_of hx,dec_no h];simp
theorem ps_rest {m : Mem} {p : Probe} (h0 : p.phase_ ≠ 0) (h1 : p.phase_ ≠ 1) (h2 : p.phase_ ≠ 2) : pstep m rv p = p:=by
 unfold pstep;simp [h0,h1,h2]
end

set_option maxHeartbeats 4000000 in
theorem impl_ProbeNew (x : Int) (w : World) : Calls Tryz.prog 86 #[.int .i64 x] w fun e w' => ∃ b,e = .returned (.tuple #[.agg #[.int .i64 (pnew x).cell_,.int .i64 (pnew x).phase_,.int .i64 (pnew x).ver_,.int .i64 (pnew x).val_],.bool b]) ∧ Ext w w':=by
 have M:=Lib.hid (Mine.refl w)
 by_cases h : 0 ≤ x ∧ x ≤ 7
 ·have dc : decide (0 ≤ x ∧ x ≤ 7) = true:=by simpa using h
  have HZ : Hid (pnew x = ⟨x,0,0,0⟩):=by show _ = _;unfold pnew;rw [dec_yes h];rfl
  clear h
  go_enter Tryz.func86,Tryz.ntmps86
  go_wp2_with (first|(go_at_call 84;(with_reducible refine (icell_is dc _).mono ?_);rintro e w' ⟨rfl,rfl⟩)|((with_reducible show wpList _ _ _ (⟨_,_,_,_,_,none⟩::_) _ _);first|(refine Mine.wp_alloc M.out rfl 66 rfl (.agg #[.int .i64 0,.int .i64 0,.int .i64 0,.int .i64 0]) (by kernel_rfl) ?_;intro gr w' M';(try simp only [Value.cells,zr_,zm_] at M');replace M:=Lib.hid M';clear M';(try simp only [zr_,zm_]))|(refine zSs M.out 66 0 ?_;intro w' M';(try simp only [zr_,zm_] at M');replace M:=Lib.hid M';clear M')))
  refine bodyPost_ret (M.out.results_cell2 Tryz.results86 _ 0 rfl rfl _ Tryz.underlying66 (by rfl) (by kernel_rfl)) rfl ?_
  rw [HZ.out]
  exact ⟨_,rfl,M.out.ext⟩
 skip
 ·have dc : decide (0 ≤ x ∧ x ≤ 7) = false:=by simpa using h
  have HZ : Hid (pnew x = ⟨0,0,0,0⟩):=by show _ = _;unfold pnew;rw [dec_no h];rfl
  clear h
  go_enter Tryz.func86,Tryz.ntmps86
  go_wp2_with (first|(go_at_call 84;(with_reducible refine (icell_is dc _).mono ?_);rintro e w' ⟨rfl,rfl⟩)|((with_reducible show wpList _ _ _ (⟨_,_,_,_,_,none⟩::_) _ _);first|(refine Mine.wp_alloc M.out rfl 66 rfl (.agg #[.int .i64 0,.int .i64 0,.int .i64 0,.int .i64 0]) (by kernel_rfl) ?_;intro gr w' M';(try simp only [Value.cells,zr_,zm_] at M');replace M:=Lib.hid M';clear M';(try simp only [zr_,zm_]))|(refine zSs M.out 66 0 ?_;intro w' M';(try simp only [zr_,zm_] at M');replace M:=Lib.hid M';clear M')))
  refine bodyPost_ret (M.out.results_cell2 Tryz.results86 _ 0 rfl rfl _ Tryz.underlying66 (by rfl) (by kernel_rfl)) rfl ?_
  rw [HZ.out]
  exact ⟨_,rfl,M.out.ext⟩
set_option maxRecDepth 8000 in
set_option maxHeartbeats 4000000 in
theorem impl_ProbeOk (p : Probe) (w : World) : Calls Tryz.prog 128 #[.agg #[.int .i64 p.cell_,.int .i64 p.phase_,.int .i64 p.ver_,.int .i64 p.val_]] w fun e w' => e = .returned (.bool (probeOk p)) ∧ Ext w w':=by
 have M:=Lib.hid (Mine.refl w)
 by_cases q1 : 0 ≤ p.cell_ ∧ p.cell_ ≤ 7
 rotate_left
 ·have HZ : Hid (probeOk p = false):=dec_no fun z => q1 z.1
  have d1 : decide (0 ≤ p.cell_ ∧ p.cell_ ≤ 7) = false:=by simpa using q1
  clear q1
  go_enter Tryz.func128,Tryz.ntmps128
  go_wp2_with (first|(go_at_call 84;(with_reducible refine (icell_is d1 _).mono ?_);rintro e w' ⟨rfl,rfl⟩)|((with_reducible show wpList _ _ _ (⟨_,_,_,_,_,none⟩::_) _ _);first|(refine Mine.wp_box M.out rfl 66 _ rfl _ rfl ?_;intro ga w' M';(try simp only [zr_,zm_] at M');replace M:=Lib.hid M';clear M';(try simp only [zr_,zm_]))|(refine zG M.out 0 ?_;(try simp only [zr_,zm_]))))
  go_ret
  exact ⟨by rw [HZ.out];first|done|rfl,M.out.ext⟩
 have d1 : decide (0 ≤ p.cell_ ∧ p.cell_ ≤ 7) = true:=by simpa using q1
 have Q1:=Lib.hid q1
 clear q1
 by_cases q2 : 0 ≤ p.phase_ ∧ p.phase_ ≤ 4
 rotate_left
 ·have HZ : Hid (probeOk p = false):=dec_no fun z => q2 z.2.1
  have d2 : decide (0 ≤ p.phase_ ∧ p.phase_ ≤ 4) = false:=by simpa using q2
  clear q2
  go_enter Tryz.func128,Tryz.ntmps128
  go_wp2_with (first|(go_at_call 35;(with_reducible refine (with_is d2 _).mono ?_);rintro e w' ⟨rfl,rfl⟩)|(go_at_call 84;(with_reducible refine (icell_is d1 _).mono ?_);rintro e w' ⟨rfl,rfl⟩)|((with_reducible show wpList _ _ _ (⟨_,_,_,_,_,none⟩::_) _ _);first|(refine Mine.wp_box M.out rfl 66 _ rfl _ rfl ?_;intro ga w' M';(try simp only [zr_,zm_] at M');replace M:=Lib.hid M';clear M';(try simp only [zr_,zm_]))|(refine zG M.out 0 ?_;(try simp only [zr_,zm_])))|((with_reducible show wpList _ _ _ (⟨_,.load _ _,_,_,_,some _⟩::_) _ _);first|(refine zGg M.out 0 ?_;(try simp only [zr_,zm_]))))
  go_ret
  exact ⟨by rw [HZ.out];first|done|rfl,M.out.ext⟩
 have d2 : decide (0 ≤ p.phase_ ∧ p.phase_ ≤ 4) = true:=by simpa using q2
 have Q2:=Lib.hid q2
 clear q2
 by_cases q3 : 0 ≤ p.ver_ ∧ p.ver_ ≤ 1000000
 rotate_left
 ·have HZ : Hid (probeOk p = false):=dec_no fun z => q3 z.2.2.1
  have d3 : decide (0 ≤ p.ver_ ∧ p.ver_ ≤ 1000000) = false:=by simpa using q3
  clear q3
  go_enter Tryz.func128,Tryz.ntmps128
  go_wp2_with (first|(go_at_call 35;(with_reducible refine (with_is d2 _).mono ?_);rintro e w' ⟨rfl,rfl⟩)|(go_at_call 35;(with_reducible refine (with_is d3 _).mono ?_);rintro e w' ⟨rfl,rfl⟩)|(go_at_call 84;(with_reducible refine (icell_is d1 _).mono ?_);rintro e w' ⟨rfl,rfl⟩)|((with_reducible show wpList _ _ _ (⟨_,_,_,_,_,none⟩::_) _ _);first|(refine Mine.wp_box M.out rfl 66 _ rfl _ rfl ?_;intro ga w' M';(try simp only [zr_,zm_] at M');replace M:=Lib.hid M';clear M';(try simp only [zr_,zm_]))|(refine zG M.out 0 ?_;(try simp only [zr_,zm_])))|((with_reducible show wpList _ _ _ (⟨_,.load _ _,_,_,_,some _⟩::_) _ _);first|(refine zGg M.out 0 ?_;(try simp only [zr_,zm_]))))
  go_ret
  exact ⟨by rw [HZ.out];first|done|rfl,M.out.ext⟩
 have d3 : decide (0 ≤ p.ver_ ∧ p.ver_ ≤ 1000000) = true:=by simpa using q3
 have Q3:=Lib.hid q3
 clear q3
 by_cases q4 : 0 ≤ p.val_ ∧ p.val_ ≤ 65535
 rotate_left
 ·have HZ : Hid (probeOk p = false):=dec_no fun z => q4 z.2.2.2
  have d4 : decide (0 ≤ p.val_ ∧ p.val_ ≤ 65535) = false:=by simpa using q4
  clear q4
  go_enter Tryz.func128,Tryz.ntmps128
  go_wp2_with (first|(go_at_call 35;(with_reducible refine (with_is d2 _).mono ?_);rintro e w' ⟨rfl,rfl⟩)|(go_at_call 35;(with_reducible refine (with_is d3 _).mono ?_);rintro e w' ⟨rfl,rfl⟩)|(go_at_call 84;(with_reducible refine (icell_is d1 _).mono ?_);rintro e w' ⟨rfl,rfl⟩)|(go_at_call 104;(with_reducible refine (ival_is d4 _).mono ?_);rintro e w' ⟨rfl,rfl⟩)|((with_reducible show wpList _ _ _ (⟨_,_,_,_,_,none⟩::_) _ _);first|(refine Mine.wp_box M.out rfl 66 _ rfl _ rfl ?_;intro ga w' M';(try simp only [zr_,zm_] at M');replace M:=Lib.hid M';clear M';(try simp only [zr_,zm_]))|(refine zG M.out 0 ?_;(try simp only [zr_,zm_])))|((with_reducible show wpList _ _ _ (⟨_,.load _ _,_,_,_,some _⟩::_) _ _);first|(refine zGg M.out 0 ?_;(try simp only [zr_,zm_]))))
  go_ret
  exact ⟨by rw [HZ.out];first|done|rfl,M.out.ext⟩
 have d4 : decide (0 ≤ p.val_ ∧ p.val_ ≤ 65535) = true:=by simpa using q4
 have Q4:=Lib.hid q4
 clear q4
 have HZ : Hid (probeOk p = true):=dec_yes ⟨Q1.out,Q2.out,Q3.out,Q4.out⟩
 go_enter Tryz.func128,Tryz.ntmps128
 go_wp2_with (first|(go_at_call 35;(with_reducible refine (with_is d2 _).mono ?_);rintro e w' ⟨rfl,rfl⟩)|(go_at_call 35;(with_reducible refine (with_is d3 _).mono ?_);rintro e w' ⟨rfl,rfl⟩)|(go_at_call 84;(with_reducible refine (icell_is d1 _).mono ?_);rintro e w' ⟨rfl,rfl⟩)|(go_at_call 104;(with_reducible refine (ival_is d4 _).mono ?_);rintro e w' ⟨rfl,rfl⟩)|((with_reducible show wpList _ _ _ (⟨_,_,_,_,_,none⟩::_) _ _);first|(refine Mine.wp_box M.out rfl 66 _ rfl _ rfl ?_;intro ga w' M';(try simp only [zr_,zm_] at M');replace M:=Lib.hid M';clear M';(try simp only [zr_,zm_]))|(refine zG M.out 0 ?_;(try simp only [zr_,zm_])))|((with_reducible show wpList _ _ _ (⟨_,.load _ _,_,_,_,some _⟩::_) _ _);first|(refine zGg M.out 0 ?_;(try simp only [zr_,zm_]))))
 go_ret
 exact ⟨by rw [HZ.out];first|done|rfl,M.out.ext⟩
end Go.Proofs.YtpmfhfpjiebcjaaGreat
