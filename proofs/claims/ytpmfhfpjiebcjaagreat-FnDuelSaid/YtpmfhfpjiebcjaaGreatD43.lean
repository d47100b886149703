/- JobsInTurn of both. The jobs are right. -/
import Derived.Test.YtpmfhfpjiebcjaaGreatD00
import Derived.Test.YtpmfhfpjiebcjaaGreatD38
import Derived.Test.YtpmfhfpjiebcjaaGreatD29
namespace Go.Proofs.YtpmfhfpjiebcjaaGreat
open Go.RowKit Go.Deep
set_option linter.unnecessarySimpa false
set_option linter.unusedSimpArgs false
set_option linter.unusedVariables false

theorem turn_take {jobs : List Job} {V order : List Int} {q : Nat} {v : Int} (h : order[q]? = some v) : turn jobs V (order.take (q + 1)) = turnF jobs (turn jobs V (order.take q)) v:=by
 rw [List.take_add_one,h]
 unfold turn
 rw [List.foldl_append]
 rfl
theorem turnF_le {jobs : List Job} {V : List Int} (h : V.length ≤ 8) (k : Int) : (turnF jobs V k).length ≤ 8:=by
 unfold turnF
 split
 ·exact overlay_le _ _
 ·exact h
theorem turn_le {jobs : List Job} : ∀ {o V : List Int},V.length ≤ 8 → (turn jobs V o).length ≤ 8
 | [],_,h => h
 | k::o,V,h => turn_le (o:=o) (turnF_le h k)
theorem ints_nil2 : ints [] = []:=rfl

set_option maxRecDepth 8000 in
set_option maxHeartbeats 16000000 in
theorem spec_JobsInTurn (A0 : Option Addr) (n0 c0 : Nat) (l : List Int) (A1 : Option Addr) (n1 c1 : Nat) (jobs : List Job) (A2 : Option Addr) (n2 c2 : Nat) (order : List Int) (w : World) (S0 : Nat → Prop) (h0 : Sl w S0 1 A0 n0 (ints l)) (hm0 : n0 ≤ 1048576) (S1 : Nat → Prop) (h1 : SlR Job.R 2 w S1 A1 n1 jobs) (hm1 : n1 ≤ 1048576) (hw : ∀ j ∈ jobs,Job.wt j ≤ 1048576) (S2 : Nat → Prop) (h2 : Sl w S2 1 A2 n2 (ints order)) (hm2 : n2 ≤ 1100002) (hok : jobsOk l jobs = true) :
  Calls Tryz.prog 27 #[.slice A0 n0 c0,.slice A1 n1 c1,.slice A2 n2 c2] w fun e w' => ∃ B m d,e = .returned (.slice B m d) ∧ Mine w w' [.row 3 1 B m d (ints (jobsTurn l jobs order))]:=by
 have hl0 : l.length = n0:=h0.len
 have hl1 : jobs.length = n1:=h1.1
 have hl2 : order.length = n2:=h2.len
 have H0:=Lib.hid h0
 have H1:=Lib.hid h1
 have H2:=Lib.hid h2
 have HW:=Lib.hid hw
 clear h0 h1 h2 hw
 have hn4 : n1 ≤ 4:=by have:=jobsOk_le hok;omega
 have hn1i : 0 ≤ (n1 : Int) ∧ (n1 : Int) ≤ 4:=by omega
 have h8 : Hid (l.length ≤ 8):=vals_len (jobsOk_vals hok)
 have hz : jobsTurn l jobs order = turn jobs l order:=if_pos hok
 have HZ:=Lib.hid hz
 clear hz
 have M:=Lib.hid (Mine.refl w)
 go_enter Tryz.func27,Tryz.ntmps27
 go_wp2_with (first|(go_at_call 19;(with_reducible refine (spec_JobsOk A0 n0 c0 l A1 n1 c1 jobs _ S0 (H0.out.ext M.out.ext) hm0 S1 (H1.out.ext Job.R_good M.out.ext) hm1 HW.out).mono ?_);rintro e w' ⟨rfl,x9⟩;replace M:=Lib.hid (M.out.on x9);clear x9;rw [hok])|(at_builtin;refine Mine.wp_pour M.out rfl _ _ 22 rfl 3 _ _ _ Tryz.underlying22 Tryz.infoInt rfl (by omega) 0 rfl rfl _ A0 n0 c0 _ rfl (H0.out.ext M.out.ext) (ints_one l) (by omega) (by unfold maxLen;omega) ?_;intro A3 c3 w' M';(try simp only [zr_,zm_,ints_nil2,List.nil_append,Nat.zero_add] at M');replace M:=Lib.hid M';clear M')|((with_reducible show wpList _ _ _ (⟨_,_,_,_,_,none⟩::_) _ _);first|(refine Mine.wp_mkI M.out rfl rfl ?_;intro gv w' M';replace M:=Lib.hid M';clear M';(try simp only [zr_,zm_]))))
 go_loopw [7,8] (fun u i wr => ∃ (q e2 f : Nat) (B2 : Option Addr),q ≤ n2 ∧ u = .slice B2 e2 f ∧ i = .int .i64 q ∧ Hid (Mine w wr [.row 3 1 B2 e2 f (ints (turn jobs l (order.take q)))])) (fun _ i _ => n2 - (intOf i).toNat)
 case atStart => exact ⟨0,_,_,_,Nat.zero_le _,rfl,rfl,M⟩
 case round =>
  clear M
  obtain ⟨q,e2,f,B2,hq,rfl,rfl,M⟩:=hrel
  have he8 : e2 ≤ 8:=by have a1:=M.out.len1 0 rfl;rw [ints_length] at a1;have:=turn_le (jobs:=jobs) (o:=order.take q) h8.out;omega
  by_cases hlt : (q : Int) < (n2 : Int)
  rotate_left
  ·have e : Hid (q = order.length):=by show _ = _;omega
   go_wp2
   go_ret
   have M9:=M.out
   rw [e.out,List.take_length] at M9
   rw [HZ.out]
   exact ⟨_,_,_,rfl,M9⟩
  have HLT : Hid (q < n2):=by show _ < _;omega
  obtain ⟨b2,o2,rfl⟩:=H2.out.addr (by omega)
  obtain ⟨v,hv,hb,cv⟩:=H2.out.int_cell (k:=q) HLT.out
  have HPK:=Lib.hid hv
  have HC : Hid (w.cell? ⟨b2,o2 + q,none⟩ = some (.int .i64 v) ∧ b2 < w.heap.size):=⟨cv,hb⟩
  clear hv hb cv
  by_cases hz : 0 ≤ v ∧ v ≤ (n1 : Int) - 1
  rotate_left
  ·have dz : decide (0 ≤ v ∧ v ≤ (n1 : Int) - 1) = false:=decide_eq_false hz
   have HD : Hid (turn jobs l (order.take (q + 1)) = turn jobs l (order.take q)):=by show _ = _;rw [turn_take HPK.out];unfold turnF;rw [dec_no (by rw [hl1];exact hz)];rfl
   clear hz
   go_wp2_with (first|(go_at_call 30;(with_reducible refine (in_is dz _).mono ?_);rintro e w' ⟨rfl,rfl⟩)|((with_reducible show wpList _ _ _ (⟨_,_,_,_,_,none⟩::_) _ _);first|(refine Mine.wp_argc M.out rfl 3 _ rfl _ _ HC.out rfl _ Tryz.underlying3 (by rfl) ?_;(try simp only [zr_,zm_]))))
   go_roundw
   case rel => exact ⟨q + 1,e2,f,B2,HLT.out,rfl,by go_num,by rw [HD.out];exact M⟩
   case measure => have:=HLT.out;simp [intOf];omega
  have dz : decide (0 ≤ v ∧ v ≤ (n1 : Int) - 1) = true:=decide_eq_true hz
  obtain ⟨k,rfl⟩ : ∃ k : Nat,v = (k : Int):=⟨v.toNat,by omega⟩
  have hk : k < n1:=by omega
  have hk1 : (k : Int) < (n1 : Int):=by omega
  obtain ⟨bJ,oJ,j,B0,k0,f0,B1,k1,f1,rfl,hbJ,hj,hrg,sj0,hk0,sj1,hkk1⟩:=job_at H1.out HW.out hk
  have HD : Hid (turn jobs l (order.take (q + 1)) = overlayOf (turn jobs l (order.take q)) j.puts_):=by show _ = _;rw [turn_take HPK.out];unfold turnF;rw [dec_yes (by rw [hl1];exact hz),if_pos rfl,Int.toNat_natCast,List.getD_eq_getElem?_getD,hj];rfl
  have HP1 : Hid (w.cell? ⟨bJ,oJ + k * 2 + 1,none⟩ = some (.slice B1 k1 f1) ∧ bJ < w.heap.size):=⟨hrg 1 _ rfl,hbJ⟩
  have HS1:=Lib.hid sj1
  clear hz hrg sj0 sj1 hj hbJ
  go_wp2_with (first|(go_at_call 30;(with_reducible refine (in_is dz _).mono ?_);rintro e w' ⟨rfl,rfl⟩)|(go_at_call 74;(with_reducible refine (spec_Overlay B2 e2 f _ B1 k1 f1 j.puts_ _ _ (M.out.row_sl 0 rfl) (by omega) S1 (HS1.out.ext M.out.ext) hkk1).mono ?_);rintro e w' ⟨B3,m3,d3,rfl,o9,x9⟩;replace M:=Lib.hid (M.out.own o9 x9);clear o9 x9)|((with_reducible show wpList _ _ _ (⟨_,_,_,_,_,none⟩::_) _ _);first|((first|refine Mine.wp_argc M.out rfl 3 _ rfl _ _ HC.out rfl _ Tryz.underlying3 (by rfl) ?_|refine Mine.wp_argc M.out rfl 51 _ rfl _ _ HP1.out rfl _ Tryz.underlying51 (by rfl) ?_);(try simp only [zr_,zm_]))))
  have M9:=M.out.sub (sk_ (sd_ s0_))
  rw [← HD.out] at M9
  go_roundw
  case rel => exact ⟨q + 1,_,_,_,HLT.out,rfl,by go_num,Lib.hid M9⟩
  case measure => have:=HLT.out;simp [intOf];omega
set_option maxRecDepth 8000 in
set_option maxHeartbeats 16000000 in
theorem impl_JobsInTurn (A0 : Option Addr) (n0 c0 : Nat) (l : List Int) (A1 : Option Addr) (n1 c1 : Nat) (jobs : List Job) (A2 : Option Addr) (n2 c2 : Nat) (order : List Int) (w : World) (S0 : Nat → Prop) (h0 : Sl w S0 1 A0 n0 (ints l)) (hm0 : n0 ≤ 1048576) (S1 : Nat → Prop) (h1 : SlR Job.R 2 w S1 A1 n1 jobs) (hm1 : n1 ≤ 1048576) (hw : ∀ j ∈ jobs,Job.wt j ≤ 1048576) (S2 : Nat → Prop) (h2 : Sl w S2 1 A2 n2 (ints order)) (hm2 : n2 ≤ 1100002) (hok : jobsOk l jobs = true) :
  Calls Tryz.prog 26 #[.slice A0 n0 c0,.slice A1 n1 c1,.slice A2 n2 c2] w fun e w' => ∃ B m d,e = .returned (.slice B m d) ∧ Mine w w' [.row 3 1 B m d (ints (jobsTurn l jobs order))]:=by
 have hl0 : l.length = n0:=h0.len
 have hl1 : jobs.length = n1:=h1.1
 have hl2 : order.length = n2:=h2.len
 have H0:=Lib.hid h0
 have H1:=Lib.hid h1
 have H2:=Lib.hid h2
 have HW:=Lib.hid hw
 clear h0 h1 h2 hw
 have hn4 : n1 ≤ 4:=by have:=jobsOk_le hok;omega
 have hn1i : 0 ≤ (n1 : Int) ∧ (n1 : Int) ≤ 4:=by omega
 have h8 : Hid (l.length ≤ 8):=vals_len (jobsOk_vals hok)
 have hz : jobsTurn l jobs order = turn jobs l order:=if_pos hok
 have HZ:=Lib.hid hz
 clear hz
 have M:=Lib.hid (Mine.refl w)
 go_enter Tryz.func26,Tryz.ntmps26
 go_wp2_with (first|(go_at_call 33;(with_reducible refine (impl_JobsOk A0 n0 c0 l A1 n1 c1 jobs _ S0 (H0.out.ext M.out.ext) hm0 S1 (H1.out.ext Job.R_good M.out.ext) hm1 HW.out).mono ?_);rintro e w' ⟨rfl,x9⟩;replace M:=Lib.hid (M.out.on x9);clear x9;rw [hok])|(go_at_call 72;(with_reducible refine (copyInts_any A0 n0 c0 l _ S0 (H0.out.ext M.out.ext) hm0).mono ?_);rintro e w' ⟨B0,d0,rfl,o9,x9⟩;replace M:=Lib.hid (M.out.own o9 x9);clear o9 x9))
 go_loopw [7,18] (fun u i wr => ∃ (q e2 f : Nat) (B2 : Option Addr),q ≤ n2 ∧ u = .slice B2 e2 f ∧ i = .int .i64 q ∧ Hid (Mine w wr [.row 3 1 B2 e2 f (ints (turn jobs l (order.take q)))])) (fun _ i _ => n2 - (intOf i).toNat)
 case atStart => exact ⟨0,_,_,_,Nat.zero_le _,rfl,rfl,M⟩
 case round =>
  clear M
  obtain ⟨q,e2,f,B2,hq,rfl,rfl,M⟩:=hrel
  have he8 : e2 ≤ 8:=by have a1:=M.out.len1 0 rfl;rw [ints_length] at a1;have:=turn_le (jobs:=jobs) (o:=order.take q) h8.out;omega
  by_cases hlt : (q : Int) < (n2 : Int)
  rotate_left
  ·have e : Hid (q = order.length):=by show _ = _;omega
   go_wp2
   go_ret
   have M9:=M.out
   rw [e.out,List.take_length] at M9
   rw [HZ.out]
   exact ⟨_,_,_,rfl,M9⟩
  have HLT : Hid (q < n2):=by show _ < _;omega
  obtain ⟨b2,o2,rfl⟩:=H2.out.addr (by omega)
  obtain ⟨v,hv,hb,cv⟩:=H2.out.int_cell (k:=q) HLT.out
  have HPK:=Lib.hid hv
  have HC : Hid (w.cell? ⟨b2,o2 + q,none⟩ = some (.int .i64 v) ∧ b2 < w.heap.size):=⟨cv,hb⟩
  clear hv hb cv
  by_cases hz : 0 ≤ v ∧ v ≤ (n1 : Int) - 1
  rotate_left
  ·have dz : decide (0 ≤ v ∧ v ≤ (n1 : Int) - 1) = false:=decide_eq_false hz
   have HD : Hid (turn jobs l (order.take (q + 1)) = turn jobs l (order.take q)):=by show _ = _;rw [turn_take HPK.out];unfold turnF;rw [dec_no (by rw [hl1];exact hz)];rfl
   clear hz
   go_wp2_with (first|(go_at_call 35;(with_reducible refine (with_is dz _).mono ?_);rintro e w' ⟨rfl,rfl⟩)|((with_reducible show wpList _ _ _ (⟨_,_,_,_,_,none⟩::_) _ _);first|(refine Mine.wp_argc M.out rfl 3 _ rfl _ _ HC.out rfl _ Tryz.underlying3 (by rfl) ?_;(try simp only [zr_,zm_]))))
   go_roundw
   case rel => exact ⟨q + 1,e2,f,B2,HLT.out,rfl,by go_num,by rw [HD.out];exact M⟩
   case measure => have:=HLT.out;simp [intOf];omega
  have dz : decide (0 ≤ v ∧ v ≤ (n1 : Int) - 1) = true:=decide_eq_true hz
  obtain ⟨k,rfl⟩ : ∃ k : Nat,v = (k : Int):=⟨v.toNat,by omega⟩
  have hk : k < n1:=by omega
  have hk1 : (k : Int) < (n1 : Int):=by omega
  obtain ⟨bJ,oJ,j,B0,k0,f0,B1,k1,f1,rfl,hbJ,hj,hrg,sj0,hk0,sj1,hkk1⟩:=job_at H1.out HW.out hk
  have HD : Hid (turn jobs l (order.take (q + 1)) = overlayOf (turn jobs l (order.take q)) j.puts_):=by show _ = _;rw [turn_take HPK.out];unfold turnF;rw [dec_yes (by rw [hl1];exact hz),if_pos rfl,Int.toNat_natCast,List.getD_eq_getElem?_getD,hj];rfl
  have HP1 : Hid (w.cell? ⟨bJ,oJ + k * 2 + 1,none⟩ = some (.slice B1 k1 f1) ∧ bJ < w.heap.size):=⟨hrg 1 _ rfl,hbJ⟩
  have HS1:=Lib.hid sj1
  clear hz hrg sj0 sj1 hj hbJ
  go_wp2_with (first|(go_at_call 35;(with_reducible refine (with_is dz _).mono ?_);rintro e w' ⟨rfl,rfl⟩)|(go_at_call 73;(with_reducible refine (impl_Overlay B2 e2 f _ B1 k1 f1 j.puts_ _ _ (M.out.row_sl 0 rfl) (by omega) S1 (HS1.out.ext M.out.ext) hkk1).mono ?_);rintro e w' ⟨B3,m3,d3,rfl,o9,x9⟩;replace M:=Lib.hid (M.out.own o9 x9);clear o9 x9)|((with_reducible show wpList _ _ _ (⟨_,_,_,_,_,none⟩::_) _ _);first|((first|refine Mine.wp_argc M.out rfl 3 _ rfl _ _ HC.out rfl _ Tryz.underlying3 (by rfl) ?_|refine Mine.wp_argc M.out rfl 51 _ rfl _ _ HP1.out rfl _ Tryz.underlying51 (by rfl) ?_);(try simp only [zr_,zm_]))))
  have M9:=M.out.sub (sk_ (sd_ s0_))
  rw [← HD.out] at M9
  go_roundw
  case rel => exact ⟨q + 1,_,_,_,HLT.out,rfl,by go_num,Lib.hid M9⟩
  case measure => have:=HLT.out;simp [intOf];omega

end Go.Proofs.YtpmfhfpjiebcjaaGreat
