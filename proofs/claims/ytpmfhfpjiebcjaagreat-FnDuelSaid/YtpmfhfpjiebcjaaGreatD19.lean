/- What a step of a job computes. No condition. MemNew of program and reference. No condition but the length. -/
import Derived.Test.YtpmfhfpjiebcjaaGreatD11
import Derived.Test.YtpmfhfpjiebcjaaGreatD17
import Derived.Test.YtpmfhfpjiebcjaaGreatD18
import Derived.Test.YtpmfhfpjiebcjaaGreatD00
import Derived.Test.YtpmfhfpjiebcjaaGreatD06
import Derived.Test.YtpmfhfpjiebcjaaGreatD02
namespace Go.Proofs.YtpmfhfpjiebcjaaGreat
open Go.RowKit Go.Deep
set_option linter.unnecessarySimpa false
set_option linter.unusedSimpArgs false
set_option linter.unusedVariables false

def JobRun.zero : JobRun:=⟨0,0,0,0,0,[],false,⟨0,0,0,0⟩,⟨0,0,0,0,0,[],[]⟩⟩
def again (t : Int) : JobRun:=⟨0,t + 1,0,0,0,[],false,⟨0,0,0,0⟩,⟨0,0,0,0,0,[],[]⟩⟩
noncomputable def ccNew (m : Mem) (c : Commit) : Commit:=⟨c.who_,c.rv_,(cstepS m c).ph,(cstepS m c).at_,(cstepS m c).wv,c.puts_,c.reads_⟩
noncomputable def probe0 (j : Job) (x : JobRun) : Probe:=if x.busy_ = true then x.probe_ else pnew (j.reads_.getD x.at_.toNat default)
noncomputable def jread (m : Mem) (j : Job) (x : JobRun) : JobRun :=
 let p:=pstep m x.rv_ (probe0 j x)
 if p.phase_ = 4 then again x.tries_
 else if p.phase_ = 3 then ⟨x.phase_,x.tries_,x.rv_,x.at_ + 1,x.stamp_,x.seen_ ++ [⟨p.cell_,p.val_⟩],false,⟨0,0,0,0⟩,x.commit_⟩
 else ⟨x.phase_,x.tries_,x.rv_,x.at_,x.stamp_,x.seen_,true,p,x.commit_⟩
noncomputable def jcommit (m : Mem) (x : JobRun) : JobRun :=
 let c:=ccNew m x.commit_
 if c.phase_ = 8 then again x.tries_
 else if c.phase_ = 6 then ⟨3,x.tries_,x.rv_,x.at_,c.wv_,x.seen_,x.busy_,x.probe_,⟨0,0,0,0,0,[],[]⟩⟩
 else ⟨x.phase_,x.tries_,x.rv_,x.at_,x.stamp_,x.seen_,x.busy_,x.probe_,c⟩
/-- A step of a job: the memory,the job. -/
noncomputable def jstep (m : Mem) (who : Int) (j : Job) (x : JobRun) : Mem × JobRun :=
 if x.phase_ = 0 then (m,⟨1,x.tries_,m.clock_,x.at_,x.stamp_,x.seen_,x.busy_,x.probe_,x.commit_⟩)
 else if x.phase_ = 1 then
  (if x.at_ = j.reads_.length then
   (if j.puts_.length = 0 then (m,⟨3,x.tries_,x.rv_,x.at_,x.rv_,x.seen_,x.busy_,x.probe_,x.commit_⟩)
    else (m,⟨2,x.tries_,x.rv_,x.at_,x.stamp_,x.seen_,x.busy_,x.probe_,cnew who x.rv_ j.puts_ x.seen_⟩))
   else (m,jread m j x))
 else if x.phase_ = 2 then (⟨(cstepS m x.commit_).k,(cstepS m x.commit_).xs⟩,jcommit m x)
 else (m,x)
end Go.Proofs.YtpmfhfpjiebcjaaGreat
namespace Go.Proofs.YtpmfhfpjiebcjaaGreat
open Go.RowKit Go.Deep
set_option linter.unnecessarySimpa false
set_option linter.unusedSimpArgs false
set_option linter.unusedVariables false

def mkW (v : Int) : Word:=⟨v,0,0⟩
theorem mkW_snoc {l : List Int} {k : Nat} {v : Int} (h : l[k]? = some v) : ((l.take k).map mkW).flatMap Word.cells ++ [.int .i64 v,.int .i64 0,.int .i64 0] = ((l.take (k + 1)).map mkW).flatMap Word.cells:=by
 rw [List.take_add_one,h,List.map_append,List.flatMap_append];rfl
def isC (x : Int) : Prop:=0 ≤ x ∧ x ≤ 7
def jobOk (j : Job) : Prop:=j.reads_.length ≤ 8 ∧ j.puts_.length ≤ 8 ∧ rowsOk j.puts_ = true ∧ AllTo (fun _ x => isC x) j.reads_ j.reads_.length
noncomputable def jobsOk (cells : List Int) (jobs : List Job) : Bool:=dec (valsOk cells = true ∧ jobs.length ≤ 4 ∧ AllTo (fun _ j => jobOk j) jobs jobs.length)
theorem jcC_any (x : Int) (w : World) :
  Calls Tryz.prog 83 #[.int .i64 x] w fun e w' => e = .returned (.bool (!dec (isC x))) ∧ Ext w w':=by
 by_cases h : isC x
 ·have dc : decide (0 ≤ x ∧ x ≤ 7) = true:=by simpa [isC] using h
  rw [dec_yes h]
  clear h
  go_enter Tryz.func83,Tryz.ntmps83
  go_wp2_with (go_at_call 84;refine (icell_is dc _).mono ?_;rintro e w' ⟨rfl,rfl⟩)
  go_ret
  exact ⟨rfl,Ext.refl' _⟩
 ·have dc : decide (0 ≤ x ∧ x ≤ 7) = false:=by simpa [isC] using h
  rw [dec_no h]
  clear h
  go_enter Tryz.func83,Tryz.ntmps83
  go_wp2_with (go_at_call 84;refine (icell_is dc _).mono ?_;rintro e w' ⟨rfl,rfl⟩)
  go_ret
  exact ⟨rfl,Ext.refl' _⟩

set_option maxHeartbeats 4000000 in
theorem idxjc_any (A : Option Addr) (n c : Nat) (l : List Int) (w : World) (S : Nat → Prop) (hs : Sl w S 1 A n (ints l)) (hm : n ≤ 9223372036854775807) :
  Calls Tryz.prog 125 #[.slice A n c,.func (.func 83) #[] #[]] w fun e w' => ∃ i : Int,e = .returned (.int .i64 i) ∧ ((i = -1 ∧ AllTo (fun _ x => isC x) l l.length) ∨ (0 ≤ i ∧ ¬ AllTo (fun _ x => isC x) l l.length)) ∧ Ext w w':=by
 have H:=Lib.hid (hs.len)
 have HS:=Lib.hid hs
 clear hs
 go_enter Tryz.func125,Tryz.ntmps125
 go_wp2
 go_loopw [8] (fun i wr => ∃ k : Nat,k ≤ n ∧ i = .int .i64 k ∧ AllTo (fun _ x => isC x) l k ∧ Ext w wr) (fun i _ => n - (intOf i).toNat)
 case atStart => exact ⟨0,Nat.zero_le _,rfl,AllTo.zero _ _,Ext.refl' _⟩
 case round =>
  obtain ⟨k,hk,rfl,hup,hx⟩:=hrel
  have HU:=Lib.hid hup
  have HX:=Lib.hid hx
  clear hup hx
  by_cases hlt : (k : Int) < (n : Int)
  ·
   obtain ⟨b,o,rfl⟩:=HS.out.addr (by omega)
   obtain ⟨x,hsk,-,k0⟩:=(HS.out.ext HX.out).int_cell (k:=k) (by omega)
   have HSK:=Lib.hid hsk
   clear hsk
   go_wp2_with fail
   refine (jcC_any x _).mono ?_
   rintro e w2 ⟨rfl,x2⟩
   have X2:=Lib.hid (HX.out.tr x2)
   clear x2
   by_cases h0 : isC x
   ·have H0:=Lib.hid h0
    rw [dec_yes h0]
    clear h0
    go_wp2
    go_roundw
    case rel => exact ⟨k + 1,by omega,by go_num,HU.out.succ HSK.out H0.out,X2.out⟩
    case measure => simp [intOf];omega
   ·have H0:=Lib.hid h0
    rw [dec_no h0]
    clear h0
    go_wp2
    go_ret
    exact ⟨k,rfl,.inr ⟨by omega,fun h => AllTo.not HSK.out (by have a:=H.out;omega) (fun q => H0.out q) h⟩,X2.out⟩
  ·have e : Hid (k = l.length):=by show k = _;have a:=H.out;omega
   go_wp2
   go_ret
   exact ⟨-1,rfl,.inl ⟨rfl,by rw [← e.out];exact HU.out⟩,HX.out⟩

theorem anyjc_any (A : Option Addr) (n c : Nat) (l : List Int) (w : World) (S : Nat → Prop) (hs : Sl w S 1 A n (ints l)) (hm : n ≤ 9223372036854775807) :
  Calls Tryz.prog 82 #[.slice A n c,.func (.func 83) #[] #[]] w fun e w' => e = .returned (.bool (!dec (AllTo (fun _ x => isC x) l l.length))) ∧ Ext w w':=by
 go_enter Tryz.func82,Tryz.ntmps82
 go_wp2_with fail
 refine (idxjc_any _ _ _ _ _ _ hs hm).mono ?_
 rintro e w1 ⟨i,rfl,hi,x1⟩
 have X1:=Lib.hid x1
 clear x1
 rcases hi with ⟨rfl,hx⟩|⟨hi,hx⟩
 ·have HX:=Lib.hid hx
  clear hx
  go_wp2
  go_ret
  exact ⟨by rw [dec_yes HX.out];rfl,X1.out⟩
 ·have HX:=Lib.hid hx
  clear hx
  go_wp2
  go_ret
  exact ⟨by rw [dec_no HX.out];rfl,X1.out⟩
set_option maxRecDepth 8000 in
set_option maxHeartbeats 8000000 in
theorem impl_MemNew (A : Option Addr) (n c : Nat) (l : List Int) (w : World) (S : Nat → Prop) (hs : Sl w S 1 A n (ints l)) (hm : n ≤ 1048576) (hv : valsOk l = true) : Calls Tryz.prog 34 #[.slice A n c] w fun e w' => ∃ B d,e = .returned (.tuple #[.agg #[.int .i64 0,.slice B n d],.bool true]) ∧ Mine w w' [.row 102 3 B n d ((l.map mkW).flatMap Word.cells)]:=by
 have hl : l.length = n:=hs.len
 have HS:=Lib.hid hs
 have HV:=Lib.hid hv
 clear hs hv
 have M:=Lib.hid (Mine.refl w)
 go_enter Tryz.func34,Tryz.ntmps34
 go_wp2_with (((with_reducible show wpList _ _ _ (⟨_,_,_,_,_,none⟩::_) _ _);first|(refine Mine.wp_alloc M.out rfl 27 rfl (.agg #[.int .i64 0,.slice none 0 0]) (by kernel_rfl) ?_;intro gz w' M';(try simp only [Value.cells,zr_,zm_] at M');replace M:=Lib.hid M';clear M';(try simp only [zr_,zm_]))))
 go_wp2_with (first|(go_at_call 64;(with_reducible refine (areValues_any A n c l _ S (HS.out.ext M.out.ext) hm).mono ?_);rintro e w' ⟨rfl,rfl⟩;rw [HV.out])|((with_reducible show wpList _ _ _ (⟨_,_,_,_,_,none⟩::_) _ _);first|(refine Mine.wp_alloc M.out rfl 27 rfl (.agg #[.int .i64 0,.slice none 0 0]) (by kernel_rfl) ?_;intro gr w' M';(try simp only [Value.cells,zr_,zm_] at M');replace M:=Lib.hid M';clear M';(try simp only [zr_,zm_]))|(refine zSs M.out 27 0 ?_;intro w' M';(try simp only [zr_,zm_] at M');replace M:=Lib.hid M';clear M')))
 replace M:=Lib.hid (M.out.nil 102 3)
 go_loopw [14] (fun i wr => ∃ (k e2 d : Nat) (B : Option Addr),k ≤ n ∧ i = .int .i64 k ∧ Hid (e2 = k) ∧ Hid (Mine w wr [.row 102 3 B e2 d (((l.take k).map mkW).flatMap Word.cells),.box gr 27 #[.int .i64 0,.slice B e2 d],.box gz 27 #[.int .i64 0,.slice none 0 0]])) (fun i _ => n - (intOf i).toNat)
 case atStart => exact ⟨0,0,0,none,Nat.zero_le _,rfl,rfl,M⟩
 case round =>
  clear M
  obtain ⟨k,e2,d,B,hk,rfl,HE2,M⟩:=hrel
  have he2 : e2 ≤ 1048576:=by have:=HE2.out;omega
  by_cases hlt : (k : Int) < (n : Int)
  rotate_left
  ·have e : Hid (k = n):=by show _ = _;omega
   go_wp2_with (((with_reducible show wpList _ _ _ (⟨_,_,_,_,_,none⟩::_) _ _);first|(refine zGs M.out 27 1 2 ?_;(try simp only [zr_,zm_]))|(refine zSs M.out 27 2 ?_;intro w' M';(try simp only [zr_,zm_] at M');replace M:=Lib.hid M';clear M')))
   refine bodyPost_ret (M.out.results_cell2 Tryz.results34 _ 2 rfl rfl _ Tryz.underlying27 (by rfl) (by kernel_rfl)) rfl ?_
   have M9:=M.out.sub (sk_ (sd_ (sd_ s0_)))
   rw [HE2.out,e.out,List.take_of_length_le (by omega)] at M9
   rw [HE2.out,e.out]
   exact ⟨_,_,rfl,M9⟩
  have HLT : Hid (k < n):=by show _ < _;omega
  obtain ⟨b,o,rfl⟩:=HS.out.addr (by omega)
  obtain ⟨v,hv,hb,cv⟩:=HS.out.int_cell (k:=k) HLT.out
  have HX:=Lib.hid hv
  have HC : Hid (w.cell? ⟨b,o + k,none⟩ = some (.int .i64 v) ∧ b < w.heap.size):=⟨cv,hb⟩
  clear hv hb cv
  go_wp2_with (first|(at_builtin;refine Mine.wp_push M.out rfl _ _ 25 rfl 102 _ _ _ Tryz.underlying25 Tryz.infoWord rfl (by omega) 0 rfl rfl _ _ rfl rfl rfl (by simp [Value.oneCell']) (by omega) (by unfold maxLen;omega) ?_;intro A2 c2 w' M';(try simp only [zr_,zm_] at M');replace M:=Lib.hid M';clear M')|((with_reducible show wpList _ _ _ (⟨_,_,_,_,_,none⟩::_) _ _);first|((first|refine Mine.wp_argc M.out rfl 3 _ rfl _ _ HC.out rfl _ Tryz.underlying3 (by rfl) ?_|refine zG M.out 1 ?_);(try simp only [zr_,zm_]))|(refine zS M.out 1 ?_;intro w' M';(try simp only [zr_,zm_] at M');replace M:=Lib.hid M';clear M')))
  rw [mkW_snoc HX.out] at M
  go_roundw
  case rel => exact ⟨k + 1,e2 + 1,_,_,HLT.out,by go_num,by show _ = _;rw [HE2.out],M⟩
  case measure => have:=HLT.out;simp [intOf];omega
end Go.Proofs.YtpmfhfpjiebcjaaGreat
