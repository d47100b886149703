/- Ranks of the program, of a world with at most nineteen roots. Replay of the program. No condition but sizes. Serialized of the program. No condition but sizes. The contract of laws.FnExactSerialized. No condition. -/
import Derived.Test.YtoegjiigaoanbaaGreatS00
import Derived.Test.YtoegjiigaoanbaaGreatS10
import Derived.Test.YtoegjiigaoanbaaGreatS11
namespace Go.Proofs.YtoegjiigaoanbaaGreat
open Go.RowKit Go.Deep
set_option linter.unnecessarySimpa false
set_option maxHeartbeats 400000000
open Go.Lib (hid)
set_option linter.unusedSimpArgs false
set_option linter.unusedVariables false

set_option maxRecDepth 8000 in
theorem rankC_any {b wq : World} {gw : Nat} (x : GWorld) (A0 : Option Addr) (n0 c0 : Nat) (A1 : Option Addr) (n1 c1 : Nat) (A2 : Option Addr) (n2 c2 : Nat) (A3 : Option Addr) (n3 c3 : Nat) (A4 : Option Addr) (n4 c4 : Nat) (S : Nat → Prop) (hr : SlR Root.R 40 b S A3 n3 x.roots_) (hn : n3 ≤ 1048576) (M0 : Mine b wq [.box gw 58 #[.int .i64 x.now_,.int .i64 x.token_,.int .i64 x.mem_.clock_,.slice A0 n0 c0,.slice A1 n1 c1,.int .i64 x.shelf_.count_,.slice A2 n2 c2,.slice A3 n3 c3,.slice A4 n4 c4]]) (i j : Nat) (hi : i < n3) (hj : j < n3) :
  Calls Tryz.prog 97 #[.int .i64 i,.int .i64 j,.pointer (some ⟨gw,0,none⟩)] wq fun e w' => e = .returned (.int .i64 ((rkeys x).z i j)) ∧ Ext wq w':=by
 have M : Hid (Mine wq wq []):=Mine.refl wq
 obtain ⟨bb,o,rfl⟩:=hr.addr (by omega)
 obtain ⟨r,row1,hk1,hrb,hw1,hl1,hg1⟩:=root_at hr hi
 obtain ⟨s,row2,hk2,-,hw2,hl2,hg2⟩:=root_at hr hj
 have HZ : Hid ((rkeys x).z i j = zR r s):=by show _ = _;rw [rkeys_z,rootAt_is hk1,rootAt_is hk2]
 have HC7 : Hid (wq.cell? ⟨gw,7,none⟩ = some (.slice (some ⟨bb,o,none⟩) n3 c3) ∧ gw < wq.heap.size):=⟨((M0.box_at 0 rfl).cell 7).trans rfl,(M0.box_at 0 rfl).lt⟩
 have HW1:=hid (Root.R_good.ext hw1 M0.ext)
 have HL1:=hid hl1
 have HG1:=hid (fun q v hv => (M0.ext.cell (p:=⟨bb,_,none⟩) hrb).trans (hg1 q v hv))
 have HW2:=hid (Root.R_good.ext hw2 M0.ext)
 have HL2:=hid hl2
 have HG2:=hid (fun q v hv => (M0.ext.cell (p:=⟨bb,_,none⟩) hrb).trans (hg2 q v hv))
 have HRB:=hid (Nat.lt_of_lt_of_le hrb M0.ext.size)
 have hi2 : (i : Int) < (n3 : Int):=by omega
 have hj2 : (j : Int) < (n3 : Int):=by omega
 clear M0 hr hk1 hk2 hw1 hw2 hl1 hl2 hg1 hg2 hrb hi hj
 go_enter Tryz.func97,Tryz.ntmps97
 go_wp2
 refine zRQ M.out ?_
 repeat (first|go_big_quiet_skip|(go_big_quiet_want;first|((first|refine Mine.oq_arg 55 _ rfl _ _ HC7.out rfl _ Tryz.underlying55 (by rfl) ?_|refine Mine.oq_argall 97 _ rfl _ _ rfl row1 HG1.out HRB.out _ Tryz.underlying97 (by rfl) (by rw [HL1.out];kernel_rfl) ?_|refine Mine.oq_argall 97 _ rfl _ _ rfl row2 HG2.out HRB.out _ Tryz.underlying97 (by rfl) (by rw [HL2.out];kernel_rfl) ?_);(try simp only [zr_,zm_]);go_big_quiet_on)|(unfold Oper.quiet;apply Exists.intro;refine ⟨fun wq hq => ?_,?_⟩;(go_simp;go_at_call 98;(with_reducible refine (earlier_any r s row1 row2 _ S S (Root.R_good.ext HW1.out hq.ext) (Root.R_good.ext HW2.out hq.ext)).mono ?_);rintro e w2 ⟨rfl,x2⟩;exact ⟨rfl,hq.on x2⟩);(try simp only [zs_,zl_]);go_big_quiet_on)|(unfold Oper.quiet;apply Exists.intro;refine ⟨fun wq hq => ?_,?_⟩;(clear hq;go_simp;first|done|rfl|exact ⟨rfl,rfl⟩);(try simp only [zs_,zl_]);go_big_quiet_on)))
 refine wpQuiet_nil ?_
 intro w' M'
 replace M:=hid M'
 clear M'
 go_wp2
 go_ret
 exact ⟨by rw [HZ.out];rfl,M.out.ext⟩
set_option maxRecDepth 8000 in
theorem impl_Ranks2 (x : GWorld) (cs : List Value) (w : World) (S : Nat → Prop) (h : GWorld.R w S cs x) (_hw : GWorld.wt x ≤ 1048576) (hs4 : x.roots_.length ≤ 19) :
  Calls Tryz.prog 43 #[.agg cs.toArray] w fun e w' => ∃ g m d,e = .returned (.slice (some ⟨g,0,none⟩) m d) ∧ w'.ownsRow w.heap.size 3 1 (.slice (some ⟨g,0,none⟩) m d) m (ints (ranksOf x)) ∧ Ext w w':=by
 obtain ⟨v0,v1,A2,n2,c2,A3,n3,c3,A4,n4,c4,rfl,h0,h1,⟨kh2,mh2,h2⟩,⟨kh3,mh3,h3⟩,⟨kh4,mh4,h4⟩⟩:=h
 obtain ⟨A0,n0,c0,rfl⟩:=Mem.R_cells h0
 obtain ⟨A1,n1,c1,rfl⟩:=Shelf.R_cells h1
 have HR:=hid h3
 have HRN:=hid h3.1
 have hn3 : n3 ≤ 1048576:=by have a:=roots_le x _hw;have b:=HRN.out;omega
 clear h0 h1 h2 h3 h4
 have M : Hid (Mine w (w.alloc (.cells #[.int .i64 x.now_,.int .i64 x.token_,.int .i64 x.mem_.clock_,.slice A0 n0 c0,.slice A1 n1 c1,.int .i64 x.shelf_.count_,.slice A2 n2 c2,.slice A3 n3 c3,.slice A4 n4 c4] 58)) [.box w.heap.size 58 #[.int .i64 x.now_,.int .i64 x.token_,.int .i64 x.mem_.clock_,.slice A0 n0 c0,.slice A1 n1 c1,.int .i64 x.shelf_.count_,.slice A2 n2 c2,.slice A3 n3 c3,.slice A4 n4 c4]]):=(Mine.refl w).box 58 #[.int .i64 x.now_,.int .i64 x.token_,.int .i64 x.mem_.clock_,.slice A0 n0 c0,.slice A1 n1 c1,.int .i64 x.shelf_.count_,.slice A2 n2 c2,.slice A3 n3 c3,.slice A4 n4 c4]
 skip
 show Calls Tryz.prog _ #[.agg #[.int .i64 x.now_,.int .i64 x.token_,.int .i64 x.mem_.clock_,.slice A0 n0 c0,.slice A1 n1 c1,.int .i64 x.shelf_.count_,.slice A2 n2 c2,.slice A3 n3 c3,.slice A4 n4 c4]] w _
 go_enter Tryz.func43,Tryz.ntmps43
 replace M:=hid (M.out.own (own_emptyI _) ((Ext.refl' _).al _))
 simp only [World.heap_alloc_size] at M
 go_wp2_with (first|((with_reducible refine zN ?_);first|(refine zG M.out 1 ?_;(try simp only [zr_,zm_]))))
 go_loopw [3,10] (fun u i wr => ∃ (k m d g : Nat),k ≤ n3 ∧ u = .slice (some ⟨g,0,none⟩) m d ∧ i = .int .i64 k ∧ Hid (Mine w wr [.row 3 1 (some ⟨g,0,none⟩) m d (ints (pickTo settledOf x.roots_ k)),.box w.heap.size 58 #[.int .i64 x.now_,.int .i64 x.token_,.int .i64 x.mem_.clock_,.slice A0 n0 c0,.slice A1 n1 c1,.int .i64 x.shelf_.count_,.slice A2 n2 c2,.slice A3 n3 c3,.slice A4 n4 c4]])) (fun _ i _ => n3 - (intOf i).toNat)
 case atStart => exact ⟨0,_,_,_,Nat.zero_le _,rfl,rfl,M⟩
 case round =>
  clear M
  obtain ⟨k,m,d,g,hk,rfl,rfl,M⟩:=hrel
  have hm : m ≤ 1048576:=by have h1:=M.out.len1 0 rfl;rw [ints_length] at h1;have h2:=pick_len settledOf x.roots_ k;omega
  by_cases hlt : (k : Int) < (n3 : Int)
  rotate_left
  ·have e : Hid (k = x.roots_.length):=by show k = _;have a:=HRN.out;omega
   have M9:=M.out
   rw [e.out] at M9
   have HC : Hid (CmpC w [.box w.heap.size 58 #[.int .i64 x.now_,.int .i64 x.token_,.int .i64 x.mem_.clock_,.slice A0 n0 c0,.slice A1 n1 c1,.int .i64 x.shelf_.count_,.slice A2 n2 c2,.slice A3 n3 c3,.slice A4 n4 c4]] (rkeys x) (pickTo settledOf x.roots_ x.roots_.length) w.heap.size):=fun wq i j Mq hi hj => by
    obtain ⟨i1,r1,hi1,rfl,hr1,_⟩:=pick_mem.1 hi
    obtain ⟨j1,r2,hj1,rfl,hr2,_⟩:=pick_mem.1 hj
    exact rankC_any x A0 n0 c0 A1 n1 c1 A2 n2 c2 A3 n3 c3 A4 n4 c4 S HR.out hn3 Mq i1 j1 (by have a:=HRN.out;omega) (by have a:=HRN.out;omega)
   have M8:=hid M9
   clear M M9
   go_wp2_with fail
   refine (sortStable_m M8.out HC.out (pick_asc _ _ _) (by have h1:=M8.out.len1 0 rfl;rw [ints_length] at h1;have h2:=pick_len settledOf x.roots_ x.roots_.length;omega)).mono ?_
   rintro e w1 ⟨rfl,M1⟩
   have M7:=hid M1
   clear M1 M8
   go_wp2
   go_ret
   exact ⟨_,_,_,rfl,M7.out.row_at 0 rfl,M7.out.ext⟩
  have HLT : Hid (k < n3):=by show _ < _;omega
  obtain ⟨b,o,rfl⟩:=HR.out.addr (by omega)
  obtain ⟨r,row,hsk,hrb,hrw,hrl,hrg⟩:=root_at HR.out (k:=k) (by omega)
  have HSK:=hid hsk
  have HRW:=hid hrw
  have HRL:=hid hrl
  have HRG:=hid hrg
  have HRB:=hid hrb
  have hf0:=Root.first hrw
  clear hsk hrw hrl hrg hrb
  clear hf0
  go_wp2_with (first|((with_reducible refine zN ?_);first|((first|refine Mine.wp_arg M.out rfl 97 _ rfl _ _ rfl row HRG.out HRB.out _ Tryz.underlying97 (by rfl) (by rw [HRL.out];kernel_rfl) ?_|refine Mine.wp_getall M.out rfl 97 _ rfl 0 rfl rfl _ Tryz.underlying97 (by rfl) (by rw [List.size_toArray,HRL.out];kernel_rfl) ?_);(try simp only [zr_,zm_]))|(refine Mine.wp_allocany M.out rfl 97 rfl 40 (by kernel_rfl) ?_;intro gx w' zx hzx M';replace M:=hid M';clear M';(try simp only [zr_,zm_]))|(refine Mine.wp_setall M.out rfl 97 _ _ rfl rfl 0 rfl rfl _ rfl (by rw [hzx,HRL.out]) (Root.R_one HRW.out) (by rw [HRL.out];kernel_rfl) ?_;intro w' M';(try simp only [zr_,zm_] at M');replace M:=hid M';clear M')))
  refine (impl_Settled r row _ _ (Root.R_good.ext HRW.out M.out.ext)).mono ?_
  rintro e w1 ⟨rfl,x1⟩
  replace M:=hid (M.out.on x1)
  clear x1
  cases hv : settledOf r
  ·have HN:=hid hv
   clear hv
   go_wp2
   go_roundw
   case rel => exact ⟨k + 1,m,d,g,HLT.out,rfl,by go_num,hid (by rw [pick_no HSK.out HN.out];exact M.out.tail)⟩
   case measure => have:=HLT.out;simp [intOf];omega
  have HY:=hid hv
  clear hv
  go_wp2_with (first|(at_builtin;refine Mine.wp_push M.out rfl _ _ 22 rfl 3 _ _ _ Tryz.underlying22 Tryz.infoInt rfl (by omega) 1 rfl rfl _ _ rfl rfl rfl (by simp [Value.oneCell']) (by omega) (by unfold maxLen;omega) ?_;intro A2 c2 w' M';obtain ⟨gp,rfl⟩:=Mine.addr M' 1 rfl (Nat.succ_pos _);(try simp only [zr_,zm_] at M');replace M:=hid M';clear M'))
  go_roundw
  case rel => exact ⟨k + 1,_,_,_,HLT.out,rfl,by go_num,hid (by rw [pick_yes HSK.out HY.out];exact M.out.tail)⟩
  case measure => have:=HLT.out;simp [intOf];omega
theorem impl_Ranks (x : GWorld) (cs : List Value) (w : World) (S : Nat → Prop) (h : GWorld.R w S cs x) (_hw : GWorld.wt x ≤ 1048576) (hs4 : x.roots_.length ≤ 19) :
  Calls Tryz.prog 43 #[.agg cs.toArray] w fun e w' => ∃ B m d,e = .returned (.slice B m d) ∧ w'.ownsRow w.heap.size 3 1 (.slice B m d) m (ints (ranksOf x)) ∧ Ext w w' :=
 (impl_Ranks2 x cs w S h _hw hs4).mono fun e w' ⟨g,m,d,h1,h2,h3⟩ => ⟨_,m,d,h1,h2,h3⟩
end Go.Proofs.YtoegjiigaoanbaaGreat
namespace Go.Proofs.YtoegjiigaoanbaaGreat
open Go.RowKit Go.Deep
set_option linter.unnecessarySimpa false
set_option maxHeartbeats 400000000
open Go.Lib (hid)
set_option linter.unusedSimpArgs false
set_option linter.unusedVariables false
set_option maxRecDepth 8000 in
theorem impl_Replay (x0 : Script) (cs0 : List Value) (x1 : GWorld) (cs1 : List Value) (w : World) (hs : Script.R w (fun _ => True) cs0 x0) (_hw0 : Script.wt x0 ≤ 1048576) (h : GWorld.R w (fun _ => True) cs1 x1) (_hw1 : GWorld.wt x1 ≤ 1048576) :
  Calls Tryz.prog 10 #[.agg cs0.toArray,.agg cs1.toArray] w fun e w' => ∃ (B : Option Addr) (m d : Nat) (C2 P2 : Option Addr × Nat × Nat),e = .returned (.tuple #[.slice B m d,.agg #[.slice C2.1 C2.2.1 C2.2.2,.slice P2.1 P2.2.1 P2.2.2,.int .i64 (replayF x0 x1).2.count_]]) ∧ Hid (RunsV w w' (replayF x0 x1).1 (replayF x0 x1).2 B m d C2 P2):=by
 have HS0:=hid hs
 have HW0:=hid h
 obtain ⟨vs0,P2,pn2,pc2,P3,pn3,pc3,rfl,hs0,⟨khs1,mhs1,hs1⟩,⟨khs2,mhs2,hs2⟩⟩:=hs
 obtain ⟨P0,pn0,pc0,P1,pn1,pc1,rfl⟩:=Things.R_cells hs0
 obtain ⟨v0,v1,A2,n2,c2,A3,n3,c3,A4,n4,c4,rfl,h0,h1,⟨kh2,mh2,h2⟩,⟨kh3,mh3,h3⟩,⟨kh4,mh4,h4⟩⟩:=h
 obtain ⟨A0,n0,c0,rfl⟩:=Mem.R_cells h0
 obtain ⟨A1,n1,c1,rfl⟩:=Shelf.R_cells h1
 have hpl : x0.progs_.length = pn2:=hs1.1
 have hrl : x1.roots_.length = n3:=h3.1
 have HP:=hid hs1
 have HRT:=hid h3
 have HSW : Hid (Script.wt x0 ≤ 1048576):=_hw0
 have HWW : Hid (GWorld.wt x1 ≤ 1048576):=_hw1
 have hkl:=wtl_len Root.wt x1.roots_
 have hn3 : n3 ≤ 1048576:=by unfold GWorld.wt at _hw1;omega
 have HPWT : Hid (∀ p ∈ x0.progs_,Prog.wt p ≤ 1048576):=fun p hp => by
  obtain ⟨i,hi⟩:=List.mem_iff_getElem?.1 hp
  have h1:=wtl_at Prog.wt hi
  unfold Script.wt at _hw0;omega
 have HRWT : Hid (∀ r ∈ x1.roots_,r.order_.length ≤ 1048576):=fun r hr => by
  obtain ⟨i,hi⟩:=List.mem_iff_getElem?.1 hr
  have h1:=wtl_at Root.wt hi
  have h2 : r.order_.length ≤ Root.wt r:=by unfold Root.wt;omega
  unfold GWorld.wt at _hw1;omega
 have HTH:=hid hs0
 have HPC : Hid (Sl w (fun _ => True) 1 P0 pn0 (ints x0.start_.cells_) ∧ pn0 ≤ pc0 ∧ Sl w (fun _ => True) 1 P1 pn1 (ints x0.start_.map_) ∧ pn1 ≤ pc1):=by obtain ⟨A7,n7,c7,A8,n8,c8,e,⟨kz0,mz0,z0⟩,⟨kz1,mz1,z1⟩⟩:=hs0;injection e with e1 e2;injection e1 with e3 e4 e5;injection e2 with e6 e7;injection e6 with e8 e9 e10;subst e3 e4 e5 e8 e9 e10;exact ⟨z0,kz0,z1,kz1⟩
 have HPL:=hid hpl
 have HRL:=hid hrl
 clear hs0 hs1 hs2 h0 h1 h2 h3 h4 hkl _hw0 _hw1 hpl hrl
 have M : Hid (Mine w ((w.alloc (.cells #[.slice P0 pn0 pc0,.slice P1 pn1 pc1,.int .i64 x0.start_.count_,.slice P2 pn2 pc2,.slice P3 pn3 pc3] 48)).alloc (.cells #[.int .i64 x1.now_,.int .i64 x1.token_,.int .i64 x1.mem_.clock_,.slice A0 n0 c0,.slice A1 n1 c1,.int .i64 x1.shelf_.count_,.slice A2 n2 c2,.slice A3 n3 c3,.slice A4 n4 c4] 58)) [.box (w.heap.size + 1) 58 #[.int .i64 x1.now_,.int .i64 x1.token_,.int .i64 x1.mem_.clock_,.slice A0 n0 c0,.slice A1 n1 c1,.int .i64 x1.shelf_.count_,.slice A2 n2 c2,.slice A3 n3 c3,.slice A4 n4 c4],.box w.heap.size 48 #[.slice P0 pn0 pc0,.slice P1 pn1 pc1,.int .i64 x0.start_.count_,.slice P2 pn2 pc2,.slice P3 pn3 pc3]]):=by
  have h:=((Mine.refl w).box 48 #[.slice P0 pn0 pc0,.slice P1 pn1 pc1,.int .i64 x0.start_.count_,.slice P2 pn2 pc2,.slice P3 pn3 pc3]).box 58 #[.int .i64 x1.now_,.int .i64 x1.token_,.int .i64 x1.mem_.clock_,.slice A0 n0 c0,.slice A1 n1 c1,.int .i64 x1.shelf_.count_,.slice A2 n2 c2,.slice A3 n3 c3,.slice A4 n4 c4]
  simp only [World.heap_alloc_size] at h
  exact h
 show Calls Tryz.prog _ #[.agg #[.slice P0 pn0 pc0,.slice P1 pn1 pc1,.int .i64 x0.start_.count_,.slice P2 pn2 pc2,.slice P3 pn3 pc3],.agg #[.int .i64 x1.now_,.int .i64 x1.token_,.int .i64 x1.mem_.clock_,.slice A0 n0 c0,.slice A1 n1 c1,.int .i64 x1.shelf_.count_,.slice A2 n2 c2,.slice A3 n3 c3,.slice A4 n4 c4]] w _
 cases hso : scriptOk x0
 ·have HZ:=hid (replay_no (x0:=x0) (x1:=x1) fun z => by have h:=z.1;rw [hso] at h;cases h)
  go_enter Tryz.func10,Tryz.ntmps10
  go_wp2_with (first|(go_at_call 42;refine zC M (impl_ScriptOk x0 [.slice P0 pn0 pc0,.slice P1 pn1 pc1,.int .i64 x0.start_.count_,.slice P2 pn2 pc2,.slice P3 pn3 pc3] _ _ (Script.R_good.ext HS0.out M.out.ext) HSW.out) ?_;clear M;intro w' M;rw [hso])|((with_reducible refine zN ?_);first|(refine Mine.wp_alloc M.out rfl 42 rfl (.agg #[.slice none 0 0,.slice none 0 0,.int .i64 0]) (by kernel_rfl) ?_;intro gr w' M';(try simp only [Value.cells,zr_,zm_] at M');replace M:=hid M';clear M';(try simp only [zr_,zm_]))|(refine zGs M.out 48 2 5 ?_;(try simp only [zr_,zm_]))|(refine zSs M.out 42 0 ?_;intro w' M';(try simp only [zr_,zm_] at M');replace M:=hid M';clear M')))
  refine bodyPost_ret (M.out.results_tc Tryz.results10 _ 0 rfl rfl _ Tryz.underlying42 (by rfl) (by kernel_rfl)) rfl ?_
  rw [HZ.out]
  exact ⟨_,_,_,(none,0,0),(none,0,0),rfl,RunsV.bad (M.out.nil 111 5)⟩
 by_cases hlen : n3 = pn2
 rotate_left
 ·have HZ:=hid (replay_no (x0:=x0) (x1:=x1) fun z => hlen (by have h:=z.2;rw [HPL.out,HRL.out] at h;exact h))
  have bl : ((n3 : Int) != (pn2 : Int)) = true:=by simp;omega
  clear hlen
  go_enter Tryz.func10,Tryz.ntmps10
  go_wp2_with (first|(go_at_call 42;refine zC M (impl_ScriptOk x0 [.slice P0 pn0 pc0,.slice P1 pn1 pc1,.int .i64 x0.start_.count_,.slice P2 pn2 pc2,.slice P3 pn3 pc3] _ _ (Script.R_good.ext HS0.out M.out.ext) HSW.out) ?_;clear M;intro w' M;rw [hso])|((with_reducible refine zN ?_);first|(refine Mine.wp_alloc M.out rfl 42 rfl (.agg #[.slice none 0 0,.slice none 0 0,.int .i64 0]) (by kernel_rfl) ?_;intro gr w' M';(try simp only [Value.cells,zr_,zm_] at M');replace M:=hid M';clear M';(try simp only [zr_,zm_]))|(refine zGs M.out 48 2 5 ?_;(try simp only [zr_,zm_]))|(refine zSs M.out 42 0 ?_;intro w' M';(try simp only [zr_,zm_] at M');replace M:=hid M';clear M'))|((with_reducible show wpList _ _ _ (⟨_,.load _ _,_,_,_,some _⟩::_) _ _);first|((first|refine zGg M.out 1 ?_|refine zGg M.out 2 ?_);(try simp only [zr_,zm_]))))
  refine bodyPost_ret (M.out.results_tc Tryz.results10 _ 0 rfl rfl _ Tryz.underlying42 (by rfl) (by kernel_rfl)) rfl ?_
  rw [HZ.out]
  exact ⟨_,_,_,(none,0,0),(none,0,0),rfl,RunsV.bad (M.out.nil 111 5)⟩
 subst hlen
 have HZ:=hid (replay_yes (x0:=x0) (x1:=x1) ⟨hso,by rw [HPL.out,HRL.out]⟩)
 have bl : ((n3 : Int) != (n3 : Int)) = false:=by simp
 obtain ⟨hs1,hs2,hs3⟩:=script_parts hso
 have HTHO:=hid hs1
 have HPGO:=hid hs3
 have hn4 : n3 ≤ 4:=by rw [← HPL.out];exact hs2
 obtain rfl : pn0 = 8:=by have h:=HPC.out.1.len;rw [valsOk_len (th_parts hs1).1] at h;exact h.symm
 obtain rfl : pn1 = 8:=by have h:=HPC.out.2.2.1.len;rw [(dec_true (th_parts hs1).2.1).1] at h;exact h.symm
 have HRK:=hid (ranks_len x1)
 obtain ⟨rk,hrk⟩ : ∃ rk,ranksOf x1 = rk:=⟨_,rfl⟩
 rw [hrk] at HRK
 have HRKE:=hid hrk
 clear hs1 hs2 hs3 hrk
 go_enter Tryz.func10,Tryz.ntmps10
 go_upto_region 3 with (first|(go_at_call 42;refine zC M (impl_ScriptOk x0 [.slice P0 8 pc0,.slice P1 8 pc1,.int .i64 x0.start_.count_,.slice P2 n3 pc2,.slice P3 pn3 pc3] _ _ (Script.R_good.ext HS0.out M.out.ext) HSW.out) ?_;clear M;intro w' M;rw [hso])|((with_reducible refine zN ?_);first|(refine Mine.wp_alloc M.out rfl 42 rfl (.agg #[.slice none 0 0,.slice none 0 0,.int .i64 0]) (by kernel_rfl) ?_;intro gr w' M';(try simp only [Value.cells,zr_,zm_] at M');replace M:=hid M';clear M';(try simp only [zr_,zm_]))|(refine zGs M.out 48 2 5 ?_;(try simp only [zr_,zm_])))|((with_reducible show wpList _ _ _ (⟨_,.load _ _,_,_,_,some _⟩::_) _ _);first|((first|refine zGg M.out 1 ?_|refine zGg M.out 2 ?_);(try simp only [zr_,zm_]))))
 have M9:=(M.out.own (own_lit0 _ 84 2) ((Ext.refl' _).al _)).own (own_lit0 _ 99 1) ((Ext.refl' _).al _)
 (try simp only [World.heap_alloc_size] at M9)
 replace M:=hid M9
 clear M9
 go_wp2_with (first|(go_at_call 43;(with_reducible refine (impl_Ranks x1 [.int .i64 x1.now_,.int .i64 x1.token_,.int .i64 x1.mem_.clock_,.slice A0 n0 c0,.slice A1 n1 c1,.int .i64 x1.shelf_.count_,.slice A2 n2 c2,.slice A3 n3 c3,.slice A4 n4 c4] _ _ (GWorld.R_good.ext HW0.out M.out.ext) HWW.out (by rw [HRL.out];omega)).mono ?_);rintro e w' ⟨RB,rm,rd,rfl,o9,x9⟩;rw [HRKE.out] at o9;replace M:=hid (M.out.own o9 x9);clear o9 x9)|((with_reducible refine zN ?_);first|(refine zGs M.out 58 3 9 ?_;(try simp only [zr_,zm_]))))
 clear hso bl
 have hrm : rk.length = rm:=by have h:=M.out.len1 0 rfl;rw [ints_length] at h;exact h
 have hrm4 : rm ≤ 4:=by have h:=HRK.out;rw [HRL.out] at h;omega
 have HRM:=hid hrm
 clear hrm
 have M7:=M.out.perm (List.Perm.cons _ (List.Perm.swap _ _ _))
 clear M
 go_loopw [6,7,28] (fun pv ov iv wr => ∃ (q : Nat) (PA : Option Addr) (pm pd : Nat) (OA : Option Addr) (om od : Nat) (ps : List (List Value × Prog)) (os : List (List Value × Order)),q ≤ rm ∧ iv = .int .i64 (q : Int) ∧ pv = .slice PA pm pd ∧ ov = .slice OA om od ∧ pm = q ∧ om = q ∧ Hid (ps.map Prod.snd = (rk.take q).map (progAt x0)) ∧ Hid (os.map Prod.snd = (rk.take q).map (ordAt x1)) ∧ Hid (∀ e ∈ ps,e.1.length = 2 ∧ Prog.R w (fun _ => True) e.1 e.2) ∧ Hid (∀ e ∈ os,e.1.length = 1 ∧ Order.R w (fun _ => True) e.1 e.2) ∧ Hid (Mine w wr [.row 3 1 RB rm rd (ints rk),.row 84 2 PA pm pd (ps.flatMap Prod.fst),.row 99 1 OA om od (os.flatMap Prod.fst),.box gr 42 #[.slice none 0 0,.slice none 0 0,.int .i64 0],.box (w.heap.size + 1) 58 #[.int .i64 x1.now_,.int .i64 x1.token_,.int .i64 x1.mem_.clock_,.slice A0 n0 c0,.slice A1 n1 c1,.int .i64 x1.shelf_.count_,.slice A2 n2 c2,.slice A3 n3 c3,.slice A4 n4 c4],.box w.heap.size 48 #[.slice P0 8 pc0,.slice P1 8 pc1,.int .i64 x0.start_.count_,.slice P2 n3 pc2,.slice P3 pn3 pc3]])) (fun _ _ iv _ => rm - (intOf iv).toNat)
 case atStart => exact ⟨0,_,_,_,_,_,_,[],[],Nat.zero_le _,rfl,rfl,rfl,rfl,rfl,rfl,rfl,(fun e he => by cases he),(fun e he => by cases he),M7⟩
 case round =>
  clear M7
  obtain ⟨q,PA,pm,pd,OA,om,od,ps,os,hq,rfl,rfl,rfl,hpm,hom,HPS,HOS,HPR,HOR,M⟩:=hrel
  by_cases hlt : q < rm
  rotate_left
  ·skip
   skip
   have hte : rk.take q = rk:=List.take_of_length_le (by rw [HRM.out];omega)
   have hps:=HPS.out
   have hos:=HOS.out
   rw [hte] at hps hos
   have HPE:=hid hps
   have HOE:=hid hos
   replace hpm:=hpm.symm
   replace hom:=hom.symm
   subst hpm
   subst hom
   clear hps hos hte
   have HRKE2 : Hid (zipO (rk.map (progAt x0)) (rk.map (ordAt x1)) = ranked x0 x1):=by show _ = _;unfold ranked;rw [HRKE.out]
   go_wp2_with (first|(go_at_call 44;have SP:=SlR.of_rows (R:=Prog.R) (by omega) (fun e he => (HPR.out e he).1) (M.out.row_sl 1 rfl) (fun e he => Prog.R_good.ext (HPR.out e he).2 M.out.ext);have SO:=SlR.of_rows (R:=Order.R) (by omega) (fun e he => (HOR.out e he).1) (M.out.row_sl 2 rfl) (fun e he => Order.R_good.ext (HOR.out e he).2 M.out.ext);rw [HPE.out] at SP;rw [HOE.out] at SO;refine (impl_SerialAll _ _ _ _ _ _ _ P0 pc0 P1 pc1 x0.start_ _ SP (by omega) (fun p hp => HPWT.out p (prog_mem HRKE.out (by rw [HPL.out,HRL.out]) hp)) (fun p hp => HPGO.out p (prog_mem HRKE.out (by rw [HPL.out,HRL.out]) hp)) SO (fun o ho => ord_wt HRKE.out HRWT.out ho) (HPC.out.1.ext M.out.ext) (HPC.out.2.2.1.ext M.out.ext) HPC.out.2.1 HPC.out.2.2.2 HTHO.out).mono ?_;clear SP SO;rintro e w5 ⟨B9,m9,d9,C9,P9,rfl,hrv⟩;rw [HRKE2.out] at hrv ⊢;obtain ⟨es,he1,he2,M4⟩:=hrv.out;have M8:=M.out.call M4;simp only [List.cons_append] at M8;replace M:=hid (RunsV.front M8);have HE1:=hid he1;have HE2:=hid he2;clear M4 M8 hrv he1 he2)|((with_reducible refine zN ?_);first|(refine zGs M.out 42 5 3 ?_;(try simp only [zr_,zm_]))|(refine zSs M.out 42 3 ?_;intro w' M';(try simp only [zr_,zm_] at M');replace M:=hid M';clear M')))
   refine bodyPost_ret (M.out.results_tc Tryz.results10 _ 3 rfl rfl _ Tryz.underlying42 (by rfl) (by kernel_rfl)) rfl ?_
   rw [HZ.out]
   exact ⟨_,_,_,(C9.1,C9.2.1,C9.2.2),(P9.1,P9.2.1,P9.2.2),rfl,es,HE1.out,HE2.out,RunsV.drop M.out⟩
  have HLT : Hid (q < rm):=hlt
  have hqi : (q : Int) < (rm : Int):=by omega
  obtain ⟨kv,hkv⟩ : ∃ k,rk[q]? = some k:=⟨_,List.getElem?_eq_getElem (by rw [HRM.out];exact hlt)⟩
  obtain ⟨k,hk3,rfl⟩:=ranks_ix (x:=x1) (by rw [HRKE.out];exact hkv)
  rw [HRL.out] at hk3
  have hki : (k : Int) < (n3 : Int):=by omega
  have HKV:=hid hkv
  have HKX : Hid ((ints rk)[q]? = some (.int .i64 (k : Int))):=by show (ints rk)[q]? = _;unfold ints;rw [List.getElem?_map,hkv];rfl
  clear hkv
  obtain ⟨b,oo,p,Q0,qn0,qc0,Q1,qn1,qc1,rfl,hpx,hpb,hpr,hpR⟩:=prog_at HP.out hk3
  have HR:=hid hpr
  have HB:=hid hpb
  have HPRX:=hid hpR
  have HPX:=hid (progAt_is hpx)
  obtain ⟨b3,o3,rfl⟩:=HRT.out.addr (by omega)
  obtain ⟨r,row,hrx,hrb,hrw,hrc⟩:=HRT.out.at_ hk3
  obtain ⟨K0,kn0,kc0,h17,hkc,hks⟩:=Root.at17 hrw
  have h17c:=hrc 17 (by omega)
  rw [h17] at h17c
  have HOC : Hid (w.cell? ⟨b3,o3 + k * 40 + 17,none⟩ = some (.slice K0 kn0 kc0) ∧ b3 < w.heap.size):=⟨h17c,hrb⟩
  have hrwt:=HRWT.out r (List.mem_of_getElem? hrx)
  have hkl:=hks.len
  have HOX:=hid (ordAt_is hrx)
  have HORX : Hid (Order.R w (fun _ => True) [.slice K0 kn0 kc0] ⟨r.order_⟩):=⟨K0,kn0,kc0,rfl,hkc,by omega,hks⟩
  clear hpx hpb hpr hpR hrx hrb hrw hrc h17 hkc hks h17c hrwt hkl
  obtain ⟨gK,rfl⟩:=M.out.addr 0 rfl (by omega)
  replace hpm:=hpm.symm
  replace hom:=hom.symm
  subst hpm
  subst hom
  go_wp2_with (first|(at_builtin;refine Mine.wp_push M.out rfl _ _ 45 rfl 84 _ _ _ Tryz.underlying45 Tryz.infoProgU rfl (by omega) 1 rfl rfl _ _ rfl rfl rfl (by simp [Value.oneCell']) (by omega) (by unfold maxLen;omega) ?_;intro A7 c7 w' M';(try simp only [zr_,zm_] at M');replace M:=hid M';clear M')|(at_builtin;refine Mine.wp_push M.out rfl _ _ 80 rfl 99 _ _ _ Tryz.underlying80 Tryz.infoOrderU rfl (by omega) 2 rfl rfl _ _ rfl rfl rfl (by simp [Value.oneCell']) (by omega) (by unfold maxLen;omega) ?_;intro A8 c8 w' M';(try simp only [zr_,zm_] at M');replace M:=hid M';clear M')|((with_reducible refine zN ?_);first|((first|refine Mine.wp_getr M.out rfl _ _ rfl 0 _ rfl rfl _ (by exact HKX.out) _ (by first|exact Tryz.underlying3) (by rfl) ?_|refine zG M.out 5 ?_|refine zG M.out 4 ?_|refine Mine.wp_arg M.out rfl 84 _ rfl _ _ rfl _ HR.out HB.out _ Tryz.underlying84 (by rfl) (by kernel_rfl) ?_|refine Mine.wp_argc M.out rfl 22 _ rfl _ _ HOC.out rfl _ Tryz.underlying22 (by rfl) ?_);(try simp only [zr_,zm_]))))
  go_roundw
  case rel => exact ⟨q + 1,_,_,_,_,_,_,ps ++ [([.slice Q0 qn0 qc0,.slice Q1 qn1 qc1],p)],os ++ [([.slice K0 kn0 kc0],⟨r.order_⟩)],HLT.out,by go_num,rfl,rfl,rfl,rfl,by show _ = _;rw [map_take_snoc _ HKV.out,List.map_append,HPS.out,HPX.out];rfl,by show _ = _;rw [map_take_snoc _ HKV.out,List.map_append,HOS.out,HOX.out];rfl,mem_snoc HPR.out ⟨rfl,HPRX.out⟩,mem_snoc HOR.out ⟨rfl,HORX.out⟩,by rw [← fst_push,← fst_push];exact M⟩
  case measure => have:=HLT.out;simp [intOf];omega

end Go.Proofs.YtoegjiigaoanbaaGreat
namespace Go.Proofs.YtoegjiigaoanbaaGreat
open Go.RowKit Go.Deep
set_option linter.unnecessarySimpa false
set_option maxHeartbeats 400000000
open Go.Lib (hid)
set_option linter.unusedSimpArgs false
set_option linter.unusedVariables false
set_option linter.unnecessarySimpa false
set_option maxHeartbeats 400000000
set_option maxRecDepth 8000 in
theorem impl_Serialized (x0 : Script) (cs0 : List Value) (x1 : GWorld) (cs1 : List Value) (w : World) (hs : Script.R w (fun _ => True) cs0 x0) (_hw0 : Script.wt x0 ≤ 1048576) (h : GWorld.R w (fun _ => True) cs1 x1) (_hw1 : GWorld.wt x1 ≤ 1048576) :
  Calls Tryz.prog 22 #[.agg cs0.toArray,.agg cs1.toArray] w fun e w' => e = .returned (.bool (serOf x0 x1)) ∧ Ext w w':=by
 have HS0:=hid hs
 have HW0:=hid h
 obtain ⟨vs0,P2,pn2,pc2,P3,pn3,pc3,rfl,hs0,⟨khs1,mhs1,hs1⟩,⟨khs2,mhs2,hs2⟩⟩:=hs
 obtain ⟨P0,pn0,pc0,P1,pn1,pc1,rfl⟩:=Things.R_cells hs0
 obtain ⟨v0,v1,A2,n2,c2,A3,n3,c3,A4,n4,c4,rfl,h0,h1,⟨kh2,mh2,h2⟩,⟨kh3,mh3,h3⟩,⟨kh4,mh4,h4⟩⟩:=h
 obtain ⟨A0,n0,c0,rfl⟩:=Mem.R_cells h0
 obtain ⟨A1,n1,c1,rfl⟩:=Shelf.R_cells h1
 obtain ⟨mm,hmem⟩:=Mem.R_open h0
 obtain ⟨ms,hshf⟩:=Shelf.R_open h1
 have hml : x1.mem_.cells_.length = n0:=hmem.flen Word.cells_length (by omega)
 have hsl:=hshf.len
 have hn0 : n0 ≤ 1048576:=by unfold GWorld.wt Mem.wt at _hw1;omega
 have hn1 : n1 ≤ 1048576:=by unfold GWorld.wt Shelf.wt at _hw1;omega
 have HMEM:=hid hmem
 have HSHF:=hid hshf
 have hpl : x0.progs_.length = pn2:=hs1.1
 have hrl : x1.roots_.length = n3:=h3.1
 have HRT:=hid h3
 have HSW : Hid (Script.wt x0 ≤ 1048576):=_hw0
 have HWW : Hid (GWorld.wt x1 ≤ 1048576):=_hw1
 have hkl:=wtl_len Root.wt x1.roots_
 have hn3 : n3 ≤ 1048576:=by unfold GWorld.wt at _hw1;omega
 have HRWT : Hid (∀ r ∈ x1.roots_,r.regs_.length ≤ 1048576):=fun r hr => by
  obtain ⟨i,hi⟩:=List.mem_iff_getElem?.1 hr
  have h1:=wtl_at Root.wt hi
  have h2 : r.regs_.length ≤ Root.wt r:=by unfold Root.wt;omega
  unfold GWorld.wt at _hw1;omega
 have HPL:=hid hpl
 have HRL:=hid hrl
 clear hs0 hs1 hs2 h0 h1 h2 h3 h4 hkl _hw0 _hw1 hpl hrl hmem hshf hml hsl mm ms
 have M : Hid (Mine w ((w.alloc (.cells #[.slice P0 pn0 pc0,.slice P1 pn1 pc1,.int .i64 x0.start_.count_,.slice P2 pn2 pc2,.slice P3 pn3 pc3] 48)).alloc (.cells #[.int .i64 x1.now_,.int .i64 x1.token_,.int .i64 x1.mem_.clock_,.slice A0 n0 c0,.slice A1 n1 c1,.int .i64 x1.shelf_.count_,.slice A2 n2 c2,.slice A3 n3 c3,.slice A4 n4 c4] 58)) [.box (w.heap.size + 1) 58 #[.int .i64 x1.now_,.int .i64 x1.token_,.int .i64 x1.mem_.clock_,.slice A0 n0 c0,.slice A1 n1 c1,.int .i64 x1.shelf_.count_,.slice A2 n2 c2,.slice A3 n3 c3,.slice A4 n4 c4],.box w.heap.size 48 #[.slice P0 pn0 pc0,.slice P1 pn1 pc1,.int .i64 x0.start_.count_,.slice P2 pn2 pc2,.slice P3 pn3 pc3]]):=by
  have h:=((Mine.refl w).box 48 #[.slice P0 pn0 pc0,.slice P1 pn1 pc1,.int .i64 x0.start_.count_,.slice P2 pn2 pc2,.slice P3 pn3 pc3]).box 58 #[.int .i64 x1.now_,.int .i64 x1.token_,.int .i64 x1.mem_.clock_,.slice A0 n0 c0,.slice A1 n1 c1,.int .i64 x1.shelf_.count_,.slice A2 n2 c2,.slice A3 n3 c3,.slice A4 n4 c4]
  simp only [World.heap_alloc_size] at h
  exact h
 show Calls Tryz.prog _ #[.agg #[.slice P0 pn0 pc0,.slice P1 pn1 pc1,.int .i64 x0.start_.count_,.slice P2 pn2 pc2,.slice P3 pn3 pc3],.agg #[.int .i64 x1.now_,.int .i64 x1.token_,.int .i64 x1.mem_.clock_,.slice A0 n0 c0,.slice A1 n1 c1,.int .i64 x1.shelf_.count_,.slice A2 n2 c2,.slice A3 n3 c3,.slice A4 n4 c4]] w _
 cases hso : scriptOk x0
 ·have HZ : Hid (serOf x0 x1 = false):=dec_no fun z => by have h:=z.1.1;rw [hso] at h;cases h
  go_enter Tryz.func22,Tryz.ntmps22
  go_wp2_with (first|(go_at_call 42;refine zC M (impl_ScriptOk x0 [.slice P0 pn0 pc0,.slice P1 pn1 pc1,.int .i64 x0.start_.count_,.slice P2 pn2 pc2,.slice P3 pn3 pc3] _ _ (Script.R_good.ext HS0.out M.out.ext) HSW.out) ?_;clear M;intro w' M;rw [hso])|((with_reducible refine zN ?_);first|(refine zGs M.out 48 1 5 ?_;(try simp only [zr_,zm_]))))
  go_ret
  exact ⟨by rw [HZ.out];rfl,M.out.ext⟩
 by_cases hlen : n3 = pn2
 rotate_left
 ·have HZ : Hid (serOf x0 x1 = false):=dec_no fun z => hlen (by have h:=z.1.2;rw [HPL.out,HRL.out] at h;exact h)
  have bl : ((n3 : Int) != (pn2 : Int)) = true:=by simp;omega
  clear hlen
  go_enter Tryz.func22,Tryz.ntmps22
  go_wp2_with (first|(go_at_call 42;refine zC M (impl_ScriptOk x0 [.slice P0 pn0 pc0,.slice P1 pn1 pc1,.int .i64 x0.start_.count_,.slice P2 pn2 pc2,.slice P3 pn3 pc3] _ _ (Script.R_good.ext HS0.out M.out.ext) HSW.out) ?_;clear M;intro w' M;rw [hso])|((with_reducible refine zN ?_);first|(refine zGs M.out 48 1 5 ?_;(try simp only [zr_,zm_])))|((with_reducible show wpList _ _ _ (⟨_,.load _ _,_,_,_,some _⟩::_) _ _);first|((first|refine zGg M.out 0 ?_|refine zGg M.out 1 ?_);(try simp only [zr_,zm_]))))
  go_ret
  exact ⟨by rw [HZ.out];rfl,M.out.ext⟩
 subst hlen
 have hn4 : n3 ≤ 4:=by rw [← HPL.out];exact (script_parts hso).2.1
 have HRO : Hid (replayOk x0 x1):=⟨hso,by rw [HPL.out,HRL.out]⟩
 have bl : ((n3 : Int) != (n3 : Int)) = false:=by simp
 have HRK:=hid (ranks_len x1)
 obtain ⟨rk,hrk⟩ : ∃ rk,ranksOf x1 = rk:=⟨_,rfl⟩
 rw [hrk] at HRK
 have HRKE:=hid hrk
 obtain ⟨RF,hrf⟩ : ∃ RF,replayF x0 x1 = RF:=⟨_,rfl⟩
 have HRF:=hid hrf
 clear hrk hrf
 go_enter Tryz.func22,Tryz.ntmps22
 go_upto_region 5 with (first|(go_at_call 42;refine zC M (impl_ScriptOk x0 [.slice P0 pn0 pc0,.slice P1 pn1 pc1,.int .i64 x0.start_.count_,.slice P2 n3 pc2,.slice P3 pn3 pc3] _ _ (Script.R_good.ext HS0.out M.out.ext) HSW.out) ?_;clear M;intro w' M;rw [hso])|(go_at_call 43;(with_reducible refine (impl_Ranks x1 [.int .i64 x1.now_,.int .i64 x1.token_,.int .i64 x1.mem_.clock_,.slice A0 n0 c0,.slice A1 n1 c1,.int .i64 x1.shelf_.count_,.slice A2 n2 c2,.slice A3 n3 c3,.slice A4 n4 c4] _ _ (GWorld.R_good.ext HW0.out M.out.ext) HWW.out (by rw [HRL.out];omega)).mono ?_);rintro e w' ⟨RB,rm,rd,rfl,o9,x9⟩;rw [HRKE.out] at o9;replace M:=hid (M.out.own o9 x9);clear o9 x9)|(go_at_call 10;(with_reducible refine (impl_Replay x0 [.slice P0 pn0 pc0,.slice P1 pn1 pc1,.int .i64 x0.start_.count_,.slice P2 n3 pc2,.slice P3 pn3 pc3] x1 [.int .i64 x1.now_,.int .i64 x1.token_,.int .i64 x1.mem_.clock_,.slice A0 n0 c0,.slice A1 n1 c1,.int .i64 x1.shelf_.count_,.slice A2 n2 c2,.slice A3 n3 c3,.slice A4 n4 c4] _ (Script.R_good.ext HS0.out M.out.ext) HSW.out (GWorld.R_good.ext HW0.out M.out.ext) HWW.out).mono ?_);rintro e w5 ⟨B9,m9,d9,C9,P9,rfl,hrv⟩;rw [HRF.out] at hrv ⊢;obtain ⟨es,he1,he2,M4⟩:=hrv.out;replace M:=hid (RunsV.back (M.out.call M4));have HE1:=hid he1;have HE2:=hid he2;clear M4 hrv he1 he2)|((with_reducible refine zN ?_);first|((first|refine zGs M.out 48 1 5 ?_|refine zGs M.out 58 0 9 ?_|refine zGs M.out 58 1 9 ?_|refine zGs M.out 48 2 5 ?_);(try simp only [zr_,zm_]))|(refine Mine.wp_alloc M.out rfl 42 rfl (.agg #[.slice none 0 0,.slice none 0 0,.int .i64 0]) (by kernel_rfl) ?_;intro gt w' M';(try simp only [Value.cells,zr_,zm_] at M');replace M:=hid M';clear M';(try simp only [zr_,zm_]))|(refine zSs M.out 42 0 ?_;intro w' M';(try simp only [zr_,zm_] at M');replace M:=hid M';clear M'))|((with_reducible show wpList _ _ _ (⟨_,.load _ _,_,_,_,some _⟩::_) _ _);first|((first|refine zGg M.out 0 ?_|refine zGg M.out 1 ?_);(try simp only [zr_,zm_]))))
 clear hso bl
 have hrm : rk.length = rm:=by have h:=M.out.len1 4 rfl;rw [ints_length] at h;exact h
 have hrmn : rm ≤ 1048576:=by have h:=HRK.out;rw [HRL.out] at h;omega
 have HRM:=hid hrm
 have hel : es.length = m9:=by have h:=HE2.out;rw [← HE1.out,List.length_map] at h;exact h.symm
 have HEL:=hid hel
 clear hrm hel
 by_cases hmr : m9 = rm
 rotate_left
 ·have HZ : Hid (serOf x0 x1 = false):=dec_no fun z => hmr (by have h:=z.2.1;rw [HRF.out,HRKE.out,HRM.out,← HE2.out] at h;exact h)
  have bq : ((m9 : Int) != (rm : Int)) = true:=by simp;omega
  clear hmr
  go_wp2
  go_ret
  exact ⟨by rw [HZ.out];rfl,M.out.ext⟩
 subst hmr
 have bq : ((m9 : Int) != (m9 : Int)) = false:=by simp
 go_wp2
 go_loopw [37] (fun iv wr => ∃ (q : Nat),q ≤ m9 ∧ iv = .int .i64 (q : Int) ∧ Hid (sdTo x1 RF.1 rk q) ∧ Hid (Mine w wr (.box gt 42 #[.slice C9.1 C9.2.1 C9.2.2,.slice P9.1 P9.2.1 P9.2.2,.int .i64 RF.2.count_]::.row 111 5 B9 m9 d9 (es.flatMap rcell)::.row 3 1 C9.1 C9.2.1 C9.2.2 (ints RF.2.cells_)::.row 3 1 P9.1 P9.2.1 P9.2.2 (ints RF.2.map_)::.row 3 1 RB m9 rd (ints rk)::.box (w.heap.size + 1) 58 #[.int .i64 x1.now_,.int .i64 x1.token_,.int .i64 x1.mem_.clock_,.slice A0 n0 c0,.slice A1 n1 c1,.int .i64 x1.shelf_.count_,.slice A2 n2 c2,.slice A3 n3 c3,.slice A4 n4 c4]::.box w.heap.size 48 #[.slice P0 pn0 pc0,.slice P1 pn1 pc1,.int .i64 x0.start_.count_,.slice P2 n3 pc2,.slice P3 pn3 pc3]::es.flatMap rrows))) (fun iv _ => m9 - (intOf iv).toNat)
 case atStart => exact ⟨0,Nat.zero_le _,rfl,sdTo.zero _ _ _,M⟩
 case round =>
  clear M
  obtain ⟨q,hq,rfl,HT,M⟩:=hrel
  by_cases hlt : (q : Int) < (m9 : Int)
  rotate_left
  ·skip
   have HTA : Hid (sdTo x1 RF.1 rk rk.length):=by have h:=HT.out;have e : q = rk.length:=(by rw [HRM.out];omega);rw [← e];exact h
   have HLL : Hid (RF.1.length = rk.length):=by show _ = _;rw [HRM.out,← HE2.out]
   clear HT
   cases hov : overW x1
   ·have HOV:=hid hov
    have HZ : Hid (serOf x0 x1 = true):=ser_end HRO.out (by rw [HRF.out]) HRKE.out HLL.out HTA.out true (by rw [hov];simp)
    clear hov
    go_wp2
    refine zRH M.out 18 ?_
    intro w' M'
    replace M:=hid M'
    clear M'
    refine zTL 0 ?_;intro K hK;((refine zDs 58 5 9 ?_;(try simp only [zr_,zm_]);go_big_quiet_on))
    refine zNy 1 (fun K hK => ?_)
    go_simp
    go_at_call 69
    refine (impl_Over x1 [.int .i64 x1.now_,.int .i64 x1.token_,.int .i64 x1.mem_.clock_,.slice A0 n0 c0,.slice A1 n1 c1,.int .i64 x1.shelf_.count_,.slice A2 n2 c2,.slice A3 n3 c3,.slice A4 n4 c4] _ _ (GWorld.R_good.ext HW0.out M.out.ext) HWW.out).mono ?_
    rintro e5 w5 ⟨rfl,x9⟩
    replace M:=hid (M.out.on x9)
    clear x9
    rw [HOV.out]
    refine hK.out _ _ (M.out) ?_
    clear hK K
    (try simp only [zs_,zl_])
    refine zXL 2 ?_;(try simp only [zs_,zl_])
    refine zXL 3 ?_;(try simp only [zs_,zl_])
    refine HQ.skip (i:=4) rfl (by kernel_rfl) (by kernel_rfl) (by kernel_rfl) (Nat.le_of_ble_eq_true rfl) (by rfl) (fun _ _ _ _ h => h) ?_
    (try simp only [zs_,zl_])
    refine HQ.skip (i:=5) rfl (by kernel_rfl) (by kernel_rfl) (by kernel_rfl) (Nat.le_of_ble_eq_true rfl) (by rfl) (fun _ _ _ _ h => h) ?_
    (try simp only [zs_,zl_])
    refine HQ.skip (i:=6) rfl (by kernel_rfl) (by kernel_rfl) (by kernel_rfl) (Nat.le_of_ble_eq_true rfl) (by rfl) (fun _ _ _ _ h => h) ?_
    (try simp only [zs_,zl_])
    refine HQ.skip (i:=7) rfl (by kernel_rfl) (by kernel_rfl) (by kernel_rfl) (Nat.le_of_ble_eq_true rfl) (by rfl) (fun _ _ _ _ h => h) ?_
    (try simp only [zs_,zl_])
    refine HQ.skip (i:=8) rfl (by kernel_rfl) (by kernel_rfl) (by kernel_rfl) (Nat.le_of_ble_eq_true rfl) (by rfl) (fun _ _ _ _ h => h) ?_
    (try simp only [zs_,zl_])
    refine HQ.skip (i:=9) rfl (by kernel_rfl) (by kernel_rfl) (by kernel_rfl) (Nat.le_of_ble_eq_true rfl) (by rfl) (fun _ _ _ _ h => h) ?_
    (try simp only [zs_,zl_])
    refine HQ.skip (i:=10) rfl (by kernel_rfl) (by kernel_rfl) (by kernel_rfl) (Nat.le_of_ble_eq_true rfl) (by rfl) (fun _ _ _ _ h => h) ?_
    (try simp only [zs_,zl_])
    refine HQ.skip (i:=11) rfl (by kernel_rfl) (by kernel_rfl) (by kernel_rfl) (Nat.le_of_ble_eq_true rfl) (by rfl) (fun _ _ _ _ h => h) ?_
    (try simp only [zs_,zl_])
    refine HQ.skip (i:=12) rfl (by kernel_rfl) (by kernel_rfl) (by kernel_rfl) (Nat.le_of_ble_eq_true rfl) (by rfl) (fun _ _ _ _ h => h) ?_
    (try simp only [zs_,zl_])
    refine HQ.skip (i:=13) rfl (by kernel_rfl) (by kernel_rfl) (by kernel_rfl) (Nat.le_of_ble_eq_true rfl) (by rfl) (fun _ _ _ _ h => h) ?_
    (try simp only [zs_,zl_])
    refine HQ.skip (i:=14) rfl (by kernel_rfl) (by kernel_rfl) (by kernel_rfl) (Nat.le_of_ble_eq_true rfl) (by rfl) (fun _ _ _ _ h => h) ?_
    (try simp only [zs_,zl_])
    refine HQ.skip (i:=15) rfl (by kernel_rfl) (by kernel_rfl) (by kernel_rfl) (Nat.le_of_ble_eq_true rfl) (by rfl) (fun _ _ _ _ h => h) ?_
    (try simp only [zs_,zl_])
    refine HQ.skip (i:=16) rfl (by kernel_rfl) (by kernel_rfl) (by kernel_rfl) (Nat.le_of_ble_eq_true rfl) (by rfl) (fun _ _ _ _ h => h) ?_
    (try simp only [zs_,zl_])
    refine zXL 17 ?_;(try simp only [zs_,zl_])
    refine HQ.end_ (by kernel_rfl) ?_
    simp only [List.drop_succ_cons,List.drop_zero]
    go_wp2
    go_ret
    exact ⟨by rw [HZ.out];rfl,M.out.ext⟩
   cases hsm : sameT RF.2 (endT x1)
   ·have HOV:=hid hov
    have HSM:=hid hsm
    have HZ : Hid (serOf x0 x1 = false):=ser_end HRO.out (by rw [HRF.out]) HRKE.out HLL.out HTA.out false (by rw [HRF.out,hov,hsm];simp)
    clear hov hsm
    go_wp2
    refine zRH M.out 18 ?_
    intro w' M'
    replace M:=hid M'
    clear M'
    refine zTL 0 ?_;intro K hK;((refine zDs 58 5 9 ?_;(try simp only [zr_,zm_]);go_big_quiet_on))
    refine zNy 1 (fun K hK => ?_)
    go_simp
    go_at_call 69
    refine (impl_Over x1 [.int .i64 x1.now_,.int .i64 x1.token_,.int .i64 x1.mem_.clock_,.slice A0 n0 c0,.slice A1 n1 c1,.int .i64 x1.shelf_.count_,.slice A2 n2 c2,.slice A3 n3 c3,.slice A4 n4 c4] _ _ (GWorld.R_good.ext HW0.out M.out.ext) HWW.out).mono ?_
    rintro e5 w5 ⟨rfl,x9⟩
    replace M:=hid (M.out.on x9)
    clear x9
    rw [HOV.out]
    refine hK.out _ _ (M.out) ?_
    clear hK K
    (try simp only [zs_,zl_])
    refine zXL 2 ?_;(try simp only [zs_,zl_])
    refine zXL 3 ?_;(try simp only [zs_,zl_])
    refine HQ.takeg (i:=4) rfl (by kernel_rfl) (by kernel_rfl) (by kernel_rfl) (Nat.le_of_ble_eq_true rfl) (by rfl) (fun _ _ _ _ h => h) ?_
    intro K hK
    ((refine zDs 42 0 3 ?_;(try simp only [zr_,zm_]);go_big_quiet_on))
    refine HQ.takeg (i:=5) rfl (by kernel_rfl) (by kernel_rfl) (by kernel_rfl) (Nat.le_of_ble_eq_true rfl) (by rfl) (fun _ _ _ _ h => h) ?_
    intro K hK
    ((refine zX ?_;(try simp only [zs_,zl_]);go_big_quiet_on))
    refine HQ.takeg (i:=6) rfl (by kernel_rfl) (by kernel_rfl) (by kernel_rfl) (Nat.le_of_ble_eq_true rfl) (by rfl) (fun _ _ _ _ h => h) ?_
    intro K hK
    ((refine zDs 52 5 2 ?_;(try simp only [zr_,zm_]);go_big_quiet_on))
    refine HQ.takeg (i:=8) rfl (by kernel_rfl) (by kernel_rfl) (by kernel_rfl) (Nat.le_of_ble_eq_true rfl) (by rfl) (fun _ _ _ _ h => h) ?_
    intro K hK
    ((refine zX ?_;(try simp only [zs_,zl_]);go_big_quiet_on))
    refine HQ.takeg (i:=9) rfl (by kernel_rfl) (by kernel_rfl) (by kernel_rfl) (Nat.le_of_ble_eq_true rfl) (by rfl) (fun _ _ _ _ h => h) ?_
    intro K hK
    ((refine zX ?_;(try simp only [zs_,zl_]);go_big_quiet_on))
    refine HQ.takeg (i:=10) rfl (by kernel_rfl) (by kernel_rfl) (by kernel_rfl) (Nat.le_of_ble_eq_true rfl) (by rfl) (fun _ _ _ _ h => h) ?_
    intro K hK
    ((refine zD 5 ?_;(try simp only [zr_,zm_]);go_big_quiet_on))
    refine HQ.takeg (i:=12) rfl (by kernel_rfl) (by kernel_rfl) (by kernel_rfl) (Nat.le_of_ble_eq_true rfl) (by rfl) (fun _ _ _ _ h => h) ?_
    intro K hK
    ((refine zX ?_;(try simp only [zs_,zl_]);go_big_quiet_on))
    refine HQ.takeg (i:=13) rfl (by kernel_rfl) (by kernel_rfl) (by kernel_rfl) (Nat.le_of_ble_eq_true rfl) (by rfl) (fun _ _ _ _ h => h) ?_
    intro K hK
    ((refine zX ?_;(try simp only [zs_,zl_]);go_big_quiet_on))
    refine HQ.takeg (i:=14) rfl (by kernel_rfl) (by kernel_rfl) (by kernel_rfl) (Nat.le_of_ble_eq_true rfl) (by rfl) (fun _ _ _ _ h => h) ?_
    intro K hK
    ((refine zD 5 ?_;(try simp only [zr_,zm_]);go_big_quiet_on))
    refine zNy 7 (fun K hK => ?_)
    rw [if_pos (by rfl)]
    go_simp
    go_at_call 71
    refine (impl_Values x1.mem_ A0 n0 c0 _ _ (HMEM.out.ext M.out.ext) hn0).mono ?_
    rintro e5 w5 ⟨BV,mv,dv,rfl,M4⟩
    replace M:=hid (M.out.call M4)
    simp only [List.cons_append,List.nil_append] at M
    clear M4
    refine hK.out _ _ (M.out.tail) ?_
    clear hK K
    (try simp only [zs_,zl_])
    refine zNy 11 (fun K hK => ?_)
    rw [if_pos (by rfl)]
    go_simp
    go_at_call 72
    refine (impl_MapOf A1 n1 c1 x1.shelf_.slots_ _ _ (HSHF.out.ext M.out.ext) hn1).mono ?_
    rintro e5 w5 ⟨BM,mq,dm,rfl,M4⟩
    replace M:=hid (M.out.call M4)
    simp only [List.cons_append,List.nil_append] at M
    clear M4
    refine hK.out _ _ (M.out.tail.tail) ?_
    clear hK K
    (try simp only [zs_,zl_])
    refine HQ.takeg (i:=15) rfl (by kernel_rfl) (by kernel_rfl) (by kernel_rfl) (Nat.le_of_ble_eq_true rfl) (by rfl) (fun _ _ _ _ h => h) ?_
    intro K hK
    ((refine zX ?_;(try simp only [zs_,zl_]);go_big_quiet_on))
    refine zNy 16 (fun K hK => ?_)
    rw [if_pos (by rfl)]
    go_simp
    go_at_call 70
    refine (impl_SameThings C9.1 P9.1 BV BM _ _ _ _ _ _ _ _ RF.2 (endT x1) _ (M.out.row_sl 4 rfl) (M.out.row_sl 5 rfl) (M.out.row_sl 1 rfl) (M.out.row_sl 0 rfl) ⟨M.out.row_le 4 rfl,M.out.row_le 5 rfl,M.out.row_le 1 rfl,M.out.row_le 0 rfl⟩).mono ?_
    rintro e5 w5 ⟨rfl,x9⟩
    replace M:=hid (M.out.on x9)
    clear x9
    rw [HSM.out]
    refine hK.out _ _ (M.out.tail.tail) ?_
    clear hK K
    (try simp only [zs_,zl_])
    refine zXL 17 ?_;(try simp only [zs_,zl_])
    refine HQ.end_ (by kernel_rfl) ?_
    simp only [List.drop_succ_cons,List.drop_zero]
    go_wp2
    go_ret
    exact ⟨by rw [HZ.out];rfl,M.out.ext⟩
   ·have HOV:=hid hov
    have HSM:=hid hsm
    have HZ : Hid (serOf x0 x1 = true):=ser_end HRO.out (by rw [HRF.out]) HRKE.out HLL.out HTA.out true (by rw [HRF.out,hov,hsm];simp)
    clear hov hsm
    go_wp2
    refine zRH M.out 18 ?_
    intro w' M'
    replace M:=hid M'
    clear M'
    refine zTL 0 ?_;intro K hK;((refine zDs 58 5 9 ?_;(try simp only [zr_,zm_]);go_big_quiet_on))
    refine zNy 1 (fun K hK => ?_)
    go_simp
    go_at_call 69
    refine (impl_Over x1 [.int .i64 x1.now_,.int .i64 x1.token_,.int .i64 x1.mem_.clock_,.slice A0 n0 c0,.slice A1 n1 c1,.int .i64 x1.shelf_.count_,.slice A2 n2 c2,.slice A3 n3 c3,.slice A4 n4 c4] _ _ (GWorld.R_good.ext HW0.out M.out.ext) HWW.out).mono ?_
    rintro e5 w5 ⟨rfl,x9⟩
    replace M:=hid (M.out.on x9)
    clear x9
    rw [HOV.out]
    refine hK.out _ _ (M.out) ?_
    clear hK K
    (try simp only [zs_,zl_])
    refine zXL 2 ?_;(try simp only [zs_,zl_])
    refine zXL 3 ?_;(try simp only [zs_,zl_])
    refine HQ.takeg (i:=4) rfl (by kernel_rfl) (by kernel_rfl) (by kernel_rfl) (Nat.le_of_ble_eq_true rfl) (by rfl) (fun _ _ _ _ h => h) ?_
    intro K hK
    ((refine zDs 42 0 3 ?_;(try simp only [zr_,zm_]);go_big_quiet_on))
    refine HQ.takeg (i:=5) rfl (by kernel_rfl) (by kernel_rfl) (by kernel_rfl) (Nat.le_of_ble_eq_true rfl) (by rfl) (fun _ _ _ _ h => h) ?_
    intro K hK
    ((refine zX ?_;(try simp only [zs_,zl_]);go_big_quiet_on))
    refine HQ.takeg (i:=6) rfl (by kernel_rfl) (by kernel_rfl) (by kernel_rfl) (Nat.le_of_ble_eq_true rfl) (by rfl) (fun _ _ _ _ h => h) ?_
    intro K hK
    ((refine zDs 52 5 2 ?_;(try simp only [zr_,zm_]);go_big_quiet_on))
    refine HQ.takeg (i:=8) rfl (by kernel_rfl) (by kernel_rfl) (by kernel_rfl) (Nat.le_of_ble_eq_true rfl) (by rfl) (fun _ _ _ _ h => h) ?_
    intro K hK
    ((refine zX ?_;(try simp only [zs_,zl_]);go_big_quiet_on))
    refine HQ.takeg (i:=9) rfl (by kernel_rfl) (by kernel_rfl) (by kernel_rfl) (Nat.le_of_ble_eq_true rfl) (by rfl) (fun _ _ _ _ h => h) ?_
    intro K hK
    ((refine zX ?_;(try simp only [zs_,zl_]);go_big_quiet_on))
    refine HQ.takeg (i:=10) rfl (by kernel_rfl) (by kernel_rfl) (by kernel_rfl) (Nat.le_of_ble_eq_true rfl) (by rfl) (fun _ _ _ _ h => h) ?_
    intro K hK
    ((refine zD 5 ?_;(try simp only [zr_,zm_]);go_big_quiet_on))
    refine HQ.takeg (i:=12) rfl (by kernel_rfl) (by kernel_rfl) (by kernel_rfl) (Nat.le_of_ble_eq_true rfl) (by rfl) (fun _ _ _ _ h => h) ?_
    intro K hK
    ((refine zX ?_;(try simp only [zs_,zl_]);go_big_quiet_on))
    refine HQ.takeg (i:=13) rfl (by kernel_rfl) (by kernel_rfl) (by kernel_rfl) (Nat.le_of_ble_eq_true rfl) (by rfl) (fun _ _ _ _ h => h) ?_
    intro K hK
    ((refine zX ?_;(try simp only [zs_,zl_]);go_big_quiet_on))
    refine HQ.takeg (i:=14) rfl (by kernel_rfl) (by kernel_rfl) (by kernel_rfl) (Nat.le_of_ble_eq_true rfl) (by rfl) (fun _ _ _ _ h => h) ?_
    intro K hK
    ((refine zD 5 ?_;(try simp only [zr_,zm_]);go_big_quiet_on))
    refine zNy 7 (fun K hK => ?_)
    rw [if_pos (by rfl)]
    go_simp
    go_at_call 71
    refine (impl_Values x1.mem_ A0 n0 c0 _ _ (HMEM.out.ext M.out.ext) hn0).mono ?_
    rintro e5 w5 ⟨BV,mv,dv,rfl,M4⟩
    replace M:=hid (M.out.call M4)
    simp only [List.cons_append,List.nil_append] at M
    clear M4
    refine hK.out _ _ (M.out.tail) ?_
    clear hK K
    (try simp only [zs_,zl_])
    refine zNy 11 (fun K hK => ?_)
    rw [if_pos (by rfl)]
    go_simp
    go_at_call 72
    refine (impl_MapOf A1 n1 c1 x1.shelf_.slots_ _ _ (HSHF.out.ext M.out.ext) hn1).mono ?_
    rintro e5 w5 ⟨BM,mq,dm,rfl,M4⟩
    replace M:=hid (M.out.call M4)
    simp only [List.cons_append,List.nil_append] at M
    clear M4
    refine hK.out _ _ (M.out.tail.tail) ?_
    clear hK K
    (try simp only [zs_,zl_])
    refine HQ.takeg (i:=15) rfl (by kernel_rfl) (by kernel_rfl) (by kernel_rfl) (Nat.le_of_ble_eq_true rfl) (by rfl) (fun _ _ _ _ h => h) ?_
    intro K hK
    ((refine zX ?_;(try simp only [zs_,zl_]);go_big_quiet_on))
    refine zNy 16 (fun K hK => ?_)
    rw [if_pos (by rfl)]
    go_simp
    go_at_call 70
    refine (impl_SameThings C9.1 P9.1 BV BM _ _ _ _ _ _ _ _ RF.2 (endT x1) _ (M.out.row_sl 4 rfl) (M.out.row_sl 5 rfl) (M.out.row_sl 1 rfl) (M.out.row_sl 0 rfl) ⟨M.out.row_le 4 rfl,M.out.row_le 5 rfl,M.out.row_le 1 rfl,M.out.row_le 0 rfl⟩).mono ?_
    rintro e5 w5 ⟨rfl,x9⟩
    replace M:=hid (M.out.on x9)
    clear x9
    rw [HSM.out]
    refine hK.out _ _ (M.out.tail.tail) ?_
    clear hK K
    (try simp only [zs_,zl_])
    refine zXL 17 ?_;(try simp only [zs_,zl_])
    refine HQ.end_ (by kernel_rfl) ?_
    simp only [List.drop_succ_cons,List.drop_zero]
    go_wp2
    go_ret
    exact ⟨by rw [HZ.out];rfl,M.out.ext⟩
  have HLT : Hid (q < m9):=by show _ < _;omega
  obtain ⟨kv,hkv⟩ : ∃ k,rk[q]? = some k:=⟨_,List.getElem?_eq_getElem (by have:=HLT.out;rw [HRM.out];exact this)⟩
  obtain ⟨k,hk3,rfl⟩:=ranks_ix (x:=x1) (by rw [HRKE.out];exact hkv)
  rw [HRL.out] at hk3
  have hki : (k : Int) < (n3 : Int):=by omega
  have HKV:=hid hkv
  have HKX : Hid ((ints rk)[q]? = some (.int .i64 (k : Int))):=by show (ints rk)[q]? = _;unfold ints;rw [List.getElem?_map,hkv];rfl
  clear hkv
  obtain ⟨b3,o3,rfl⟩:=HRT.out.addr (by omega)
  obtain ⟨r,row,hrx,hrb,hrw,hrl,hrg⟩:=root_at HRT.out hk3
  obtain ⟨K0,kn0,kc0,f12,hkc,hks,f7⟩:=Root.at12 hrw
  have HROOT:=hid (rootAt_is hrx)
  have hrwt:=HRWT.out r (List.mem_of_getElem? hrx)
  have hkl:=hks.len
  have hkn0 : kn0 ≤ 1048576:=by omega
  have HRW:=hid hrw
  have HRLN:=hid hrl
  have HRG:=hid hrg
  have HRB:=hid hrb
  have HKS:=hid hks
  have t7 : row.toArray[7]? = some (.int .i64 r.fate_):=by simpa using f7
  have t12 : row.toArray[12]? = some (.slice K0 kn0 kc0):=by simpa using f12
  have HF7 : Hid (w.cell? ⟨b3,o3 + k * 40 + 7,none⟩ = some (.int .i64 r.fate_) ∧ b3 < w.heap.size):=⟨hrg 7 _ f7,hrb⟩
  have HF12 : Hid (w.cell? ⟨b3,o3 + k * 40 + 12,none⟩ = some (.slice K0 kn0 kc0) ∧ b3 < w.heap.size):=⟨hrg 12 _ f12,hrb⟩
  clear hrx hrb hrw hrl hrg f12 f7 hks hrwt hkl hkc
  obtain ⟨ee,hee⟩ : ∃ ee,es[q]? = some ee:=⟨_,List.getElem?_eq_getElem (by have:=HLT.out;rw [HEL.out];exact this)⟩
  obtain ⟨hc0,hc1⟩:=run_cell hee
  have HEE:=hid hee
  have HER : Hid (RF.1[q]? = some ee.x):=by show _ = _;rw [← HE1.out,List.getElem?_map,hee];rfl
  have HC0:=hid hc0
  have HC1:=hid hc1
  clear hee hc0 hc1
  obtain ⟨gU,rfl⟩:=M.out.addr 1 rfl (by omega)
  obtain ⟨gK,rfl⟩:=M.out.addr 4 rfl (by omega)
  by_cases ho : ee.x.out_ = r.fate_
  rotate_left
  ·have bo : (ee.x.out_ != r.fate_) = true:=by simpa using ho
   have HZ : Hid (serOf x0 x1 = false):=ser_not (by rw [HRF.out]) HRKE.out (by have:=HLT.out;rw [HRM.out];exact this) HKV.out HER.out HROOT.out (fun z => ho z.1)
   clear ho
   go_wp2_with (((with_reducible refine zN ?_);first|(refine Mine.wp_getr M.out rfl _ _ rfl 4 _ rfl rfl _ (by exact HKX.out) _ (by first|exact Tryz.underlying3) (by rfl) ?_;(try simp only [zr_,zm_]))))
   refine zRQ M.out ?_
   repeat (first|go_big_quiet_skip|(go_big_quiet_want;first|((first|refine Mine.oq_getr _ _ rfl 1 _ rfl rfl _ (by first|exact HC0.out|exact HC1.out) _ (by first|exact Tryz.underlying3|exact Tryz.underlying22) (by rfl) ?_|refine zQ 5 ?_|refine Mine.oq_arg 3 _ rfl _ _ HF7.out rfl _ Tryz.underlying3 (by rfl) ?_);(try simp only [zr_,zm_]);go_big_quiet_on)|(unfold Oper.quiet;apply Exists.intro;refine ⟨fun wq hq => ?_,?_⟩;(clear hq;go_simp;first|done|rfl|exact ⟨rfl,rfl⟩);(try simp only [zs_,zl_]);go_big_quiet_on)))
   refine wpQuiet_nil ?_
   intro w' M'
   replace M:=hid M'
   clear M'
   go_wp2
   go_ret
   exact ⟨by rw [HZ.out];rfl,M.out.ext⟩
  have bo : (ee.x.out_ != r.fate_) = false:=by simpa using ho
  have HOE:=hid ho
  clear ho
  cases hd : dec (ee.x.regs_ = r.regs_)
  ·have HDR:=hid hd
   have HZ : Hid (serOf x0 x1 = false):=ser_not (by rw [HRF.out]) HRKE.out (by have:=HLT.out;rw [HRM.out];exact this) HKV.out HER.out HROOT.out (fun z => by rw [dec_yes z.2] at hd;cases hd)
   clear hd
   go_wp2_with (((with_reducible refine zN ?_);first|(refine Mine.wp_getr M.out rfl _ _ rfl 4 _ rfl rfl _ (by exact HKX.out) _ (by first|exact Tryz.underlying3) (by rfl) ?_;(try simp only [zr_,zm_]))))
   refine zRQ M.out ?_
   repeat (first|go_big_quiet_skip|(go_big_quiet_want;first|((first|refine Mine.oq_getr _ _ rfl 1 _ rfl rfl _ (by first|exact HC0.out|exact HC1.out) _ (by first|exact Tryz.underlying3|exact Tryz.underlying22) (by rfl) ?_|refine zQ 5 ?_|refine Mine.oq_arg 3 _ rfl _ _ HF7.out rfl _ Tryz.underlying3 (by rfl) ?_|refine Mine.oq_arg 22 _ rfl _ _ HF12.out rfl _ Tryz.underlying22 (by rfl) ?_);(try simp only [zr_,zm_]);go_big_quiet_on)|(unfold Oper.quiet;apply Exists.intro;refine ⟨fun wq hq => ?_,?_⟩;(go_simp;go_at_call 68;(with_reducible refine (equal_any _ K0 _ _ _ _ ee.x.regs_ r.regs_ _ _ _ (run_regs hq (fun z hz => (List.mem_cons_of_mem _ (List.mem_cons_of_mem _ (List.mem_cons_of_mem _ (List.mem_cons_of_mem _ (List.mem_cons_of_mem _ (List.mem_cons_of_mem _ (List.mem_cons_of_mem _ hz)))))))) HEE.out) (HKS.out.ext hq.ext) (run_rle hq (fun z hz => (List.mem_cons_of_mem _ (List.mem_cons_of_mem _ (List.mem_cons_of_mem _ (List.mem_cons_of_mem _ (List.mem_cons_of_mem _ (List.mem_cons_of_mem _ (List.mem_cons_of_mem _ hz)))))))) HEE.out) (by omega)).mono ?_);rintro e5 w2 ⟨rfl,x2⟩;exact ⟨rfl,hq.on x2⟩);(try rw [HDR.out]);(try simp only [zs_,zl_]);go_big_quiet_on)|(unfold Oper.quiet;apply Exists.intro;refine ⟨fun wq hq => ?_,?_⟩;(clear hq;go_simp;first|done|rfl|exact ⟨rfl,rfl⟩);(try simp only [zs_,zl_]);go_big_quiet_on)))
   refine wpQuiet_nil ?_
   intro w' M'
   replace M:=hid M'
   clear M'
   go_wp2
   go_ret
   exact ⟨by rw [HZ.out];rfl,M.out.ext⟩
  have HDR:=hid hd
  have HRE:=hid (dec_true hd)
  clear hd
  go_wp2_with (((with_reducible refine zN ?_);first|(refine Mine.wp_getr M.out rfl _ _ rfl 4 _ rfl rfl _ (by exact HKX.out) _ (by first|exact Tryz.underlying3) (by rfl) ?_;(try simp only [zr_,zm_]))))
  refine zRQ M.out ?_
  repeat (first|go_big_quiet_skip|(go_big_quiet_want;first|((first|refine Mine.oq_getr _ _ rfl 1 _ rfl rfl _ (by first|exact HC0.out|exact HC1.out) _ (by first|exact Tryz.underlying3|exact Tryz.underlying22) (by rfl) ?_|refine zQ 5 ?_|refine Mine.oq_arg 3 _ rfl _ _ HF7.out rfl _ Tryz.underlying3 (by rfl) ?_|refine Mine.oq_arg 22 _ rfl _ _ HF12.out rfl _ Tryz.underlying22 (by rfl) ?_);(try simp only [zr_,zm_]);go_big_quiet_on)|(unfold Oper.quiet;apply Exists.intro;refine ⟨fun wq hq => ?_,?_⟩;(go_simp;go_at_call 68;(with_reducible refine (equal_any _ K0 _ _ _ _ ee.x.regs_ r.regs_ _ _ _ (run_regs hq (fun z hz => (List.mem_cons_of_mem _ (List.mem_cons_of_mem _ (List.mem_cons_of_mem _ (List.mem_cons_of_mem _ (List.mem_cons_of_mem _ (List.mem_cons_of_mem _ (List.mem_cons_of_mem _ hz)))))))) HEE.out) (HKS.out.ext hq.ext) (run_rle hq (fun z hz => (List.mem_cons_of_mem _ (List.mem_cons_of_mem _ (List.mem_cons_of_mem _ (List.mem_cons_of_mem _ (List.mem_cons_of_mem _ (List.mem_cons_of_mem _ (List.mem_cons_of_mem _ hz)))))))) HEE.out) (by omega)).mono ?_);rintro e5 w2 ⟨rfl,x2⟩;exact ⟨rfl,hq.on x2⟩);(try rw [HDR.out]);(try simp only [zs_,zl_]);go_big_quiet_on)|(unfold Oper.quiet;apply Exists.intro;refine ⟨fun wq hq => ?_,?_⟩;(clear hq;go_simp;first|done|rfl|exact ⟨rfl,rfl⟩);(try simp only [zs_,zl_]);go_big_quiet_on)))
  refine wpQuiet_nil ?_
  intro w' M'
  replace M:=hid M'
  clear M'
  go_wp2
  go_roundw
  case rel => exact ⟨q + 1,HLT.out,by go_num,HT.out.next HKV.out HER.out HROOT.out HOE.out HRE.out,M⟩
  case measure => have:=HLT.out;simp [intOf];omega

end Go.Proofs.YtoegjiigaoanbaaGreat
namespace Go.Proofs.YtoegjiigaoanbaaGreat
open Go.RowKit Go.Deep
set_option linter.unnecessarySimpa false
set_option maxHeartbeats 400000000
open Go.Lib (hid)
set_option linter.unusedSimpArgs false
set_option linter.unusedVariables false
set_option linter.unnecessarySimpa false
set_option maxHeartbeats 400000000
theorem spec_SerializedR (x0 : Script) (cs0 : List Value) (x1 : GWorld) (cs1 : List Value) (w : World) (S0 : Nat → Prop) (h0 : Script.R w S0 cs0 x0) (hw0 : Script.wt x0 ≤ 1048576) (S1 : Nat → Prop) (h1 : GWorld.R w S1 cs1 x1) (hw1 : GWorld.wt x1 ≤ 1048576) :
  Calls Tryz.prog 21 #[.agg cs0.toArray,.agg cs1.toArray] w fun e w' => e = .returned (.bool (serOf x0 x1)) ∧ Ext w w' :=
 spec_Serialized x0 cs0 x1 cs1 w (Script.R_good.mono h0 fun _ _ => trivial) hw0 (GWorld.R_good.mono h1 fun _ _ => trivial) hw1
theorem impl_SerializedR (x0 : Script) (cs0 : List Value) (x1 : GWorld) (cs1 : List Value) (w : World) (S0 : Nat → Prop) (h0 : Script.R w S0 cs0 x0) (hw0 : Script.wt x0 ≤ 1048576) (S1 : Nat → Prop) (h1 : GWorld.R w S1 cs1 x1) (hw1 : GWorld.wt x1 ≤ 1048576) :
  Calls Tryz.prog 22 #[.agg cs0.toArray,.agg cs1.toArray] w fun e w' => e = .returned (.bool (serOf x0 x1)) ∧ Ext w w' :=
 impl_Serialized x0 cs0 x1 cs1 w (Script.R_good.mono h0 fun _ _ => trivial) hw0 (GWorld.R_good.mono h1 fun _ _ => trivial) hw1

set_option maxRecDepth 8000 in
theorem law_Serialized (x0 : Script) (cs0 : List Value) (x1 : GWorld) (cs1 : List Value) (w : World) (h0 : Script.R w (fun _ => True) cs0 x0) (h1 : GWorld.R w (fun _ => True) cs1 x1) :
  Calls Tryz.prog 4 #[.agg cs0.toArray,.agg cs1.toArray] w fun e w' => e = .returned (.bool true) ∧ Ext w w':=by
 have H0:=hid h0
 obtain ⟨A0_0,n0_0,c0_0,A0_1,n0_1,c0_1,A0_2,n0_2,c0_2,A0_3,n0_3,c0_3,rfl⟩:=Script.R_cells h0
 clear h0
 have H1:=hid h1
 obtain ⟨A1_0,n1_0,c1_0,A1_1,n1_1,c1_1,A1_2,n1_2,c1_2,A1_3,n1_3,c1_3,A1_4,n1_4,c1_4,rfl⟩:=GWorld.R_cells h1
 clear h1
 show Calls Tryz.prog _ #[.agg #[.slice A0_0 n0_0 c0_0,.slice A0_1 n0_1 c0_1,.int .i64 x0.start_.count_,.slice A0_2 n0_2 c0_2,.slice A0_3 n0_3 c0_3],.agg #[.int .i64 x1.now_,.int .i64 x1.token_,.int .i64 x1.mem_.clock_,.slice A1_0 n1_0 c1_0,.slice A1_1 n1_1 c1_1,.int .i64 x1.shelf_.count_,.slice A1_2 n1_2 c1_2,.slice A1_3 n1_3 c1_3,.slice A1_4 n1_4 c1_4]] w _
 go_enter Tryz.func4,Tryz.ntmps4
 go_wp2_with fail
 refine (szScript_any x0 _ (1048576 : Int) _ _ (Script.R_good.ext H0.out (((Ext.refl' w).al _).al _)) (by omega) (by omega)).mono ?_
 rintro e w1 ⟨r0,rfl,Q0,xw1⟩
 replace Q0:=hid Q0
 have ba0 : Hid (Bx w1 (w.heap.size) 28 #[.slice A0_0 n0_0 c0_0,.slice A0_1 n0_1 c0_1,.int .i64 x0.start_.count_,.slice A0_2 n0_2 c0_2,.slice A0_3 n0_3 c0_3]):=Bx.ext ((Bx.new' _ _ _ rfl).al _) xw1
 have ba1 : Hid (Bx w1 (w.heap.size + 1) 38 #[.int .i64 x1.now_,.int .i64 x1.token_,.int .i64 x1.mem_.clock_,.slice A1_0 n1_0 c1_0,.slice A1_1 n1_1 c1_1,.int .i64 x1.shelf_.count_,.slice A1_2 n1_2 c1_2,.slice A1_3 n1_3 c1_3,.slice A1_4 n1_4 c1_4]):=Bx.ext (Bx.new' _ _ _ (by simp)) xw1
 have X1 : Hid (Ext w w1):=(((Ext.refl' w).al _).al _).tr xw1
 clear xw1
 by_cases g0 : 0 ≤ r0
 rotate_left
 ·have e0 : r0 = -1:=by have a:=Q0.out;unfold Left at a;omega
  subst e0
  clear g0
  go_wp2
  go_ret
  exact ⟨rfl,(X1.out.tr (Ext.refl' w1))⟩
 have N0 : Script.wt x0 ≤ 1048576:=by have a:=Q0.out;unfold Left at a;omega
 have u0 : r0 ≤ 1048576:=by have a:=Q0.out;unfold Left at a;omega
 have ea1_0 : w1.cell? ⟨w.heap.size + 1,0,none⟩ = some (.int .i64 x1.now_):=ba1.out.cell 0
 have ea1_1 : w1.cell? ⟨w.heap.size + 1,1,none⟩ = some (.int .i64 x1.token_):=ba1.out.cell 1
 have ea1_2 : w1.cell? ⟨w.heap.size + 1,2,none⟩ = some (.int .i64 x1.mem_.clock_):=ba1.out.cell 2
 have ea1_3 : w1.cell? ⟨w.heap.size + 1,3,none⟩ = some (.slice A1_0 n1_0 c1_0):=ba1.out.cell 3
 have ea1_4 : w1.cell? ⟨w.heap.size + 1,4,none⟩ = some (.slice A1_1 n1_1 c1_1):=ba1.out.cell 4
 have ea1_5 : w1.cell? ⟨w.heap.size + 1,5,none⟩ = some (.int .i64 x1.shelf_.count_):=ba1.out.cell 5
 have ea1_6 : w1.cell? ⟨w.heap.size + 1,6,none⟩ = some (.slice A1_2 n1_2 c1_2):=ba1.out.cell 6
 have ea1_7 : w1.cell? ⟨w.heap.size + 1,7,none⟩ = some (.slice A1_3 n1_3 c1_3):=ba1.out.cell 7
 have ea1_8 : w1.cell? ⟨w.heap.size + 1,8,none⟩ = some (.slice A1_4 n1_4 c1_4):=ba1.out.cell 8
 go_wp2_with fail
 refine (szGWorld_any x1 _ r0 _ _ (GWorld.R_good.ext H1.out (X1.out.tr (Ext.refl' w1))) g0 u0).mono ?_
 rintro e w2 ⟨r1,rfl,Q1,xw2⟩
 replace Q1:=hid Q1
 clear ea1_0 ea1_1 ea1_2 ea1_3 ea1_4 ea1_5 ea1_6 ea1_7 ea1_8
 replace ba0:=hid (ba0.out.ext (Ext.tr (Ext.refl' w1) xw2))
 replace ba1:=hid (ba1.out.ext (Ext.tr (Ext.refl' w1) xw2))
 have X2 : Hid (Ext w w2):=(X1.out.tr (Ext.refl' w1)).tr xw2
 clear xw2
 by_cases g1 : 0 ≤ r1
 rotate_left
 ·have e1 : r1 = -1:=by have a:=Q1.out;unfold Left at a;omega
  subst e1
  clear g1
  go_wp2
  go_ret
  exact ⟨rfl,(X2.out.tr (Ext.refl' w2))⟩
 have N1 : GWorld.wt x1 ≤ 1048576:=by have a:=Q1.out;unfold Left at a;omega
 have u1 : r1 ≤ 1048576:=by have a:=Q1.out;unfold Left at a;omega
 have ea0_0 : w2.cell? ⟨w.heap.size,0,none⟩ = some (.slice A0_0 n0_0 c0_0):=ba0.out.cell 0
 have ea0_1 : w2.cell? ⟨w.heap.size,1,none⟩ = some (.slice A0_1 n0_1 c0_1):=ba0.out.cell 1
 have ea0_2 : w2.cell? ⟨w.heap.size,2,none⟩ = some (.int .i64 x0.start_.count_):=ba0.out.cell 2
 have ea0_3 : w2.cell? ⟨w.heap.size,3,none⟩ = some (.slice A0_2 n0_2 c0_2):=ba0.out.cell 3
 have ea0_4 : w2.cell? ⟨w.heap.size,4,none⟩ = some (.slice A0_3 n0_3 c0_3):=ba0.out.cell 4
 have ea1_0 : w2.cell? ⟨w.heap.size + 1,0,none⟩ = some (.int .i64 x1.now_):=ba1.out.cell 0
 have ea1_1 : w2.cell? ⟨w.heap.size + 1,1,none⟩ = some (.int .i64 x1.token_):=ba1.out.cell 1
 have ea1_2 : w2.cell? ⟨w.heap.size + 1,2,none⟩ = some (.int .i64 x1.mem_.clock_):=ba1.out.cell 2
 have ea1_3 : w2.cell? ⟨w.heap.size + 1,3,none⟩ = some (.slice A1_0 n1_0 c1_0):=ba1.out.cell 3
 have ea1_4 : w2.cell? ⟨w.heap.size + 1,4,none⟩ = some (.slice A1_1 n1_1 c1_1):=ba1.out.cell 4
 have ea1_5 : w2.cell? ⟨w.heap.size + 1,5,none⟩ = some (.int .i64 x1.shelf_.count_):=ba1.out.cell 5
 have ea1_6 : w2.cell? ⟨w.heap.size + 1,6,none⟩ = some (.slice A1_2 n1_2 c1_2):=ba1.out.cell 6
 have ea1_7 : w2.cell? ⟨w.heap.size + 1,7,none⟩ = some (.slice A1_3 n1_3 c1_3):=ba1.out.cell 7
 have ea1_8 : w2.cell? ⟨w.heap.size + 1,8,none⟩ = some (.slice A1_4 n1_4 c1_4):=ba1.out.cell 8
 go_wp2_with fail
 go_region_with (first|(go_at_call 8;refine (toScript_any x0 _ _ _ (Script.R_good.ext H0.out (X2.out.tr ((Ext.refl' w2).dr))) N0).mono ?_;rintro e w3 ⟨cv,rfl,o3,x3⟩;replace o3:=hid o3;obtain ⟨B3_0,p3_0,d3_0,B3_1,p3_1,d3_1,B3_2,p3_2,d3_2,B3_3,p3_3,d3_3,rfl⟩:=Script.W_cells o3.out;have bq : Hid (Bx w3 (w.heap.size + 1) 38 #[.int .i64 x1.now_,.int .i64 x1.token_,.int .i64 x1.mem_.clock_,.slice A1_0 n1_0 c1_0,.slice A1_1 n1_1 c1_1,.int .i64 x1.shelf_.count_,.slice A1_2 n1_2 c1_2,.slice A1_3 n1_3 c1_3,.slice A1_4 n1_4 c1_4]):=Bx.ext ((ba1.out.ext ((Ext.refl' w2).dr))) x3;have eq_0 : w3.cell? ⟨w.heap.size + 1,0,none⟩ = some (.int .i64 x1.now_):=bq.out.cell 0;have eq_1 : w3.cell? ⟨w.heap.size + 1,1,none⟩ = some (.int .i64 x1.token_):=bq.out.cell 1;have eq_2 : w3.cell? ⟨w.heap.size + 1,2,none⟩ = some (.int .i64 x1.mem_.clock_):=bq.out.cell 2;have eq_3 : w3.cell? ⟨w.heap.size + 1,3,none⟩ = some (.slice A1_0 n1_0 c1_0):=bq.out.cell 3;have eq_4 : w3.cell? ⟨w.heap.size + 1,4,none⟩ = some (.slice A1_1 n1_1 c1_1):=bq.out.cell 4;have eq_5 : w3.cell? ⟨w.heap.size + 1,5,none⟩ = some (.int .i64 x1.shelf_.count_):=bq.out.cell 5;have eq_6 : w3.cell? ⟨w.heap.size + 1,6,none⟩ = some (.slice A1_2 n1_2 c1_2):=bq.out.cell 6;have eq_7 : w3.cell? ⟨w.heap.size + 1,7,none⟩ = some (.slice A1_3 n1_3 c1_3):=bq.out.cell 7;have eq_8 : w3.cell? ⟨w.heap.size + 1,8,none⟩ = some (.slice A1_4 n1_4 c1_4):=bq.out.cell 8)|(go_at_call 9;refine (toGWorld_any x1 _ _ _ (GWorld.R_good.ext H1.out (Ext.tr ((X2.out.tr ((Ext.refl' w2).dr))) x3)) N1).mono ?_;rintro e w4 ⟨cv,rfl,o4,x4⟩;replace o4:=hid o4;obtain ⟨B4_0,p4_0,d4_0,B4_1,p4_1,d4_1,B4_2,p4_2,d4_2,B4_3,p4_3,d4_3,B4_4,p4_4,d4_4,rfl⟩:=GWorld.W_cells o4.out)|(go_at_call 21;refine (spec_SerializedR x0 _ x1 _ _ _ (Script.W_R (Script.W_good.ext o3.out x4)) N0 _ (GWorld.W_R o4.out) N1).mono ?_;rintro e w5 ⟨rfl,x5⟩))
 all_goals
  clear bq eq_0 eq_1 eq_2 eq_3 eq_4 eq_5 eq_6 eq_7 eq_8
  replace x5:=Ext.tr (Ext.tr x3 x4) x5
  clear o3 o4
  clear ea0_0 ea0_1 ea0_2 ea0_3 ea0_4 ea1_0 ea1_1 ea1_2 ea1_3 ea1_4 ea1_5 ea1_6 ea1_7 ea1_8
  replace ba0:=hid (ba0.out.ext (Ext.tr ((Ext.refl' w2).dr) x5))
  replace ba1:=hid (ba1.out.ext (Ext.tr ((Ext.refl' w2).dr) x5))
  have X5 : Hid (Ext w w5):=(X2.out.tr ((Ext.refl' w2).dr)).tr x5
  clear x5
  have ea0_0 : w5.cell? ⟨w.heap.size,0,none⟩ = some (.slice A0_0 n0_0 c0_0):=ba0.out.cell 0
  have ea0_1 : w5.cell? ⟨w.heap.size,1,none⟩ = some (.slice A0_1 n0_1 c0_1):=ba0.out.cell 1
  have ea0_2 : w5.cell? ⟨w.heap.size,2,none⟩ = some (.int .i64 x0.start_.count_):=ba0.out.cell 2
  have ea0_3 : w5.cell? ⟨w.heap.size,3,none⟩ = some (.slice A0_2 n0_2 c0_2):=ba0.out.cell 3
  have ea0_4 : w5.cell? ⟨w.heap.size,4,none⟩ = some (.slice A0_3 n0_3 c0_3):=ba0.out.cell 4
  go_wp2_with fail
  refine (toScript_any x0 _ _ _ (Script.R_good.ext H0.out (X5.out.tr (Ext.refl' w5))) N0).mono ?_
  rintro e w6 ⟨cv,rfl,o6,x6⟩
  replace o6:=hid o6
  obtain ⟨B6_0,p6_0,d6_0,B6_1,p6_1,d6_1,B6_2,p6_2,d6_2,B6_3,p6_3,d6_3,rfl⟩:=Script.W_cells o6.out
  clear ea0_0 ea0_1 ea0_2 ea0_3 ea0_4
  replace ba0:=hid (ba0.out.ext (Ext.tr (Ext.refl' w5) x6))
  replace ba1:=hid (ba1.out.ext (Ext.tr (Ext.refl' w5) x6))
  have X6 : Hid (Ext w w6):=(X5.out.tr (Ext.refl' w5)).tr x6
  clear x6
  have la1 : w.heap.size + 1 < w6.heap.size:=ba1.out.lt
  have ea1_0 : w6.cell? ⟨w.heap.size + 1,0,none⟩ = some (.int .i64 x1.now_):=ba1.out.cell 0
  have ea1_1 : w6.cell? ⟨w.heap.size + 1,1,none⟩ = some (.int .i64 x1.token_):=ba1.out.cell 1
  have ea1_2 : w6.cell? ⟨w.heap.size + 1,2,none⟩ = some (.int .i64 x1.mem_.clock_):=ba1.out.cell 2
  have ea1_3 : w6.cell? ⟨w.heap.size + 1,3,none⟩ = some (.slice A1_0 n1_0 c1_0):=ba1.out.cell 3
  have ea1_4 : w6.cell? ⟨w.heap.size + 1,4,none⟩ = some (.slice A1_1 n1_1 c1_1):=ba1.out.cell 4
  have ea1_5 : w6.cell? ⟨w.heap.size + 1,5,none⟩ = some (.int .i64 x1.shelf_.count_):=ba1.out.cell 5
  have ea1_6 : w6.cell? ⟨w.heap.size + 1,6,none⟩ = some (.slice A1_2 n1_2 c1_2):=ba1.out.cell 6
  have ea1_7 : w6.cell? ⟨w.heap.size + 1,7,none⟩ = some (.slice A1_3 n1_3 c1_3):=ba1.out.cell 7
  have ea1_8 : w6.cell? ⟨w.heap.size + 1,8,none⟩ = some (.slice A1_4 n1_4 c1_4):=ba1.out.cell 8
  go_wp2_with fail
  refine (toGWorld_any x1 _ _ _ (GWorld.R_good.ext H1.out (X6.out.tr ((Ext.refl' w6).al _))) N1).mono ?_
  rintro e w7 ⟨cv,rfl,o7,x7⟩
  replace o7:=hid o7
  obtain ⟨B7_0,p7_0,d7_0,B7_1,p7_1,d7_1,B7_2,p7_2,d7_2,B7_3,p7_3,d7_3,B7_4,p7_4,d7_4,rfl⟩:=GWorld.W_cells o7.out
  clear la1 ea1_0 ea1_1 ea1_2 ea1_3 ea1_4 ea1_5 ea1_6 ea1_7 ea1_8
  replace ba0:=hid (ba0.out.ext (Ext.tr ((Ext.refl' w6).al _) x7))
  replace ba1:=hid (ba1.out.ext (Ext.tr ((Ext.refl' w6).al _) x7))
  have bx0 : Hid (Bx w7 (w6.heap.size) 48 #[.slice B6_0 p6_0 d6_0,.slice B6_1 p6_1 d6_1,.int .i64 x0.start_.count_,.slice B6_2 p6_2 d6_2,.slice B6_3 p6_3 d6_3]):=Bx.ext (Bx.new' _ _ _ rfl) x7
  replace o6:=hid (Script.W_good.ext o6.out (Ext.tr ((Ext.refl' w6).al _) x7))
  have X7 : Hid (Ext w w7):=(X6.out.tr ((Ext.refl' w6).al _)).tr x7
  clear x7
  have lx0 : w6.heap.size < w7.heap.size:=bx0.out.lt
  have ex0_0 : w7.cell? ⟨w6.heap.size,0,none⟩ = some (.slice B6_0 p6_0 d6_0):=bx0.out.cell 0
  have ex0_1 : w7.cell? ⟨w6.heap.size,1,none⟩ = some (.slice B6_1 p6_1 d6_1):=bx0.out.cell 1
  have ex0_2 : w7.cell? ⟨w6.heap.size,2,none⟩ = some (.int .i64 x0.start_.count_):=bx0.out.cell 2
  have ex0_3 : w7.cell? ⟨w6.heap.size,3,none⟩ = some (.slice B6_2 p6_2 d6_2):=bx0.out.cell 3
  have ex0_4 : w7.cell? ⟨w6.heap.size,4,none⟩ = some (.slice B6_3 p6_3 d6_3):=bx0.out.cell 4
  go_wp2_with fail
  refine (impl_SerializedR x0 _ x1 _ _ _ (Script.W_R (Script.W_good.ext o6.out ((Ext.refl' w7).al _))) N0 _ (GWorld.W_R (GWorld.W_good.ext o7.out ((Ext.refl' w7).al _))) N1).mono ?_
  rintro e w8 ⟨rfl,x8⟩
  clear lx0 ex0_0 ex0_1 ex0_2 ex0_3 ex0_4
  replace ba0:=hid (ba0.out.ext (Ext.tr ((Ext.refl' w7).al _) x8))
  replace ba1:=hid (ba1.out.ext (Ext.tr ((Ext.refl' w7).al _) x8))
  replace bx0:=hid (bx0.out.ext (Ext.tr ((Ext.refl' w7).al _) x8))
  have bx1 : Hid (Bx w8 (w7.heap.size) 58 #[.int .i64 x1.now_,.int .i64 x1.token_,.int .i64 x1.mem_.clock_,.slice B7_0 p7_0 d7_0,.slice B7_1 p7_1 d7_1,.int .i64 x1.shelf_.count_,.slice B7_2 p7_2 d7_2,.slice B7_3 p7_3 d7_3,.slice B7_4 p7_4 d7_4]):=Bx.ext (Bx.new' _ _ _ rfl) x8
  replace o6:=hid (Script.W_good.ext o6.out (Ext.tr ((Ext.refl' w7).al _) x8))
  replace o7:=hid (GWorld.W_good.ext o7.out (Ext.tr ((Ext.refl' w7).al _) x8))
  have X8 : Hid (Ext w w8):=(X7.out.tr ((Ext.refl' w7).al _)).tr x8
  clear x8
  have ex0_0 : w8.cell? ⟨w6.heap.size,0,none⟩ = some (.slice B6_0 p6_0 d6_0):=bx0.out.cell 0
  have ex0_1 : w8.cell? ⟨w6.heap.size,1,none⟩ = some (.slice B6_1 p6_1 d6_1):=bx0.out.cell 1
  have ex0_2 : w8.cell? ⟨w6.heap.size,2,none⟩ = some (.int .i64 x0.start_.count_):=bx0.out.cell 2
  have ex0_3 : w8.cell? ⟨w6.heap.size,3,none⟩ = some (.slice B6_2 p6_2 d6_2):=bx0.out.cell 3
  have ex0_4 : w8.cell? ⟨w6.heap.size,4,none⟩ = some (.slice B6_3 p6_3 d6_3):=bx0.out.cell 4
  have ea0_0 : w8.cell? ⟨w.heap.size,0,none⟩ = some (.slice A0_0 n0_0 c0_0):=ba0.out.cell 0
  have ea0_1 : w8.cell? ⟨w.heap.size,1,none⟩ = some (.slice A0_1 n0_1 c0_1):=ba0.out.cell 1
  have ea0_2 : w8.cell? ⟨w.heap.size,2,none⟩ = some (.int .i64 x0.start_.count_):=ba0.out.cell 2
  have ea0_3 : w8.cell? ⟨w.heap.size,3,none⟩ = some (.slice A0_2 n0_2 c0_2):=ba0.out.cell 3
  have ea0_4 : w8.cell? ⟨w.heap.size,4,none⟩ = some (.slice A0_3 n0_3 c0_3):=ba0.out.cell 4
  go_wp2_with fail
  go_region_with (first|(go_at_call 8;refine (toScript_any x0 _ _ _ (Script.R_good.ext H0.out (X8.out.tr ((Ext.refl' w8).dr))) N0).mono ?_;rintro e w9 ⟨cv,rfl,o9,x9⟩;replace o9:=hid o9;obtain ⟨B9_0,p9_0,d9_0,B9_1,p9_1,d9_1,B9_2,p9_2,d9_2,B9_3,p9_3,d9_3,rfl⟩:=Script.W_cells o9.out;have bq : Hid (Bx w9 (w6.heap.size) 48 #[.slice B6_0 p6_0 d6_0,.slice B6_1 p6_1 d6_1,.int .i64 x0.start_.count_,.slice B6_2 p6_2 d6_2,.slice B6_3 p6_3 d6_3]):=Bx.ext ((bx0.out.ext ((Ext.refl' w8).dr))) x9;have eq_0 : w9.cell? ⟨w6.heap.size,0,none⟩ = some (.slice B6_0 p6_0 d6_0):=bq.out.cell 0;have eq_1 : w9.cell? ⟨w6.heap.size,1,none⟩ = some (.slice B6_1 p6_1 d6_1):=bq.out.cell 1;have eq_2 : w9.cell? ⟨w6.heap.size,2,none⟩ = some (.int .i64 x0.start_.count_):=bq.out.cell 2;have eq_3 : w9.cell? ⟨w6.heap.size,3,none⟩ = some (.slice B6_2 p6_2 d6_2):=bq.out.cell 3;have eq_4 : w9.cell? ⟨w6.heap.size,4,none⟩ = some (.slice B6_3 p6_3 d6_3):=bq.out.cell 4)|(go_at_call 13;refine (eqScript_same x0 _ _ _ _ _ (Script.W_R (Script.W_good.ext o6.out (Ext.tr ((Ext.refl' w8).dr) x9))) (Script.W_R o9.out)).mono ?_;rintro e w10 ⟨rfl,x10⟩))
  all_goals
   clear bq eq_0 eq_1 eq_2 eq_3 eq_4
   replace x10:=Ext.tr x9 x10
   clear o9
   clear ex0_0 ex0_1 ex0_2 ex0_3 ex0_4 ea0_0 ea0_1 ea0_2 ea0_3 ea0_4
   replace ba0:=hid (ba0.out.ext (Ext.tr ((Ext.refl' w8).dr) x10))
   replace ba1:=hid (ba1.out.ext (Ext.tr ((Ext.refl' w8).dr) x10))
   replace bx0:=hid (bx0.out.ext (Ext.tr ((Ext.refl' w8).dr) x10))
   replace bx1:=hid (bx1.out.ext (Ext.tr ((Ext.refl' w8).dr) x10))
   replace o6:=hid (Script.W_good.ext o6.out (Ext.tr ((Ext.refl' w8).dr) x10))
   replace o7:=hid (GWorld.W_good.ext o7.out (Ext.tr ((Ext.refl' w8).dr) x10))
   have X10 : Hid (Ext w w10):=(X8.out.tr ((Ext.refl' w8).dr)).tr x10
   clear x10
   have ex1_0 : w10.cell? ⟨w7.heap.size,0,none⟩ = some (.int .i64 x1.now_):=bx1.out.cell 0
   have ex1_1 : w10.cell? ⟨w7.heap.size,1,none⟩ = some (.int .i64 x1.token_):=bx1.out.cell 1
   have ex1_2 : w10.cell? ⟨w7.heap.size,2,none⟩ = some (.int .i64 x1.mem_.clock_):=bx1.out.cell 2
   have ex1_3 : w10.cell? ⟨w7.heap.size,3,none⟩ = some (.slice B7_0 p7_0 d7_0):=bx1.out.cell 3
   have ex1_4 : w10.cell? ⟨w7.heap.size,4,none⟩ = some (.slice B7_1 p7_1 d7_1):=bx1.out.cell 4
   have ex1_5 : w10.cell? ⟨w7.heap.size,5,none⟩ = some (.int .i64 x1.shelf_.count_):=bx1.out.cell 5
   have ex1_6 : w10.cell? ⟨w7.heap.size,6,none⟩ = some (.slice B7_2 p7_2 d7_2):=bx1.out.cell 6
   have ex1_7 : w10.cell? ⟨w7.heap.size,7,none⟩ = some (.slice B7_3 p7_3 d7_3):=bx1.out.cell 7
   have ex1_8 : w10.cell? ⟨w7.heap.size,8,none⟩ = some (.slice B7_4 p7_4 d7_4):=bx1.out.cell 8
   have ea1_0 : w10.cell? ⟨w.heap.size + 1,0,none⟩ = some (.int .i64 x1.now_):=ba1.out.cell 0
   have ea1_1 : w10.cell? ⟨w.heap.size + 1,1,none⟩ = some (.int .i64 x1.token_):=ba1.out.cell 1
   have ea1_2 : w10.cell? ⟨w.heap.size + 1,2,none⟩ = some (.int .i64 x1.mem_.clock_):=ba1.out.cell 2
   have ea1_3 : w10.cell? ⟨w.heap.size + 1,3,none⟩ = some (.slice A1_0 n1_0 c1_0):=ba1.out.cell 3
   have ea1_4 : w10.cell? ⟨w.heap.size + 1,4,none⟩ = some (.slice A1_1 n1_1 c1_1):=ba1.out.cell 4
   have ea1_5 : w10.cell? ⟨w.heap.size + 1,5,none⟩ = some (.int .i64 x1.shelf_.count_):=ba1.out.cell 5
   have ea1_6 : w10.cell? ⟨w.heap.size + 1,6,none⟩ = some (.slice A1_2 n1_2 c1_2):=ba1.out.cell 6
   have ea1_7 : w10.cell? ⟨w.heap.size + 1,7,none⟩ = some (.slice A1_3 n1_3 c1_3):=ba1.out.cell 7
   have ea1_8 : w10.cell? ⟨w.heap.size + 1,8,none⟩ = some (.slice A1_4 n1_4 c1_4):=ba1.out.cell 8
   go_wp2_with fail
   go_region_with (first|(go_at_call 9;refine (toGWorld_any x1 _ _ _ (GWorld.R_good.ext H1.out (X10.out.tr ((Ext.refl' w10).dr))) N1).mono ?_;rintro e w11 ⟨cv,rfl,o11,x11⟩;replace o11:=hid o11;obtain ⟨B11_0,p11_0,d11_0,B11_1,p11_1,d11_1,B11_2,p11_2,d11_2,B11_3,p11_3,d11_3,B11_4,p11_4,d11_4,rfl⟩:=GWorld.W_cells o11.out;have bq : Hid (Bx w11 (w7.heap.size) 58 #[.int .i64 x1.now_,.int .i64 x1.token_,.int .i64 x1.mem_.clock_,.slice B7_0 p7_0 d7_0,.slice B7_1 p7_1 d7_1,.int .i64 x1.shelf_.count_,.slice B7_2 p7_2 d7_2,.slice B7_3 p7_3 d7_3,.slice B7_4 p7_4 d7_4]):=Bx.ext ((bx1.out.ext ((Ext.refl' w10).dr))) x11;have eq_0 : w11.cell? ⟨w7.heap.size,0,none⟩ = some (.int .i64 x1.now_):=bq.out.cell 0;have eq_1 : w11.cell? ⟨w7.heap.size,1,none⟩ = some (.int .i64 x1.token_):=bq.out.cell 1;have eq_2 : w11.cell? ⟨w7.heap.size,2,none⟩ = some (.int .i64 x1.mem_.clock_):=bq.out.cell 2;have eq_3 : w11.cell? ⟨w7.heap.size,3,none⟩ = some (.slice B7_0 p7_0 d7_0):=bq.out.cell 3;have eq_4 : w11.cell? ⟨w7.heap.size,4,none⟩ = some (.slice B7_1 p7_1 d7_1):=bq.out.cell 4;have eq_5 : w11.cell? ⟨w7.heap.size,5,none⟩ = some (.int .i64 x1.shelf_.count_):=bq.out.cell 5;have eq_6 : w11.cell? ⟨w7.heap.size,6,none⟩ = some (.slice B7_2 p7_2 d7_2):=bq.out.cell 6;have eq_7 : w11.cell? ⟨w7.heap.size,7,none⟩ = some (.slice B7_3 p7_3 d7_3):=bq.out.cell 7;have eq_8 : w11.cell? ⟨w7.heap.size,8,none⟩ = some (.slice B7_4 p7_4 d7_4):=bq.out.cell 8)|(go_at_call 14;refine (eqGWorld_same x1 _ _ _ _ _ (GWorld.W_R (GWorld.W_good.ext o7.out (Ext.tr ((Ext.refl' w10).dr) x11))) (GWorld.W_R o11.out)).mono ?_;rintro e w12 ⟨rfl,x12⟩))
   all_goals
    clear bq eq_0 eq_1 eq_2 eq_3 eq_4 eq_5 eq_6 eq_7 eq_8
    replace x12:=Ext.tr x11 x12
    clear o11
    clear ex1_0 ex1_1 ex1_2 ex1_3 ex1_4 ex1_5 ex1_6 ex1_7 ex1_8 ea1_0 ea1_1 ea1_2 ea1_3 ea1_4 ea1_5 ea1_6 ea1_7 ea1_8
    replace ba0:=hid (ba0.out.ext (Ext.tr ((Ext.refl' w10).dr) x12))
    replace ba1:=hid (ba1.out.ext (Ext.tr ((Ext.refl' w10).dr) x12))
    replace bx0:=hid (bx0.out.ext (Ext.tr ((Ext.refl' w10).dr) x12))
    replace bx1:=hid (bx1.out.ext (Ext.tr ((Ext.refl' w10).dr) x12))
    replace o6:=hid (Script.W_good.ext o6.out (Ext.tr ((Ext.refl' w10).dr) x12))
    replace o7:=hid (GWorld.W_good.ext o7.out (Ext.tr ((Ext.refl' w10).dr) x12))
    have X12 : Hid (Ext w w12):=(X10.out.tr ((Ext.refl' w10).dr)).tr x12
    clear x12
    go_wp2
    go_ret
    exact ⟨rfl,(X12.out.tr (Ext.refl' w12))⟩

end Go.Proofs.YtoegjiigaoanbaaGreat
