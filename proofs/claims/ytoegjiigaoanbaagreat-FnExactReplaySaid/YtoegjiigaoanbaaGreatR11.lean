/- Replay. No condition. -/
import Derived.Test.YtoegjiigaoanbaaGreatS00
import Derived.Test.YtoegjiigaoanbaaGreatR10
import Derived.Test.YtoegjiigaoanbaaGreatS05
import Derived.Test.YtoegjiigaoanbaaGreatS04
set_option linter.unusedSimpArgs false
set_option linter.unusedVariables false
set_option linter.unnecessarySimpa false
set_option maxHeartbeats 400000000
namespace Go.Proofs.YtoegjiigaoanbaaGreat
open Go.RowKit Go.Deep
open Go.Lib (hid)
set_option maxRecDepth 8000 in
theorem rankC_any {b wq : World} {gw : Nat} (x : GWorld) (A0 : Option Addr) (n0 c0 : Nat) (A1 : Option Addr) (n1 c1 : Nat) (A2 : Option Addr) (n2 c2 : Nat) (A3 : Option Addr) (n3 c3 : Nat) (A4 : Option Addr) (n4 c4 : Nat) (S : Nat → Prop) (hr : SlR Root.R 40 b S A3 n3 x.roots_) (hn : n3 ≤ 1048576) (M0 : Mine b wq [.box gw 58 #[.int .i64 x.now_,.int .i64 x.token_,.int .i64 x.mem_.clock_,.slice A0 n0 c0,.slice A1 n1 c1,.int .i64 x.shelf_.count_,.slice A2 n2 c2,.slice A3 n3 c3,.slice A4 n4 c4]]) (i j : Nat) (hi : i < n3) (hj : j < n3) :
  Calls Tryz.prog 97 #[.int .i64 i,.int .i64 j,.pointer (some ⟨gw,0,none⟩)] wq fun e w' => e = .returned (.int .i64 ((rkeys x).z i j)) ∧ Ext wq w':=by
 have M : Hid (Mine wq wq []):=Mine.refl wq
 obtain ⟨bb,o,rfl⟩:=hr.addr (by omega)
 obtain ⟨r,row1,hk1,hrb,hw1,hl1,hg1⟩:=root_at hr hi
 obtain ⟨s,row2,hk2,-,hw2,hl2,hg2⟩:=root_at hr hj
 have HZ : Hid ((rkeys x).z i j = zR r s):=by show _ = _;rw [rkeys_z,rootAt_is hk1,rootAt_is hk2]
 have HC7 : Hid (wq.cell? ⟨gw,7,none⟩ = some (.slice (some ⟨bb,o,none⟩) n3 c3) ∧ gw < wq.heap.size):=⟨((M0.box_at 0 rfl).cell 7).trans rfl,(M0.box_at 0 rfl).lt⟩
 have HW1:=hid (Root.R_good.ext hw1 M0.ext)
 have HL1:=hid hl1
 have HG1:=hid (fun q v hv => (M0.ext.cell (p:=⟨bb,_,none⟩) hrb).trans (hg1 q v hv))
 have HW2:=hid (Root.R_good.ext hw2 M0.ext)
 have HL2:=hid hl2
 have HG2:=hid (fun q v hv => (M0.ext.cell (p:=⟨bb,_,none⟩) hrb).trans (hg2 q v hv))
 have HRB:=hid (Nat.lt_of_lt_of_le hrb M0.ext.size)
 have hi2 : (i : Int) < (n3 : Int):=by omega
 have hj2 : (j : Int) < (n3 : Int):=by omega
 clear M0 hr hk1 hk2 hw1 hw2 hl1 hl2 hg1 hg2 hrb hi hj
 go_enter Tryz.func97,Tryz.ntmps97
 go_wp2
 refine zRQ M.out ?_
 repeat (first|go_big_quiet_skip|(go_big_quiet_want;first|((first|refine Mine.oq_arg 55 _ rfl _ _ HC7.out rfl _ Tryz.underlying55 (by rfl) ?_|refine Mine.oq_argall 97 _ rfl _ _ rfl row1 HG1.out HRB.out _ Tryz.underlying97 (by rfl) (by rw [HL1.out];kernel_rfl) ?_|refine Mine.oq_argall 97 _ rfl _ _ rfl row2 HG2.out HRB.out _ Tryz.underlying97 (by rfl) (by rw [HL2.out];kernel_rfl) ?_);(try simp only [zr_,zm_]);go_big_quiet_on)|(unfold Oper.quiet;apply Exists.intro;refine ⟨fun wq hq => ?_,?_⟩;(go_simp;go_at_call 98;(with_reducible refine (earlier_any r s row1 row2 _ S S (Root.R_good.ext HW1.out hq.ext) (Root.R_good.ext HW2.out hq.ext)).mono ?_);rintro e w2 ⟨rfl,x2⟩;exact ⟨rfl,hq.on x2⟩);(try simp only [zs_,zl_]);go_big_quiet_on)|(unfold Oper.quiet;apply Exists.intro;refine ⟨fun wq hq => ?_,?_⟩;(clear hq;go_simp;first|done|rfl|exact ⟨rfl,rfl⟩);(try simp only [zs_,zl_]);go_big_quiet_on)))
 refine wpQuiet_nil ?_
 intro w' M'
 replace M:=hid M'
 clear M'
 go_wp2
 go_ret
 exact ⟨by rw [HZ.out];rfl,M.out.ext⟩
set_option maxRecDepth 8000 in
theorem impl_Ranks2 (x : GWorld) (cs : List Value) (w : World) (S : Nat → Prop) (h : GWorld.R w S cs x) (_hw : GWorld.wt x ≤ 1048576) (hs4 : x.roots_.length ≤ 19) :
  Calls Tryz.prog 43 #[.agg cs.toArray] w fun e w' => ∃ g m d,e = .returned (.slice (some ⟨g,0,none⟩) m d) ∧ w'.ownsRow w.heap.size 3 1 (.slice (some ⟨g,0,none⟩) m d) m (ints (ranksOf x)) ∧ Ext w w':=by
 obtain ⟨v0,v1,A2,n2,c2,A3,n3,c3,A4,n4,c4,rfl,h0,h1,⟨kh2,mh2,h2⟩,⟨kh3,mh3,h3⟩,⟨kh4,mh4,h4⟩⟩:=h
 obtain ⟨A0,n0,c0,rfl⟩:=Mem.R_cells h0
 obtain ⟨A1,n1,c1,rfl⟩:=Shelf.R_cells h1
 have HR:=hid h3
 have HRN:=hid h3.1
 have hn3 : n3 ≤ 1048576:=by have a:=roots_le x _hw;have b:=HRN.out;omega
 clear h0 h1 h2 h3 h4
 have M : Hid (Mine w (w.alloc (.cells #[.int .i64 x.now_,.int .i64 x.token_,.int .i64 x.mem_.clock_,.slice A0 n0 c0,.slice A1 n1 c1,.int .i64 x.shelf_.count_,.slice A2 n2 c2,.slice A3 n3 c3,.slice A4 n4 c4] 58)) [.box w.heap.size 58 #[.int .i64 x.now_,.int .i64 x.token_,.int .i64 x.mem_.clock_,.slice A0 n0 c0,.slice A1 n1 c1,.int .i64 x.shelf_.count_,.slice A2 n2 c2,.slice A3 n3 c3,.slice A4 n4 c4]]):=(Mine.refl w).box 58 #[.int .i64 x.now_,.int .i64 x.token_,.int .i64 x.mem_.clock_,.slice A0 n0 c0,.slice A1 n1 c1,.int .i64 x.shelf_.count_,.slice A2 n2 c2,.slice A3 n3 c3,.slice A4 n4 c4]
 skip
 show Calls Tryz.prog _ #[.agg #[.int .i64 x.now_,.int .i64 x.token_,.int .i64 x.mem_.clock_,.slice A0 n0 c0,.slice A1 n1 c1,.int .i64 x.shelf_.count_,.slice A2 n2 c2,.slice A3 n3 c3,.slice A4 n4 c4]] w _
 go_enter Tryz.func43,Tryz.ntmps43
 replace M:=hid (M.out.own (own_emptyI _) ((Ext.refl' _).al _))
 simp only [World.heap_alloc_size] at M
 go_wp2_with (first|((with_reducible refine zN ?_);first|(refine zG M.out 1 ?_;(try simp only [zr_,zm_]))))
 go_loopw [3,10] (fun u i wr => ∃ (k m d g : Nat),k ≤ n3 ∧ u = .slice (some ⟨g,0,none⟩) m d ∧ i = .int .i64 k ∧ Hid (Mine w wr [.row 3 1 (some ⟨g,0,none⟩) m d (ints (pickTo settledOf x.roots_ k)),.box w.heap.size 58 #[.int .i64 x.now_,.int .i64 x.token_,.int .i64 x.mem_.clock_,.slice A0 n0 c0,.slice A1 n1 c1,.int .i64 x.shelf_.count_,.slice A2 n2 c2,.slice A3 n3 c3,.slice A4 n4 c4]])) (fun _ i _ => n3 - (intOf i).toNat)
 case atStart => exact ⟨0,_,_,_,Nat.zero_le _,rfl,rfl,M⟩
 case round =>
  clear M
  obtain ⟨k,m,d,g,hk,rfl,rfl,M⟩:=hrel
  have hm : m ≤ 1048576:=by have h1:=M.out.len1 0 rfl;rw [ints_length] at h1;have h2:=pick_len settledOf x.roots_ k;omega
  by_cases hlt : (k : Int) < (n3 : Int)
  rotate_left
  ·have e : Hid (k = x.roots_.length):=by show k = _;have a:=HRN.out;omega
   have M9:=M.out
   rw [e.out] at M9
   have HC : Hid (CmpC w [.box w.heap.size 58 #[.int .i64 x.now_,.int .i64 x.token_,.int .i64 x.mem_.clock_,.slice A0 n0 c0,.slice A1 n1 c1,.int .i64 x.shelf_.count_,.slice A2 n2 c2,.slice A3 n3 c3,.slice A4 n4 c4]] (rkeys x) (pickTo settledOf x.roots_ x.roots_.length) w.heap.size):=fun wq i j Mq hi hj => by
    obtain ⟨i1,r1,hi1,rfl,hr1,_⟩:=pick_mem.1 hi
    obtain ⟨j1,r2,hj1,rfl,hr2,_⟩:=pick_mem.1 hj
    exact rankC_any x A0 n0 c0 A1 n1 c1 A2 n2 c2 A3 n3 c3 A4 n4 c4 S HR.out hn3 Mq i1 j1 (by have a:=HRN.out;omega) (by have a:=HRN.out;omega)
   have M8:=hid M9
   clear M M9
   go_wp2_with fail
   refine (sortStable_m M8.out HC.out (pick_asc _ _ _) (by have h1:=M8.out.len1 0 rfl;rw [ints_length] at h1;have h2:=pick_len settledOf x.roots_ x.roots_.length;omega)).mono ?_
   rintro e w1 ⟨rfl,M1⟩
   have M7:=hid M1
   clear M1 M8
   go_wp2
   go_ret
   exact ⟨_,_,_,rfl,M7.out.row_at 0 rfl,M7.out.ext⟩
  have HLT : Hid (k < n3):=by show _ < _;omega
  obtain ⟨b,o,rfl⟩:=HR.out.addr (by omega)
  obtain ⟨r,row,hsk,hrb,hrw,hrl,hrg⟩:=root_at HR.out (k:=k) (by omega)
  have HSK:=hid hsk
  have HRW:=hid hrw
  have HRL:=hid hrl
  have HRG:=hid hrg
  have HRB:=hid hrb
  have hf0:=Root.first hrw
  clear hsk hrw hrl hrg hrb
  clear hf0
  go_wp2_with (first|((with_reducible refine zN ?_);first|((first|refine Mine.wp_arg M.out rfl 97 _ rfl _ _ rfl row HRG.out HRB.out _ Tryz.underlying97 (by rfl) (by rw [HRL.out];kernel_rfl) ?_|refine Mine.wp_getall M.out rfl 97 _ rfl 0 rfl rfl _ Tryz.underlying97 (by rfl) (by rw [List.size_toArray,HRL.out];kernel_rfl) ?_);(try simp only [zr_,zm_]))|(refine Mine.wp_allocany M.out rfl 97 rfl 40 (by kernel_rfl) ?_;intro gx w' zx hzx M';replace M:=hid M';clear M';(try simp only [zr_,zm_]))|(refine Mine.wp_setall M.out rfl 97 _ _ rfl rfl 0 rfl rfl _ rfl (by rw [hzx,HRL.out]) (Root.R_one HRW.out) (by rw [HRL.out];kernel_rfl) ?_;intro w' M';(try simp only [zr_,zm_] at M');replace M:=hid M';clear M')))
  refine (impl_Settled r row _ _ (Root.R_good.ext HRW.out M.out.ext)).mono ?_
  rintro e w1 ⟨rfl,x1⟩
  replace M:=hid (M.out.on x1)
  clear x1
  cases hv : settledOf r
  ·have HN:=hid hv
   clear hv
   go_wp2
   go_roundw
   case rel => exact ⟨k + 1,m,d,g,HLT.out,rfl,by go_num,hid (by rw [pick_no HSK.out HN.out];exact M.out.tail)⟩
   case measure => have:=HLT.out;simp [intOf];omega
  have HY:=hid hv
  clear hv
  go_wp2_with (first|(at_builtin;refine Mine.wp_push M.out rfl _ _ 22 rfl 3 _ _ _ Tryz.underlying22 Tryz.infoInt rfl (by omega) 1 rfl rfl _ _ rfl rfl rfl (by simp [Value.oneCell']) (by omega) (by unfold maxLen;omega) ?_;intro A2 c2 w' M';obtain ⟨gp,rfl⟩:=Mine.addr M' 1 rfl (Nat.succ_pos _);(try simp only [zr_,zm_] at M');replace M:=hid M';clear M'))
  go_roundw
  case rel => exact ⟨k + 1,_,_,_,HLT.out,rfl,by go_num,hid (by rw [pick_yes HSK.out HY.out];exact M.out.tail)⟩
  case measure => have:=HLT.out;simp [intOf];omega
theorem impl_Ranks (x : GWorld) (cs : List Value) (w : World) (S : Nat → Prop) (h : GWorld.R w S cs x) (_hw : GWorld.wt x ≤ 1048576) (hs4 : x.roots_.length ≤ 19) :
  Calls Tryz.prog 43 #[.agg cs.toArray] w fun e w' => ∃ B m d,e = .returned (.slice B m d) ∧ w'.ownsRow w.heap.size 3 1 (.slice B m d) m (ints (ranksOf x)) ∧ Ext w w' :=
 (impl_Ranks2 x cs w S h _hw hs4).mono fun e w' ⟨g,m,d,h1,h2,h3⟩ => ⟨_,m,d,h1,h2,h3⟩
set_option maxRecDepth 8000 in
theorem impl_Replay (x0 : Script) (cs0 : List Value) (x1 : GWorld) (cs1 : List Value) (w : World) (hs : Script.R w (fun _ => True) cs0 x0) (_hw0 : Script.wt x0 ≤ 1048576) (h : GWorld.R w (fun _ => True) cs1 x1) (_hw1 : GWorld.wt x1 ≤ 1048576) :
  Calls Tryz.prog 10 #[.agg cs0.toArray,.agg cs1.toArray] w fun e w' => ∃ (B : Option Addr) (m d : Nat) (C2 P2 : Option Addr × Nat × Nat),e = .returned (.tuple #[.slice B m d,.agg #[.slice C2.1 C2.2.1 C2.2.2,.slice P2.1 P2.2.1 P2.2.2,.int .i64 (replayF x0 x1).2.count_]]) ∧ Hid (RunsV w w' (replayF x0 x1).1 (replayF x0 x1).2 B m d C2 P2):=by
 have HS0:=hid hs
 have HW0:=hid h
 obtain ⟨vs0,P2,pn2,pc2,P3,pn3,pc3,rfl,hs0,⟨khs1,mhs1,hs1⟩,⟨khs2,mhs2,hs2⟩⟩:=hs
 obtain ⟨P0,pn0,pc0,P1,pn1,pc1,rfl⟩:=Things.R_cells hs0
 obtain ⟨v0,v1,A2,n2,c2,A3,n3,c3,A4,n4,c4,rfl,h0,h1,⟨kh2,mh2,h2⟩,⟨kh3,mh3,h3⟩,⟨kh4,mh4,h4⟩⟩:=h
 obtain ⟨A0,n0,c0,rfl⟩:=Mem.R_cells h0
 obtain ⟨A1,n1,c1,rfl⟩:=Shelf.R_cells h1
 have hpl : x0.progs_.length = pn2:=hs1.1
 have hrl : x1.roots_.length = n3:=h3.1
 have HP:=hid hs1
 have HRT:=hid h3
 have HSW : Hid (Script.wt x0 ≤ 1048576):=_hw0
 have HWW : Hid (GWorld.wt x1 ≤ 1048576):=_hw1
 have hkl:=wtl_len Root.wt x1.roots_
 have hn3 : n3 ≤ 1048576:=by unfold GWorld.wt at _hw1;omega
 have HPWT : Hid (∀ p ∈ x0.progs_,Prog.wt p ≤ 1048576):=fun p hp => by
  obtain ⟨i,hi⟩:=List.mem_iff_getElem?.1 hp
  have h1:=wtl_at Prog.wt hi
  unfold Script.wt at _hw0;omega
 have HRWT : Hid (∀ r ∈ x1.roots_,r.order_.length ≤ 1048576):=fun r hr => by
  obtain ⟨i,hi⟩:=List.mem_iff_getElem?.1 hr
  have h1:=wtl_at Root.wt hi
  have h2 : r.order_.length ≤ Root.wt r:=by unfold Root.wt;omega
  unfold GWorld.wt at _hw1;omega
 have HTH:=hid hs0
 have HPC : Hid (Sl w (fun _ => True) 1 P0 pn0 (ints x0.start_.cells_) ∧ pn0 ≤ pc0 ∧ Sl w (fun _ => True) 1 P1 pn1 (ints x0.start_.map_) ∧ pn1 ≤ pc1):=by obtain ⟨A7,n7,c7,A8,n8,c8,e,⟨kz0,mz0,z0⟩,⟨kz1,mz1,z1⟩⟩:=hs0;injection e with e1 e2;injection e1 with e3 e4 e5;injection e2 with e6 e7;injection e6 with e8 e9 e10;subst e3 e4 e5 e8 e9 e10;exact ⟨z0,kz0,z1,kz1⟩
 have HPL:=hid hpl
 have HRL:=hid hrl
 clear hs0 hs1 hs2 h0 h1 h2 h3 h4 hkl _hw0 _hw1 hpl hrl
 have M : Hid (Mine w ((w.alloc (.cells #[.slice P0 pn0 pc0,.slice P1 pn1 pc1,.int .i64 x0.start_.count_,.slice P2 pn2 pc2,.slice P3 pn3 pc3] 48)).alloc (.cells #[.int .i64 x1.now_,.int .i64 x1.token_,.int .i64 x1.mem_.clock_,.slice A0 n0 c0,.slice A1 n1 c1,.int .i64 x1.shelf_.count_,.slice A2 n2 c2,.slice A3 n3 c3,.slice A4 n4 c4] 58)) [.box (w.heap.size + 1) 58 #[.int .i64 x1.now_,.int .i64 x1.token_,.int .i64 x1.mem_.clock_,.slice A0 n0 c0,.slice A1 n1 c1,.int .i64 x1.shelf_.count_,.slice A2 n2 c2,.slice A3 n3 c3,.slice A4 n4 c4],.box w.heap.size 48 #[.slice P0 pn0 pc0,.slice P1 pn1 pc1,.int .i64 x0.start_.count_,.slice P2 pn2 pc2,.slice P3 pn3 pc3]]):=by
  have h:=((Mine.refl w).box 48 #[.slice P0 pn0 pc0,.slice P1 pn1 pc1,.int .i64 x0.start_.count_,.slice P2 pn2 pc2,.slice P3 pn3 pc3]).box 58 #[.int .i64 x1.now_,.int .i64 x1.token_,.int .i64 x1.mem_.clock_,.slice A0 n0 c0,.slice A1 n1 c1,.int .i64 x1.shelf_.count_,.slice A2 n2 c2,.slice A3 n3 c3,.slice A4 n4 c4]
  simp only [World.heap_alloc_size] at h
  exact h
 show Calls Tryz.prog _ #[.agg #[.slice P0 pn0 pc0,.slice P1 pn1 pc1,.int .i64 x0.start_.count_,.slice P2 pn2 pc2,.slice P3 pn3 pc3],.agg #[.int .i64 x1.now_,.int .i64 x1.token_,.int .i64 x1.mem_.clock_,.slice A0 n0 c0,.slice A1 n1 c1,.int .i64 x1.shelf_.count_,.slice A2 n2 c2,.slice A3 n3 c3,.slice A4 n4 c4]] w _
 cases hso : scriptOk x0
 ·have HZ:=hid (replay_no (x0:=x0) (x1:=x1) fun z => by have h:=z.1;rw [hso] at h;cases h)
  go_enter Tryz.func10,Tryz.ntmps10
  go_wp2_with (first|(go_at_call 42;refine zC M (impl_ScriptOk x0 [.slice P0 pn0 pc0,.slice P1 pn1 pc1,.int .i64 x0.start_.count_,.slice P2 pn2 pc2,.slice P3 pn3 pc3] _ _ (Script.R_good.ext HS0.out M.out.ext) HSW.out) ?_;clear M;intro w' M;rw [hso])|((with_reducible refine zN ?_);first|(refine Mine.wp_alloc M.out rfl 42 rfl (.agg #[.slice none 0 0,.slice none 0 0,.int .i64 0]) (by kernel_rfl) ?_;intro gr w' M';(try simp only [Value.cells,zr_,zm_] at M');replace M:=hid M';clear M';(try simp only [zr_,zm_]))|(refine zGs M.out 48 2 5 ?_;(try simp only [zr_,zm_]))|(refine zSs M.out 42 0 ?_;intro w' M';(try simp only [zr_,zm_] at M');replace M:=hid M';clear M')))
  refine bodyPost_ret (M.out.results_tc Tryz.results10 _ 0 rfl rfl _ Tryz.underlying42 (by rfl) (by kernel_rfl)) rfl ?_
  rw [HZ.out]
  exact ⟨_,_,_,(none,0,0),(none,0,0),rfl,RunsV.bad (M.out.nil 111 5)⟩
 by_cases hlen : n3 = pn2
 rotate_left
 ·have HZ:=hid (replay_no (x0:=x0) (x1:=x1) fun z => hlen (by have h:=z.2;rw [HPL.out,HRL.out] at h;exact h))
  have bl : ((n3 : Int) != (pn2 : Int)) = true:=by simp;omega
  clear hlen
  go_enter Tryz.func10,Tryz.ntmps10
  go_wp2_with (first|(go_at_call 42;refine zC M (impl_ScriptOk x0 [.slice P0 pn0 pc0,.slice P1 pn1 pc1,.int .i64 x0.start_.count_,.slice P2 pn2 pc2,.slice P3 pn3 pc3] _ _ (Script.R_good.ext HS0.out M.out.ext) HSW.out) ?_;clear M;intro w' M;rw [hso])|((with_reducible refine zN ?_);first|(refine Mine.wp_alloc M.out rfl 42 rfl (.agg #[.slice none 0 0,.slice none 0 0,.int .i64 0]) (by kernel_rfl) ?_;intro gr w' M';(try simp only [Value.cells,zr_,zm_] at M');replace M:=hid M';clear M';(try simp only [zr_,zm_]))|(refine zGs M.out 48 2 5 ?_;(try simp only [zr_,zm_]))|(refine zSs M.out 42 0 ?_;intro w' M';(try simp only [zr_,zm_] at M');replace M:=hid M';clear M'))|((with_reducible show wpList _ _ _ (⟨_,.load _ _,_,_,_,some _⟩::_) _ _);first|((first|refine zGg M.out 1 ?_|refine zGg M.out 2 ?_);(try simp only [zr_,zm_]))))
  refine bodyPost_ret (M.out.results_tc Tryz.results10 _ 0 rfl rfl _ Tryz.underlying42 (by rfl) (by kernel_rfl)) rfl ?_
  rw [HZ.out]
  exact ⟨_,_,_,(none,0,0),(none,0,0),rfl,RunsV.bad (M.out.nil 111 5)⟩
 subst hlen
 have HZ:=hid (replay_yes (x0:=x0) (x1:=x1) ⟨hso,by rw [HPL.out,HRL.out]⟩)
 have bl : ((n3 : Int) != (n3 : Int)) = false:=by simp
 obtain ⟨hs1,hs2,hs3⟩:=script_parts hso
 have HTHO:=hid hs1
 have HPGO:=hid hs3
 have hn4 : n3 ≤ 4:=by rw [← HPL.out];exact hs2
 obtain rfl : pn0 = 8:=by have h:=HPC.out.1.len;rw [valsOk_len (th_parts hs1).1] at h;exact h.symm
 obtain rfl : pn1 = 8:=by have h:=HPC.out.2.2.1.len;rw [(dec_true (th_parts hs1).2.1).1] at h;exact h.symm
 have HRK:=hid (ranks_len x1)
 obtain ⟨rk,hrk⟩ : ∃ rk,ranksOf x1 = rk:=⟨_,rfl⟩
 rw [hrk] at HRK
 have HRKE:=hid hrk
 clear hs1 hs2 hs3 hrk
 go_enter Tryz.func10,Tryz.ntmps10
 go_upto_region 3 with (first|(go_at_call 42;refine zC M (impl_ScriptOk x0 [.slice P0 8 pc0,.slice P1 8 pc1,.int .i64 x0.start_.count_,.slice P2 n3 pc2,.slice P3 pn3 pc3] _ _ (Script.R_good.ext HS0.out M.out.ext) HSW.out) ?_;clear M;intro w' M;rw [hso])|((with_reducible refine zN ?_);first|(refine Mine.wp_alloc M.out rfl 42 rfl (.agg #[.slice none 0 0,.slice none 0 0,.int .i64 0]) (by kernel_rfl) ?_;intro gr w' M';(try simp only [Value.cells,zr_,zm_] at M');replace M:=hid M';clear M';(try simp only [zr_,zm_]))|(refine zGs M.out 48 2 5 ?_;(try simp only [zr_,zm_])))|((with_reducible show wpList _ _ _ (⟨_,.load _ _,_,_,_,some _⟩::_) _ _);first|((first|refine zGg M.out 1 ?_|refine zGg M.out 2 ?_);(try simp only [zr_,zm_]))))
 have M9:=(M.out.own (own_lit0 _ 84 2) ((Ext.refl' _).al _)).own (own_lit0 _ 99 1) ((Ext.refl' _).al _)
 (try simp only [World.heap_alloc_size] at M9)
 replace M:=hid M9
 clear M9
 go_wp2_with (first|(go_at_call 43;(with_reducible refine (impl_Ranks x1 [.int .i64 x1.now_,.int .i64 x1.token_,.int .i64 x1.mem_.clock_,.slice A0 n0 c0,.slice A1 n1 c1,.int .i64 x1.shelf_.count_,.slice A2 n2 c2,.slice A3 n3 c3,.slice A4 n4 c4] _ _ (GWorld.R_good.ext HW0.out M.out.ext) HWW.out (by rw [HRL.out];omega)).mono ?_);rintro e w' ⟨RB,rm,rd,rfl,o9,x9⟩;rw [HRKE.out] at o9;replace M:=hid (M.out.own o9 x9);clear o9 x9)|((with_reducible refine zN ?_);first|(refine zGs M.out 58 3 9 ?_;(try simp only [zr_,zm_]))))
 clear hso bl
 have hrm : rk.length = rm:=by have h:=M.out.len1 0 rfl;rw [ints_length] at h;exact h
 have hrm4 : rm ≤ 4:=by have h:=HRK.out;rw [HRL.out] at h;omega
 have HRM:=hid hrm
 clear hrm
 have M7:=M.out.perm (List.Perm.cons _ (List.Perm.swap _ _ _))
 clear M
 go_loopw [6,7,28] (fun pv ov iv wr => ∃ (q : Nat) (PA : Option Addr) (pm pd : Nat) (OA : Option Addr) (om od : Nat) (ps : List (List Value × Prog)) (os : List (List Value × Order)),q ≤ rm ∧ iv = .int .i64 (q : Int) ∧ pv = .slice PA pm pd ∧ ov = .slice OA om od ∧ pm = q ∧ om = q ∧ Hid (ps.map Prod.snd = (rk.take q).map (progAt x0)) ∧ Hid (os.map Prod.snd = (rk.take q).map (ordAt x1)) ∧ Hid (∀ e ∈ ps,e.1.length = 2 ∧ Prog.R w (fun _ => True) e.1 e.2) ∧ Hid (∀ e ∈ os,e.1.length = 1 ∧ Order.R w (fun _ => True) e.1 e.2) ∧ Hid (Mine w wr [.row 3 1 RB rm rd (ints rk),.row 84 2 PA pm pd (ps.flatMap Prod.fst),.row 99 1 OA om od (os.flatMap Prod.fst),.box gr 42 #[.slice none 0 0,.slice none 0 0,.int .i64 0],.box (w.heap.size + 1) 58 #[.int .i64 x1.now_,.int .i64 x1.token_,.int .i64 x1.mem_.clock_,.slice A0 n0 c0,.slice A1 n1 c1,.int .i64 x1.shelf_.count_,.slice A2 n2 c2,.slice A3 n3 c3,.slice A4 n4 c4],.box w.heap.size 48 #[.slice P0 8 pc0,.slice P1 8 pc1,.int .i64 x0.start_.count_,.slice P2 n3 pc2,.slice P3 pn3 pc3]])) (fun _ _ iv _ => rm - (intOf iv).toNat)
 case atStart => exact ⟨0,_,_,_,_,_,_,[],[],Nat.zero_le _,rfl,rfl,rfl,rfl,rfl,rfl,rfl,(fun e he => by cases he),(fun e he => by cases he),M7⟩
 case round =>
  clear M7
  obtain ⟨q,PA,pm,pd,OA,om,od,ps,os,hq,rfl,rfl,rfl,hpm,hom,HPS,HOS,HPR,HOR,M⟩:=hrel
  by_cases hlt : q < rm
  rotate_left
  ·skip
   skip
   have hte : rk.take q = rk:=List.take_of_length_le (by rw [HRM.out];omega)
   have hps:=HPS.out
   have hos:=HOS.out
   rw [hte] at hps hos
   have HPE:=hid hps
   have HOE:=hid hos
   replace hpm:=hpm.symm
   replace hom:=hom.symm
   subst hpm
   subst hom
   clear hps hos hte
   have HRKE2 : Hid (zipO (rk.map (progAt x0)) (rk.map (ordAt x1)) = ranked x0 x1):=by show _ = _;unfold ranked;rw [HRKE.out]
   go_wp2_with (first|(go_at_call 44;have SP:=SlR.of_rows (R:=Prog.R) (by omega) (fun e he => (HPR.out e he).1) (M.out.row_sl 1 rfl) (fun e he => Prog.R_good.ext (HPR.out e he).2 M.out.ext);have SO:=SlR.of_rows (R:=Order.R) (by omega) (fun e he => (HOR.out e he).1) (M.out.row_sl 2 rfl) (fun e he => Order.R_good.ext (HOR.out e he).2 M.out.ext);rw [HPE.out] at SP;rw [HOE.out] at SO;refine (impl_SerialAll _ _ _ _ _ _ _ P0 pc0 P1 pc1 x0.start_ _ SP (by omega) (fun p hp => HPWT.out p (prog_mem HRKE.out (by rw [HPL.out,HRL.out]) hp)) (fun p hp => HPGO.out p (prog_mem HRKE.out (by rw [HPL.out,HRL.out]) hp)) SO (fun o ho => ord_wt HRKE.out HRWT.out ho) (HPC.out.1.ext M.out.ext) (HPC.out.2.2.1.ext M.out.ext) HPC.out.2.1 HPC.out.2.2.2 HTHO.out).mono ?_;clear SP SO;rintro e w5 ⟨B9,m9,d9,C9,P9,rfl,hrv⟩;rw [HRKE2.out] at hrv ⊢;obtain ⟨es,he1,he2,M4⟩:=hrv.out;have M8:=M.out.call M4;simp only [List.cons_append] at M8;replace M:=hid (RunsV.front M8);have HE1:=hid he1;have HE2:=hid he2;clear M4 M8 hrv he1 he2)|((with_reducible refine zN ?_);first|(refine zGs M.out 42 5 3 ?_;(try simp only [zr_,zm_]))|(refine zSs M.out 42 3 ?_;intro w' M';(try simp only [zr_,zm_] at M');replace M:=hid M';clear M')))
   refine bodyPost_ret (M.out.results_tc Tryz.results10 _ 3 rfl rfl _ Tryz.underlying42 (by rfl) (by kernel_rfl)) rfl ?_
   rw [HZ.out]
   exact ⟨_,_,_,(C9.1,C9.2.1,C9.2.2),(P9.1,P9.2.1,P9.2.2),rfl,es,HE1.out,HE2.out,RunsV.drop M.out⟩
  have HLT : Hid (q < rm):=hlt
  have hqi : (q : Int) < (rm : Int):=by omega
  obtain ⟨kv,hkv⟩ : ∃ k,rk[q]? = some k:=⟨_,List.getElem?_eq_getElem (by rw [HRM.out];exact hlt)⟩
  obtain ⟨k,hk3,rfl⟩:=ranks_ix (x:=x1) (by rw [HRKE.out];exact hkv)
  rw [HRL.out] at hk3
  have hki : (k : Int) < (n3 : Int):=by omega
  have HKV:=hid hkv
  have HKX : Hid ((ints rk)[q]? = some (.int .i64 (k : Int))):=by show (ints rk)[q]? = _;unfold ints;rw [List.getElem?_map,hkv];rfl
  clear hkv
  obtain ⟨b,oo,p,Q0,qn0,qc0,Q1,qn1,qc1,rfl,hpx,hpb,hpr,hpR⟩:=prog_at HP.out hk3
  have HR:=hid hpr
  have HB:=hid hpb
  have HPRX:=hid hpR
  have HPX:=hid (progAt_is hpx)
  obtain ⟨b3,o3,rfl⟩:=HRT.out.addr (by omega)
  obtain ⟨r,row,hrx,hrb,hrw,hrc⟩:=HRT.out.at_ hk3
  obtain ⟨K0,kn0,kc0,h17,hkc,hks⟩:=Root.at17 hrw
  have h17c:=hrc 17 (by omega)
  rw [h17] at h17c
  have HOC : Hid (w.cell? ⟨b3,o3 + k * 40 + 17,none⟩ = some (.slice K0 kn0 kc0) ∧ b3 < w.heap.size):=⟨h17c,hrb⟩
  have hrwt:=HRWT.out r (List.mem_of_getElem? hrx)
  have hkl:=hks.len
  have HOX:=hid (ordAt_is hrx)
  have HORX : Hid (Order.R w (fun _ => True) [.slice K0 kn0 kc0] ⟨r.order_⟩):=⟨K0,kn0,kc0,rfl,hkc,by omega,hks⟩
  clear hpx hpb hpr hpR hrx hrb hrw hrc h17 hkc hks h17c hrwt hkl
  obtain ⟨gK,rfl⟩:=M.out.addr 0 rfl (by omega)
  replace hpm:=hpm.symm
  replace hom:=hom.symm
  subst hpm
  subst hom
  go_wp2_with (first|(at_builtin;refine Mine.wp_push M.out rfl _ _ 45 rfl 84 _ _ _ Tryz.underlying45 Tryz.infoProgU rfl (by omega) 1 rfl rfl _ _ rfl rfl rfl (by simp [Value.oneCell']) (by omega) (by unfold maxLen;omega) ?_;intro A7 c7 w' M';(try simp only [zr_,zm_] at M');replace M:=hid M';clear M')|(at_builtin;refine Mine.wp_push M.out rfl _ _ 80 rfl 99 _ _ _ Tryz.underlying80 Tryz.infoOrderU rfl (by omega) 2 rfl rfl _ _ rfl rfl rfl (by simp [Value.oneCell']) (by omega) (by unfold maxLen;omega) ?_;intro A8 c8 w' M';(try simp only [zr_,zm_] at M');replace M:=hid M';clear M')|((with_reducible refine zN ?_);first|((first|refine Mine.wp_getr M.out rfl _ _ rfl 0 _ rfl rfl _ (by exact HKX.out) _ (by first|exact Tryz.underlying3) (by rfl) ?_|refine zG M.out 5 ?_|refine zG M.out 4 ?_|refine Mine.wp_arg M.out rfl 84 _ rfl _ _ rfl _ HR.out HB.out _ Tryz.underlying84 (by rfl) (by kernel_rfl) ?_|refine Mine.wp_argc M.out rfl 22 _ rfl _ _ HOC.out rfl _ Tryz.underlying22 (by rfl) ?_);(try simp only [zr_,zm_]))))
  go_roundw
  case rel => exact ⟨q + 1,_,_,_,_,_,_,ps ++ [([.slice Q0 qn0 qc0,.slice Q1 qn1 qc1],p)],os ++ [([.slice K0 kn0 kc0],⟨r.order_⟩)],HLT.out,by go_num,rfl,rfl,rfl,rfl,by show _ = _;rw [map_take_snoc _ HKV.out,List.map_append,HPS.out,HPX.out];rfl,by show _ = _;rw [map_take_snoc _ HKV.out,List.map_append,HOS.out,HOX.out];rfl,mem_snoc HPR.out ⟨rfl,HPRX.out⟩,mem_snoc HOR.out ⟨rfl,HORX.out⟩,by rw [← fst_push,← fst_push];exact M⟩
  case measure => have:=HLT.out;simp [intOf];omega
set_option maxRecDepth 8000 in
theorem eqRun_same (x : Run) (cs cs' : List Value) (w : World) (S S' : Nat → Prop) (h : Run.R w S cs x) (u : Run.R w S' cs' x) :
  Calls Tryz.prog 45 #[.agg cs.toArray,.agg cs'.toArray] w fun e w' => e = .returned (.bool true) ∧ Ext w w':=by
 obtain ⟨A0,n0,c0,v1,rfl,⟨kh0,mh0,h0⟩,h1⟩:=h
 obtain ⟨A1,n1,c1,A2,n2,c2,rfl⟩:=Things.R_cells h1
 obtain ⟨B0,p0,d0,z1,rfl,⟨ku0,mu0,u0⟩,u1⟩:=u
 obtain ⟨B1,p1,d1,B2,p2,d2,rfl⟩:=Things.R_cells u1
 obtain rfl : n0 = p0:=by have a:=h0.len;have b:=u0.len;omega
 have H0:=hid h0
 have U0:=hid u0
 have H1:=hid h1
 have U1:=hid u1
 clear h0 u0 h1 u1
 simp only [List.cons_append,List.nil_append]
 go_enter Tryz.func45,Tryz.ntmps45
 go_wp2_with fail
 refine (eqIntS_same _ _ _ _ _ _ _ S S' (H0.out.ext (((Ext.refl' w).al _).al _)) (U0.out.ext (((Ext.refl' w).al _).al _)) mh0).mono ?_
 rintro e w1 ⟨rfl,x1⟩
 have z1 : w.heap.size + 2 ≤ w1.heap.size:=by have h:=x1.size;(try simp at h);omega
 have ba1 : Hid (Bx w1 (w.heap.size) 111 #[.int .i64 x.out_,.slice A0 n0 c0,.slice A1 n1 c1,.slice A2 n2 c2,.int .i64 x.things_.count_]):=Bx.ext ((Bx.new' _ _ _ rfl).al _) x1
 have bb1 : Hid (Bx w1 (w.heap.size + 1) 111 #[.int .i64 x.out_,.slice B0 n0 d0,.slice B1 p1 d1,.slice B2 p2 d2,.int .i64 x.things_.count_]):=Bx.ext (Bx.new' _ _ _ (by simp)) x1
 have X1 : Ext w w1:=Ext.tr (((Ext.refl' w).al _).al _) x1
 clear x1
 have ca1_2 : w1.cell? ⟨w.heap.size,2,none⟩ = some (.slice A1 n1 c1):=ba1.out.cell 2
 have cb1_2 : w1.cell? ⟨w.heap.size + 1,2,none⟩ = some (.slice B1 p1 d1):=bb1.out.cell 2
 have ca1_3 : w1.cell? ⟨w.heap.size,3,none⟩ = some (.slice A2 n2 c2):=ba1.out.cell 3
 have cb1_3 : w1.cell? ⟨w.heap.size + 1,3,none⟩ = some (.slice B2 p2 d2):=bb1.out.cell 3
 have ca1_4 : w1.cell? ⟨w.heap.size,4,none⟩ = some (.int .i64 x.things_.count_):=ba1.out.cell 4
 have cb1_4 : w1.cell? ⟨w.heap.size + 1,4,none⟩ = some (.int .i64 x.things_.count_):=bb1.out.cell 4
 go_wp2_with fail
 refine (eqThings_same x.things_ _ _ _ S S' (Things.R_good.ext H1.out (X1)) (Things.R_good.ext U1.out (X1))).mono ?_
 rintro e w2 ⟨rfl,x2⟩
 have z2 : w.heap.size + 2 ≤ w2.heap.size:=by have h:=x2.size;(try simp at h);omega
 have ba2 : Hid (Bx w2 (w.heap.size) 111 #[.int .i64 x.out_,.slice A0 n0 c0,.slice A1 n1 c1,.slice A2 n2 c2,.int .i64 x.things_.count_]):=Bx.ext (ba1.out) x2
 have bb2 : Hid (Bx w2 (w.heap.size + 1) 111 #[.int .i64 x.out_,.slice B0 n0 d0,.slice B1 p1 d1,.slice B2 p2 d2,.int .i64 x.things_.count_]):=Bx.ext (bb1.out) x2
 have X2 : Ext w w2:=Ext.tr (X1) x2
 clear x2
 go_wp2
 go_ret
 exact ⟨rfl,X2⟩
theorem Run.size_info : (Tryz.prog.info? 111).map (·.size) = some 5:=by kernel_rfl
theorem Run.W_one {w : World} {S : Nat → Prop} {cs : List Value} {x : Run} (h : Run.W w S cs x) : ∀ v ∈ cs,v.oneCell' = true:=by
 obtain ⟨A0,n0,c0,A1,n1,c1,A2,n2,c2,rfl⟩:=Run.W_cells h
 simp [Value.oneCell']
set_option maxRecDepth 8000 in
theorem eqRunS_same (A B : Option Addr) (n c d : Nat) (l : List Run) (w : World) (S S' : Nat → Prop) (ha : SlR Run.R 5 w S A n l) (hb : SlR Run.R 5 w S' B n l) (hm : n ≤ 9223372036854775807) :
  Calls Tryz.prog 11 #[.slice A n c,.slice B n d] w fun e w' => e = .returned (.bool true) ∧ Ext w w':=by
 have HA:=hid ha
 have HB:=hid hb
 clear ha hb
 go_enter Tryz.func11,Tryz.ntmps11
 go_wp2
 go_loopw [5] (fun i wr => ∃ (k : Nat),k ≤ n ∧ i = .int .i64 k ∧ Ext w wr) (fun i _ => n - (intOf i).toNat)
 case atStart => exact ⟨0,Nat.zero_le _,rfl,Ext.refl' _⟩
 case round =>
  obtain ⟨k,hk,rfl,hx⟩:=hrel
  have HX:=hid hx
  clear hx
  by_cases hlt : (k : Int) < (n : Int)
  rotate_left
  ·go_wp2
   go_ret
   exact ⟨rfl,HX.out⟩
  obtain ⟨b,o,rfl⟩:=HA.out.addr (by omega)
  obtain ⟨b2,o2,rfl⟩:=HB.out.addr (by omega)
  obtain ⟨x,row,hxk,-,hrw,hc⟩:=(HA.out.ext Run.R_good HX.out).at_ (k:=k) (by omega)
  obtain ⟨y,row2,hyk,-,hrw2,hc2⟩:=(HB.out.ext Run.R_good HX.out).at_ (k:=k) (by omega)
  rw [hxk] at hyk
  injection hyk with hyk
  subst hyk
  have rx:=hid (SlR.range Run.R_good hrw hc)
  have ry:=hid (SlR.range Run.R_good hrw2 hc2)
  have RX:=hid hrw
  have RY:=hid hrw2
  have l1 : Hid ((Tryz.prog.info? 111).map (·.size) = some row.length):=by show _ = _;rw [Run.R_good.len hrw];exact Run.size_info
  have l2 : Hid ((Tryz.prog.info? 111).map (·.size) = some row2.length):=by show _ = _;rw [Run.R_good.len hrw2];exact Run.size_info
  have KX : Hid (∀ wq,Ext wr wq → wq.rangeAt b (o + k * 5) row):=fun wq q j v hv => q.co (rx.out j v hv)
  have KY : Hid (∀ wq,Ext wr wq → wq.rangeAt b2 (o2 + k * 5) row2):=fun wq q j v hv => q.co (ry.out j v hv)
  have hk0 : (0 : Int) ≤ (k : Int):=by omega
  clear hrw hrw2 hc hc2 hxk
  go_wp2
  refine region_class (fun w' => Ext wr w') (by kernel_rfl) (by kernel_rfl) ((Ext.refl' _).dr) ?_
  repeat (first|go_big_quiet_skip|(go_big_quiet_want;first|(refine quiet_load 111 _ rfl b (o + k * 5) rfl row _ KX.out Tryz.underlying111 rfl l1.out ?_;(try simp only [Act.put,List.setIfInBounds_toArray,List.set_cons_zero,List.set_cons_succ]);go_big_quiet_on)|(refine quiet_load 111 _ rfl b2 (o2 + k * 5) rfl row2 _ KY.out Tryz.underlying111 rfl l2.out ?_;(try simp only [Act.put,List.setIfInBounds_toArray,List.set_cons_zero,List.set_cons_succ]);go_big_quiet_on)|(unfold Oper.quiet;apply Exists.intro;refine ⟨fun wq hq => ?_,?_⟩;(go_simp;first|done|rfl|(go_at_call 45;exact (eqRun_same x row row2 _ S S' (Run.R_good.ext RX.out hq) (Run.R_good.ext RY.out hq)).mono fun e w2 h2 => ⟨h2.1,hq.tr h2.2⟩));(try simp only [Act.put,List.setIfInBounds_toArray,List.set_cons_zero,List.set_cons_succ]);go_big_quiet_on)))
  refine wpQuiet_nil ?_
  intro wq hq
  have XE:=hid hq
  clear hq
  go_wp2
  go_roundw
  case rel => exact ⟨k + 1,by omega,by go_num,HX.out.tr XE.out⟩
  case measure => simp [intOf];omega
end Go.Proofs.YtoegjiigaoanbaaGreat
namespace Go.Proofs.YtoegjiigaoanbaaGreat
open Go.ChangeShapes Go.WideShapes Go.ChangeAt Go.RowKit Go.Deep
open Go.Lib (hid)
def ctl {α : Type} (f : α → Nat) : List α → Nat
 | [] => 0
 | a::l => f a + ctl f l
def mkl {α : Type} (g : Int → α → α) (f : α → Nat) (q : Int) : List α → List α
 | [] => []
 | x::l => g q x::mkl g f (q + f x) l
section
variable {α : Type} {g : Int → α → α} {f : α → Nat}
theorem mkl_len (q : Int) (l : List α) : (mkl g f q l).length = l.length:=by
 induction l generalizing q with
 | nil => rfl
 | cons x l ih => simp [mkl,ih]
theorem mkl_get {l : List α} {k : Nat} {x : α} (h : l[k]? = some x) : ∀ q : Int,(mkl g f q l)[k]? = some (g (q + ctl f (l.take k)) x):=by
 induction l generalizing k with
 | nil => simp at h
 | cons y l ih =>
  intro q
  rcases k with _|k
  ·simp at h;subst h;simp [mkl,ctl]
  ·simp only [List.getElem?_cons_succ] at h
   simp only [mkl,List.getElem?_cons_succ,List.take_succ_cons,ctl]
   rw [ih h]
   congr 2
   omega
theorem ctl_take {l : List α} {k : Nat} {x : α} (h : l[k]? = some x) : ctl f (l.take (k + 1)) = ctl f (l.take k) + f x:=by
 induction l generalizing k with
 | nil => simp at h
 | cons y l ih =>
  rcases k with _|k
  ·simp at h;subst h;simp [ctl]
  ·simp only [List.getElem?_cons_succ] at h
   simp only [List.take_succ_cons,ctl,ih h]
   omega
theorem ctl_le (l : List α) (k : Nat) : ctl f (l.take k) ≤ ctl f l:=by
 induction l generalizing k with
 | nil => simp [ctl]
 | cons b l ih =>
  rcases k with _|k
  ·simp [ctl]
  ·simp only [List.take_succ_cons,ctl];have:=ih k;omega
theorem ctl_bound {l : List α} {wt : α → Nat} {b : Nat} (h : ∀ x,f x ≤ b * (wt x + 1)) : ctl f l ≤ b * wtl wt l:=by
 induction l with
 | nil => simp [ctl,wtl]
 | cons x l ih =>
  simp only [ctl,wtl]
  have:=h x
  rw [Nat.mul_add]
  omega
def mixl (g : Int → α → α) (f : α → Nat) (q : Int) (l : List α) (k : Nat) : List α:=(mkl g f q l).take k ++ l.drop k
theorem mixl_zero (q : Int) (l : List α) : mixl g f q l 0 = l:=by simp [mixl]
theorem mixl_all {q : Int} {l : List α} {n : Nat} (h : l.length = n) : mixl g f q l n = mkl g f q l:=by
 subst h
 have h1:=mkl_len (g:=g) (f:=f) q l
 simp only [mixl,List.drop_length,List.append_nil]
 rw [List.take_of_length_le (by omega)]
theorem mixl_len (q : Int) (l : List α) (k : Nat) : (mixl g f q l k).length = l.length:=by
 simp only [mixl,List.length_append,List.length_take,List.length_drop,mkl_len]
 omega
theorem mixl_at {q : Int} {l : List α} {k : Nat} {x : α} (h : l[k]? = some x) : (mixl g f q l k)[k]? = some x:=by
 have hk:=(List.getElem?_eq_some_iff.1 h).1
 have h1:=mkl_len (g:=g) (f:=f) q l
 rw [mixl,List.getElem?_append_right (by rw [List.length_take];omega),List.length_take,Nat.min_eq_left (by omega),Nat.sub_self,List.getElem?_drop,Nat.add_zero,h]
theorem mixl_next {q : Int} {l : List α} {k : Nat} {x : α} (h : l[k]? = some x) : mixl g f q l (k + 1) = (mixl g f q l k).set k (g (q + ctl f (l.take k)) x):=by
 have hk:=(List.getElem?_eq_some_iff.1 h).1
 have h1:=mkl_len (g:=g) (f:=f) q l
 have h2:=mkl_get (g:=g) (f:=f) h q
 apply List.ext_getElem?
 intro i
 rw [List.getElem?_set]
 by_cases e : k = i
 ·subst e
  rw [if_pos rfl,if_pos (by rw [mixl_len];exact hk),mixl,List.getElem?_append_left (by rw [List.length_take];omega),List.getElem?_take,if_pos (by omega),h2]
 ·rw [if_neg e]
  simp only [mixl]
  by_cases hi : i < k
  ·rw [List.getElem?_append_left (by rw [List.length_take];omega),List.getElem?_append_left (by rw [List.length_take];omega),List.getElem?_take,List.getElem?_take,if_pos (by omega),if_pos hi]
  ·rw [List.getElem?_append_right (by rw [List.length_take];omega),List.getElem?_append_right (by rw [List.length_take];omega),List.getElem?_drop,List.getElem?_drop,List.length_take,List.length_take]
   congr 1
   omega
end
section
variable {α : Type} {W : Rd α} {size n c : Nat} {w w' : World} {S T : Nat → Prop} {A : Option Addr} {l : List α} {e : TypeId} {cs cs' : List Value} {lab : Nat → Nat}
theorem WRows.set_ {k : Nat} {row' : List Value} {x' : α} (G : Good W size) (h : WRows W size w S lab cs l n) (hl : l.length = n) (hk : k < n) (hc : Chg T w w') (hT : ∀ g,T g → S g → lab g = 0 ∨ lab g = k + 1) (hold : ∀ j,(j < k * size ∨ (k + 1) * size ≤ j) → cs'[j]? = cs[j]?) (hw : W w' (fun g => S g ∧ lab g = k + 1) row' x') (hnew : ∀ j,j < size → cs'[k * size + j]? = row'[j]?) :
  WRows W size w' S lab cs' (l.set k x') n:=by
 intro i hi y hy
 rw [List.getElem?_set] at hy
 by_cases ek : k = i
 ·subst ek
  rw [if_pos rfl,if_pos (by omega)] at hy
  injection hy with hy
  subst hy
  exact ⟨row',hw,hnew⟩
 ·rw [if_neg ek] at hy
  obtain ⟨r,hr,hj⟩:=h i hi y hy
  refine ⟨r,G.chg hr hc fun g hg ht => ?_,fun j hjs => ?_⟩
  ·have h1:=hT g ht hg.1
   have h2:=hg.2
   omega
  ·rw [hold]
   ·exact hj j hjs
   ·by_cases hik : i < k
    ·left
     have : (i + 1) * size ≤ k * size:=Nat.mul_le_mul_right _ (by omega)
     rw [Nat.succ_mul] at this
     omega
    ·right
     have : (k + 1) * size ≤ i * size:=Nat.mul_le_mul_right _ (by omega)
     omega
theorem OwS.at_ {k : Nat} (h : OwS w S e size A n c cs) (hk : k < n) : ∃ g,A = some ⟨g,0,none⟩ ∧ S g ∧ g < w.heap.size ∧ ∀ j,j < size → ∃ v,cs[k * size + j]? = some v ∧ w.cell? ⟨g,k * size + j,none⟩ = some v ∧ w.frozen? ⟨g,k * size + j,none⟩ = false:=by
 obtain ⟨g,rfl⟩ : ∃ g,A = some ⟨g,0,none⟩:=by
  rcases h.1.2 with ⟨hv,h0⟩|⟨g,cap,cur,hv,_⟩
  ·omega
  ·injection hv with h1;exact ⟨g,h1⟩
 refine ⟨g,rfl,h.2 g rfl,(h.1.lt g rfl).2,fun j hj => ?_⟩
 have hm : k * size + j < n * size:=by
  have : (k + 1) * size ≤ n * size:=Nat.mul_le_mul_right _ hk
  rw [Nat.succ_mul] at this
  omega
 have hlt : k * size + j < cs.length:=by rw [h.1.1];exact hm
 refine ⟨cs[k * size + j],List.getElem?_eq_getElem hlt,?_,h.1.frozenAt _⟩
 rw [h.1.cellAt _ hm]
 exact List.getElem?_eq_getElem hlt
end
end Go.Proofs.YtoegjiigaoanbaaGreat
namespace Go.Proofs.YtoegjiigaoanbaaGreat
open Go.RowKit Go.Deep
open Go.Lib (hid)
structure Shake (e : TypeId) (size g n c k : Nat) (leaf : Nat → Prop) (cs : List Value) (T : Nat → Prop) (w0 w : World) : Prop where
 row : ∃ cs',w.ownsRow 0 e size (.slice (some ⟨g,0,none⟩) n c) n cs' ∧ ∀ i f,f < size → (k < i ∨ (i = k ∧ leaf f)) → cs'[i * size + f]? = cs[i * size + f]?
 chg : Chg T w0 w
 mem : T g
section
variable {e : TypeId} {size g n c k : Nat} {leaf leaf' : Nat → Prop} {cs : List Value} {T T' Q : Nat → Prop} {w0 w w' : World}
theorem Shake.leafs (M : Shake e size g n c k leaf cs T w0 w) (h : ∀ f,leaf' f → leaf f) : Shake e size g n c k leaf' cs T w0 w:=by
 obtain ⟨⟨cs',h1,h2⟩,h3,h4⟩:=M
 exact ⟨⟨cs',h1,fun i f hf q => h2 i f hf (q.imp id fun a => ⟨a.1,h f a.2⟩)⟩,h3,h4⟩
theorem Shake.next (M : Shake e size g n c k leaf cs T w0 w) : Shake e size g n c (k + 1) (fun _ => True) cs T w0 w:=by
 obtain ⟨⟨cs',h1,h2⟩,h3,h4⟩:=M
 exact ⟨⟨cs',h1,fun i f hf q => h2 i f hf (.inl (by omega))⟩,h3,h4⟩
theorem Shake.mono (M : Shake e size g n c k leaf cs T w0 w) (h : ∀ j,T j → T' j) : Shake e size g n c k leaf cs T' w0 w:=by
 obtain ⟨h1,h3,h4⟩:=M
 exact ⟨h1,h3.mono h,h g h4⟩
theorem Shake.call (M : Shake e size g n c k leaf cs T w0 w) (h : Chg Q w w') (hg : ¬ Q g) (hQ : ∀ j,Q j → T' j) (hT : ∀ j,T j → T' j) : Shake e size g n c k leaf cs T' w0 w':=by
 obtain ⟨⟨cs',h1,h2⟩,h3,h4⟩:=M
 refine ⟨⟨cs',own_chg h1 h fun j hj => ?_,h2⟩,(h3.mono hT).trans (h.mono hQ),hT g h4⟩
 injection hj with hj
 rw [← hj]
 exact hg
theorem Shake.zero (h : w.ownsRow 0 e size (.slice (some ⟨g,0,none⟩) n c) n cs) (hg : T g) : Shake e size g n c 0 (fun _ => True) cs T w w:=⟨⟨cs,h,fun _ _ _ _ => rfl⟩,Chg.refl _ _,hg⟩
theorem Shake.put (M : Shake e size g n c k leaf cs T w0 w) (f : Nat) (hf : f < size) (hl : ¬ leaf f) (u : Value) : Shake e size g n c k leaf cs T w0 (w.setCell ⟨g,k * size + f,none⟩ u):=by
 obtain ⟨⟨cs',h1,h2⟩,h3,h4⟩:=M
 refine ⟨⟨cs'.set (k * size + f) u,(h1.stored (k * size + f) u).1,fun i f' hf' q => ?_⟩,h3.sc (p:=⟨g,k * size + f,none⟩) h4 u,h4⟩
 rw [List.getElem?_set_ne]
 ·exact h2 i f' hf' q
 ·rcases q with q|⟨q,q2⟩
  ·have : (k + 1) * size ≤ i * size:=Nat.mul_le_mul_right _ q
   rw [Nat.succ_mul] at this
   omega
  ·subst q
   intro e2
   have : f = f':=by omega
   subst this
   exact hl q2
theorem row_in {k n size f : Nat} (hk : k < n) (hf : f < size) : k * size + f < n * size:=by
 have : (k + 1) * size ≤ n * size:=Nat.mul_le_mul_right _ hk
 rw [Nat.succ_mul] at this
 omega
variable {P : Program} {ops : Array Oper} {rest : List Oper} {o : Oper} {a : Act} {X : Exit → Act → World → Prop}
theorem Shake.wp_put (M : Shake e size g n c k leaf cs T w0 w) (hk : k < n) (hgd : o.guard = none) (ty : TypeId) (x y : Operand) (ho : o.op = .store ty x y) (hd : o.dst = none) (f : Nat) (hx : a.eval x = .pointer (some ⟨g,k * size + f,none⟩)) (u : Value) (hy : a.eval y = u) (hf : f < size) (hl : ¬ leaf f) (h1 : u.oneCell' = true) (hu : (P.info? ty).map (·.size) = some 1)
  (h : ∀ w',Shake e size g n c k leaf cs T w0 w' → wpList P ops X rest a w') : wpList P ops X (o::rest) a w :=
 wpList_plain hgd fun _ hK => by
  obtain ⟨cs',h2,_⟩:=M.row
  unfold Oper.wp execOp
  simp only [ho,hx,hy,Instr.storeAt,Instr.sureAddr,Sem.run_bind,Sem.run_pure,Result.andThen_ok,run_storeVar_cell w g (k * size + f) ty u (there_row h2 (by have:=row_in hk hf;omega)) hu h1]
  have:=h _ (M.put f hf hl u)
  exact hK _ _ (by rw [hd];exact this)
theorem Shake.wp_put0 (M : Shake e size g n c k leaf cs T w0 w) (hk : k < n) (hgd : o.guard = none) (ty : TypeId) (x y : Operand) (ho : o.op = .store ty x y) (hd : o.dst = none) (hx : a.eval x = .pointer (some ⟨g,k * size,none⟩)) (u : Value) (hy : a.eval y = u) (hf : 0 < size) (hl : ¬ leaf 0) (h1 : u.oneCell' = true) (hu : (P.info? ty).map (·.size) = some 1)
  (h : ∀ w',Shake e size g n c k leaf cs T w0 w' → wpList P ops X rest a w') : wpList P ops X (o::rest) a w :=
 M.wp_put hk hgd ty x y ho hd 0 hx u hy hf hl h1 hu h
theorem Shake.wp_get (M : Shake e size g n c k leaf cs T w0 w) (hk : k < n) (hgd : o.guard = none) (ty : TypeId) (x : Operand) (ho : o.op = .load ty x) (f : Nat) (hx : a.eval x = .pointer (some ⟨g,k * size + f,none⟩)) (hf : f < size) (hl : leaf f) (v : Value) (hv : cs[k * size + f]? = some v)
  (d : TypeDesc) (hu : P.underlying ty = some d) (hd : d.isRow = false) (h : wpList P ops X rest (a.put o.dst v) w) : wpList P ops X (o::rest) a w:=by
 obtain ⟨cs',h2,h3⟩:=M.row
 exact wpList_load_cell hgd ty x ho _ hx v ((h2.cellAt _ (by have:=row_in hk hf;omega)).trans ((h3 k f hf (.inr ⟨rfl,hl⟩)).trans hv)) d hu hd h
theorem Shake.wp_put2 (M : Shake e size g n c k leaf cs T w0 w) (hk : k < n) (hgd : o.guard = none) (ty : TypeId) (x y : Operand) (ho : o.op = .store ty x y) (hd : o.dst = none) (f f2 : Nat) (hx : a.eval x = .pointer (some ⟨g,k * size + f + f2,none⟩)) (u : Value) (hy : a.eval y = u) (hf : f + f2 < size) (hl : ¬ leaf (f + f2)) (h1 : u.oneCell' = true) (hu : (P.info? ty).map (·.size) = some 1)
  (h : ∀ w',Shake e size g n c k leaf cs T w0 w' → wpList P ops X rest a w') : wpList P ops X (o::rest) a w :=
 M.wp_put hk hgd ty x y ho hd (f + f2) (by rw [hx,Nat.add_assoc]) u hy hf hl h1 hu h
theorem Shake.wp_get2 (M : Shake e size g n c k leaf cs T w0 w) (hk : k < n) (hgd : o.guard = none) (ty : TypeId) (x : Operand) (ho : o.op = .load ty x) (f f2 : Nat) (hx : a.eval x = .pointer (some ⟨g,k * size + f + f2,none⟩)) (hf : f + f2 < size) (hl : leaf (f + f2)) (v : Value) (hv : cs[k * size + (f + f2)]? = some v)
  (d : TypeDesc) (hu : P.underlying ty = some d) (hd : d.isRow = false) (h : wpList P ops X rest (a.put o.dst v) w) : wpList P ops X (o::rest) a w :=
 M.wp_get hk hgd ty x ho (f + f2) (by rw [hx,Nat.add_assoc]) hf hl v hv d hu hd h
theorem Shake.wp_get0 (M : Shake e size g n c k leaf cs T w0 w) (hk : k < n) (hgd : o.guard = none) (ty : TypeId) (x : Operand) (ho : o.op = .load ty x) (hx : a.eval x = .pointer (some ⟨g,k * size,none⟩)) (hf : 0 < size) (hl : leaf 0) (v : Value) (hv : cs[k * size]? = some v)
  (d : TypeDesc) (hu : P.underlying ty = some d) (hd : d.isRow = false) (h : wpList P ops X rest (a.put o.dst v) w) : wpList P ops X (o::rest) a w :=
 M.wp_get hk hgd ty x ho 0 hx hf hl v hv d hu hd h
end
theorem shk {P : Program} {f : FuncId} {args : Array Value} {w : World} {S : Nat → Prop} {q z : Int} (h : Calls P f args w fun e w' => e = .returned (.int .i64 (q + z)) ∧ Chg S w w') :
  Calls P f args w fun e w' => ∃ Q' : Int,e = .returned (.int .i64 Q') ∧ Hid (Q' = q + z) ∧ Chg S w w':=h.mono fun _ _ ⟨h1,h2⟩ => ⟨_,h1,hid rfl,h2⟩
theorem shk3 {P : Program} {f : FuncId} {args : Array Value} {w : World} {S : Nat → Prop} {q z : Int} {R : World → Prop} (h : Calls P f args w fun e w' => e = .returned (.int .i64 (q + z)) ∧ R w' ∧ Chg S w w') :
  Calls P f args w fun e w' => ∃ Q' : Int,e = .returned (.int .i64 Q') ∧ Hid (Q' = q + z) ∧ Chg S w w':=h.mono fun _ _ ⟨h1,_,h2⟩ => ⟨_,h1,hid rfl,h2⟩
theorem markIntS_ow (A : Option Addr) (n c : Nat) (zs : List Int) (q : Int) (w : World) (S : Nat → Prop) (h : OwS w S 3 1 A n c (ints zs)) (hq : 0 ≤ q) (hqn : q + n ≤ 9007199254740992) :
  Calls Tryz.prog 61 #[.slice A n c,.int .i64 q] w fun e w' => e = .returned (.int .i64 (q + n)) ∧ OwS w' S 3 1 A n c (ints (marks q n)) ∧ Chg S w w' :=
 (markIntS_any A n c 0 _ q w h.1 hq hqn).mono fun _ _ ⟨h1,h2,h3⟩ => ⟨h1,⟨h2,h.2⟩,h3.mono fun k hk => h.2 k hk⟩
def Word.mark (q : Int) : Word:=⟨q,q + 1,q + 1 + 1⟩
def Word.marks (q : Int) (n : Nat) : List Word:=(List.range n).map fun i : Nat => Word.mark (q + i * 3)
theorem Word.marks_length (q : Int) (n : Nat) : (Word.marks q n).length = n:=by simp [Word.marks]
theorem Word.marks_get (q : Int) (n i : Nat) (h : i < n) : (Word.marks q n)[i]? = some (Word.mark (q + i * 3)):=by simp [Word.marks,h]
theorem markWordS_any (A : Option Addr) (n c : Nat) (base : Nat) (cs0 : List Value) (q : Int) (w : World) (ho0 : w.ownsRow base 193 3 (.slice A n c) n cs0) (hq : 0 ≤ q) (hqn : q + n * 3 ≤ 9007199254740992) :
  Calls Tryz.prog 109 #[.slice A n c,.int .i64 q] w fun e w' => e = .returned (.int .i64 (q + n * 3)) ∧ w'.ownsRow base 193 3 (.slice A n c) n ((Word.marks q n).flatMap Word.cells) ∧ Chg (fun k => (Value.slice A n c).ownBlock = some k) w w':=by
 have HO:=hid ho0
 clear ho0
 go_enter Tryz.func109,Tryz.ntmps109
 go_wp2
 go_loopw [1,5] (fun r i wr => ∃ (k : Nat) (cs : List Value),k ≤ n ∧ i = .int .i64 k ∧ r = .int .i64 (q + k * 3) ∧ wr.ownsRow base 193 3 (.slice A n c) n cs ∧ Upto cs ((Word.marks q n).flatMap Word.cells) (k * 3) ∧ Chg (fun k => (Value.slice A n c).ownBlock = some k) w wr) (fun _ i _ => n - (intOf i).toNat)
 case atStart => exact ⟨0,_,Nat.zero_le _,rfl,by simp,HO.out,by rw [Nat.zero_mul];exact Upto.zero _ _,Chg.refl _ _⟩
 case round =>
  obtain ⟨k,cs,hk,rfl,rfl,ho,hu,hx⟩:=hrel
  by_cases hlt : k < n
  ·obtain ⟨g,rfl,-,-,hg⟩:=own_flat ho hlt
   obtain ⟨v0,g0,e0⟩:=hg 0 (by omega)
   obtain ⟨v1,g1,e1⟩:=hg 1 (by omega)
   obtain ⟨v2,g2,e2⟩:=hg 2 (by omega)
   rw [Nat.add_zero] at g0 e0
   have HO2:=hid ho
   have HE2:=hid hx
   clear ho hx hg
   go_wp2
   go_roundw
   case rel =>
    have t0:=HO2.out.stored (k * 3) (.int .i64 (q + k * 3))
    have t1:=t0.1.stored (k * 3 + 1) (.int .i64 (q + k * 3 + 1))
    have t2:=t1.1.stored (k * 3 + 2) (.int .i64 (q + k * 3 + 1 + 1))
    have hl3 : cs.length = n * 3:=HO2.out.1
    have hmk:=Word.marks_get q n k hlt
    have q0:=flat_get Word.cells_length _ k 0 _ hmk (by omega)
    have q1:=flat_get Word.cells_length _ k 1 _ hmk (by omega)
    have q2:=flat_get Word.cells_length _ k 2 _ hmk (by omega)
    refine ⟨k + 1,_,by omega,by go_num,by go_num,t2.1,?_,?_⟩
    ·rw [show (k + 1) * 3 = k * 3 + 2 + 1 by omega]
     refine Upto.set1 (Upto.set1 (Upto.set1 hu (by omega) ?_) (by simp;omega) ?_) (by simp;omega) ?_
     ·exact q0
     ·exact q1
     ·exact q2
    ·exact (((HE2.out).grown t0.2 (fun j hj => .inl hj)).grown t1.2 (fun j hj => .inl hj)).grown t2.2 (fun j hj => .inl hj)
   case measure => simp [intOf];omega
  ·go_wp2
   go_ret
   have : k = n:=by omega
   subst this
   refine ⟨rfl,?_,hx⟩
   rw [← hu.all ho.1 (by rw [flat_length Word.cells_length,Word.marks_length])]
   exact ho
theorem markWordS_ow (A : Option Addr) (n c : Nat) (l : List Word) (q : Int) (w : World) (S : Nat → Prop) (h : OwS w S 193 3 A n c (l.flatMap Word.cells)) (hq : 0 ≤ q) (hqn : q + n * 3 ≤ 9007199254740992) :
  Calls Tryz.prog 109 #[.slice A n c,.int .i64 q] w fun e w' => e = .returned (.int .i64 (q + n * 3)) ∧ OwS w' S 193 3 A n c ((Word.marks q n).flatMap Word.cells) ∧ Chg S w w' :=
 (markWordS_any A n c 0 _ q w h.1 hq hqn).mono fun _ _ ⟨h1,h2,h3⟩ => ⟨h1,⟨h2,h.2⟩,h3.mono fun k hk => h.2 k hk⟩
def Row.mark (q : Int) : Row:=⟨q,q + 1⟩
def Row.marks (q : Int) (n : Nat) : List Row:=(List.range n).map fun i : Nat => Row.mark (q + i * 2)
theorem Row.marks_length (q : Int) (n : Nat) : (Row.marks q n).length = n:=by simp [Row.marks]
theorem Row.marks_get (q : Int) (n i : Nat) (h : i < n) : (Row.marks q n)[i]? = some (Row.mark (q + i * 2)):=by simp [Row.marks,h]
theorem markRowS_any (A : Option Addr) (n c : Nat) (base : Nat) (cs0 : List Value) (q : Int) (w : World) (ho0 : w.ownsRow base 239 2 (.slice A n c) n cs0) (hq : 0 ≤ q) (hqn : q + n * 2 ≤ 9007199254740992) :
  Calls Tryz.prog 110 #[.slice A n c,.int .i64 q] w fun e w' => e = .returned (.int .i64 (q + n * 2)) ∧ w'.ownsRow base 239 2 (.slice A n c) n ((Row.marks q n).flatMap Row.cells) ∧ Chg (fun k => (Value.slice A n c).ownBlock = some k) w w':=by
 have HO:=hid ho0
 clear ho0
 go_enter Tryz.func110,Tryz.ntmps110
 go_wp2
 go_loopw [1,5] (fun r i wr => ∃ (k : Nat) (cs : List Value),k ≤ n ∧ i = .int .i64 k ∧ r = .int .i64 (q + k * 2) ∧ wr.ownsRow base 239 2 (.slice A n c) n cs ∧ Upto cs ((Row.marks q n).flatMap Row.cells) (k * 2) ∧ Chg (fun k => (Value.slice A n c).ownBlock = some k) w wr) (fun _ i _ => n - (intOf i).toNat)
 case atStart => exact ⟨0,_,Nat.zero_le _,rfl,by simp,HO.out,by rw [Nat.zero_mul];exact Upto.zero _ _,Chg.refl _ _⟩
 case round =>
  obtain ⟨k,cs,hk,rfl,rfl,ho,hu,hx⟩:=hrel
  by_cases hlt : k < n
  ·obtain ⟨g,rfl,-,-,hg⟩:=own_flat ho hlt
   obtain ⟨v0,g0,e0⟩:=hg 0 (by omega)
   obtain ⟨v1,g1,e1⟩:=hg 1 (by omega)
   rw [Nat.add_zero] at g0 e0
   have HO2:=hid ho
   have HE2:=hid hx
   clear ho hx hg
   go_wp2
   go_roundw
   case rel =>
    have t0:=HO2.out.stored (k * 2) (.int .i64 (q + k * 2))
    have t1:=t0.1.stored (k * 2 + 1) (.int .i64 (q + k * 2 + 1))
    have hl3 : cs.length = n * 2:=HO2.out.1
    have hmk:=Row.marks_get q n k hlt
    have q0:=flat_get Row.cells_length _ k 0 _ hmk (by omega)
    have q1:=flat_get Row.cells_length _ k 1 _ hmk (by omega)
    refine ⟨k + 1,_,by omega,by go_num,by go_num,t1.1,?_,?_⟩
    ·rw [show (k + 1) * 2 = k * 2 + 1 + 1 by omega]
     refine Upto.set1 (Upto.set1 hu (by omega) ?_) (by simp;omega) ?_
     ·exact q0
     ·exact q1
    ·exact ((HE2.out).grown t0.2 (fun j hj => .inl hj)).grown t1.2 (fun j hj => .inl hj)
   case measure => simp [intOf];omega
  ·go_wp2
   go_ret
   have : k = n:=by omega
   subst this
   refine ⟨rfl,?_,hx⟩
   rw [← hu.all ho.1 (by rw [flat_length Row.cells_length,Row.marks_length])]
   exact ho
theorem markRowS_ow (A : Option Addr) (n c : Nat) (l : List Row) (q : Int) (w : World) (S : Nat → Prop) (h : OwS w S 239 2 A n c (l.flatMap Row.cells)) (hq : 0 ≤ q) (hqn : q + n * 2 ≤ 9007199254740992) :
  Calls Tryz.prog 110 #[.slice A n c,.int .i64 q] w fun e w' => e = .returned (.int .i64 (q + n * 2)) ∧ OwS w' S 239 2 A n c ((Row.marks q n).flatMap Row.cells) ∧ Chg S w w' :=
 (markRowS_any A n c 0 _ q w h.1 hq hqn).mono fun _ _ ⟨h1,h2,h3⟩ => ⟨h1,⟨h2,h.2⟩,h3.mono fun k hk => h.2 k hk⟩
def Entry.mark (q : Int) : Entry:=⟨q,q + 1,q + 1 + 1⟩
def Entry.marks (q : Int) (n : Nat) : List Entry:=(List.range n).map fun i : Nat => Entry.mark (q + i * 3)
theorem Entry.marks_length (q : Int) (n : Nat) : (Entry.marks q n).length = n:=by simp [Entry.marks]
theorem Entry.marks_get (q : Int) (n i : Nat) (h : i < n) : (Entry.marks q n)[i]? = some (Entry.mark (q + i * 3)):=by simp [Entry.marks,h]
theorem markEntryS_any (A : Option Addr) (n c : Nat) (base : Nat) (cs0 : List Value) (q : Int) (w : World) (ho0 : w.ownsRow base 245 3 (.slice A n c) n cs0) (hq : 0 ≤ q) (hqn : q + n * 3 ≤ 9007199254740992) :
  Calls Tryz.prog 113 #[.slice A n c,.int .i64 q] w fun e w' => e = .returned (.int .i64 (q + n * 3)) ∧ w'.ownsRow base 245 3 (.slice A n c) n ((Entry.marks q n).flatMap Entry.cells) ∧ Chg (fun k => (Value.slice A n c).ownBlock = some k) w w':=by
 have HO:=hid ho0
 clear ho0
 go_enter Tryz.func113,Tryz.ntmps113
 go_wp2
 go_loopw [1,5] (fun r i wr => ∃ (k : Nat) (cs : List Value),k ≤ n ∧ i = .int .i64 k ∧ r = .int .i64 (q + k * 3) ∧ wr.ownsRow base 245 3 (.slice A n c) n cs ∧ Upto cs ((Entry.marks q n).flatMap Entry.cells) (k * 3) ∧ Chg (fun k => (Value.slice A n c).ownBlock = some k) w wr) (fun _ i _ => n - (intOf i).toNat)
 case atStart => exact ⟨0,_,Nat.zero_le _,rfl,by simp,HO.out,by rw [Nat.zero_mul];exact Upto.zero _ _,Chg.refl _ _⟩
 case round =>
  obtain ⟨k,cs,hk,rfl,rfl,ho,hu,hx⟩:=hrel
  by_cases hlt : k < n
  ·obtain ⟨g,rfl,-,-,hg⟩:=own_flat ho hlt
   obtain ⟨v0,g0,e0⟩:=hg 0 (by omega)
   obtain ⟨v1,g1,e1⟩:=hg 1 (by omega)
   obtain ⟨v2,g2,e2⟩:=hg 2 (by omega)
   rw [Nat.add_zero] at g0 e0
   have HO2:=hid ho
   have HE2:=hid hx
   clear ho hx hg
   go_wp2
   go_roundw
   case rel =>
    have t0:=HO2.out.stored (k * 3) (.int .i64 (q + k * 3))
    have t1:=t0.1.stored (k * 3 + 1) (.int .i64 (q + k * 3 + 1))
    have t2:=t1.1.stored (k * 3 + 2) (.int .i64 (q + k * 3 + 1 + 1))
    have hl3 : cs.length = n * 3:=HO2.out.1
    have hmk:=Entry.marks_get q n k hlt
    have q0:=flat_get Entry.cells_length _ k 0 _ hmk (by omega)
    have q1:=flat_get Entry.cells_length _ k 1 _ hmk (by omega)
    have q2:=flat_get Entry.cells_length _ k 2 _ hmk (by omega)
    refine ⟨k + 1,_,by omega,by go_num,by go_num,t2.1,?_,?_⟩
    ·rw [show (k + 1) * 3 = k * 3 + 2 + 1 by omega]
     refine Upto.set1 (Upto.set1 (Upto.set1 hu (by omega) ?_) (by simp;omega) ?_) (by simp;omega) ?_
     ·exact q0
     ·exact q1
     ·exact q2
    ·exact (((HE2.out).grown t0.2 (fun j hj => .inl hj)).grown t1.2 (fun j hj => .inl hj)).grown t2.2 (fun j hj => .inl hj)
   case measure => simp [intOf];omega
  ·go_wp2
   go_ret
   have : k = n:=by omega
   subst this
   refine ⟨rfl,?_,hx⟩
   rw [← hu.all ho.1 (by rw [flat_length Entry.cells_length,Entry.marks_length])]
   exact ho
theorem markEntryS_ow (A : Option Addr) (n c : Nat) (l : List Entry) (q : Int) (w : World) (S : Nat → Prop) (h : OwS w S 245 3 A n c (l.flatMap Entry.cells)) (hq : 0 ≤ q) (hqn : q + n * 3 ≤ 9007199254740992) :
  Calls Tryz.prog 113 #[.slice A n c,.int .i64 q] w fun e w' => e = .returned (.int .i64 (q + n * 3)) ∧ OwS w' S 245 3 A n c ((Entry.marks q n).flatMap Entry.cells) ∧ Chg S w w' :=
 (markEntryS_any A n c 0 _ q w h.1 hq hqn).mono fun _ _ ⟨h1,h2,h3⟩ => ⟨h1,⟨h2,h.2⟩,h3.mono fun k hk => h.2 k hk⟩
def Undo.mark (q : Int) : Undo:=⟨q,q + 1,q + 1 + 1⟩
def Undo.marks (q : Int) (n : Nat) : List Undo:=(List.range n).map fun i : Nat => Undo.mark (q + i * 3)
theorem Undo.marks_length (q : Int) (n : Nat) : (Undo.marks q n).length = n:=by simp [Undo.marks]
theorem Undo.marks_get (q : Int) (n i : Nat) (h : i < n) : (Undo.marks q n)[i]? = some (Undo.mark (q + i * 3)):=by simp [Undo.marks,h]
theorem markUndoS_any (A : Option Addr) (n c : Nat) (base : Nat) (cs0 : List Value) (q : Int) (w : World) (ho0 : w.ownsRow base 243 3 (.slice A n c) n cs0) (hq : 0 ≤ q) (hqn : q + n * 3 ≤ 9007199254740992) :
  Calls Tryz.prog 112 #[.slice A n c,.int .i64 q] w fun e w' => e = .returned (.int .i64 (q + n * 3)) ∧ w'.ownsRow base 243 3 (.slice A n c) n ((Undo.marks q n).flatMap Undo.cells) ∧ Chg (fun k => (Value.slice A n c).ownBlock = some k) w w':=by
 have HO:=hid ho0
 clear ho0
 go_enter Tryz.func112,Tryz.ntmps112
 go_wp2
 go_loopw [1,5] (fun r i wr => ∃ (k : Nat) (cs : List Value),k ≤ n ∧ i = .int .i64 k ∧ r = .int .i64 (q + k * 3) ∧ wr.ownsRow base 243 3 (.slice A n c) n cs ∧ Upto cs ((Undo.marks q n).flatMap Undo.cells) (k * 3) ∧ Chg (fun k => (Value.slice A n c).ownBlock = some k) w wr) (fun _ i _ => n - (intOf i).toNat)
 case atStart => exact ⟨0,_,Nat.zero_le _,rfl,by simp,HO.out,by rw [Nat.zero_mul];exact Upto.zero _ _,Chg.refl _ _⟩
 case round =>
  obtain ⟨k,cs,hk,rfl,rfl,ho,hu,hx⟩:=hrel
  by_cases hlt : k < n
  ·obtain ⟨g,rfl,-,-,hg⟩:=own_flat ho hlt
   obtain ⟨v0,g0,e0⟩:=hg 0 (by omega)
   obtain ⟨v1,g1,e1⟩:=hg 1 (by omega)
   obtain ⟨v2,g2,e2⟩:=hg 2 (by omega)
   rw [Nat.add_zero] at g0 e0
   have HO2:=hid ho
   have HE2:=hid hx
   clear ho hx hg
   go_wp2
   go_roundw
   case rel =>
    have t0:=HO2.out.stored (k * 3) (.int .i64 (q + k * 3))
    have t1:=t0.1.stored (k * 3 + 1) (.int .i64 (q + k * 3 + 1))
    have t2:=t1.1.stored (k * 3 + 2) (.int .i64 (q + k * 3 + 1 + 1))
    have hl3 : cs.length = n * 3:=HO2.out.1
    have hmk:=Undo.marks_get q n k hlt
    have q0:=flat_get Undo.cells_length _ k 0 _ hmk (by omega)
    have q1:=flat_get Undo.cells_length _ k 1 _ hmk (by omega)
    have q2:=flat_get Undo.cells_length _ k 2 _ hmk (by omega)
    refine ⟨k + 1,_,by omega,by go_num,by go_num,t2.1,?_,?_⟩
    ·rw [show (k + 1) * 3 = k * 3 + 2 + 1 by omega]
     refine Upto.set1 (Upto.set1 (Upto.set1 hu (by omega) ?_) (by simp;omega) ?_) (by simp;omega) ?_
     ·exact q0
     ·exact q1
     ·exact q2
    ·exact (((HE2.out).grown t0.2 (fun j hj => .inl hj)).grown t1.2 (fun j hj => .inl hj)).grown t2.2 (fun j hj => .inl hj)
   case measure => simp [intOf];omega
  ·go_wp2
   go_ret
   have : k = n:=by omega
   subst this
   refine ⟨rfl,?_,hx⟩
   rw [← hu.all ho.1 (by rw [flat_length Undo.cells_length,Undo.marks_length])]
   exact ho
theorem markUndoS_ow (A : Option Addr) (n c : Nat) (l : List Undo) (q : Int) (w : World) (S : Nat → Prop) (h : OwS w S 243 3 A n c (l.flatMap Undo.cells)) (hq : 0 ≤ q) (hqn : q + n * 3 ≤ 9007199254740992) :
  Calls Tryz.prog 112 #[.slice A n c,.int .i64 q] w fun e w' => e = .returned (.int .i64 (q + n * 3)) ∧ OwS w' S 243 3 A n c ((Undo.marks q n).flatMap Undo.cells) ∧ Chg S w w' :=
 (markUndoS_any A n c 0 _ q w h.1 hq hqn).mono fun _ _ ⟨h1,h2,h3⟩ => ⟨h1,⟨h2,h.2⟩,h3.mono fun k hk => h.2 k hk⟩
def Hold.mark (q : Int) : Hold:=⟨q,q + 1,q + 1 + 1⟩
def Hold.marks (q : Int) (n : Nat) : List Hold:=(List.range n).map fun i : Nat => Hold.mark (q + i * 3)
theorem Hold.marks_length (q : Int) (n : Nat) : (Hold.marks q n).length = n:=by simp [Hold.marks]
theorem Hold.marks_get (q : Int) (n i : Nat) (h : i < n) : (Hold.marks q n)[i]? = some (Hold.mark (q + i * 3)):=by simp [Hold.marks,h]
theorem markHoldS_any (A : Option Addr) (n c : Nat) (base : Nat) (cs0 : List Value) (q : Int) (w : World) (ho0 : w.ownsRow base 166 3 (.slice A n c) n cs0) (hq : 0 ≤ q) (hqn : q + n * 3 ≤ 9007199254740992) :
  Calls Tryz.prog 58 #[.slice A n c,.int .i64 q] w fun e w' => e = .returned (.int .i64 (q + n * 3)) ∧ w'.ownsRow base 166 3 (.slice A n c) n ((Hold.marks q n).flatMap Hold.cells) ∧ Chg (fun k => (Value.slice A n c).ownBlock = some k) w w':=by
 have HO:=hid ho0
 clear ho0
 go_enter Tryz.func58,Tryz.ntmps58
 go_wp2
 go_loopw [1,5] (fun r i wr => ∃ (k : Nat) (cs : List Value),k ≤ n ∧ i = .int .i64 k ∧ r = .int .i64 (q + k * 3) ∧ wr.ownsRow base 166 3 (.slice A n c) n cs ∧ Upto cs ((Hold.marks q n).flatMap Hold.cells) (k * 3) ∧ Chg (fun k => (Value.slice A n c).ownBlock = some k) w wr) (fun _ i _ => n - (intOf i).toNat)
 case atStart => exact ⟨0,_,Nat.zero_le _,rfl,by simp,HO.out,by rw [Nat.zero_mul];exact Upto.zero _ _,Chg.refl _ _⟩
 case round =>
  obtain ⟨k,cs,hk,rfl,rfl,ho,hu,hx⟩:=hrel
  by_cases hlt : k < n
  ·obtain ⟨g,rfl,-,-,hg⟩:=own_flat ho hlt
   obtain ⟨v0,g0,e0⟩:=hg 0 (by omega)
   obtain ⟨v1,g1,e1⟩:=hg 1 (by omega)
   obtain ⟨v2,g2,e2⟩:=hg 2 (by omega)
   rw [Nat.add_zero] at g0 e0
   have HO2:=hid ho
   have HE2:=hid hx
   clear ho hx hg
   go_wp2
   go_roundw
   case rel =>
    have t0:=HO2.out.stored (k * 3) (.int .i64 (q + k * 3))
    have t1:=t0.1.stored (k * 3 + 1) (.int .i64 (q + k * 3 + 1))
    have t2:=t1.1.stored (k * 3 + 2) (.int .i64 (q + k * 3 + 1 + 1))
    have hl3 : cs.length = n * 3:=HO2.out.1
    have hmk:=Hold.marks_get q n k hlt
    have q0:=flat_get Hold.cells_length _ k 0 _ hmk (by omega)
    have q1:=flat_get Hold.cells_length _ k 1 _ hmk (by omega)
    have q2:=flat_get Hold.cells_length _ k 2 _ hmk (by omega)
    refine ⟨k + 1,_,by omega,by go_num,by go_num,t2.1,?_,?_⟩
    ·rw [show (k + 1) * 3 = k * 3 + 2 + 1 by omega]
     refine Upto.set1 (Upto.set1 (Upto.set1 hu (by omega) ?_) (by simp;omega) ?_) (by simp;omega) ?_
     ·exact q0
     ·exact q1
     ·exact q2
    ·exact (((HE2.out).grown t0.2 (fun j hj => .inl hj)).grown t1.2 (fun j hj => .inl hj)).grown t2.2 (fun j hj => .inl hj)
   case measure => simp [intOf];omega
  ·go_wp2
   go_ret
   have : k = n:=by omega
   subst this
   refine ⟨rfl,?_,hx⟩
   rw [← hu.all ho.1 (by rw [flat_length Hold.cells_length,Hold.marks_length])]
   exact ho
theorem markHoldS_ow (A : Option Addr) (n c : Nat) (l : List Hold) (q : Int) (w : World) (S : Nat → Prop) (h : OwS w S 166 3 A n c (l.flatMap Hold.cells)) (hq : 0 ≤ q) (hqn : q + n * 3 ≤ 9007199254740992) :
  Calls Tryz.prog 58 #[.slice A n c,.int .i64 q] w fun e w' => e = .returned (.int .i64 (q + n * 3)) ∧ OwS w' S 166 3 A n c ((Hold.marks q n).flatMap Hold.cells) ∧ Chg S w w' :=
 (markHoldS_any A n c 0 _ q w h.1 hq hqn).mono fun _ _ ⟨h1,h2,h3⟩ => ⟨h1,⟨h2,h.2⟩,h3.mono fun k hk => h.2 k hk⟩
def Things.mkE (q : Int) (x : Things) : Things:=⟨marks (q) x.cells_.length,marks (q + (x.cells_.length : Int)) x.map_.length,q + (x.cells_.length : Int) + (x.map_.length : Int)⟩
def Things.mkA (q : Int) (x : Things) : Things:=⟨marks (q) x.cells_.length,marks (q + (x.cells_.length : Int)) x.map_.length,x.count_⟩
def Things.ct (x : Things) : Nat:=1 + x.cells_.length + x.map_.length
def Things.ca (x : Things) : Nat:=x.cells_.length + x.map_.length
set_option maxRecDepth 8000 in
theorem markThings_any (x : Things) (cs : List Value) (q : Int) (w : World) (S : Nat → Prop) (h : Things.W w S cs x) (hS : ∀ g,S g → g < w.heap.size) (hq : 0 ≤ q) (hqn : q + Things.ca x ≤ 9007199254740992) :
  Calls Tryz.prog 18 #[.agg cs.toArray,.int .i64 q] w fun e w' => e = .returned (.int .i64 (q + Things.ca x)) ∧ Things.W w' S cs (Things.mkA q x) ∧ Chg S w w':=by
 have hca:=hqn
 unfold Things.ca at hca
 obtain ⟨A0,n0,c0,A1,n1,c1,lab,rfl,⟨kh0,mh0,h0⟩,⟨kh1,mh1,h1⟩⟩:=h
 obtain rfl : n0 = x.cells_.length:=by have a:=h0.sl.len;omega
 have H0:=hid h0
 obtain rfl : n1 = x.map_.length:=by have a:=h1.sl.len;omega
 have H1:=hid h1
 have HS:=hid hS
 clear hS h0 h1
 show Calls Tryz.prog _ #[.agg #[.slice A0 x.cells_.length c0,.slice A1 x.map_.length c1,.int .i64 x.count_],.int .i64 q] w _
 go_enter Tryz.func18,Tryz.ntmps18
 go_wp2_with fail
 refine (markIntS_ow _ _ _ x.cells_ _ _ _ (H0.out.chg ((Chg.refl (fun _ => False) w).al _) (fun _ _ z => z)) (by omega) (by omega)).mono ?_
 rintro e w1 ⟨rfl,m0,c_0⟩
 have C0:=hid c_0
 have M0:=hid m0
 have Z1 : Hid (w.heap.size ≤ w1.heap.size):=by have a:=c_0.size;(try simp at a);show w.heap.size ≤ _;omega
 have b1 : Hid (Bx w1 w.heap.size 42 #[.slice A0 x.cells_.length c0,.slice A1 x.map_.length c1,.int .i64 x.count_]):=Bx.chg (Bx.new' _ _ _ rfl) c_0 (fun z => by have a:=HS.out _ z.1;omega)
 clear m0 c_0
 replace H1:=hid (OwS.chg (H1.out.chg ((Chg.refl (fun _ => False) w).al _) (fun _ _ z => z)) C0.out (fun g h1 h2 => by have e1:=h1.2;have e2:=h2.2;omega))
 have ca1_1 : w1.cell? ⟨w.heap.size,1,none⟩ = some (.slice A1 x.map_.length c1):=b1.out.cell 1
 go_wp2_with fail
 refine (markIntS_ow _ _ _ x.map_ _ _ _ (H1.out) (by omega) (by omega)).mono ?_
 rintro e w2 ⟨rfl,m1,c_1⟩
 have C1:=hid c_1
 have M1:=hid m1
 have Z2 : Hid (w.heap.size ≤ w2.heap.size):=by have a:=c_1.size;have b:=Z1.out;show w.heap.size ≤ _;omega
 have b2 : Hid (Bx w2 w.heap.size 42 #[.slice A0 x.cells_.length c0,.slice A1 x.map_.length c1,.int .i64 x.count_]):=Bx.chg (b1.out) c_1 (fun z => by have a:=HS.out _ z.1;omega)
 clear m1 c_1
 replace M0:=hid (OwS.chg M0.out C1.out (fun g h1 h2 => by have e1:=h1.2;have e2:=h2.2;omega))
 go_wp2
 go_ret
 exact ⟨congrArg (fun z => Ending.returned (.int .i64 z)) (by have cc : Things.ca x = x.cells_.length + x.map_.length:=rfl;omega),⟨_,_,_,_,_,_,lab,rfl,⟨kh0,mh0,M0.out⟩,⟨kh1,mh1,M1.out⟩⟩,Chg.trans (Chg.trans (((Chg.refl S w).al (.cells #[.slice A0 x.cells_.length c0,.slice A1 x.map_.length c1,.int .i64 x.count_] 42))) (C0.out.mono fun _ z => z.1)) (C1.out.mono fun _ z => z.1)⟩
def Run.mkE (q : Int) (x : Run) : Run:=⟨q,marks (q + 1) x.regs_.length,⟨marks (q + 1 + (x.regs_.length : Int)) x.things_.cells_.length,marks (q + 1 + (x.regs_.length : Int) + (x.things_.cells_.length : Int)) x.things_.map_.length,q + 1 + (x.regs_.length : Int) + (x.things_.cells_.length : Int) + (x.things_.map_.length : Int)⟩⟩
def Run.mkA (q : Int) (x : Run) : Run:=⟨x.out_,marks (q) x.regs_.length,⟨marks (q + (x.regs_.length : Int)) x.things_.cells_.length,marks (q + (x.regs_.length : Int) + (x.things_.cells_.length : Int)) x.things_.map_.length,x.things_.count_⟩⟩
def Run.ct (x : Run) : Nat:=2 + x.regs_.length + x.things_.cells_.length + x.things_.map_.length
def Run.ca (x : Run) : Nat:=x.regs_.length + x.things_.cells_.length + x.things_.map_.length
set_option maxRecDepth 8000 in
theorem markRunS_any (A : Option Addr) (n c : Nat) (l : List Run) (q : Int) (w : World) (S : Nat → Prop) (h : SlW Run.W 111 5 w S A n c l) (hS : ∀ g,S g → g < w.heap.size) (hq : 0 ≤ q) (hqn : q + (ctl Run.ct l : Nat) ≤ 9007199254740992) (hm : n ≤ 9223372036854775807) :
  Calls Tryz.prog 17 #[.slice A n c,.int .i64 q] w fun e w' => e = .returned (.int .i64 (q + (ctl Run.ct l : Nat))) ∧ SlW Run.W 111 5 w' S A n c (mkl Run.mkE Run.ct q l) ∧ Chg S w w':=by
 obtain ⟨hl,cs0,lab,ho0,hr0⟩:=h
 have HL:=hid hl
 have HO0:=hid ho0
 have HR0:=hid hr0
 have HS:=hid hS
 clear hl ho0 hr0 hS
 go_enter Tryz.func17,Tryz.ntmps17
 go_wp2
 go_loopw [1,5] (fun r i wr => ∃ (k : Nat) (cs : List Value),k ≤ n ∧ i = .int .i64 k ∧ r = .int .i64 (q + (ctl Run.ct (l.take k) : Nat)) ∧ Hid (OwS wr (fun g => S g ∧ lab g = 0) 111 5 A n c cs) ∧ Hid (WRows Run.W 5 wr S lab cs (mixl Run.mkE Run.ct q l k) n) ∧ Chg S w wr) (fun _ i _ => n - (intOf i).toNat)
 case atStart => exact ⟨0,_,Nat.zero_le _,rfl,by simp [ctl],HO0,by rw [mixl_zero];exact HR0,Chg.refl _ _⟩
 case round =>
  obtain ⟨k,cs,hk,rfl,rfl,HO,HR,hx⟩:=hrel
  have HX:=hid hx
  clear hx
  by_cases hlt : (k : Int) < (n : Int)
  rotate_left
  ·have e : Hid (k = n):=by show k = n;omega
   go_wp2
   go_ret
   refine ⟨by (rw [e.out,← HL.out,List.take_length]) <;> rfl,⟨by rw [mkl_len];exact HL.out,cs,lab,HO.out,?_⟩,HX.out⟩
   have h:=HR.out
   rw [e.out,mixl_all HL.out] at h
   exact h
  have HLT : Hid (k < n):=by show k < n;omega
  obtain ⟨g,rfl,hgS,hgl,hg⟩:=HO.out.at_ HLT.out
  obtain ⟨x,hxk⟩ : ∃ x,l[k]? = some x:=⟨_,List.getElem?_eq_getElem (by have h:=HL.out;omega)⟩
  obtain ⟨row,h,hrow⟩:=HR.out k HLT.out x (mixl_at hxk)
  obtain ⟨A0,n0,c0,vh1,lam,rfl,⟨kh0,mh0,h0⟩,h1⟩:=h
  have h1n:=h1
  clear h1
  obtain ⟨A1,n1,c1,A2,n2,c2,lam_1,rfl,⟨kh1n0,mh1n0,h1n0⟩,⟨kh1n1,mh1n1,h1n1⟩⟩:=h1n
  obtain rfl : n0 = x.regs_.length:=by have a:=h0.sl.len;omega
  have L0:=hid h0
  clear h0
  obtain rfl : n1 = x.things_.cells_.length:=by have a:=h1n0.sl.len;omega
  have L1:=hid h1n0
  clear h1n0
  obtain rfl : n2 = x.things_.map_.length:=by have a:=h1n1.sl.len;omega
  have L2:=hid h1n1
  clear h1n1
  obtain ⟨v0,i0,g0,e0⟩:=hg 0 (by omega)
  obtain ⟨v1,i1,g1,e1⟩:=hg 1 (by omega)
  obtain ⟨v2,i2,g2,e2⟩:=hg 2 (by omega)
  obtain ⟨v3,i3,g3,e3⟩:=hg 3 (by omega)
  obtain ⟨v4,i4,g4,e4⟩:=hg 4 (by omega)
  obtain rfl : v1 = .slice A0 x.regs_.length c0:=by have a:=hrow 1 (by omega);rw [i1] at a;injection a
  have IX1:=hid i1
  obtain rfl : v2 = .slice A1 x.things_.cells_.length c1:=by have a:=hrow 2 (by omega);rw [i2] at a;injection a
  have IX2:=hid i2
  obtain rfl : v3 = .slice A2 x.things_.map_.length c2:=by have a:=hrow 3 (by omega);rw [i3] at a;injection a
  have IX3:=hid i3
  rw [Nat.add_zero] at g0 e0
  have HXK:=hid hxk
  have HCT:=hid (ctl_take (f:=Run.ct) hxk)
  have HNX:=hid (mixl_next (g:=Run.mkE) (f:=Run.ct) (q:=q) hxk)
  have hle:=ctl_le (f:=Run.ct) l (k + 1)
  obtain ⟨Q,hQ⟩ : ∃ Q : Int,Q = q + (ctl Run.ct (l.take k) : Nat):=⟨_,rfl⟩
  have hQ0 : 0 ≤ Q:=by omega
  have hQn : Q + (Run.ct x : Nat) ≤ 9007199254740992:=by have a:=HCT.out;omega
  unfold Run.ct at hQn
  have HQ:=hid hQ
  have HG0:=hid hgS
  have HCL : Hid (cs.length = n * 5):=HO.out.1.1
  rw [← hQ]
  clear hQ hg hrow hxk hle hgl hgS i0 i1 i2 i3 i4
  have HS1:=hid ((Chg.refl (fun j => j = g) wr).sc (p:=⟨g,k * 5,none⟩) rfl (.int .i64 (Q)))
  replace L0:=hid (OwS.chg L0.out HS1.out (fun i h1 h2 => by have e1:=HG0.out.2;have e2 : i = g:=h2;subst e2;have e3:=h1.1.2;omega))
  replace L1:=hid (OwS.chg L1.out HS1.out (fun i h1 h2 => by have e1:=HG0.out.2;have e2 : i = g:=h2;subst e2;have e3:=h1.1.1.2;omega))
  replace L2:=hid (OwS.chg L2.out HS1.out (fun i h1 h2 => by have e1:=HG0.out.2;have e2 : i = g:=h2;subst e2;have e3:=h1.1.1.2;omega))
  have t0:=HO.out.1.stored (k * 5) (.int .i64 (Q))
  have HP1:=hid t0.1
  clear t0
  go_wp2_with fail
  refine (markIntS_ow _ _ _ x.regs_ _ _ _ L0.out (by omega) (by omega)).mono ?_
  rintro e w1 ⟨rfl,m_0,c_0⟩
  have HC1:=hid c_0
  replace L1:=hid (OwS.chg L1.out HC1.out (fun i h1 h2 => by have e1:=h1.1.2;have e2:=h2.2;omega))
  replace L2:=hid (OwS.chg L2.out HC1.out (fun i h1 h2 => by have e1:=h1.1.2;have e2:=h2.2;omega))
  replace L0:=hid m_0
  clear m_0 c_0
  have HO1 : Hid (OwS w1 (fun g => S g ∧ lab g = 0) 111 5 (some ⟨g,0,none⟩) n c _):=OwS.chg ⟨HP1.out,HO.out.2⟩ HC1.out (fun i h1 h2 => by have e1:=h1.2;have e2:=h2.1.2;omega)
  have X1 : Hid (Chg (fun j => S j ∧ (lab j = 0 ∨ lab j = k + 1)) wr w1):=Chg.trans (Chg.trans (Chg.refl (fun j => S j ∧ (lab j = 0 ∨ lab j = k + 1)) wr) (HS1.out.mono fun i e => by rw [show i = g from e];exact ⟨HG0.out.1,.inl HG0.out.2⟩)) (HC1.out.mono fun i e => ⟨e.1.1,.inr e.1.2⟩)
  obtain ⟨gq,hgq,-,-,hg⟩:=HO1.out.at_ HLT.out
  obtain rfl : g = gq:=addr_inj hgq
  clear hgq
  obtain ⟨y1_2,i1_2,g1_2,e1_2⟩:=hg 2 (by omega)
  obtain rfl : y1_2 = .slice A1 x.things_.cells_.length c1:=by rw [List.getElem?_set_ne (by omega)] at i1_2;rw [IX2.out] at i1_2;injection i1_2 with a;exact a.symm
  clear i1_2
  obtain ⟨y1_3,i1_3,g1_3,e1_3⟩:=hg 3 (by omega)
  obtain rfl : y1_3 = .slice A2 x.things_.map_.length c2:=by rw [List.getElem?_set_ne (by omega)] at i1_3;rw [IX3.out] at i1_3;injection i1_3 with a;exact a.symm
  clear i1_3
  obtain ⟨y1_4,i1_4,g1_4,e1_4⟩:=hg 4 (by omega)
  clear i1_4
  clear hg
  have HS2:=hid (Chg.refl (fun j => j = g) w1)
  have HP2:=hid HO1.out.1
  go_wp2_with fail
  refine (markIntS_ow _ _ _ x.things_.cells_ _ _ _ L1.out (by omega) (by omega)).mono ?_
  rintro e w2 ⟨rfl,m_1,c_1⟩
  have HC2:=hid c_1
  replace L0:=hid (OwS.chg L0.out HC2.out (fun i h1 h2 => by have e1:=h1.2;have e2:=h2.1.2;omega))
  replace L2:=hid (OwS.chg L2.out HC2.out (fun i h1 h2 => by have e1:=h1.2;have e2:=h2.2;omega))
  replace L1:=hid m_1
  clear m_1 c_1
  have HO2 : Hid (OwS w2 (fun g => S g ∧ lab g = 0) 111 5 (some ⟨g,0,none⟩) n c _):=OwS.chg ⟨HP2.out,HO1.out.2⟩ HC2.out (fun i h1 h2 => by have e1:=h1.2;have e2:=h2.1.1.2;omega)
  have X2 : Hid (Chg (fun j => S j ∧ (lab j = 0 ∨ lab j = k + 1)) wr w2):=Chg.trans (Chg.trans (X1.out) (HS2.out.mono fun i e => by rw [show i = g from e];exact ⟨HG0.out.1,.inl HG0.out.2⟩)) (HC2.out.mono fun i e => ⟨e.1.1.1,.inr e.1.1.2⟩)
  obtain ⟨gq,hgq,-,-,hg⟩:=HO2.out.at_ HLT.out
  obtain rfl : g = gq:=addr_inj hgq
  clear hgq
  obtain ⟨y2_3,i2_3,g2_3,e2_3⟩:=hg 3 (by omega)
  obtain rfl : y2_3 = .slice A2 x.things_.map_.length c2:=by rw [List.getElem?_set_ne (by omega)] at i2_3;rw [IX3.out] at i2_3;injection i2_3 with a;exact a.symm
  clear i2_3
  obtain ⟨y2_4,i2_4,g2_4,e2_4⟩:=hg 4 (by omega)
  clear i2_4
  clear hg
  have HS3:=hid (Chg.refl (fun j => j = g) w2)
  have HP3:=hid HO2.out.1
  go_wp2_with fail
  refine (markIntS_ow _ _ _ x.things_.map_ _ _ _ L2.out (by omega) (by omega)).mono ?_
  rintro e w3 ⟨rfl,m_2,c_2⟩
  have HC3:=hid c_2
  replace L0:=hid (OwS.chg L0.out HC3.out (fun i h1 h2 => by have e1:=h1.2;have e2:=h2.1.2;omega))
  replace L1:=hid (OwS.chg L1.out HC3.out (fun i h1 h2 => by have e1:=h1.2;have e2:=h2.2;omega))
  replace L2:=hid m_2
  clear m_2 c_2
  have HO3 : Hid (OwS w3 (fun g => S g ∧ lab g = 0) 111 5 (some ⟨g,0,none⟩) n c _):=OwS.chg ⟨HP3.out,HO2.out.2⟩ HC3.out (fun i h1 h2 => by have e1:=h1.2;have e2:=h2.1.1.2;omega)
  have X3 : Hid (Chg (fun j => S j ∧ (lab j = 0 ∨ lab j = k + 1)) wr w3):=Chg.trans (Chg.trans (X2.out) (HS3.out.mono fun i e => by rw [show i = g from e];exact ⟨HG0.out.1,.inl HG0.out.2⟩)) (HC3.out.mono fun i e => ⟨e.1.1.1,.inr e.1.1.2⟩)
  obtain ⟨gq,hgq,-,-,hg⟩:=HO3.out.at_ HLT.out
  obtain rfl : g = gq:=addr_inj hgq
  clear hgq
  obtain ⟨y3_4,i3_4,g3_4,e3_4⟩:=hg 4 (by omega)
  clear i3_4
  clear hg
  go_wp2
  go_roundw
  case rel =>
   have hlt:=HLT.out
   have cq:=(Chg.refl (fun j => j = g) w3).sc (p:=⟨g,k * 5 + 4,none⟩) rfl (.int .i64 (Q + 1 + (x.regs_.length : Int) + (x.things_.cells_.length : Int) + (x.things_.map_.length : Int)))
   replace L0:=hid (OwS.chg L0.out cq (fun i h1 h2 => by have e1:=HG0.out.2;have e2 : i = g:=h2;subst e2;have e3:=h1.1.2;omega))
   replace L1:=hid (OwS.chg L1.out cq (fun i h1 h2 => by have e1:=HG0.out.2;have e2 : i = g:=h2;subst e2;have e3:=h1.1.1.2;omega))
   replace L2:=hid (OwS.chg L2.out cq (fun i h1 h2 => by have e1:=HG0.out.2;have e2 : i = g:=h2;subst e2;have e3:=h1.1.1.2;omega))
   have t4:=HO3.out.1.stored (k * 5 + 4) (.int .i64 (Q + 1 + (x.regs_.length : Int) + (x.things_.cells_.length : Int) + (x.things_.map_.length : Int)))
   have tot:=Chg.trans (X3.out) (cq.mono fun i e => by rw [show i = g from e];exact ⟨HG0.out.1,.inl HG0.out.2⟩)
   have hcl:=HCL.out
   have f0 : ((cs.set (k * 5) (.int .i64 (Q))).set (k * 5 + 4) (.int .i64 (Q + 1 + (x.regs_.length : Int) + (x.things_.cells_.length : Int) + (x.things_.map_.length : Int))))[k * 5]? = some (.int .i64 (Q)):=by rw [List.getElem?_set_ne (by omega),List.getElem?_set_self (by (try simp only [List.length_set]);omega)]
   have f1 : ((cs.set (k * 5) (.int .i64 (Q))).set (k * 5 + 4) (.int .i64 (Q + 1 + (x.regs_.length : Int) + (x.things_.cells_.length : Int) + (x.things_.map_.length : Int))))[k * 5 + 1]? = some (.slice A0 x.regs_.length c0):=by rw [List.getElem?_set_ne (by omega),List.getElem?_set_ne (by omega)];exact IX1.out
   have f2 : ((cs.set (k * 5) (.int .i64 (Q))).set (k * 5 + 4) (.int .i64 (Q + 1 + (x.regs_.length : Int) + (x.things_.cells_.length : Int) + (x.things_.map_.length : Int))))[k * 5 + 2]? = some (.slice A1 x.things_.cells_.length c1):=by rw [List.getElem?_set_ne (by omega),List.getElem?_set_ne (by omega)];exact IX2.out
   have f3 : ((cs.set (k * 5) (.int .i64 (Q))).set (k * 5 + 4) (.int .i64 (Q + 1 + (x.regs_.length : Int) + (x.things_.cells_.length : Int) + (x.things_.map_.length : Int))))[k * 5 + 3]? = some (.slice A2 x.things_.map_.length c2):=by rw [List.getElem?_set_ne (by omega),List.getElem?_set_ne (by omega)];exact IX3.out
   have f4 : ((cs.set (k * 5) (.int .i64 (Q))).set (k * 5 + 4) (.int .i64 (Q + 1 + (x.regs_.length : Int) + (x.things_.cells_.length : Int) + (x.things_.map_.length : Int))))[k * 5 + 4]? = some (.int .i64 (Q + 1 + (x.regs_.length : Int) + (x.things_.cells_.length : Int) + (x.things_.map_.length : Int))):=by rw [List.getElem?_set_self (by (try simp only [List.length_set]);omega)]
   refine ⟨k + 1,((cs.set (k * 5) (.int .i64 (Q))).set (k * 5 + 4) (.int .i64 (Q + 1 + (x.regs_.length : Int) + (x.things_.cells_.length : Int) + (x.things_.map_.length : Int)))),by omega,by go_num,by congr 1;have a:=HCT.out;have b:=HQ.out;have cc : Run.ct x = 2 + x.regs_.length + x.things_.cells_.length + x.things_.map_.length:=rfl;omega,hid ⟨t4.1,HO.out.2⟩,?_,HX.out.trans (tot.mono fun _ e => e.1)⟩
   rw [HNX.out,← HQ.out]
   refine WRows.set_ Run.W_good HR.out (by rw [mixl_len];exact HL.out) hlt tot (fun _ h1 _ => h1.2) ?_ (row':=[.int .i64 (Q),.slice A0 x.regs_.length c0,.slice A1 x.things_.cells_.length c1,.slice A2 x.things_.map_.length c2,.int .i64 (Q + 1 + (x.regs_.length : Int) + (x.things_.cells_.length : Int) + (x.things_.map_.length : Int))]) ⟨_,_,_,_,lam,rfl,⟨kh0,mh0,L0.out⟩,⟨_,_,_,_,_,_,lam_1,rfl,⟨kh1n0,mh1n0,L1.out⟩,⟨kh1n1,mh1n1,L2.out⟩⟩⟩ ?_
   ·intro j hj
    rw [List.getElem?_set_ne (by omega),List.getElem?_set_ne (by omega)]
   ·intro j hj
    have hj2 : j = 0 ∨ j = 1 ∨ j = 2 ∨ j = 3 ∨ j = 4:=by omega
    rcases hj2 with rfl|rfl|rfl|rfl|rfl
    ·exact f0
    ·exact f1
    ·exact f2
    ·exact f3
    ·exact f4
  case measure => have h:=HLT.out;simp [intOf];omega
set_option maxRecDepth 8000 in
theorem heldRunS_any (A : Option Addr) (n c : Nat) (l : List Run) (q : Int) (w : World) (S : Nat → Prop) (h : SlR Run.R 5 w S A n (mkl Run.mkE Run.ct q l)) (hq : 0 ≤ q) (hqn : q + (ctl Run.ct l : Nat) ≤ 9007199254740992) (hm : n ≤ 9223372036854775807) :
  Calls Tryz.prog 19 #[.slice A n c,.int .i64 q] w fun e w' => e = .returned (.int .i64 (q + (ctl Run.ct l : Nat))) ∧ Ext w w':=by
 have hl : l.length = n:=by rw [← h.1,mkl_len]
 have H:=hid h
 clear h
 have M:=hid (Mine.refl w)
 go_enter Tryz.func19,Tryz.ntmps19
 go_wp2
 go_loopw [1,5] (fun r i wr => ∃ k : Nat,k ≤ n ∧ i = .int .i64 k ∧ r = .int .i64 (q + (ctl Run.ct (l.take k) : Nat)) ∧ Hid (Mine w wr [])) (fun _ i _ => n - (intOf i).toNat)
 case atStart => exact ⟨0,Nat.zero_le _,rfl,by simp [ctl],M⟩
 case round =>
  clear M
  obtain ⟨k,hk,rfl,rfl,M⟩:=hrel
  by_cases hlt : (k : Int) < (n : Int)
  rotate_left
  ·have e : k = n:=by omega
   have e2 : l.take n = l:=by rw [← hl,List.take_length]
   subst e
   have E2:=hid e2
   clear e2 hl
   go_wp2
   go_ret
   exact ⟨by rw [E2.out];rfl,M.out.ext⟩
  obtain ⟨b,o,rfl⟩:=H.out.addr (by omega)
  obtain ⟨x,hx⟩ : ∃ x,l[k]? = some x:=⟨_,List.getElem?_eq_getElem (by omega)⟩
  obtain ⟨y,row,hy,hb,hr,hc⟩:=H.out.at_ (k:=k) (by omega)
  rw [mkl_get hx] at hy
  injection hy with hy
  subst hy
  have hct:=ctl_take (f:=Run.ct) hx
  have hle:=ctl_le (f:=Run.ct) l (k + 1)
  obtain ⟨Q,hQ⟩ : ∃ Q : Int,Q = q + (ctl Run.ct (l.take k) : Nat):=⟨_,rfl⟩
  have hQ0 : 0 ≤ Q:=by omega
  have hQn : Q + (Run.ct x : Nat) ≤ 9007199254740992:=by omega
  have HX:=hid hct
  have HQ:=hid hQ
  have HLT : Hid (k < n):=by show _ < _;omega
  rw [← hQ] at hr
  rw [← hQ]
  clear hct hle hQ hx hqn hq
  obtain ⟨A0,n0,c0,v1,rfl,⟨-,m0,s0⟩,h1⟩:=hr
  obtain ⟨A1,n1,c1,A2,n2,c2,rfl,⟨-,m1,s1⟩,⟨-,m2,s2⟩⟩:=h1
  simp only [Run.mkE] at s0 s1 s2
  obtain rfl : x.regs_.length = n0:=by have:=s0.len;rw [marks_length] at this;exact this
  obtain rfl : x.things_.cells_.length = n1:=by have:=s1.len;rw [marks_length] at this;exact this
  obtain rfl : x.things_.map_.length = n2:=by have:=s2.len;rw [marks_length] at this;exact this
  have hcx : Run.ct x = 2 + x.regs_.length + x.things_.cells_.length + x.things_.map_.length:=rfl
  have c_0:=hc 0 (by omega)
  simp only [Run.mkE,List.cons_append,List.nil_append,List.getElem?_cons_succ,List.getElem?_cons_zero,Nat.add_zero] at c_0
  have c_1:=hc 1 (by omega)
  simp only [Run.mkE,List.cons_append,List.nil_append,List.getElem?_cons_succ,List.getElem?_cons_zero,Nat.add_zero] at c_1
  have c_2:=hc 2 (by omega)
  simp only [Run.mkE,List.cons_append,List.nil_append,List.getElem?_cons_succ,List.getElem?_cons_zero,Nat.add_zero] at c_2
  have c_3:=hc 3 (by omega)
  simp only [Run.mkE,List.cons_append,List.nil_append,List.getElem?_cons_succ,List.getElem?_cons_zero,Nat.add_zero] at c_3
  have c_4:=hc 4 (by omega)
  simp only [Run.mkE,List.cons_append,List.nil_append,List.getElem?_cons_succ,List.getElem?_cons_zero,Nat.add_zero] at c_4
  obtain ⟨Q1,hQ1⟩ : ∃ Q1 : Int,Q1 = Q + 1 + (x.regs_.length : Int):=⟨_,rfl⟩
  rw [← hQ1] at s1 s2 c_4
  obtain ⟨Q2,hQ2⟩ : ∃ Q2 : Int,Q2 = Q1 + (x.things_.cells_.length : Int):=⟨_,rfl⟩
  rw [← hQ2] at s2 c_4
  obtain ⟨Q3,hQ3⟩ : ∃ Q3 : Int,Q3 = Q2 + (x.things_.map_.length : Int):=⟨_,rfl⟩
  rw [← hQ3] at c_4
  have i1 : 0 ≤ Q + 1 ∧ Q + 1 + (x.regs_.length : Int) ≤ 9007199254740992:=by omega
  have i2 : 0 ≤ Q1 ∧ Q1 + (x.things_.cells_.length : Int) ≤ 9007199254740992:=by omega
  have i3 : 0 ≤ Q2 ∧ Q2 + (x.things_.map_.length : Int) ≤ 9007199254740992:=by omega
  have p1 : 0 ≤ Q1:=by omega
  have u1 : Q1 ≤ 9007199254740992:=by omega
  have b1 : decide (Q1 < 0) = false:=decide_eq_false (by omega)
  have p2 : 0 ≤ Q2:=by omega
  have u2 : Q2 ≤ 9007199254740992:=by omega
  have b2 : decide (Q2 < 0) = false:=decide_eq_false (by omega)
  have p3 : 0 ≤ Q3:=by omega
  have u3 : Q3 ≤ 9007199254740992:=by omega
  have b3 : decide (Q3 < 0) = false:=decide_eq_false (by omega)
  have r3 : Q3 + (1) ≤ 9007199254740992:=by omega
  have r2 : Q2 + (1 + (x.things_.map_.length : Nat)) ≤ 9007199254740992:=by omega
  have r1 : Q1 + (1 + (x.things_.map_.length : Nat) + (x.things_.cells_.length : Nat)) ≤ 9007199254740992:=by omega
  have hfin : Q3 + 1 = Q + (Run.ct x : Nat):=by omega
  have HF:=hid hfin
  clear hfin hcx
  have HE1:=hid hQ1
  have HE2:=hid hQ2
  have HE3:=hid hQ3
  clear hQ1 hQ2 hQ3
  have HL0:=hid s0
  have HL1:=hid s1
  have HL2:=hid s2
  clear s0 s1 s2
  have HC0 : Hid (w.cell? _ = some _ ∧ b < w.heap.size):=⟨c_0,hb⟩
  have HC1 : Hid (w.cell? _ = some _ ∧ b < w.heap.size):=⟨c_1,hb⟩
  have HC2 : Hid (w.cell? _ = some _ ∧ b < w.heap.size):=⟨c_2,hb⟩
  have HC3 : Hid (w.cell? _ = some _ ∧ b < w.heap.size):=⟨c_3,hb⟩
  have HC4 : Hid (w.cell? _ = some _ ∧ b < w.heap.size):=⟨c_4,hb⟩
  clear hb hc c_0 c_1 c_2 c_3 c_4
  go_wp2_with (first|(go_at_call 62;(with_reducible refine (heldIntS_any _ _ _ (Q + 1) _ S (HL0.out.ext M.out.ext) (by omega) (by omega)).mono ?_);rintro e w' ⟨rfl,rfl⟩;rw [← HE1.out])|(go_at_call 62;(with_reducible refine (heldIntS_any _ _ _ (Q1) _ S (HL1.out.ext M.out.ext) (by omega) (by omega)).mono ?_);rintro e w' ⟨rfl,rfl⟩;rw [← HE2.out])|(go_at_call 62;(with_reducible refine (heldIntS_any _ _ _ (Q2) _ S (HL2.out.ext M.out.ext) (by omega) (by omega)).mono ?_);rintro e w' ⟨rfl,rfl⟩;rw [← HE3.out])|((with_reducible refine zN ?_);first|((first|refine Mine.wp_argc M.out rfl 3 _ rfl _ _ HC0.out rfl _ Tryz.underlying3 (by rfl) ?_|refine Mine.wp_argc M.out rfl 22 _ rfl _ _ HC1.out rfl _ Tryz.underlying22 (by rfl) ?_|refine Mine.wp_argc M.out rfl 22 _ rfl _ _ HC2.out rfl _ Tryz.underlying22 (by rfl) ?_|refine Mine.wp_argc M.out rfl 22 _ rfl _ _ HC3.out rfl _ Tryz.underlying22 (by rfl) ?_|refine Mine.wp_argc M.out rfl 3 _ rfl _ _ HC4.out rfl _ Tryz.underlying3 (by rfl) ?_);(try simp only [zr_,zm_]))))
  go_roundw
  case rel => exact ⟨k + 1,HLT.out,by go_num,by congr 1;have a:=HX.out;have b2:=HQ.out;have c2:=HF.out;omega,M⟩
  case measure => have h:=HLT.out;simp [intOf];omega
set_option maxRecDepth 8000 in
theorem heldThings_any (x : Things) (cs : List Value) (q : Int) (w : World) (S : Nat → Prop) (h : Things.R w S cs (Things.mkA q x)) (hq : 0 ≤ q) (hqn : q + (Things.ca x : Nat) ≤ 9007199254740992) :
  Calls Tryz.prog 20 #[.agg cs.toArray,.int .i64 q] w fun e w' => e = .returned (.int .i64 (q + (Things.ca x : Nat))) ∧ Ext w w':=by
 have hca : Things.ca x = x.cells_.length + x.map_.length:=rfl
 obtain ⟨A0,n0,c0,A1,n1,c1,rfl,⟨-,m0,s0⟩,⟨-,m1,s1⟩⟩:=h
 simp only [Things.mkA] at s0
 simp only [Things.mkA] at s1
 obtain rfl : x.cells_.length = n0:=by have:=s0.len;rw [marks_length] at this;exact this
 obtain rfl : x.map_.length = n1:=by have:=s1.len;rw [marks_length] at this;exact this
 obtain ⟨Q1,hQ1⟩ : ∃ Q1 : Int,Q1 = q + (x.cells_.length : Int):=⟨_,rfl⟩
 rw [← hQ1] at s1
 obtain ⟨Q2,hQ2⟩ : ∃ Q2 : Int,Q2 = Q1 + (x.map_.length : Int):=⟨_,rfl⟩
 have p1 : 0 ≤ Q1:=by omega
 have u1 : Q1 ≤ 9007199254740992:=by omega
 have b1 : decide (Q1 < 0) = false:=decide_eq_false (by omega)
 have p2 : 0 ≤ Q2:=by omega
 have u2 : Q2 ≤ 9007199254740992:=by omega
 have b2 : decide (Q2 < 0) = false:=decide_eq_false (by omega)
 have r0 : q + (x.cells_.length : Nat) ≤ 9007199254740992:=by omega
 have r1 : Q1 + (x.map_.length : Nat) ≤ 9007199254740992:=by omega
 have hfin : q + (Things.ca x : Nat) = Q2:=by omega
 have HF:=hid hfin
 have HE1:=hid hQ1
 have HE2:=hid hQ2
 have HL0:=hid s0
 clear s0
 have HL1:=hid s1
 clear s1
 clear hca hqn hfin hQ1 hQ2
 have M:=hid (Mine.refl w)
 show Calls Tryz.prog _ #[.agg #[.slice A0 x.cells_.length c0,.slice A1 x.map_.length c1,.int .i64 x.count_],.int .i64 q] w _
 go_enter Tryz.func20,Tryz.ntmps20
 go_wp2_with (first|(go_at_call 62;(with_reducible refine (heldIntS_any _ _ _ (q) _ S (HL0.out.ext M.out.ext) (by omega) (by omega)).mono ?_);rintro e w' ⟨rfl,rfl⟩;rw [← HE1.out])|(go_at_call 62;(with_reducible refine (heldIntS_any _ _ _ (Q1) _ S (HL1.out.ext M.out.ext) (by omega) (by omega)).mono ?_);rintro e w' ⟨rfl,rfl⟩;rw [← HE2.out])|((with_reducible refine zN ?_);first|(refine Mine.wp_box M.out rfl 42 _ rfl _ rfl ?_;intro ga w' M';(try simp only [zr_,zm_] at M');replace M:=hid M';clear M';(try simp only [zr_,zm_]))|(refine zG M.out 0 ?_;(try simp only [zr_,zm_]))))
 go_ret
 exact ⟨by rw [HF.out];rfl,M.out.ext⟩
def GOp.mark (q : Int) : GOp:=⟨q,q + 1,q + 1 + 1,q + 1 + 1 + 1⟩
def GOp.marks (q : Int) (n : Nat) : List GOp:=(List.range n).map fun i : Nat => GOp.mark (q + i * 4)
theorem GOp.marks_length (q : Int) (n : Nat) : (GOp.marks q n).length = n:=by simp [GOp.marks]
theorem GOp.marks_get (q : Int) (n i : Nat) (h : i < n) : (GOp.marks q n)[i]? = some (GOp.mark (q + i * 4)):=by simp [GOp.marks,h]
theorem markGOpS_any (A : Option Addr) (n c : Nat) (base : Nat) (cs0 : List Value) (q : Int) (w : World) (ho0 : w.ownsRow base 237 4 (.slice A n c) n cs0) (hq : 0 ≤ q) (hqn : q + n * 4 ≤ 9007199254740992) :
  Calls Tryz.prog 107 #[.slice A n c,.int .i64 q] w fun e w' => e = .returned (.int .i64 (q + n * 4)) ∧ w'.ownsRow base 237 4 (.slice A n c) n ((GOp.marks q n).flatMap GOp.cells) ∧ Chg (fun k => (Value.slice A n c).ownBlock = some k) w w':=by
 have HO:=hid ho0
 clear ho0
 go_enter Tryz.func107,Tryz.ntmps107
 go_wp2
 go_loopw [1,5] (fun r i wr => ∃ (k : Nat) (cs : List Value),k ≤ n ∧ i = .int .i64 k ∧ r = .int .i64 (q + k * 4) ∧ wr.ownsRow base 237 4 (.slice A n c) n cs ∧ Upto cs ((GOp.marks q n).flatMap GOp.cells) (k * 4) ∧ Chg (fun k => (Value.slice A n c).ownBlock = some k) w wr) (fun _ i _ => n - (intOf i).toNat)
 case atStart => exact ⟨0,_,Nat.zero_le _,rfl,by simp,HO.out,by rw [Nat.zero_mul];exact Upto.zero _ _,Chg.refl _ _⟩
 case round =>
  obtain ⟨k,cs,hk,rfl,rfl,ho,hu,hx⟩:=hrel
  by_cases hlt : k < n
  ·obtain ⟨g,rfl,-,-,hg⟩:=own_flat ho hlt
   obtain ⟨v0,g0,e0⟩:=hg 0 (by omega)
   obtain ⟨v1,g1,e1⟩:=hg 1 (by omega)
   obtain ⟨v2,g2,e2⟩:=hg 2 (by omega)
   obtain ⟨v3,g3,e3⟩:=hg 3 (by omega)
   rw [Nat.add_zero] at g0 e0
   have HO2:=hid ho
   have HE2:=hid hx
   clear ho hx hg
   go_wp2
   go_roundw
   case rel =>
    have t0:=HO2.out.stored (k * 4) (.int .i64 (q + k * 4))
    have t1:=t0.1.stored (k * 4 + 1) (.int .i64 (q + k * 4 + 1))
    have t2:=t1.1.stored (k * 4 + 2) (.int .i64 (q + k * 4 + 1 + 1))
    have t3:=t2.1.stored (k * 4 + 3) (.int .i64 (q + k * 4 + 1 + 1 + 1))
    have hl3 : cs.length = n * 4:=HO2.out.1
    have hmk:=GOp.marks_get q n k hlt
    have q0:=flat_get GOp.cells_length _ k 0 _ hmk (by omega)
    have q1:=flat_get GOp.cells_length _ k 1 _ hmk (by omega)
    have q2:=flat_get GOp.cells_length _ k 2 _ hmk (by omega)
    have q3:=flat_get GOp.cells_length _ k 3 _ hmk (by omega)
    refine ⟨k + 1,_,by omega,by go_num,by go_num,t3.1,?_,?_⟩
    ·rw [show (k + 1) * 4 = k * 4 + 3 + 1 by omega]
     refine Upto.set1 (Upto.set1 (Upto.set1 (Upto.set1 hu (by omega) ?_) (by simp;omega) ?_) (by simp;omega) ?_) (by simp;omega) ?_
     ·exact q0
     ·exact q1
     ·exact q2
     ·exact q3
    ·exact ((((HE2.out).grown t0.2 (fun j hj => .inl hj)).grown t1.2 (fun j hj => .inl hj)).grown t2.2 (fun j hj => .inl hj)).grown t3.2 (fun j hj => .inl hj)
   case measure => simp [intOf];omega
  ·go_wp2
   go_ret
   have : k = n:=by omega
   subst this
   refine ⟨rfl,?_,hx⟩
   rw [← hu.all ho.1 (by rw [flat_length GOp.cells_length,GOp.marks_length])]
   exact ho
theorem markGOpS_ow (A : Option Addr) (n c : Nat) (l : List GOp) (q : Int) (w : World) (S : Nat → Prop) (h : OwS w S 237 4 A n c (l.flatMap GOp.cells)) (hq : 0 ≤ q) (hqn : q + n * 4 ≤ 9007199254740992) :
  Calls Tryz.prog 107 #[.slice A n c,.int .i64 q] w fun e w' => e = .returned (.int .i64 (q + n * 4)) ∧ OwS w' S 237 4 A n c ((GOp.marks q n).flatMap GOp.cells) ∧ Chg S w w' :=
 (markGOpS_any A n c 0 _ q w h.1 hq hqn).mono fun _ _ ⟨h1,h2,h3⟩ => ⟨h1,⟨h2,h.2⟩,h3.mono fun k hk => h.2 k hk⟩
def GAct.mark (q : Int) : GAct:=⟨q,q + 1,q + 1 + 1⟩
def GAct.marks (q : Int) (n : Nat) : List GAct:=(List.range n).map fun i : Nat => GAct.mark (q + i * 3)
theorem GAct.marks_length (q : Int) (n : Nat) : (GAct.marks q n).length = n:=by simp [GAct.marks]
theorem GAct.marks_get (q : Int) (n i : Nat) (h : i < n) : (GAct.marks q n)[i]? = some (GAct.mark (q + i * 3)):=by simp [GAct.marks,h]
theorem markGActS_any (A : Option Addr) (n c : Nat) (base : Nat) (cs0 : List Value) (q : Int) (w : World) (ho0 : w.ownsRow base 161 3 (.slice A n c) n cs0) (hq : 0 ≤ q) (hqn : q + n * 3 ≤ 9007199254740992) :
  Calls Tryz.prog 55 #[.slice A n c,.int .i64 q] w fun e w' => e = .returned (.int .i64 (q + n * 3)) ∧ w'.ownsRow base 161 3 (.slice A n c) n ((GAct.marks q n).flatMap GAct.cells) ∧ Chg (fun k => (Value.slice A n c).ownBlock = some k) w w':=by
 have HO:=hid ho0
 clear ho0
 go_enter Tryz.func55,Tryz.ntmps55
 go_wp2
 go_loopw [1,5] (fun r i wr => ∃ (k : Nat) (cs : List Value),k ≤ n ∧ i = .int .i64 k ∧ r = .int .i64 (q + k * 3) ∧ wr.ownsRow base 161 3 (.slice A n c) n cs ∧ Upto cs ((GAct.marks q n).flatMap GAct.cells) (k * 3) ∧ Chg (fun k => (Value.slice A n c).ownBlock = some k) w wr) (fun _ i _ => n - (intOf i).toNat)
 case atStart => exact ⟨0,_,Nat.zero_le _,rfl,by simp,HO.out,by rw [Nat.zero_mul];exact Upto.zero _ _,Chg.refl _ _⟩
 case round =>
  obtain ⟨k,cs,hk,rfl,rfl,ho,hu,hx⟩:=hrel
  by_cases hlt : k < n
  ·obtain ⟨g,rfl,-,-,hg⟩:=own_flat ho hlt
   obtain ⟨v0,g0,e0⟩:=hg 0 (by omega)
   obtain ⟨v1,g1,e1⟩:=hg 1 (by omega)
   obtain ⟨v2,g2,e2⟩:=hg 2 (by omega)
   rw [Nat.add_zero] at g0 e0
   have HO2:=hid ho
   have HE2:=hid hx
   clear ho hx hg
   go_wp2
   go_roundw
   case rel =>
    have t0:=HO2.out.stored (k * 3) (.int .i64 (q + k * 3))
    have t1:=t0.1.stored (k * 3 + 1) (.int .i64 (q + k * 3 + 1))
    have t2:=t1.1.stored (k * 3 + 2) (.int .i64 (q + k * 3 + 1 + 1))
    have hl3 : cs.length = n * 3:=HO2.out.1
    have hmk:=GAct.marks_get q n k hlt
    have q0:=flat_get GAct.cells_length _ k 0 _ hmk (by omega)
    have q1:=flat_get GAct.cells_length _ k 1 _ hmk (by omega)
    have q2:=flat_get GAct.cells_length _ k 2 _ hmk (by omega)
    refine ⟨k + 1,_,by omega,by go_num,by go_num,t2.1,?_,?_⟩
    ·rw [show (k + 1) * 3 = k * 3 + 2 + 1 by omega]
     refine Upto.set1 (Upto.set1 (Upto.set1 hu (by omega) ?_) (by simp;omega) ?_) (by simp;omega) ?_
     ·exact q0
     ·exact q1
     ·exact q2
    ·exact (((HE2.out).grown t0.2 (fun j hj => .inl hj)).grown t1.2 (fun j hj => .inl hj)).grown t2.2 (fun j hj => .inl hj)
   case measure => simp [intOf];omega
  ·go_wp2
   go_ret
   have : k = n:=by omega
   subst this
   refine ⟨rfl,?_,hx⟩
   rw [← hu.all ho.1 (by rw [flat_length GAct.cells_length,GAct.marks_length])]
   exact ho
theorem markGActS_ow (A : Option Addr) (n c : Nat) (l : List GAct) (q : Int) (w : World) (S : Nat → Prop) (h : OwS w S 161 3 A n c (l.flatMap GAct.cells)) (hq : 0 ≤ q) (hqn : q + n * 3 ≤ 9007199254740992) :
  Calls Tryz.prog 55 #[.slice A n c,.int .i64 q] w fun e w' => e = .returned (.int .i64 (q + n * 3)) ∧ OwS w' S 161 3 A n c ((GAct.marks q n).flatMap GAct.cells) ∧ Chg S w w' :=
 (markGActS_any A n c 0 _ q w h.1 hq hqn).mono fun _ _ ⟨h1,h2,h3⟩ => ⟨h1,⟨h2,h.2⟩,h3.mono fun k hk => h.2 k hk⟩
theorem Shake.wp_get1 {P : Program} {ops : Array Oper} {rest : List Oper} {o : Oper} {a : Act} {X : Exit → Act → World → Prop} {e : TypeId} {g n c k : Nat} {leaf : Nat → Prop} {cs : List Value} {T : Nat → Prop} {w0 w : World} (M : Shake e 1 g n c k leaf cs T w0 w) (hk : k < n) (hgd : o.guard = none) (ty : TypeId) (x : Operand) (ho : o.op = .load ty x) (hx : a.eval x = .pointer (some ⟨g,k,none⟩)) (hl : leaf 0) (v : Value) (hv : cs[k * 1]? = some v)
  (d : TypeDesc) (hu : P.underlying ty = some d) (hd : d.isRow = false) (h : wpList P ops X rest (a.put o.dst v) w) : wpList P ops X (o::rest) a w :=
 M.wp_get hk hgd ty x ho 0 (by rw [hx];simp) (by omega) hl v hv d hu hd h
def Kid.ct (x : Kid) : Nat:=x.code_.length * 4
def Kid.ca (x : Kid) : Nat:=x.code_.length * 4
theorem Kid.ct_le (x : Kid) : Kid.ct x ≤ 64 * (Kid.wt x + 1):=by
 skip
 unfold Kid.ct Kid.wt
 omega
set_option maxRecDepth 20000 in
theorem shakeKidS_any (A : Option Addr) (n c : Nat) (l : List Kid) (q : Int) (w : World) (S : Nat → Prop) (h : SlW Kid.W 209 1 w S A n c l) (hS : ∀ g,S g → g < w.heap.size) (hq : 0 ≤ q) (hqn : q + (ctl Kid.ct l : Nat) ≤ 9007199254740992) (hm : n ≤ 9223372036854775807) :
  Calls Tryz.prog 108 #[.slice A n c,.int .i64 q] w fun e w' => e = .returned (.int .i64 (q + (ctl Kid.ct l : Nat))) ∧ Chg S w w':=by
 obtain ⟨hl,cs0,lab,ho0,hr0⟩:=h
 have HL:=hid hl
 have HO0:=hid ho0
 have HR0:=hid hr0
 have HS:=hid hS
 clear hl ho0 hr0 hS
 go_enter Tryz.func108,Tryz.ntmps108
 go_wp2
 go_loopw [1,5] (fun r i wr => ∃ k : Nat,k ≤ n ∧ i = .int .i64 k ∧ r = .int .i64 (q + (ctl Kid.ct (l.take k) : Nat)) ∧ Hid (Chg (fun j => S j ∧ lab j ≤ k) w wr) ∧ Hid (∀ g,A = some ⟨g,0,none⟩ → 0 < n → Shake 209 1 g n c k (fun _ => True) cs0 (fun j => S j ∧ lab j ≤ k) w wr)) (fun _ i _ => n - (intOf i).toNat)
 case atStart => exact ⟨0,Nat.zero_le _,rfl,by simp [ctl],Chg.refl _ _,fun g hA hn => by subst hA;exact Shake.zero HO0.out.1 (by have h:=HO0.out.2 g rfl;exact ⟨h.1,by rw [h.2];exact Nat.le_refl _⟩)⟩
 case round =>
  obtain ⟨k,hk,rfl,rfl,HX,HM⟩:=hrel
  by_cases hlt : (k : Int) < (n : Int)
  rotate_left
  ·have e : Hid (k = n):=by show k = n;omega
   go_wp2
   go_ret
   exact ⟨by (rw [e.out,← HL.out,List.take_length]) <;> rfl,HX.out.mono fun _ h => h.1⟩
  have HLT : Hid (k < n):=by show k < n;omega
  obtain ⟨g,rfl,hgS,hgl,-⟩:=HO0.out.at_ HLT.out
  have M0:=HM.out g rfl (by have:=HLT.out;omega)
  obtain ⟨x,hxk⟩ : ∃ x,l[k]? = some x:=⟨_,List.getElem?_eq_getElem (by have h:=HL.out;omega)⟩
  obtain ⟨row,h,hrow⟩:=HR0.out k HLT.out x hxk
  obtain ⟨A0,n0,c0,lam,rfl,⟨kh0,mh0,h0⟩⟩:=h
  obtain rfl : n0 = x.code_.length:=by have a:=h0.sl.flen GOp.cells_length (by omega);omega
  have L0:=hid h0
  clear h0
  have IX0 : cs0[k * 1]? = some (.slice A0 x.code_.length c0):=hrow 0 (by omega)
  have HCT:=hid (ctl_take (f:=Kid.ct) hxk)
  have hle:=ctl_le (f:=Kid.ct) l (k + 1)
  obtain ⟨Q,hQ⟩ : ∃ Q : Int,Q = q + (ctl Kid.ct (l.take k) : Nat):=⟨_,rfl⟩
  have hQ0 : 0 ≤ Q:=by omega
  have hQn : Q + (Kid.ct x : Nat) ≤ 9007199254740992:=by have a:=HCT.out;omega
  unfold Kid.ct at hQn
  have HQ:=hid hQ
  have hg0 : lab g = 0:=hgS.2
  have M : Hid (Shake 209 1 g n c k (fun f => f ∈ [0]) cs0 (fun j => S j ∧ (lab j ≤ k ∨ (lab j = k + 1 ∧ (lam j < 0)))) w wr):=hid ((M0.leafs fun _ _ => trivial).mono fun j h => ⟨h.1,.inl h.2⟩)
  rw [← hQ]
  clear hQ hrow hxk hle hgl hgS HX HM M0
  go_wp2_with ((with_reducible refine zN ?_);(refine Shake.wp_get1 M.out HLT.out rfl _ _ rfl rfl (by decide) _ (by assumption) _ (by first|exact Tryz.underlying81) (by rfl) ?_;(try simp only [zr_,zm_])))
  refine (shk3 (markGOpS_ow _ _ _ x.code_ _ _ _ (OwS.chg L0.out M.out.chg (fun i h1 h2 => by obtain ⟨h1,e0⟩:=h1;have e9:=h1.2;obtain ⟨-,h2⟩:=h2;omega)) (by omega) (by omega))).mono ?_
  rintro e w1 ⟨Q1,rfl,E1,c1⟩
  have hq1 : 0 ≤ Q1:=by have a:=E1.out;omega
  have hr1 : Q1 + ((0 : Nat) : Int) ≤ 9007199254740992:=by have a:=E1.out;omega
  clear hQ0 hQn
  replace M : Hid (Shake 209 1 g n c k (fun f => f ∈ [0]) cs0 (fun j => S j ∧ (lab j ≤ k ∨ (lab j = k + 1 ∧ (lam j ≤ 0)))) w w1):=hid (M.out.call c1 (fun h1 => by obtain ⟨h1,e0⟩:=h1;have e9:=h1.2;omega) (fun j h1 => ⟨h1.1.1,by obtain ⟨h1,e0⟩:=h1;have e9:=h1.2;omega⟩) (fun j h => ⟨h.1,by have h2:=h.2;omega⟩))
  clear c1
  go_wp2_with ((with_reducible refine zN ?_);fail)
  go_roundw
  case rel =>
   have M9:=(M.out.next).mono (T':=fun j => S j ∧ lab j ≤ k + 1) fun j h => ⟨h.1,by have h2:=h.2;omega⟩
   refine ⟨k + 1,HLT.out,by go_num,by congr 1;have a:=HCT.out;have b:=HQ.out;have aE1:=E1.out;have cc : Kid.ct x = x.code_.length * 4:=rfl;omega,M9.chg,fun g2 hA _ => ?_⟩
   obtain rfl:=addr_inj hA
   exact M9
  case measure => have h:=HLT.out;simp [intOf];omega
def Prog.ct (x : Prog) : Nat:=x.code_.length * 4 + ctl Kid.ct x.kids_
def Prog.ca (x : Prog) : Nat:=x.code_.length * 4 + ctl Kid.ct x.kids_
theorem Prog.ct_le (x : Prog) : Prog.ct x ≤ 64 * (Prog.wt x + 1):=by
 have c0:=ctl_bound (f:=Kid.ct) (wt:=Kid.wt) (b:=64) Kid.ct_le (l:=x.kids_)
 unfold Prog.ct Prog.wt
 omega
set_option maxRecDepth 20000 in
theorem shakeProgS_any (A : Option Addr) (n c : Nat) (l : List Prog) (q : Int) (w : World) (S : Nat → Prop) (h : SlW Prog.W 84 2 w S A n c l) (hS : ∀ g,S g → g < w.heap.size) (hq : 0 ≤ q) (hqn : q + (ctl Prog.ct l : Nat) ≤ 9007199254740992) (hm : n ≤ 9223372036854775807) :
  Calls Tryz.prog 54 #[.slice A n c,.int .i64 q] w fun e w' => e = .returned (.int .i64 (q + (ctl Prog.ct l : Nat))) ∧ Chg S w w':=by
 obtain ⟨hl,cs0,lab,ho0,hr0⟩:=h
 have HL:=hid hl
 have HO0:=hid ho0
 have HR0:=hid hr0
 have HS:=hid hS
 clear hl ho0 hr0 hS
 go_enter Tryz.func54,Tryz.ntmps54
 go_wp2
 go_loopw [1,5] (fun r i wr => ∃ k : Nat,k ≤ n ∧ i = .int .i64 k ∧ r = .int .i64 (q + (ctl Prog.ct (l.take k) : Nat)) ∧ Hid (Chg (fun j => S j ∧ lab j ≤ k) w wr) ∧ Hid (∀ g,A = some ⟨g,0,none⟩ → 0 < n → Shake 84 2 g n c k (fun _ => True) cs0 (fun j => S j ∧ lab j ≤ k) w wr)) (fun _ i _ => n - (intOf i).toNat)
 case atStart => exact ⟨0,Nat.zero_le _,rfl,by simp [ctl],Chg.refl _ _,fun g hA hn => by subst hA;exact Shake.zero HO0.out.1 (by have h:=HO0.out.2 g rfl;exact ⟨h.1,by rw [h.2];exact Nat.le_refl _⟩)⟩
 case round =>
  obtain ⟨k,hk,rfl,rfl,HX,HM⟩:=hrel
  by_cases hlt : (k : Int) < (n : Int)
  rotate_left
  ·have e : Hid (k = n):=by show k = n;omega
   go_wp2
   go_ret
   exact ⟨by (rw [e.out,← HL.out,List.take_length]) <;> rfl,HX.out.mono fun _ h => h.1⟩
  have HLT : Hid (k < n):=by show k < n;omega
  obtain ⟨g,rfl,hgS,hgl,-⟩:=HO0.out.at_ HLT.out
  have M0:=HM.out g rfl (by have:=HLT.out;omega)
  obtain ⟨x,hxk⟩ : ∃ x,l[k]? = some x:=⟨_,List.getElem?_eq_getElem (by have h:=HL.out;omega)⟩
  obtain ⟨row,h,hrow⟩:=HR0.out k HLT.out x hxk
  obtain ⟨A0,n0,c0,A1,n1,c1,lam,rfl,⟨kh0,mh0,h0⟩,⟨kh1,mh1,h1⟩⟩:=h
  obtain rfl : n0 = x.code_.length:=by have a:=h0.sl.flen GOp.cells_length (by omega);omega
  have L0:=hid h0
  clear h0
  obtain rfl : n1 = x.kids_.length:=by have a:=h1.1;omega
  have L1:=hid h1
  clear h1
  have IX0 : cs0[k * 2]? = some (.slice A0 x.code_.length c0):=hrow 0 (by omega)
  have IX1 : cs0[k * 2 + 1]? = some (.slice A1 x.kids_.length c1):=hrow 1 (by omega)
  have HCT:=hid (ctl_take (f:=Prog.ct) hxk)
  have hle:=ctl_le (f:=Prog.ct) l (k + 1)
  obtain ⟨Q,hQ⟩ : ∃ Q : Int,Q = q + (ctl Prog.ct (l.take k) : Nat):=⟨_,rfl⟩
  have hQ0 : 0 ≤ Q:=by omega
  have hQn : Q + (Prog.ct x : Nat) ≤ 9007199254740992:=by have a:=HCT.out;omega
  unfold Prog.ct at hQn
  have HQ:=hid hQ
  have hg0 : lab g = 0:=hgS.2
  have M : Hid (Shake 84 2 g n c k (fun f => f ∈ [0,1]) cs0 (fun j => S j ∧ (lab j ≤ k ∨ (lab j = k + 1 ∧ (lam j < 0)))) w wr):=hid ((M0.leafs fun _ _ => trivial).mono fun j h => ⟨h.1,.inl h.2⟩)
  rw [← hQ]
  clear hQ hrow hxk hle hgl hgS HX HM M0
  go_wp2_with ((with_reducible refine zN ?_);(refine Shake.wp_get0 M.out HLT.out rfl _ _ rfl rfl (by decide) (by decide) _ (by assumption) _ (by first|exact Tryz.underlying81|exact Tryz.underlying82) (by rfl) ?_;(try simp only [zr_,zm_])))
  refine (shk3 (markGOpS_ow _ _ _ x.code_ _ _ _ (OwS.chg L0.out M.out.chg (fun i h1 h2 => by obtain ⟨h1,e0⟩:=h1;have e9:=h1.2;obtain ⟨-,h2⟩:=h2;omega)) (by omega) (by omega))).mono ?_
  rintro e w1 ⟨Q1,rfl,E1,c1⟩
  have hq1 : 0 ≤ Q1:=by have a:=E1.out;omega
  have hr1 : Q1 + ((ctl Kid.ct x.kids_ : Nat) : Int) ≤ 9007199254740992:=by have a:=E1.out;omega
  clear hQ0 hQn
  replace M : Hid (Shake 84 2 g n c k (fun f => f ∈ [0,1]) cs0 (fun j => S j ∧ (lab j ≤ k ∨ (lab j = k + 1 ∧ (lam j ≤ 0)))) w w1):=hid (M.out.call c1 (fun h1 => by obtain ⟨h1,e0⟩:=h1;have e9:=h1.2;omega) (fun j h1 => ⟨h1.1.1,by obtain ⟨h1,e0⟩:=h1;have e9:=h1.2;omega⟩) (fun j h => ⟨h.1,by have h2:=h.2;omega⟩))
  clear c1
  go_wp2_with ((with_reducible refine zN ?_);(refine Shake.wp_get M.out HLT.out rfl _ _ rfl _ rfl (by decide) (by decide) _ (by assumption) _ (by first|exact Tryz.underlying81|exact Tryz.underlying82) (by rfl) ?_;(try simp only [zr_,zm_])))
  refine (shk (shakeKidS_any _ _ _ x.kids_ _ _ _ (SlW.chg Kid.W_good L1.out M.out.chg (fun i h1 h2 => by obtain ⟨h1,e0⟩:=h1;have e9:=h1.2;obtain ⟨-,h2⟩:=h2;omega)) (fun i hi => Nat.lt_of_lt_of_le (HS.out i hi.1.1) M.out.chg.size) (by omega) (by omega) (by omega))).mono ?_
  rintro e w1 ⟨Q2,rfl,E2,c1⟩
  have hq2 : 0 ≤ Q2:=by have a:=E2.out;omega
  have hr2 : Q2 + ((0 : Nat) : Int) ≤ 9007199254740992:=by have a:=E2.out;omega
  clear hq1 hr1
  replace M : Hid (Shake 84 2 g n c k (fun f => f ∈ [0,1]) cs0 (fun j => S j ∧ (lab j ≤ k ∨ (lab j = k + 1 ∧ (lam j ≤ 1)))) w w1):=hid (M.out.call c1 (fun h1 => by obtain ⟨h1,e0⟩:=h1;have e9:=h1.2;omega) (fun j h1 => ⟨h1.1.1,by obtain ⟨h1,e0⟩:=h1;have e9:=h1.2;omega⟩) (fun j h => ⟨h.1,by have h2:=h.2;omega⟩))
  clear c1
  go_wp2_with ((with_reducible refine zN ?_);fail)
  go_roundw
  case rel =>
   have M9:=(M.out.next).mono (T':=fun j => S j ∧ lab j ≤ k + 1) fun j h => ⟨h.1,by have h2:=h.2;omega⟩
   refine ⟨k + 1,HLT.out,by go_num,by congr 1;have a:=HCT.out;have b:=HQ.out;have aE1:=E1.out;have aE2:=E2.out;have cc : Prog.ct x = x.code_.length * 4 + ctl Kid.ct x.kids_:=rfl;omega,M9.chg,fun g2 hA _ => ?_⟩
   obtain rfl:=addr_inj hA
   exact M9
  case measure => have h:=HLT.out;simp [intOf];omega
set_option maxRecDepth 20000 in
theorem shakeThings_any (x : Things) (cs : List Value) (q : Int) (w : World) (S : Nat → Prop) (h : Things.W w S cs x) (hS : ∀ g,S g → g < w.heap.size) (hq : 0 ≤ q) (hqn : q + Things.ca x ≤ 9007199254740992) :
  Calls Tryz.prog 18 #[.agg cs.toArray,.int .i64 q] w fun e w' => e = .returned (.int .i64 (q + Things.ca x)) ∧ Chg S w w':=by
 have hca:=hqn
 unfold Things.ca at hca
 obtain ⟨A0,n0,c0,A1,n1,c1,lab,rfl,⟨kh0,mh0,h0⟩,⟨kh1,mh1,h1⟩⟩:=h
 obtain rfl : n0 = x.cells_.length:=by have a:=h0.sl.len;omega
 have H0:=hid h0
 obtain rfl : n1 = x.map_.length:=by have a:=h1.sl.len;omega
 have H1:=hid h1
 have HS:=hid hS
 clear hS h0 h1
 show Calls Tryz.prog _ #[.agg #[.slice A0 x.cells_.length c0,.slice A1 x.map_.length c1,.int .i64 x.count_],.int .i64 q] w _
 go_enter Tryz.func18,Tryz.ntmps18
 go_wp2_with fail
 refine (markIntS_ow _ _ _ x.cells_ _ _ _ (OwS.chg H0.out ((Chg.refl (fun j => S j ∧ lab j < 0) w).al _) (fun i h1 h2 => by have e1:=h1.2;have e2:=h2.2;omega)) (by skip;omega) (by skip;omega)).mono ?_
 rintro e w1 ⟨rfl,-,cq⟩
 have B : Hid (Bx w1 w.heap.size 42 #[.slice A0 x.cells_.length c0,.slice A1 x.map_.length c1,.int .i64 x.count_]):=hid (Bx.chg (Bx.new' _ _ _ rfl) cq (fun z => by have a:=HS.out _ z.1;omega))
 have X : Hid (Chg (fun j => S j ∧ lab j < 1) w w1):=hid (((((Chg.refl (fun j => S j ∧ lab j < 0) w).al _)).mono fun j h => ⟨h.1,by have h2:=h.2;omega⟩).trans (cq.mono fun j h => ⟨h.1,by have h2:=h.2;omega⟩))
 clear cq
 have ca1_1 : w1.cell? ⟨w.heap.size,1,none⟩ = some (.slice A1 x.map_.length c1):=B.out.cell 1
 go_wp2_with fail
 refine (markIntS_ow _ _ _ x.map_ _ _ _ (OwS.chg H1.out X.out (fun i h1 h2 => by have e1:=h1.2;have e2:=h2.2;omega)) (by skip;omega) (by skip;omega)).mono ?_
 rintro e w2 ⟨rfl,-,cq⟩
 replace B : Hid (Bx w2 w.heap.size 42 #[.slice A0 x.cells_.length c0,.slice A1 x.map_.length c1,.int .i64 x.count_]):=hid (Bx.chg (B.out) cq (fun z => by have a:=HS.out _ z.1;omega))
 replace X : Hid (Chg (fun j => S j ∧ lab j < 2) w w2):=hid (((X.out).mono fun j h => ⟨h.1,by have h2:=h.2;omega⟩).trans (cq.mono fun j h => ⟨h.1,by have h2:=h.2;omega⟩))
 clear cq
 clear ca1_1
 go_wp2
 go_ret
 exact ⟨congrArg (fun z => Ending.returned (.int .i64 z)) (by have cc : Things.ca x = x.cells_.length + x.map_.length:=rfl;omega),X.out.mono fun j h => h.1⟩
def Script.ct (x : Script) : Nat:=1 + x.start_.cells_.length + x.start_.map_.length + ctl Prog.ct x.progs_ + x.acts_.length * 3
def Script.ca (x : Script) : Nat:=x.start_.cells_.length + x.start_.map_.length + ctl Prog.ct x.progs_ + x.acts_.length * 3
theorem Script.ca_le (x : Script) : Script.ca x ≤ 64 * (Script.wt x + 1):=by
 have c0 : Things.wt x.start_ = x.start_.cells_.length + x.start_.map_.length:=rfl
 have c1:=ctl_bound (f:=Prog.ct) (wt:=Prog.wt) (b:=64) Prog.ct_le (l:=x.progs_)
 unfold Script.ca Script.wt
 omega
set_option maxRecDepth 20000 in
theorem shakeScript_any (x : Script) (cs : List Value) (q : Int) (w : World) (S : Nat → Prop) (h : Script.W w S cs x) (hS : ∀ g,S g → g < w.heap.size) (hq : 0 ≤ q) (hqn : q + Script.ca x ≤ 9007199254740992) :
  Calls Tryz.prog 15 #[.agg cs.toArray,.int .i64 q] w fun e w' => e = .returned (.int .i64 (q + Script.ca x)) ∧ Chg S w w':=by
 have hca:=hqn
 unfold Script.ca at hca
 obtain ⟨v0,A2,n2,c2,A3,n3,c3,lab,rfl,h0,⟨kh1,mh1,h1⟩,⟨kh2,mh2,h2⟩⟩:=h
 have H0:=hid h0
 obtain ⟨A0,n0,c0,A1,n1,c1,rfl⟩:=Things.W_cells h0
 obtain rfl : n2 = x.progs_.length:=by have a:=h1.1;omega
 have H1:=hid h1
 obtain rfl : n3 = x.acts_.length:=by have a:=h2.sl.flen GAct.cells_length (by omega);omega
 have H2:=hid h2
 have HS:=hid hS
 clear hS h0 h1 h2
 simp only [List.cons_append,List.nil_append]
 go_enter Tryz.func15,Tryz.ntmps15
 go_wp2_with fail
 refine (shakeThings_any x.start_ _ _ _ _ (Things.W_good.chg H0.out ((Chg.refl (fun j => S j ∧ lab j < 0) w).al _) (fun i h1 h2 => by have e1:=h1.2;have e2:=h2.2;omega)) (fun g hg => Nat.lt_of_lt_of_le (HS.out g hg.1) ((Chg.refl (fun j => S j ∧ lab j < 0) w).al _).size) (by have cn0 : Things.ca x.start_ = x.start_.cells_.length + x.start_.map_.length:=rfl;omega) (by have cn0 : Things.ca x.start_ = x.start_.cells_.length + x.start_.map_.length:=rfl;omega)).mono ?_
 rintro e w1 ⟨rfl,cq⟩
 have B : Hid (Bx w1 w.heap.size 48 #[.slice A0 n0 c0,.slice A1 n1 c1,.int .i64 x.start_.count_,.slice A2 x.progs_.length c2,.slice A3 x.acts_.length c3]):=hid (Bx.chg (Bx.new' _ _ _ rfl) cq (fun z => by have a:=HS.out _ z.1;omega))
 have X : Hid (Chg (fun j => S j ∧ lab j < 1) w w1):=hid (((((Chg.refl (fun j => S j ∧ lab j < 0) w).al _)).mono fun j h => ⟨h.1,by have h2:=h.2;omega⟩).trans (cq.mono fun j h => ⟨h.1,by have h2:=h.2;omega⟩))
 clear cq
 have ca1_3 : w1.cell? ⟨w.heap.size,3,none⟩ = some (.slice A2 x.progs_.length c2):=B.out.cell 3
 go_wp2_with fail
 refine (shakeProgS_any _ _ _ x.progs_ _ _ _ (SlW.chg Prog.W_good H1.out X.out (fun i h1 h2 => by have e1:=h1.2;have e2:=h2.2;omega)) (fun g hg => Nat.lt_of_lt_of_le (HS.out g hg.1) X.out.size) (by have cn0 : Things.ca x.start_ = x.start_.cells_.length + x.start_.map_.length:=rfl;omega) (by have cn0 : Things.ca x.start_ = x.start_.cells_.length + x.start_.map_.length:=rfl;omega) (by omega)).mono ?_
 rintro e w2 ⟨rfl,cq⟩
 replace B : Hid (Bx w2 w.heap.size 48 #[.slice A0 n0 c0,.slice A1 n1 c1,.int .i64 x.start_.count_,.slice A2 x.progs_.length c2,.slice A3 x.acts_.length c3]):=hid (Bx.chg (B.out) cq (fun z => by have a:=HS.out _ z.1;omega))
 replace X : Hid (Chg (fun j => S j ∧ lab j < 2) w w2):=hid (((X.out).mono fun j h => ⟨h.1,by have h2:=h.2;omega⟩).trans (cq.mono fun j h => ⟨h.1,by have h2:=h.2;omega⟩))
 clear cq
 clear ca1_3
 have ca2_4 : w2.cell? ⟨w.heap.size,4,none⟩ = some (.slice A3 x.acts_.length c3):=B.out.cell 4
 go_wp2_with fail
 refine (markGActS_ow _ _ _ x.acts_ _ _ _ (OwS.chg H2.out X.out (fun i h1 h2 => by have e1:=h1.2;have e2:=h2.2;omega)) (by have cn0 : Things.ca x.start_ = x.start_.cells_.length + x.start_.map_.length:=rfl;omega) (by have cn0 : Things.ca x.start_ = x.start_.cells_.length + x.start_.map_.length:=rfl;omega)).mono ?_
 rintro e w3 ⟨rfl,-,cq⟩
 replace B : Hid (Bx w3 w.heap.size 48 #[.slice A0 n0 c0,.slice A1 n1 c1,.int .i64 x.start_.count_,.slice A2 x.progs_.length c2,.slice A3 x.acts_.length c3]):=hid (Bx.chg (B.out) cq (fun z => by have a:=HS.out _ z.1;omega))
 replace X : Hid (Chg (fun j => S j ∧ lab j < 3) w w3):=hid (((X.out).mono fun j h => ⟨h.1,by have h2:=h.2;omega⟩).trans (cq.mono fun j h => ⟨h.1,by have h2:=h.2;omega⟩))
 clear cq
 clear ca2_4
 go_wp2
 go_ret
 exact ⟨congrArg (fun z => Ending.returned (.int .i64 z)) (by have cc : Script.ca x = x.start_.cells_.length + x.start_.map_.length + ctl Prog.ct x.progs_ + x.acts_.length * 3:=rfl;have cn0 : Things.ca x.start_ = x.start_.cells_.length + x.start_.map_.length:=rfl;omega),X.out.mono fun j h => h.1⟩
theorem things_len {t : Things} (h : thingsOk t = true) : t.cells_.length = 8 ∧ t.map_.length = 8:=by
 have h1:=dec_true h
 exact ⟨(dec_true h1.1).1,(dec_true h1.2.1).1⟩
theorem Run.ct_ok {r : Run} (h : ROk r) : Run.ct r = 22:=by
 have h1:=things_len h.th
 have h2:=(dec_true h.regs).1
 unfold Run.ct;omega
theorem ctl_all {α : Type} {f : α → Nat} {B : Nat} : ∀ (l : List α),(∀ x ∈ l,f x ≤ B) → ctl f l ≤ B * l.length
 | [],_ => Nat.zero_le _
 | a::l,h => by
  have h1:=h a (List.mem_cons_self ..)
  have h2:=ctl_all l (fun x hx => h x (List.mem_cons_of_mem _ hx))
  rw [List.length_cons,Nat.mul_succ]
  show f a + ctl f l ≤ _
  omega
theorem serAll_len {l : List (Prog × List Int)} {t : Things} (hp : ∀ p ∈ l,progOk p.1 = true) (ht : thingsOk t = true) : (serAll l t).1.length ≤ l.length ∧ ctl Run.ct (serAll l t).1 ≤ 22 * l.length ∧ Things.ca (serAll l t).2 ≤ 16:=by
 cases e : serTo l t with
 | none => unfold serAll;rw [e];exact ⟨Nat.zero_le _,Nat.zero_le _,Nat.zero_le _⟩
 | some x =>
  obtain ⟨rs,s⟩:=x
  have h1:=serTo_ok hp ht l.length rs s (Nat.le_refl _) (by rw [List.take_length];exact e)
  unfold serAll;rw [e]
  have h2:=things_len h1.1
  refine ⟨Nat.le_of_eq h1.2.1,?_,?_⟩
  ·rw [← h1.2.1];exact ctl_all rs fun r hr => Nat.le_of_eq (Run.ct_ok (h1.2.2 r hr))
  ·show s.cells_.length + s.map_.length ≤ 16;omega
theorem replay_len (x0 : Script) (x1 : GWorld) : (replayF x0 x1).1.length ≤ 4 ∧ ctl Run.ct (replayF x0 x1).1 ≤ 88 ∧ Things.ca (replayF x0 x1).2 ≤ 16:=by
 by_cases h : replayOk x0 x1
 ·rw [replay_yes h]
  have h1:=script_parts h.1
  have hl : (ranked x0 x1).length ≤ 4:=by
   unfold ranked zipO
   rw [List.length_zipWith,List.length_map,List.length_map]
   have:=ranks_len x1
   have:=h.2
   omega
  have h2:=serAll_len (l:=ranked x0 x1) (t:=x0.start_) (fun p hp => by
   unfold ranked zipO at hp
   obtain ⟨i,hi⟩:=List.mem_iff_getElem?.1 hp
   rw [List.getElem?_zipWith] at hi
   cases e1 : ((ranksOf x1).map (progAt x0))[i]? with
   | none => rw [e1] at hi;simp at hi
   | some q =>
    cases e2 : ((ranksOf x1).map (ordAt x1))[i]? with
    | none => rw [e1,e2] at hi;simp at hi
    | some o =>
     rw [e1,e2] at hi
     simp only [Option.some.injEq] at hi
     subst hi
     exact h1.2.2 q (prog_mem rfl h.2 (List.mem_of_getElem? e1))) h1.1
  omega
 ·rw [replay_no h]
  exact ⟨Nat.zero_le _,Nat.zero_le _,Nat.zero_le _⟩
noncomputable def lie (rs : List Res) (g : Nat) : Nat:=rs.findIdx fun r => dec (r.block = some g)
theorem lie_at {rs : List Res} (h : rs.Pairwise Res.far) {i : Nat} {r : Res} {g : Nat} (hi : rs[i]? = some r) (hg : r.block = some g) : lie rs g = i:=by
 obtain ⟨hl,he⟩:=List.getElem?_eq_some_iff.1 hi
 unfold lie
 rw [List.findIdx_eq hl]
 refine ⟨by rw [he];exact dec_yes hg,fun j hj => ?_⟩
 refine dec_no fun q => ?_
 have:=List.pairwise_iff_getElem.1 h j i (by omega) hl hj g q (by rw [he];exact hg)
 exact this
theorem Mine.ows {b w : World} {rs : List Res} (M : Mine b w rs) {i : Nat} {e : TypeId} {size n c : Nat} {A : Option Addr} {xs : List Value} (hi : rs[i]? = some (.row e size A n c xs)) :
  OwS w (fun g => (b.heap.size ≤ g ∧ g < w.heap.size) ∧ lie rs g = i) e size A n c xs :=
 ⟨own_base (M.row_at i hi) (Nat.zero_le _),fun g hg => ⟨(M.row_at i hi).lt g hg,lie_at M.far hi hg⟩⟩
theorem res_get {α : Type} {size : Nat} {rows : α → List Res} (hs : ∀ a,(rows a).length = size) : ∀ (l : List α) (i j : Nat) (a : α),l[i]? = some a → j < size → (l.flatMap rows)[i * size + j]? = (rows a)[j]?:=by
 intro l
 induction l with
 | nil => intro i j a h;simp at h
 | cons b l ih =>
  intro i j a h hj
  rcases i with _|i
  ·simp at h;subst h
   rw [List.flatMap_cons,Nat.zero_mul,Nat.zero_add,List.getElem?_append_left (by rw [hs];exact hj)]
  ·simp only [List.getElem?_cons_succ] at h
   rw [List.flatMap_cons,List.getElem?_append_right (by rw [hs,Nat.succ_mul];omega),hs,Nat.succ_mul,show i * size + size + j - size = i * size + j by omega]
   exact ih i j a h hj
theorem own_le {w : World} {b : Nat} {e : TypeId} {size n c : Nat} {A : Option Addr} {xs : List Value} (h : w.ownsRow b e size (.slice A n c) n xs) : n ≤ 9223372036854775807:=by
 rcases h.2 with ⟨-,h0⟩|⟨g,cap,cur,hv,_,_,hnc,hcm,_⟩
 ·omega
 ·unfold maxLen at hcm;omega
theorem Mine.row_le {b w : World} {rs : List Res} {e : TypeId} {size n c : Nat} {A : Option Addr} {xs : List Value} (M : Mine b w rs) (i : Nat) (hi : rs[i]? = some (.row e size A n c xs)) : n ≤ 9223372036854775807:=own_le (M.row_at i hi)
theorem rrows_length (e : REnt) : (rrows e).length = 3:=rfl
theorem RunsV.W {b w : World} {rs : List Run} {th : Things} {A : Option Addr} {m d : Nat} {C P : Option Addr × Nat × Nat} (h : RunsV b w rs th A m d C P) :
  ∃ T : Nat → Prop,SlW Run.W 111 5 w (fun g => (b.heap.size ≤ g ∧ g < w.heap.size) ∧ ¬ T g) A m d rs ∧ Things.W w (fun g => (b.heap.size ≤ g ∧ g < w.heap.size) ∧ T g) [.slice C.1 C.2.1 C.2.2,.slice P.1 P.2.1 P.2.2,.int .i64 th.count_] th:=by
 obtain ⟨es,hx,hm,M⟩:=h
 have hel : es.length = m:=by rw [hm,← hx,List.length_map]
 have hs:=fun i e size n c A xs hi => Mine.ows M (i:=i) (e:=e) (size:=size) (n:=n) (c:=c) (A:=A) (xs:=xs) hi
 have gj : ∀ (k u : Nat) (p : REnt),es[k]? = some p → u < 3 → (Res.row 111 5 A m d (es.flatMap rcell)::.row 3 1 C.1 C.2.1 C.2.2 (ints th.cells_)::.row 3 1 P.1 P.2.1 P.2.2 (ints th.map_)::es.flatMap rrows)[3 + (k * 3 + u)]? = (rrows p)[u]?:=by
  intro k u p hp hu
  rw [show 3 + (k * 3 + u) = (k * 3 + u) + 1 + 1 + 1 by omega,List.getElem?_cons_succ,List.getElem?_cons_succ,List.getElem?_cons_succ]
  exact res_get rrows_length es k u p hp hu
 generalize hrs : (_::_ : List Res) = L at M hs gj
 have r0 : L[0]? = some (.row 111 5 A m d (es.flatMap rcell)):=by rw [← hrs];rfl
 have r1 : L[1]? = some (.row 3 1 C.1 C.2.1 C.2.2 (ints th.cells_)):=by rw [← hrs];rfl
 have r2 : L[2]? = some (.row 3 1 P.1 P.2.1 P.2.2 (ints th.map_)):=by rw [← hrs];rfl
 clear hrs
 refine ⟨fun g => lie L g = 1 ∨ lie L g = 2,⟨hm.symm,es.flatMap rcell,fun g => if lie L g = 0 then 0 else (lie L g - 3) / 3 + 1,?_,fun k hk x hxk => ?_⟩,⟨C.1,C.2.1,C.2.2,P.1,P.2.1,P.2.2,fun g => if lie L g = 1 then 0 else 1,rfl,⟨M.cap 1 r1,M.row_le 1 r1,?_⟩,⟨M.cap 2 r2,M.row_le 2 r2,?_⟩⟩⟩
 ·exact (hs 0 _ _ _ _ _ _ r0).mono fun g _ hg => ⟨⟨hg.1,by show ¬ (lie L g = 1 ∨ lie L g = 2);rw [hg.2];omega⟩,by simp only [hg.2];rfl⟩
 ·have hxk' : rs[k]? = some x:=hxk
  rw [← hx,List.getElem?_map] at hxk'
  obtain ⟨p,hp,rfl⟩:=Option.map_eq_some_iff.1 hxk'
  have g0:=gj k 0 p hp (by omega)
  have g1:=gj k 1 p hp (by omega)
  have g2:=gj k 2 p hp (by omega)
  have key : ∀ (u : Nat) (g : Nat),u < 3 → (b.heap.size ≤ g ∧ g < w.heap.size) ∧ lie L g = 3 + (k * 3 + u) → (((b.heap.size ≤ g ∧ g < w.heap.size) ∧ ¬ (lie L g = 1 ∨ lie L g = 2)) ∧ (if lie L g = 0 then 0 else (lie L g - 3) / 3 + 1) = k + 1) ∧ (lie L g - 3) % 3 = u:=by
   intro u g hu hg
   refine ⟨⟨⟨hg.1,by rw [hg.2];omega⟩,?_⟩,by rw [hg.2];omega⟩
   simp only [hg.2];rw [if_neg (by omega)];omega
  refine ⟨rcell p,⟨p.r.1,p.r.2.1,p.r.2.2,[.slice p.c.1 p.c.2.1 p.c.2.2,.slice p.m.1 p.m.2.1 p.m.2.2,.int .i64 p.x.things_.count_],fun g => if (lie L g - 3) % 3 = 0 then 0 else 1,rfl,⟨M.cap _ g0,M.row_le _ g0,?_⟩,⟨p.c.1,p.c.2.1,p.c.2.2,p.m.1,p.m.2.1,p.m.2.2,fun g => if (lie L g - 3) % 3 = 1 then 0 else 1,rfl,⟨M.cap _ g1,M.row_le _ g1,?_⟩,⟨M.cap _ g2,M.row_le _ g2,?_⟩⟩⟩,fun j hj => flat_get rcell_length es k j p hp hj⟩
  ·exact (hs _ _ _ _ _ _ _ g0).mono fun g _ hg => by
    have:=key 0 g (by omega) hg
    exact ⟨this.1,if_pos this.2⟩
  ·exact (hs _ _ _ _ _ _ _ g1).mono fun g _ hg => by
    have:=key 1 g (by omega) hg
    exact ⟨⟨this.1,if_neg (by omega)⟩,if_pos this.2⟩
  ·exact (hs _ _ _ _ _ _ _ g2).mono fun g _ hg => by
    have:=key 2 g (by omega) hg
    exact ⟨⟨this.1,if_neg (by omega)⟩,if_neg (by omega)⟩
 ·exact (hs 1 _ _ _ _ _ _ r1).mono fun g _ hg => ⟨⟨hg.1,.inl hg.2⟩,if_pos hg.2⟩
 ·exact (hs 2 _ _ _ _ _ _ r2).mono fun g _ hg => ⟨⟨hg.1,.inr hg.2⟩,if_neg (by omega)⟩
end Go.Proofs.YtoegjiigaoanbaaGreat
