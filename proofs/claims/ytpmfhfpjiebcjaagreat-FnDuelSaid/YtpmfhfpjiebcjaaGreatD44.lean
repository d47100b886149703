/- The contract of laws.FnDuel. No condition. -/
import Derived.Test.YtpmfhfpjiebcjaaGreatD38
import Derived.Test.YtpmfhfpjiebcjaaGreatD39
import Derived.Test.YtpmfhfpjiebcjaaGreatD40
import Derived.Test.YtpmfhfpjiebcjaaGreatD42
import Derived.Test.YtpmfhfpjiebcjaaGreatD43
namespace Go.Proofs.YtpmfhfpjiebcjaaGreat
open Go.RowKit Go.Deep
set_option linter.unnecessarySimpa false
set_option linter.unusedSimpArgs false
set_option linter.unusedVariables false


theorem big_any (A : Option Addr) (n c : Nat) (w : World) : Calls Tryz.prog 17 #[.slice A n c] w fun e w' => e = .returned (.bool (decide ((1048576 : Int) < (n : Int)))) ∧ w = w':=by
 go_enter Tryz.func17,Tryz.ntmps17
 go_wp2
 go_ret
 exact ⟨rfl,rfl⟩
theorem big_yes (A : Option Addr) (n c : Nat) (w : World) (h : Hid ((1048576 : Int) < (n : Int))) : Calls Tryz.prog 17 #[.slice A n c] w fun e w' => e = .returned (.bool true) ∧ w = w':=by
 refine (big_any A n c w).mono ?_
 rintro e w' ⟨rfl,rfl⟩
 rw [decide_eq_true h.out]
 exact ⟨rfl,rfl⟩
theorem big_no (A : Option Addr) (n c : Nat) (w : World) (h : Hid (¬ (1048576 : Int) < (n : Int))) : Calls Tryz.prog 17 #[.slice A n c] w fun e w' => e = .returned (.bool false) ∧ w = w':=by
 refine (big_any A n c w).mono ?_
 rintro e w' ⟨rfl,rfl⟩
 rw [decide_eq_false h.out]
 exact ⟨rfl,rfl⟩
theorem Sl.low {w : World} {S : Nat → Prop} {size n : Nat} {A : Option Addr} {xs : List Value} (h : Sl w S size A n xs) : Sl w (fun j => j < w.heap.size) size A n xs :=
 ⟨h.1,fun hn => by obtain ⟨b,o,e,_,hb,hc⟩:=h.2 hn;exact ⟨b,o,e,hb,hb,hc⟩⟩
theorem vals_sl {b w : World} {es : List GEnt} {B0 B1 B2 : Option Addr} {m0 d0 m1 d1 m2 d2 : Nat} {ps zs : List Int} (M : Mine b w (.row 3 1 B2 m2 d2 (ints ps)::.row 72 2 B1 m1 d1 (es.flatMap gcell)::(es.flatMap grows ++ [.row 3 1 B0 m0 d0 (ints zs)]))) : Sl w (fun _ => True) 1 B0 m0 (ints zs):=by
 have h:=M.all (.row 3 1 B0 m0 d0 (ints zs)) (List.mem_cons_of_mem _ (List.mem_cons_of_mem _ (List.mem_append_right _ (List.mem_cons_self ..))))
 exact ownSl h

theorem ordIn_len (h : List Wrote) (z : Int) : ∀ j,(ordIn h z j).length ≤ j
 | 0 => by simp [ordIn]
 | j + 1 => by
  have ih:=ordIn_len h z j
  unfold ordIn
  split
  ·split
   ·simp;omega
   ·omega
  ·omega
theorem ordTo_len (h : List Wrote) (S : List Int) : ∀ i,(ordTo h S i).length ≤ i * h.length
 | 0 => by simp [ordTo]
 | i + 1 => by
  have ih:=ordTo_len h S i
  unfold ordTo
  rw [Nat.succ_mul]
  split
  ·have:=ordIn_len h ‹Int› h.length
   rw [List.length_append];omega
  ·omega
theorem same_len {b w : World} {B C : Option Addr} {m n c d : Nat} {zs : List Int} {rs : List Res} (M : Mine b w (.row 3 1 B m c (ints zs)::.row 3 1 C n d (ints zs)::rs)) : m = n:=by
 have h1:=M.len1 0 rfl
 have h2:=M.len1 1 rfl
 omega

set_option maxRecDepth 100000 in
set_option maxHeartbeats 32000000 in
theorem law_FnDuel (A : Option Addr) (n c : Nat) (bs : List UInt8) (w : World) (hs : Sl w (fun _ => True) 1 A n (charsD bs)) :
  Calls Tryz.prog 4 #[.slice A n c] w fun e w' => e = .returned (.bool true) ∧ Ext w w':=by
 by_cases hb : (1048576 : Int) < (n : Int)
 ·have HG:=Lib.hid hb
  clear hb
  go_enter Tryz.func4,Tryz.ntmps4
  go_wp2_with (go_at_call 17;refine (big_yes _ _ _ _ HG).mono ?_;rintro e w' ⟨rfl,rfl⟩)
  go_ret
  exact ⟨rfl,Ext.refl' _⟩
 have HG:=Lib.hid hb
 have HS:=Lib.hid hs
 have HB : Hid (n ≤ 1048576):=by have h:=HG.out;show n ≤ _;omega
 clear hb hs
 go_enter Tryz.func4,Tryz.ntmps4
 go_wp2_with (go_at_call 17;refine (big_no _ _ _ _ HG).mono ?_;rintro e w' ⟨rfl,rfl⟩)
 refine (DrawDuelPlay_any w HS.out.low HB.out).mono ?_
 rintro e w1 ⟨vs,rfl,B0,m0,d0,zs,B1,m1,d1,es,B2,m2,d2,ps,rfl,hm0,hm1,hes,hm2,M1⟩
 have X1:=Lib.hid M1.ext
 have hV:=vals_sl M1
 have hJ:=jobs_R M1.tail hes
 have hW:=jobs_wt hes
 have hP:=M1.row_sl 0 rfl
 clear M1 hes
 generalize es.map (·.j) = jobs at hJ hW
 have HV:=Lib.hid hV
 have HJ:=Lib.hid hJ
 have HW:=Lib.hid hW
 have HP:=Lib.hid hP
 have hlz : Hid (zs.length = m0):=hV.len
 have hlj : Hid (jobs.length = m1):=hJ.1
 have hlp : Hid (ps.length = m2):=hP.len
 clear hV hJ hW hP
 go_wp2_with fail
 refine (impl_DuelPlay B0 m0 d0 zs B1 m1 d1 jobs B2 m2 d2 ps w1 _ HV.out (by omega) _ HJ.out (by omega) HW.out _ HP.out hm2).mono ?_
 rintro e w2 ⟨AM,nm,cm,AJ,nj,cj,AH,nh,ch,rfl,DV⟩
 obtain ⟨s,hs⟩ : ∃ s,s = duelPlay zs jobs ps:=⟨_,rfl⟩
 rw [← hs] at DV ⊢
 have HDP:=Lib.hid hs
 clear hs
 obtain ⟨js,gs,hx,hh,M9⟩:=DV.out
 have M:=Lib.hid M9
 clear M9 DV
 have HX:=Lib.hid hx
 have HH:=Lib.hid hh
 clear hx hh
 go_wp2_with (first|((with_reducible show wpList _ _ _ (⟨_,_,_,_,_,none⟩::_) _ _);first|(refine Mine.wp_alloc M.out rfl 31 rfl (.agg #[.int .i64 0,.slice none 0 0,.slice none 0 0,.slice none 0 0]) (by kernel_rfl) ?_;intro gd w' M';(try simp only [Value.cells,zr_,zm_] at M');replace M:=Lib.hid M';clear M';(try simp only [zr_,zm_]))|(refine zSs M.out 31 0 ?_;intro w' M';(try simp only [zr_,zm_] at M');replace M:=Lib.hid M';clear M')))
 cases hok : jobsOk zs jobs
 ·have hbad : ¬ (jobsOk zs jobs = true ∧ ps.length ≤ 400):=fun z => by have:=z.1;rw [hok] at this;cases this
  have HZ : s = dzero:=by rw [HDP.out];exact play_bad hbad
  obtain rfl : nj = 0:=by
   have h:=M.out.len 2 rfl
   rw [flat_length jcell_length,← List.length_map (f:=JEnt.x),HX.out,HZ] at h
   simp [dzero] at h
   omega
  clear hbad HZ
  go_wp2_with (first|(go_at_call 19;(with_reducible refine (spec_JobsOk B0 m0 d0 zs B1 m1 d1 jobs _ _ (HV.out.ext M.out.ext) (by omega) _ (HJ.out.ext Job.R_good M.out.ext) (by omega) HW.out).mono ?_);rintro e w' ⟨rfl,x9⟩;replace M:=Lib.hid (M.out.on x9);clear x9;rw [hok])|((with_reducible show wpList _ _ _ (⟨_,_,_,_,_,none⟩::_) _ _);first|(refine zG M.out 0 ?_;(try simp only [zr_,zm_]))))
  go_ret
  exact ⟨rfl,Ext.tr X1.out M.out.ext⟩
 by_cases hp : m2 ≤ 400
 rotate_left
 ·have hbad : ¬ (jobsOk zs jobs = true ∧ ps.length ≤ 400):=fun z => hp (by have:=hlp.out;omega)
  have d4 : (400 : Int) < (m2 : Int):=by omega
  clear hp
  have HZ : s = dzero:=by rw [HDP.out];exact play_bad hbad
  obtain rfl : nj = 0:=by
   have h:=M.out.len 2 rfl
   rw [flat_length jcell_length,← List.length_map (f:=JEnt.x),HX.out,HZ] at h
   simp [dzero] at h
   omega
  clear hbad HZ
  go_wp2_with (first|(go_at_call 19;(with_reducible refine (spec_JobsOk B0 m0 d0 zs B1 m1 d1 jobs _ _ (HV.out.ext M.out.ext) (by omega) _ (HJ.out.ext Job.R_good M.out.ext) (by omega) HW.out).mono ?_);rintro e w' ⟨rfl,x9⟩;replace M:=Lib.hid (M.out.on x9);clear x9;rw [hok])|((with_reducible show wpList _ _ _ (⟨_,_,_,_,_,none⟩::_) _ _);first|(refine zG M.out 0 ?_;(try simp only [zr_,zm_]))))
  go_ret
  exact ⟨rfl,Ext.tr X1.out M.out.ext⟩
 have d4 : ¬ (400 : Int) < (m2 : Int):=by omega
 obtain ⟨F1,D1⟩:=pf_play hok (by rw [hlp.out];exact hp) (by have:=hlz.out;omega)
 rw [← HDP.out] at F1 D1
 have F:=Lib.hid F1
 have HR : Hid (∀ w',Mine w1 w' (.row 102 3 AM nm cm (s.m.cells_.flatMap Word.cells)::.row 68 18 AJ nj cj (js.flatMap jcell)::.row 53 3 AH nh ch (gs.flatMap ecell)::(js.flatMap jrows ++ gs.map erow)) → DRd w' s AM nm AJ nj AH nh ch):=fun w' M9 => DuelV.rd (cm:=cm) (cj:=cj) D1 (by rw [hlp.out];exact hp) (jobsOk_le hok) ⟨js,gs,HX.out,HH.out,M9⟩
 obtain rfl : m1 = nj:=by
  have h:=M.out.len 2 rfl
  rw [flat_length jcell_length,← List.length_map (f:=JEnt.x),HX.out,F1.xl,hlj.out] at h
  omega
 have HOK:=Lib.hid hok
 clear F1 D1 hp
 cases hov : dec (AllTo (fun _ x => isDone x) s.xs s.xs.length)
 ·go_wp2_with (first|(go_at_call 19;(with_reducible refine (spec_JobsOk B0 m0 d0 zs B1 m1 d1 jobs _ _ (HV.out.ext M.out.ext) (by omega) _ (HJ.out.ext Job.R_good M.out.ext) (by omega) HW.out).mono ?_);rintro e w' ⟨rfl,x9⟩;replace M:=Lib.hid (M.out.on x9);clear x9;rw [hok])|(go_at_call 20;(with_reducible refine (spec_DuelTrue B0 m0 d0 zs s.m s.xs s.h AM nm cm AJ m1 cj AH nh ch _ _ (HV.out.ext M.out.ext) (by omega) _ (HR.out _ M.out.tail).rm (HR.out _ M.out.tail).bm (HR.out _ M.out.tail).rj (HR.out _ M.out.tail).bj (HR.out _ M.out.tail).rh (HR.out _ M.out.tail).bh (HR.out _ M.out.tail).cp F.out.hp F.out.v1 F.out.v2 F.out.v3 F.out.v4 F.out.v5).mono ?_);rintro e w' ⟨rfl,x9⟩;replace M:=Lib.hid (M.out.on x9);clear x9)|(go_at_call 21;(with_reducible refine (impl_DuelTrue B0 m0 d0 zs s.m s.xs s.h AM nm cm AJ m1 cj AH nh ch _ _ (HV.out.ext M.out.ext) (by omega) _ (HR.out _ M.out.tail).rm (HR.out _ M.out.tail).bm (HR.out _ M.out.tail).rj (HR.out _ M.out.tail).bj (HR.out _ M.out.tail).rh (HR.out _ M.out.tail).bh (HR.out _ M.out.tail).cp F.out.hp F.out.v1 F.out.v2 F.out.v3 F.out.v4 F.out.v5).mono ?_);rintro e w' ⟨rfl,x9⟩;replace M:=Lib.hid (M.out.on x9);clear x9)|(go_at_call 22;(with_reducible refine (impl_DuelOver s.m.clock_ AM nm cm AJ m1 cj AH nh ch s.xs _ _ (HR.out _ M.out.tail).rj (HR.out _ M.out.tail).bj).mono ?_);rintro e w' ⟨rfl,x9⟩;replace M:=Lib.hid (M.out.on x9);clear x9;rw [hov])|((with_reducible show wpList _ _ _ (⟨_,_,_,_,_,none⟩::_) _ _);first|((first|refine zG M.out 0 ?_|refine zGs M.out 31 0 4 ?_);(try simp only [zr_,zm_])))|((with_reducible show wpList _ _ _ (⟨_,.load _ _,_,_,_,some _⟩::_) _ _);first|(refine Mine.wp_getsg M.out (by rfl) 31 _ rfl 0 _ 4 rfl rfl (Nat.le_of_ble_eq_true rfl) _ Tryz.underlying31 (by rfl) (by kernel_rfl) ?_;(try simp only [zr_,zm_]))))
  go_ret
  exact ⟨rfl,Ext.tr X1.out M.out.ext⟩
 have HA : Hid (∀ x ∈ s.xs,isDone x):=fun x hx => by obtain ⟨k,hk⟩:=List.mem_iff_getElem?.1 hx;exact dec_true hov k (List.getElem?_eq_some_iff.1 hk).1 x hk
 go_wp2_with (first|(go_at_call 19;(with_reducible refine (spec_JobsOk B0 m0 d0 zs B1 m1 d1 jobs _ _ (HV.out.ext M.out.ext) (by omega) _ (HJ.out.ext Job.R_good M.out.ext) (by omega) HW.out).mono ?_);rintro e w' ⟨rfl,x9⟩;replace M:=Lib.hid (M.out.on x9);clear x9;rw [hok])|(go_at_call 20;(with_reducible refine (spec_DuelTrue B0 m0 d0 zs s.m s.xs s.h AM nm cm AJ m1 cj AH nh ch _ _ (HV.out.ext M.out.ext) (by omega) _ (HR.out _ M.out.tail).rm (HR.out _ M.out.tail).bm (HR.out _ M.out.tail).rj (HR.out _ M.out.tail).bj (HR.out _ M.out.tail).rh (HR.out _ M.out.tail).bh (HR.out _ M.out.tail).cp F.out.hp F.out.v1 F.out.v2 F.out.v3 F.out.v4 F.out.v5).mono ?_);rintro e w' ⟨rfl,x9⟩;replace M:=Lib.hid (M.out.on x9);clear x9)|(go_at_call 21;(with_reducible refine (impl_DuelTrue B0 m0 d0 zs s.m s.xs s.h AM nm cm AJ m1 cj AH nh ch _ _ (HV.out.ext M.out.ext) (by omega) _ (HR.out _ M.out.tail).rm (HR.out _ M.out.tail).bm (HR.out _ M.out.tail).rj (HR.out _ M.out.tail).bj (HR.out _ M.out.tail).rh (HR.out _ M.out.tail).bh (HR.out _ M.out.tail).cp F.out.hp F.out.v1 F.out.v2 F.out.v3 F.out.v4 F.out.v5).mono ?_);rintro e w' ⟨rfl,x9⟩;replace M:=Lib.hid (M.out.on x9);clear x9)|(go_at_call 22;(with_reducible refine (impl_DuelOver s.m.clock_ AM nm cm AJ m1 cj AH nh ch s.xs _ _ (HR.out _ M.out.tail).rj (HR.out _ M.out.tail).bj).mono ?_);rintro e w' ⟨rfl,x9⟩;replace M:=Lib.hid (M.out.on x9);clear x9;rw [hov];replace M:=Lib.hid (M.out.own (own_emptySt _) ((Ext.refl' _).al _)))|(go_at_call 23;(with_reducible refine (spec_Stamps AH nh ch s.h _ _ (HR.out _ M.out.tail.tail).rh (HR.out _ M.out.tail.tail).bh F.out.hp).mono ?_);rintro e w' ⟨BS,ms,dS,rfl,hown,x9⟩;replace M:=Lib.hid (M.out.own hown x9);clear hown x9)|((with_reducible show wpList _ _ _ (⟨_,_,_,_,_,none⟩::_) _ _);first|((first|refine zG M.out 0 ?_|refine zG M.out 1 ?_|refine zGs M.out 31 0 4 ?_);(try simp only [zr_,zm_])))|((with_reducible show wpList _ _ _ (⟨_,.load _ _,_,_,_,some _⟩::_) _ _);first|(refine Mine.wp_getsg M.out (by rfl) 31 _ rfl 0 _ 4 rfl rfl (Nat.le_of_ble_eq_true rfl) _ Tryz.underlying31 (by rfl) (by kernel_rfl) ?_;(try simp only [zr_,zm_]))))
 have hms : Hid ((stampsOf s.h).length = ms):=by have h:=M.out.len1 0 rfl;rw [ints_length] at h;exact h
 have hm200 : ms ≤ 200:=by have:=stamps_len F.out.v3;have:=hms.out;omega
 have hnh : Hid (s.h.length = nh):=(HR.out _ M.out.tail.tail.tail).rh.1
 have hnh4 : nh ≤ 4:=by have:=F.out.hl;have:=hnh.out;omega
 have HT:=Lib.hid (F.out.turns HA.out)
 obtain ⟨SS,hSS⟩ : ∃ SS,SS = stampsOf s.h:=⟨_,rfl⟩
 rw [← hSS] at M hms HT
 clear hSS
 go_wp2
 go_loopw [7,9] (fun ov ii wr => ∃ (i m7 d7 : Nat) (B7 : Option Addr),i ≤ ms ∧ ov = .slice B7 m7 d7 ∧ ii = .int .i64 i ∧ Hid (Mine w1 wr (.row 3 1 BS ms dS (ints SS)::.row 3 1 B7 m7 d7 (ints (ordTo s.h SS i))::.box gd 31 #[.int .i64 s.m.clock_,.slice AM nm cm,.slice AJ m1 cj,.slice AH nh ch]::.row 102 3 AM nm cm (s.m.cells_.flatMap Word.cells)::.row 68 18 AJ m1 cj (js.flatMap jcell)::.row 53 3 AH nh ch (gs.flatMap ecell)::(js.flatMap jrows ++ gs.map erow)))) (fun _ ii _ => ms - (intOf ii).toNat)
 case atStart => exact ⟨0,_,_,_,Nat.zero_le _,rfl,rfl,M⟩
 case round =>
  clear M
  obtain ⟨i,m7,d7,B7,hi,rfl,rfl,M⟩:=hrel
  by_cases hlt : (i : Int) < (ms : Int)
  rotate_left
  ·skip
   obtain rfl : i = ms:=by omega
   have HO : Hid (jobsTurn zs jobs (ordTo s.h SS i) = s.m.cells_.map (·.val_)):=by have h:=HT.out;rw [hms.out] at h;exact h
   have hm7 : m7 ≤ 1048576:=by have h:=M.out.len1 1 rfl;rw [ints_length] at h;have:=ordTo_len s.h SS i;have:=F.out.hl;have : i * s.h.length ≤ 200 * 4:=Nat.mul_le_mul hm200 this;omega
   clear hi hlt HT
   go_wp2_with (first|(go_at_call 25;(with_reducible refine (impl_Values s.m AM nm cm _ _ (HR.out _ (M.out.tail.tail.tail)).rm (HR.out _ (M.out.tail.tail.tail)).bm F.out.v2).mono ?_);rintro e w' ⟨BV,dV,rfl,hown,x9⟩;replace M:=Lib.hid (M.out.own hown x9);clear hown x9)|(go_at_call 26;(with_reducible refine (impl_JobsInTurn B0 m0 d0 zs B1 m1 d1 jobs B7 m7 d7 (ordTo s.h SS i) _ _ (HV.out.ext M.out.ext) (by omega) _ (HJ.out.ext Job.R_good M.out.ext) (by omega) HW.out _ (M.out.row_sl 2 rfl) (by omega) HOK.out).mono ?_);rintro e w' ⟨BJ,mj,dj,rfl,M9⟩;rw [HO.out] at M9;have M8:=M.out.call M9;clear M9;simp only [List.cons_append,List.nil_append] at M8;obtain rfl : nm = mj:=(same_len M8).symm;replace M:=Lib.hid M8;clear M8)|(go_at_call 24;(with_reducible refine (sameInts_same _ _ _ _ _ _ _ _ _ (M.out.row_sl 1 rfl) (M.out.row_sl 0 rfl) (by have:=(HR.out _ (M.out.tail.tail.tail.tail.tail)).bm;omega)).mono ?_);rintro e w' ⟨rfl,x9⟩;replace M:=Lib.hid (M.out.on x9);clear x9)|(go_at_call 25;(with_reducible refine (impl_Values s.m AM nm cm _ _ (HR.out _ (M.out.tail.tail.tail.tail.tail)).rm (HR.out _ (M.out.tail.tail.tail.tail.tail)).bm F.out.v2).mono ?_);rintro e w' ⟨BV,dV,rfl,hown,x9⟩;replace M:=Lib.hid (M.out.own hown x9);clear hown x9)|(go_at_call 27;(with_reducible refine (spec_JobsInTurn B0 m0 d0 zs B1 m1 d1 jobs B7 m7 d7 (ordTo s.h SS i) _ _ (HV.out.ext M.out.ext) (by omega) _ (HJ.out.ext Job.R_good M.out.ext) (by omega) HW.out _ (M.out.row_sl 4 rfl) (by omega) HOK.out).mono ?_);rintro e w' ⟨BJ,mj,dj,rfl,M9⟩;rw [HO.out] at M9;have M8:=M.out.call M9;clear M9;simp only [List.cons_append,List.nil_append] at M8;obtain rfl : nm = mj:=(same_len M8).symm;replace M:=Lib.hid M8;clear M8)|(go_at_call 24;(with_reducible refine (sameInts_same _ _ _ _ _ _ _ _ _ (M.out.row_sl 1 rfl) (M.out.row_sl 0 rfl) (by have:=(HR.out _ (M.out.tail.tail.tail.tail.tail.tail.tail)).bm;omega)).mono ?_);rintro e w' ⟨rfl,x9⟩;replace M:=Lib.hid (M.out.on x9);clear x9)|((with_reducible show wpList _ _ _ (⟨_,_,_,_,_,none⟩::_) _ _);first|(refine zGs M.out 27 2 2 ?_;(try simp only [zr_,zm_])))|((with_reducible show wpList _ _ _ (⟨_,.load _ _,_,_,_,some _⟩::_) _ _);first|(refine Mine.wp_getsg M.out (by rfl) 27 _ rfl 4 _ 2 rfl rfl (Nat.le_of_ble_eq_true rfl) _ Tryz.underlying27 (by rfl) (by kernel_rfl) ?_;(try simp only [zr_,zm_]))))
   go_ret
   exact ⟨rfl,Ext.tr X1.out M.out.ext⟩
  have HI : Hid (i < ms):=by show _ < _;omega
  obtain ⟨z,hz⟩ : ∃ z,SS[i]? = some z:=⟨_,List.getElem?_eq_getElem (by have:=hms.out;omega)⟩
  have HZ : Hid (SS[i]? = some z):=hz
  have hzi : (ints SS)[i]? = some (.int .i64 z):=by rw [ints_get,hz];rfl
  have HZI:=Lib.hid hzi
  clear hz hzi
  have hi8 : i ≤ 200:=by omega
  go_wp2
  go_loopw [7,10] (fun ov jj wr => ∃ (j m7 d7 : Nat) (B7 : Option Addr),j ≤ nh ∧ ov = .slice B7 m7 d7 ∧ jj = .int .i64 j ∧ Hid (Mine w1 wr (.row 3 1 BS ms dS (ints SS)::.row 3 1 B7 m7 d7 (ints (ordTo s.h SS i ++ ordIn s.h z j))::.box gd 31 #[.int .i64 s.m.clock_,.slice AM nm cm,.slice AJ m1 cj,.slice AH nh ch]::.row 102 3 AM nm cm (s.m.cells_.flatMap Word.cells)::.row 68 18 AJ m1 cj (js.flatMap jcell)::.row 53 3 AH nh ch (gs.flatMap ecell)::(js.flatMap jrows ++ gs.map erow)))) (fun _ jj _ => nh - (intOf jj).toNat)
  case atStart => exact ⟨0,m7,d7,B7,Nat.zero_le _,rfl,rfl,by rw [show ordIn s.h z 0 = [] from rfl,List.append_nil];exact M⟩
  case round =>
   clear M
   obtain ⟨j,m7,d7,B7,hj,rfl,rfl,M⟩:=hrel
   by_cases hjn : (j : Int) < (nh : Int)
   rotate_left
   ·skip
    obtain rfl : j = nh:=by omega
    have e1 : ordTo s.h SS i ++ ordIn s.h z j = ordTo s.h SS (i + 1):=by rw [ordTo_next HZ.out,hnh.out]
    rw [e1] at M
    clear e1
    go_wp2_with (first|((with_reducible show wpList _ _ _ (⟨_,_,_,_,_,none⟩::_) _ _);first|(refine zG M.out 2 ?_;(try simp only [zr_,zm_]))))
    go_roundw
    case rel => exact ⟨i + 1,_,_,_,HI.out,rfl,by go_num,M⟩
    case measure => have:=HI.out;simp [intOf];omega
   have HJN : Hid (j < nh):=by show _ < _;omega
   obtain ⟨y,hy⟩ : ∃ y,s.h[j]? = some y:=⟨_,List.getElem?_eq_getElem (by have:=hnh.out;omega)⟩
   have HY:=Lib.hid hy
   have hw:=F.out.who y (List.mem_of_getElem? hy)
   obtain ⟨pe,hpe,rfl⟩ : ∃ pe,gs[j]? = some pe ∧ pe.2 = y:=by
    rw [← HH.out,List.getElem?_map] at hy
    obtain ⟨p,hp,h⟩:=Option.map_eq_some_iff.1 hy
    exact ⟨p,hp,h⟩
   have hc0 : (gs.flatMap ecell)[j * 3]? = some (.int .i64 pe.2.stamp_):=by have:=flat_get ecell_length gs j 0 pe hpe (by omega);rw [Nat.add_zero] at this;exact this
   have hc1 : (gs.flatMap ecell)[j * 3 + 1]? = some (.int .i64 pe.2.who_):=flat_get ecell_length gs j 1 pe hpe (by omega)
   have HC0:=Lib.hid hc0
   have HC1:=Lib.hid hc1
   have hb1 : m7 ≤ 1000:=by have h:=M.out.len1 1 rfl;rw [ints_length,List.length_append] at h;have:=ordTo_len s.h SS i;have:=ordIn_len s.h z j;have:=F.out.hl;have : i * s.h.length ≤ 200 * 4:=Nat.mul_le_mul hi8 this;omega
   clear hc0 hc1 hy hpe
   obtain ⟨bH,rfl⟩:=M.out.addr 5 rfl (by omega)
   obtain ⟨bS,rfl⟩:=M.out.addr 0 rfl (by omega)
   by_cases hzz : pe.2.stamp_ = z
   rotate_left
   ·have hbz : (pe.2.stamp_ == z) = false:=by simpa using hzz
    have HN:=Lib.hid hzz
    clear hzz
    go_wp2_with (first|((with_reducible show wpList _ _ _ (⟨_,_,_,_,_,none⟩::_) _ _);first|(refine zG M.out 2 ?_;(try simp only [zr_,zm_]))))
    refine Mine.region_quiet M.out (by kernel_rfl) (by kernel_rfl) ?_
    repeat (first|go_big_quiet_skip|(go_big_quiet_want;first|((first|refine zQ 2 ?_|refine Mine.oq_getr _ _ rfl 5 _ rfl rfl _ (by exact HC0.out) _ (by first|exact Tryz.underlying3) (by rfl) ?_|refine Mine.oq_getr _ _ rfl 0 _ rfl rfl _ (by exact HZI.out) _ (by first|exact Tryz.underlying3) (by rfl) ?_);(try simp only [zr_,zm_]);go_big_quiet_on)|(unfold Oper.quiet;apply Exists.intro;refine ⟨fun wq hq => ?_,?_⟩;(clear hq;go_simp;first|done|rfl|exact ⟨rfl,rfl⟩);(try simp only [zs_,zl_]);go_big_quiet_on)))
    refine wpQuiet_nil ?_
    intro w' M'
    replace M:=Lib.hid M'
    clear M'
    go_wp2
    go_roundw
    case rel => exact ⟨j + 1,_,_,_,HJN.out,rfl,by go_num,by rw [ordIn_no HY.out HN.out];exact M⟩
    case measure => have:=HJN.out;simp [intOf];omega
   have hbz : (pe.2.stamp_ == z) = true:=by simpa using hzz
   have HN:=Lib.hid hzz
   clear hzz
   have hw1 : 1 ≤ pe.2.who_ ∧ pe.2.who_ ≤ 4:=hw
   go_wp2_with (first|((with_reducible show wpList _ _ _ (⟨_,_,_,_,_,none⟩::_) _ _);first|(refine zG M.out 2 ?_;(try simp only [zr_,zm_]))))
   refine Mine.region_quiet M.out (by kernel_rfl) (by kernel_rfl) ?_
   repeat (first|go_big_quiet_skip|(go_big_quiet_want;first|((first|refine zQ 2 ?_|refine Mine.oq_getr _ _ rfl 5 _ rfl rfl _ (by exact HC0.out) _ (by first|exact Tryz.underlying3) (by rfl) ?_|refine Mine.oq_getr _ _ rfl 0 _ rfl rfl _ (by exact HZI.out) _ (by first|exact Tryz.underlying3) (by rfl) ?_);(try simp only [zr_,zm_]);go_big_quiet_on)|(unfold Oper.quiet;apply Exists.intro;refine ⟨fun wq hq => ?_,?_⟩;(clear hq;go_simp;first|done|rfl|exact ⟨rfl,rfl⟩);(try simp only [zs_,zl_]);go_big_quiet_on)))
   refine wpQuiet_nil ?_
   intro w' M'
   replace M:=Lib.hid M'
   clear M'
   go_wp2_with (first|(at_builtin;refine Mine.wp_push M.out rfl _ _ 22 rfl 3 _ _ _ Tryz.underlying22 Tryz.infoInt rfl (by omega) 1 rfl rfl _ _ rfl rfl rfl (by simp [Value.oneCell']) (by omega) (by unfold maxLen;omega) ?_;intro A2 c2 w' M';(try simp only [zr_,zm_] at M');replace M:=Lib.hid M';clear M')|((with_reducible show wpList _ _ _ (⟨_,_,_,_,_,none⟩::_) _ _);first|((first|refine zG M.out 2 ?_|refine Mine.wp_getr M.out rfl _ _ rfl 5 _ rfl rfl _ (by exact HC1.out) _ (by first|exact Tryz.underlying3) (by rfl) ?_);(try simp only [zr_,zm_]))))
   go_roundw
   case rel => exact ⟨j + 1,_,_,_,HJN.out,rfl,by go_num,by rw [ordIn_yes HY.out HN.out,← List.append_assoc];exact M⟩
   case measure => have:=HJN.out;simp [intOf];omega

end Go.Proofs.YtpmfhfpjiebcjaaGreat
