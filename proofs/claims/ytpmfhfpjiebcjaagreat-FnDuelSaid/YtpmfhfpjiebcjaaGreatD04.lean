/- StateAt of the reference. No condition but the lengths. What a history is drawn of: values, cells, rows. No condition but the code's length. -/
import Derived.Test.YtpmfhfpjiebcjaaGreatD00
import Derived.Test.YtpmfhfpjiebcjaaGreatD03
import Derived.Test.YtpmfhfpjiebcjaaGreatD02
namespace Go.Proofs.YtpmfhfpjiebcjaaGreat
open Go.RowKit Go.Deep
set_option linter.unnecessarySimpa false
set_option linter.unusedSimpArgs false
set_option linter.unusedVariables false

theorem Mine.wp_pour {P : Program} {ops : Array Oper} {rest : List Oper} {o : Oper} {a : Act} {Q : Exit → Act → World → Prop} {b w : World} {rs : List Res} (M : Mine b w rs) (hgd : o.guard = none) (s x : Operand) (t : TypeId) (ho : o.op = .call { callee:=.builtin .append,args:=#[s,x],argTypes:=#[t,t] })
  (e : TypeId) (z : Value) (size bytes : Nat) (ht : P.underlying t = some (.slice e)) (hf : (P.info? e).map (fun i => (i.zero,i.size,i.bytes)) = some (some z,size,bytes)) (hzs : z.cells.size = size) (hsz : 0 < size)
  (i : Nat) {A0 : Option Addr} {n0 c0 : Nat} {xs : List Value} (hi : rs[i]? = some (.row e size A0 n0 c0 xs)) (hs : a.eval s = .slice A0 n0 c0)
  (S : Nat → Prop) (A : Option Addr) (m c : Nat) (news : List Value) (hx : a.eval x = .slice A m c) (hr : Sl w S size A m news) (h1 : ∀ u ∈ news,u.oneCell' = true)
  (hbytes : (n0 + m) * bytes ≤ 140737488355328) (h63 : n0 + m ≤ maxLen)
  (h : ∀ A' c' w',Mine b w' (rs.set i (.row e size A' (n0 + m) c' (xs ++ news))) → wpList P ops Q rest (a.put o.dst (.slice A' (n0 + m) c')) w') : wpList P ops Q (o::rest) a w :=
 wpList_plain hgd fun _ hK => by
 obtain ⟨i0,hf,hz0,hz1,hz2⟩:=info_parts hf
 obtain ⟨v',w',hrun,h2,h3,h5⟩:=run_pour (P:=P) w b.heap.size t o.type e i0 z size bytes ht hf hz0 hz1 hz2 hzs hsz (.slice A0 n0 c0) n0 xs (M.row_at i hi) S A m c news hr h1 h63 hbytes M.size
 obtain ⟨A',c',rfl⟩ : ∃ A' c',v' = .slice A' (n0 + m) c':=by
  rcases h2.2 with ⟨hv,h0⟩|⟨g,cap,cur,hv,_⟩
  ·exact ⟨none,0,by rw [hv,h0]⟩
  ·exact ⟨_,_,hv⟩
 unfold Oper.wp execOp
 simp [ho,resolve,invoke,builtin,hs,hx,hrun,Result.andThen]
 refine hK _ _ (h A' c' w' (M.swap hi ((Chg.refl _ w).grown h3 (fun k hk => .inl hk)) (fun g hg => hg) h2 fun g hg => ?_))
 rcases h5 with q|q
 ·exact .inl (by show (Value.slice A0 n0 c0).ownBlock = some g;rw [← q];exact hg)
 ·right
  have hg' : (Value.slice A' (n0 + m) c').ownBlock = some g:=hg
  rw [q] at hg'
  injection hg' with hg'
  omega

/-- What the first j entries whose stamp is s put over now. -/
noncomputable def ovAll (l : List Wrote) (s : Int) (now : List Int) : Nat → List Int
 | 0 => now
 | j + 1 => match l[j]? with
  | some y => if dec (y.stamp_ = s) = true then overlayOf (ovAll l s now j) y.puts_ else ovAll l s now j
  | none => ovAll l s now j
theorem ovAll_yes {l : List Wrote} {s : Int} {now : List Int} {j : Nat} {y : Wrote} (hy : l[j]? = some y) (h : y.stamp_ = s) : ovAll l s now (j + 1) = overlayOf (ovAll l s now j) y.puts_:=by
 rw [ovAll,hy];simp only;rw [dec_yes h];rfl
theorem ovAll_no {l : List Wrote} {s : Int} {now : List Int} {j : Nat} {y : Wrote} (hy : l[j]? = some y) (h : ¬ y.stamp_ = s) : ovAll l s now (j + 1) = ovAll l s now j:=by
 rw [ovAll,hy];simp only;rw [dec_no h];rfl
theorem ovAll_le {l : List Wrote} {s : Int} {now : List Int} (h : now.length ≤ 8) : ∀ j,(ovAll l s now j).length ≤ 8
 | 0 => h
 | j + 1 => by
  have ih:=ovAll_le (l:=l) (s:=s) h j
  rw [ovAll]
  cases l[j]? with
  | none => exact ih
  | some y =>
   simp only
   split
   ·exact overlay_le _ _
   ·exact ih
noncomputable def stTo (l : List Wrote) (S cells : List Int) : Nat → List Int
 | 0 => cells
 | i + 1 => match S[i]? with
  | some s => ovAll l s (stTo l S cells i) l.length
  | none => stTo l S cells i
theorem stTo_next {l : List Wrote} {S cells : List Int} {i : Nat} {s : Int} (h : S[i]? = some s) : stTo l S cells (i + 1) = ovAll l s (stTo l S cells i) l.length:=by rw [stTo,h]
theorem stTo_le {l : List Wrote} {S cells : List Int} (h : cells.length ≤ 8) : ∀ i,(stTo l S cells i).length ≤ 8
 | 0 => h
 | i + 1 => by
  have ih:=stTo_le (l:=l) (S:=S) h i
  rw [stTo]
  cases S[i]? with
  | none => exact ih
  | some s => exact ovAll_le ih _
def cntLe (S : List Int) (N : Int) : Nat:=(S.takeWhile fun s => decide (s ≤ N)).length
theorem cnt_is : ∀ {S : List Int} {N : Int} {i : Nat},(∀ (q : Nat) (s : Int),q < i → S[q]? = some s → s ≤ N) → i ≤ S.length → (∀ s,S[i]? = some s → ¬ s ≤ N) → cntLe S N = i
 | [],N,i,_,hi,_ => by simp at hi;subst hi;rfl
 | x::S,N,0,_,_,h => by
  have:=h x rfl
  unfold cntLe
  rw [List.takeWhile_cons]
  simp [this]
 | x::S,N,i + 1,h0,hi,h => by
  have hx:=h0 0 x (Nat.succ_pos _) rfl
  have ih:=cnt_is (S:=S) (N:=N) (i:=i) (fun q s hq hs => h0 (q + 1) s (by omega) hs) (by simpa using hi) (fun s hs => h s hs)
  unfold cntLe at ih ⊢
  rw [List.takeWhile_cons]
  simp [hx,ih]
noncomputable def stateOf (cells : List Int) (l : List Wrote) (N : Int) : List Int:=if dec (valsOk cells = true ∧ histOk l = true) = true then stTo l (stampsOf l) cells (cntLe (stampsOf l) N) else []
theorem state_no {cells : List Int} {l : List Wrote} {N : Int} (h : ¬ (valsOk cells = true ∧ histOk l = true)) : stateOf cells l N = []:=by unfold stateOf;rw [dec_no h];rfl
theorem state_yes {cells : List Int} {l : List Wrote} {N : Int} (h : valsOk cells = true ∧ histOk l = true) : stateOf cells l N = stTo l (stampsOf l) cells (cntLe (stampsOf l) N):=by unfold stateOf;rw [dec_yes h];rfl
theorem vals_len {l : List Int} (h : valsOk l = true) : l.length ≤ 8:=by
 have:=(dec_true h).1
 omega
theorem stamps_len {l : List Wrote} (h : histOk l = true) : (stampsOf l).length ≤ 200:=by
 unfold stampsOf
 rw [h,if_pos rfl,sorted_len]
 exact (dec_true h).1

set_option maxRecDepth 4000 in
set_option maxHeartbeats 8000000 in
theorem spec_StateAt (A0 : Option Addr) (n0 c0 : Nat) (cells : List Int) (A : Option Addr) (n c : Nat) (l : List Wrote) (N : Int) (w : World) (S0 S : Nat → Prop) (hs0 : Sl w S0 1 A0 n0 (ints cells)) (hm0 : n0 ≤ 1048576) (hs : SlR Wrote.R 3 w S A n l) (hm : n ≤ 1048576) (hp : ∀ x ∈ l,x.puts_.length ≤ 1048576) :
  Calls Tryz.prog 60 #[.slice A0 n0 c0,.slice A n c,.int .i64 N] w fun e w' => ∃ B m d,e = .returned (.slice B m d) ∧ w'.ownsRow w.heap.size 3 1 (.slice B m d) m (ints (stateOf cells l N)) ∧ Ext w w':=by
 have H : Hid (l.length = n):=hs.1
 have HS0:=Lib.hid hs0
 have HS:=Lib.hid hs
 have HP:=Lib.hid hp
 clear hs hs0 hp
 have M : Hid (Mine w w []):=Mine.refl w
 cases hv : valsOk cells
 ·have HN : Hid (stateOf cells l N = []):=state_no fun h => by rw [hv] at h;exact absurd h.1 (by simp)
  go_enter Tryz.func60,Tryz.ntmps60
  go_wp2_with (go_at_call 55;(with_reducible refine (l3Vals_any _ _ _ cells _ S0 (HS0.out.ext M.out.ext) hm0).mono ?_);rintro e w2 ⟨rfl,rfl⟩;rw [hv])
  go_ret
  have M9:=M.out.own (own_emptySt _) ((Ext.refl' _).al _)
  rw [HN.out]
  exact ⟨_,0,0,rfl,M9.row_at 0 rfl,M9.ext⟩
 cases hok : histOk l
 ·have HN : Hid (stateOf cells l N = []):=state_no fun h => by rw [hok] at h;exact absurd h.2 (by simp)
  go_enter Tryz.func60,Tryz.ntmps60
  go_wp2_with (first|(go_at_call 55;(with_reducible refine (l3Vals_any _ _ _ cells _ S0 (HS0.out.ext M.out.ext) hm0).mono ?_);rintro e w2 ⟨rfl,rfl⟩;rw [hv])|(go_at_call 59;(with_reducible refine (spec_HistOk A n c l _ S (HS.out.ext Wrote.R_good M.out.ext) hm HP.out).mono ?_);rintro e w2 ⟨rfl,x9⟩;rw [hok];replace M:=Lib.hid (M.out.on x9);clear x9))
  go_ret
  have M9:=M.out.own (own_emptySt _) ((Ext.refl' _).al _)
  rw [HN.out]
  exact ⟨_,0,0,rfl,M9.row_at 0 rfl,M9.ext⟩
 have HV:=Lib.hid hv
 have HOK:=Lib.hid hok
 have HC8:=Lib.hid (vals_len hv)
 have hl200 : Hid ((stampsOf l).length ≤ 200):=stamps_len hok
 go_enter Tryz.func60,Tryz.ntmps60
 go_wp2_with (first|(go_at_call 55;(with_reducible refine (l3Vals_any _ _ _ cells _ S0 (HS0.out.ext M.out.ext) hm0).mono ?_);rintro e w2 ⟨rfl,rfl⟩;rw [hv])|(go_at_call 59;(with_reducible refine (spec_HistOk A n c l _ S (HS.out.ext Wrote.R_good M.out.ext) hm HP.out).mono ?_);rintro e w2 ⟨rfl,x9⟩;rw [hok];replace M:=Lib.hid (M.out.on x9);clear x9)|(at_builtin;refine Mine.wp_pour (M.out.own (own_emptySt _) ((Ext.refl' _).al _)) rfl _ _ 22 rfl 3 _ _ _ Tryz.underlying22 Tryz.infoInt rfl (by omega) 0 rfl rfl S0 A0 n0 c0 (ints cells) rfl (HS0.out.ext (M.out.ext.tr ((Ext.refl' _).al _))) (ints_one _) (by omega) (by unfold maxLen;omega) ?_;intro A2 c2 w' M';(try simp only [zr_,zm_,List.nil_append,Nat.zero_add,show ints [] = [] from rfl] at M');replace M:=Lib.hid M';clear M';(try simp only [Nat.zero_add])))
 clear hv hok
 refine (spec_Stamps A n c l _ S (HS.out.ext Wrote.R_good M.out.ext) hm HP.out).mono ?_
 rintro e w3 ⟨B3,ms,d3,rfl,o3,x3⟩
 replace M:=Lib.hid (M.out.own o3 x3)
 clear o3 x3
 have HMS : Hid ((stampsOf l).length = ms):=by have h:=M.out.len1 0 rfl;rw [ints_length] at h;exact h
 have hms : (ms : Int) ≤ 1048576:=by have:=HMS.out;have:=hl200.out;omega
 have HSO:=Lib.hid (state_yes (N:=N) ⟨HV.out,HOK.out⟩)
 generalize stampsOf l = SS at M HMS HSO
 clear hl200
 go_wp2
 go_loopw [7,9] (fun u ii wr => ∃ (i m d : Nat) (B : Option Addr),i ≤ ms ∧ u = .slice B m d ∧ ii = .int .i64 i ∧ Hid (∀ (q : Nat) (s : Int),q < i → SS[q]? = some s → s ≤ N) ∧ Hid (Mine w wr [.row 3 1 B3 ms d3 (ints SS),.row 3 1 B m d (ints (stTo l SS cells i))])) (fun _ ii _ => ms - (intOf ii).toNat)
 case atStart => exact ⟨0,_,_,_,Nat.zero_le _,rfl,rfl,fun _ _ h => absurd h (Nat.not_lt_zero _),M⟩
 case round =>
  clear M
  obtain ⟨i,m,d,B,hi,rfl,rfl,HQ,M⟩:=hrel
  by_cases hlt : (i : Int) < (ms : Int)
  rotate_left
  ·obtain rfl : ms = i:=by omega
   go_wp2
   go_ret
   rw [HSO.out,cnt_is HQ.out (by rw [HMS.out];exact Nat.le_refl _) (fun s hs => by have:=(List.getElem?_eq_some_iff.1 hs).1;have:=HMS.out;omega)]
   exact ⟨_,_,_,rfl,M.out.row_at 1 rfl,M.out.ext⟩
  have HI : Hid (i < ms):=by show _ < _;omega
  obtain ⟨gs,rfl⟩:=M.out.addr 0 rfl (by have:=HI.out;omega)
  obtain ⟨bo,oo,s,e9,hbo,hz,cz⟩:=(M.out.row_sl 0 rfl).int_at HI.out
  injection e9 with e9
  injection e9 with e8 e7
  subst e8 e7
  rw [Nat.zero_add] at cz
  have HZ:=Lib.hid hz
  clear hz
  by_cases hle : s ≤ N
  rotate_left
  ·have bl : decide (s ≤ N) = false:=decide_eq_false hle
   have HLE:=Lib.hid hle
   clear hle
   go_wp2
   go_ret
   rw [HSO.out,cnt_is HQ.out (by rw [HMS.out];exact Nat.le_of_lt HI.out) (fun s2 hs => by rw [HZ.out] at hs;injection hs with hs;subst hs;first|exact HLE.out|exact Int.not_le.2 HLE.out)]
   exact ⟨_,_,_,rfl,M.out.row_at 1 rfl,M.out.ext⟩
  have bl : decide (s ≤ N) = true:=decide_eq_true hle
  have HLE:=Lib.hid hle
  clear hle
  go_wp2
  clear bl cz hbo
  go_loopw [7,10] (fun u jj wr => ∃ (j m d : Nat) (B : Option Addr),j ≤ n ∧ u = .slice B m d ∧ jj = .int .i64 j ∧ Hid (Mine w wr [.row 3 1 (some ⟨gs,0,none⟩) ms d3 (ints SS),.row 3 1 B m d (ints (ovAll l s (stTo l SS cells i) j))])) (fun _ jj _ => n - (intOf jj).toNat)
  case atStart => exact ⟨0,m,d,B,Nat.zero_le _,rfl,rfl,M⟩
  case round =>
   clear M
   obtain ⟨j,m,d,B,hj,rfl,rfl,M⟩:=hrel
   by_cases hjn : (j : Int) < (n : Int)
   rotate_left
   ·have ej : j = l.length:=by rw [H.out];omega
    have M9:=M.out
    rw [ej,← stTo_next HZ.out] at M9
    go_wp2
    go_roundw
    case rel =>
     refine ⟨i + 1,m,d,B,HI.out,rfl,by go_num,Lib.hid fun q s2 hq hs => ?_,M9⟩
     by_cases e : q = i
     ·subst e;rw [HZ.out] at hs;injection hs with hs;subst hs;exact HLE.out
     ·exact HQ.out q s2 (by omega) hs
    case measure => have:=HI.out;simp [intOf];omega
   have HJ : Hid (j < n):=by show _ < _;omega
   obtain ⟨bb,o,rfl⟩:=HS.out.addr (by omega)
   obtain ⟨y,A1,n1,c1,hy,hb,q0,_,q2,_,hsl,hl1⟩:=hist_at (HS.out.ext Wrote.R_good M.out.ext) HJ.out
   obtain ⟨bo,oo,s2,e9,hbo,hz,cz⟩:=(M.out.row_sl 0 rfl).int_at HI.out
   injection e9 with e9
   injection e9 with e8 e7
   subst e8 e7
   rw [Nat.zero_add] at cz
   rw [HZ.out] at hz
   injection hz with hz
   subst hz
   have HN1 : Hid (n1 ≤ 1048576):=by show _ ≤ _;rw [← hl1];exact HP.out y (List.mem_of_getElem? hy)
   obtain ⟨y0,y1,y2⟩:=y
   simp only at q0
   have HY:=Lib.hid hy
   have HSL:=Lib.hid hsl
   simp only at HSL
   have hm8 : m ≤ 8:=by have h:=M.out.len1 1 rfl;rw [ints_length] at h;have:=ovAll_le (l:=l) (s:=s) (stTo_le (l:=l) (S:=SS) HC8.out i) j;omega
   clear hy hsl hl1
   by_cases hs0 : y0 = s
   ·have bs : (y0 == s) = true:=by simpa using hs0
    have HS1:=Lib.hid hs0
    clear hs0
    go_wp2
    go_quiet (fail)
    replace M:=Lib.hid (M.out.drN nq)
    go_wp2_with fail
    refine (spec_Overlay B m d _ A1 n1 c1 y2 _ _ (M.out.row_sl 1 rfl) (by omega) S (HSL.out.ext ((Ext.refl' _).drN nq)) HN1.out).mono ?_
    rintro e w5 ⟨B5,m5,d5,rfl,o5,x5⟩
    rw [← ovAll_yes (now:=stTo l SS cells i) HY.out HS1.out] at o5
    replace M:=Lib.hid (((M.out.own o5 x5).perm (List.Perm.swap _ _ _)).sub (sk_ (sk_ s0_)))
    clear o5 x5
    go_wp2
    go_roundw
    case rel => exact ⟨j + 1,m5,d5,B5,HJ.out,rfl,by go_num,M⟩
    case measure => have:=HJ.out;simp [intOf];omega
   have bs : (y0 == s) = false:=by simpa using hs0
   have HS1:=Lib.hid hs0
   clear hs0
   go_wp2
   go_quiet (fail)
   replace M:=Lib.hid (M.out.drN nq)
   go_wp2
   go_roundw
   case rel => exact ⟨j + 1,m,d,B,HJ.out,rfl,by go_num,Lib.hid (by rw [ovAll_no HY.out HS1.out];exact M.out)⟩
   case measure => have:=HJ.out;simp [intOf];omega
end Go.Proofs.YtpmfhfpjiebcjaaGreat
namespace Go.Proofs.YtpmfhfpjiebcjaaGreat
open Go.RowKit Go.Deep
set_option linter.unnecessarySimpa false
set_option linter.unusedSimpArgs false
set_option linter.unusedVariables false

theorem own_emptyRw (w : World) : (w.alloc (.cells #[] 97)).ownsRow w.heap.size 97 2 (.slice (some ⟨w.heap.size,0,none⟩) 0 0) 0 (([] : List Row).flatMap Row.cells) :=
 World.ownsRow_lit w #[] 0 (Nat.le_refl _) (Nat.zero_le _) (by simp)
theorem rows_push (l : List Row) (a b : Int) : l.flatMap Row.cells ++ [.int .i64 a,.int .i64 b] = (l ++ [(⟨a,b⟩ : Row)]).flatMap Row.cells:=by simp [Row.cells]
set_option maxHeartbeats 4000000 in
theorem l3Draw_m {b w : World} {g : Nat} {A : Option Addr} {n c : Nat} {bs : List UInt8} {fr : List Res} (C0 : CurM b w g A n c bs fr) (hn : n ≤ 1048576) : Calls Tryz.prog 99 #[.pointer (some ⟨g,0,none⟩)] w fun e w' => (∃ x : Int,e = .returned (.int .i64 x)) ∧ CurM b w' g A n c bs fr:=by
 have C:=Lib.hid C0
 clear C0
 go_enter Tryz.func99,Tryz.ntmps99
 go_wp2_with fail
 refine (once_m C.out hn 6 (by omega)).mono ?_
 rintro e w1 ⟨⟨b1,rfl⟩,C1⟩
 replace C:=Lib.hid C1
 clear C1
 cases b1
 ·go_wp2_with fail
  refine (below_m C.out hn 9 (by omega)).mono ?_
  rintro e w1 ⟨⟨x,rfl,hx⟩,C1⟩
  replace C:=Lib.hid C1
  clear C1
  go_wp2
  go_ret
  exact ⟨⟨x,rfl⟩,C.out⟩
 go_wp2_with fail
 refine (pick_m C.out hn [0,65535,65534,256] (by simp) (by simp) _ rfl 4 rfl).mono ?_
 rintro e w2 ⟨⟨z,rfl,hz⟩,C1⟩
 replace C:=Lib.hid C1
 clear C1 hz
 go_wp2
 go_ret
 exact ⟨⟨z,rfl⟩,C.out⟩
set_option maxHeartbeats 8000000 in
theorem l3DrawVals_m {b w : World} {g : Nat} {A : Option Addr} {n c : Nat} {bs : List UInt8} {fr : List Res} (C0 : CurM b w g A n c bs fr) (hn : n ≤ 1048576) : Calls Tryz.prog 49 #[.pointer (some ⟨g,0,none⟩)] w fun e w' => ∃ (B : Option Addr) (m d : Nat) (zs : List Int),e = .returned (.slice B m d) ∧ m ≤ 8 ∧ CurM b w' g A n c bs (.row 3 1 B m d (ints zs)::fr):=by
 have C:=Lib.hid (C0.row ((Ext.refl' _).al _) (own_emptySt w))
 clear C0
 go_enter Tryz.func49,Tryz.ntmps49
 go_wp2
 go_loopw [3,4] (fun u i wr => ∃ (m d : Nat) (B : Option Addr) (zs : List Int),m ≤ 8 ∧ u = .slice B m d ∧ i = .int .i64 m ∧ Hid (CurM b wr g A n c bs (.row 3 1 B m d (ints zs)::fr))) (fun _ i _ => 8 - (intOf i).toNat)
 case atStart => exact ⟨0,_,_,[],by omega,rfl,rfl,C⟩
 case round =>
  clear C
  obtain ⟨m,d,B,zs,hm,rfl,rfl,C⟩:=hrel
  by_cases hlt : (m : Int) < 8
  rotate_left
  ·go_wp2
   go_ret
   first|exact ⟨_,_,_,zs,rfl,hm,C.out⟩|exact ⟨_,_,_,rfl,hm,zs,C.out⟩
  have HLT : Hid (m < 8):=by show _ < _;omega
  go_wp2_with fail
  refine (l3Draw_m C.out hn).mono ?_
  rintro e w1 ⟨⟨x,rfl⟩,C1⟩
  replace C:=Lib.hid C1
  clear C1
  obtain ⟨i1,q1,i10,i11,M1⟩:=C.out.st
  have SLC:=Lib.hid C.out.sl
  have M:=Lib.hid M1
  clear M1 C
  go_wp2_with (first|(at_builtin;refine Mine.wp_push M.out rfl _ _ 22 rfl 3 _ _ _ Tryz.underlying22 Tryz.infoInt rfl (by omega) 1 rfl rfl _ _ rfl rfl rfl (by simp [Value.oneCell']) (by omega) (by unfold maxLen;omega) ?_;intro A2 c2 w' M';(try simp only [zr_,zm_] at M');replace M:=Lib.hid M';clear M'))
  go_roundw
  case rel => exact ⟨m + 1,_,_,_,HLT.out,rfl,by go_num,⟨⟨i1,q1,i10,i11,M.out⟩,SLC.out⟩⟩
  case measure => have:=HLT.out;simp [intOf];omega
set_option maxHeartbeats 4000000 in
theorem l4DrawCell_m {b w : World} {g : Nat} {A : Option Addr} {n c : Nat} {bs : List UInt8} {fr : List Res} (C0 : CurM b w g A n c bs fr) (hn : n ≤ 1048576) : Calls Tryz.prog 100 #[.pointer (some ⟨g,0,none⟩)] w fun e w' => (∃ x : Int,e = .returned (.int .i64 x)) ∧ CurM b w' g A n c bs fr:=by
 have C:=Lib.hid C0
 clear C0
 go_enter Tryz.func100,Tryz.ntmps100
 go_wp2_with fail
 refine (once_m C.out hn 8 (by omega)).mono ?_
 rintro e w1 ⟨⟨b1,rfl⟩,C1⟩
 replace C:=Lib.hid C1
 clear C1
 cases b1
 ·skip
  go_wp2_with fail
  refine (below_m C.out hn 3 (by omega)).mono ?_
  rintro e w1 ⟨⟨x,rfl,hx⟩,C1⟩
  replace C:=Lib.hid C1
  clear C1 hx
  go_wp2
  go_ret
  exact ⟨⟨x,rfl⟩,C.out⟩
 go_wp2_with fail
 refine (below_m C.out hn 8 (by omega)).mono ?_
 rintro e w1 ⟨⟨x,rfl,hx⟩,C1⟩
 replace C:=Lib.hid C1
 clear C1 hx
 go_wp2
 go_ret
 exact ⟨⟨x,rfl⟩,C.out⟩
set_option maxHeartbeats 8000000 in
theorem l8Rows_m {b w : World} {g : Nat} {A : Option Addr} {n c : Nat} {bs : List UInt8} {fr : List Res} (C0 : CurM b w g A n c bs fr) (hn : n ≤ 1048576) (most : Nat) (hmost : (most : Int) ≤ 100) : Calls Tryz.prog 101 #[.pointer (some ⟨g,0,none⟩),.int .i64 (most : Int)] w fun e w' => ∃ (B : Option Addr) (m d : Nat) (zs : List Row),e = .returned (.slice B m d) ∧ m ≤ 100 ∧ CurM b w' g A n c bs (.row 97 2 B m d (zs.flatMap Row.cells)::fr):=by
 have C:=Lib.hid (C0.row ((Ext.refl' _).al _) (own_emptyRw w))
 clear C0
 go_enter Tryz.func101,Tryz.ntmps101
 go_wp2_with fail
 refine (below_m C.out hn ((most : Int) + 1) (by omega)).mono ?_
 rintro e w1 ⟨⟨x0,rfl,hx0⟩,C1⟩
 replace C:=Lib.hid C1
 clear C1
 have hx0b : x0 ≤ 100:=by omega
 have hx0a : 0 ≤ x0:=hx0.1
 clear hx0
 go_wp2
 go_loopw [5,6] (fun u i wr => ∃ (m d : Nat) (B : Option Addr) (zs : List Row) (j : Int),u = .slice B m d ∧ i = .int .i64 j ∧ 0 ≤ j ∧ (m : Int) + j ≤ 100 ∧ Hid (CurM b wr g A n c bs (.row 97 2 B m d (zs.flatMap Row.cells)::fr))) (fun _ i _ => (intOf i).toNat)
 case atStart => exact ⟨0,_,_,[],x0,rfl,rfl,hx0a,by omega,C⟩
 case round =>
  clear C
  obtain ⟨m,d,B,zs,j,rfl,rfl,hj0,hjm,C⟩:=hrel
  by_cases hj : (0 : Int) < j
  rotate_left
  ·go_wp2
   go_ret
   first|exact ⟨_,_,_,zs,rfl,by omega,C.out⟩|exact ⟨_,_,_,rfl,by omega,zs,C.out⟩
  have HJ : Hid (0 < j):=hj
  have HJM : Hid ((m : Int) + j ≤ 100):=hjm
  have hm1 : m ≤ 100:=by omega
  have hj1 : j ≤ 100:=by omega
  clear hjm hj0
  go_wp2_with fail
  refine (l4DrawCell_m C.out hn).mono ?_
  rintro e w1 ⟨⟨x,rfl⟩,C1⟩
  replace C:=Lib.hid C1
  clear C1
  go_wp2_with fail
  refine (l3Draw_m C.out hn).mono ?_
  rintro e w1 ⟨⟨y,rfl⟩,C1⟩
  replace C:=Lib.hid C1
  clear C1
  obtain ⟨i1,q1,i10,i11,M1⟩:=C.out.st
  have SLC:=Lib.hid C.out.sl
  have M:=Lib.hid M1
  clear M1 C
  go_wp2_with (first|(at_builtin;refine Mine.wp_push M.out rfl _ _ 51 rfl 97 _ _ _ Tryz.underlying51 Tryz.infoRow rfl (by omega) 1 rfl rfl _ _ rfl rfl rfl (by simp [Value.oneCell']) (by omega) (by unfold maxLen;omega) ?_;intro A2 c2 w' M';(try simp only [zr_,zm_] at M');replace M:=Lib.hid M';clear M'))
  rw [rows_push] at M
  go_roundw
  case rel => exact ⟨_,_,_,_,_,rfl,by go_num,by have:=HJ.out;omega,by have:=HJM.out;omega,⟨⟨i1,q1,i10,i11,M.out⟩,SLC.out⟩⟩
  case measure => have:=HJ.out;simp [intOf];omega
end Go.Proofs.YtpmfhfpjiebcjaaGreat
