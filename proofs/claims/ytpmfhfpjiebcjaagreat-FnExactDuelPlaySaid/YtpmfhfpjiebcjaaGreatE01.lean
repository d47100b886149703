/- Contracts of the laws' helpers on slices of integers: copy, equality, marking. No condition but lengths. szIntS. No condition but bounds. Contracts of l1In and within. No condition. l3Cell, isCell, l3Val, isValue. No condition. append(s, xs...): a slice that came in (nil, empty or not) poured onto a row of the call's own; copies. No condition. (The law on append follows howto/extra-words.md, section 3.) copyInts. No condition but the length. Eight values: l3Vals, areValues. No condition but lengths. No condition but lengths. -/
import Derived.Test.YtpmfhfpjiebcjaaGreatE00
namespace Go.Proofs.YtpmfhfpjiebcjaaGreat
open Go.RowKit

theorem Tryz.infoInt : (Tryz.prog.info? 3).map (fun i => (i.zero,i.size,i.bytes)) = some (some (.int .i64 0),1,8):=by kernel_rfl

set_option maxHeartbeats 400000 in
theorem toIntS_any (A : Option Addr) (n c : Nat) (zs : List Int) (w : World) (S : Nat → Prop) (hs : Sl w S 1 A n (ints zs)) (hm : n ≤ 1048576) :
  Calls Tryz.prog 7 #[.slice A n c] w fun e w' => ∃ B d,e = .returned (.slice B n d) ∧ w'.ownsRow w.heap.size 3 1 (.slice B n d) n (ints zs) ∧ Ext w w':=by
 have hl:=Lib.hid hs.len
 obtain ⟨w1,cs0,hmk,hown,-,hx1,hlt⟩:=made_row (P:=Tryz.prog) w 22 3 _ _ _ Tryz.underlying22 Tryz.infoInt n (by omega) (by unfold maxLen;omega)
 have HO:=Lib.hid hown
 have HX:=Lib.hid hx1
 clear hown hx1
 go_enter Tryz.func7,Tryz.ntmps7
 go_wp2
 go_loopw [4] (fun i wr => ∃ (k : Nat) (cs : List Value),k ≤ n ∧ i = .int .i64 k ∧ wr.ownsRow w.heap.size 3 1 (.slice (some ⟨w.heap.size,0,none⟩) n n) n cs ∧ Upto cs (ints zs) k ∧ Ext w wr) (fun i _ => n - (intOf i).toNat)
 case atStart => exact ⟨0,_,Nat.zero_le _,rfl,HO.out,Upto.zero _ _,HX.out⟩
 case round =>
  obtain ⟨k,cs,hk,rfl,ho,hu,hx⟩:=hrel
  by_cases hlt : k < n
  ·obtain ⟨b,o,x,rfl,hb,hxk,hc⟩:=(hs.ext hx).int_at hlt
   have hcl:=own_len ho
   obtain ⟨g,v0,hA,-,hco,hf0⟩:=own_at ho hlt
   obtain rfl : w.heap.size = g:=addr_inj hA
   have HX2:=Lib.hid hxk
   have HO2:=Lib.hid ho
   have HE2:=Lib.hid hx
   have HCL:=Lib.hid hcl
   clear hxk ho hx hcl
   go_wp2
   go_roundw
   case rel => 
    have hst:=HO2.out.stored k (.int .i64 x)
    exact ⟨k + 1,_,by omega,by go_num,hst.1,hu.set1 (by rw [HCL.out];exact hlt) (by rw [ints_get,HX2.out];rfl),HE2.out.sc (p:=⟨w.heap.size,k,none⟩) (Nat.le_refl _) _⟩
   case measure => simp [intOf];omega
  ·go_wp2
   go_ret
   refine ⟨_,_,rfl,?_,hx⟩
   have : k = n:=by omega
   subst this
   rw [← hu.all (by have:=ho.1;omega) (by rw [ints_length];exact hl.out)]
   exact ho

set_option maxHeartbeats 400000 in
theorem eqIntS_same (A B : Option Addr) (n c d : Nat) (zs : List Int) (w : World) (S T : Nat → Prop) (ha : Sl w S 1 A n (ints zs)) (hb : Sl w T 1 B n (ints zs)) (hm : n ≤ 9223372036854775807) :
  Calls Tryz.prog 11 #[.slice A n c,.slice B n d] w fun e w' => e = .returned (.bool true) ∧ Ext w w':=by
 go_enter Tryz.func11,Tryz.ntmps11
 go_wp2
 go_loopw [5] (fun i wr => ∃ (k : Nat),k ≤ n ∧ i = .int .i64 k ∧ Ext w wr) (fun i _ => n - (intOf i).toNat)
 case atStart => exact ⟨0,Nat.zero_le _,rfl,Ext.refl' _⟩
 case round =>
  obtain ⟨k,hk,rfl,hx⟩:=hrel
  by_cases hlt : k < n
  ·obtain ⟨b1,o1,x,rfl,hb1,hxk,hc1⟩:=(ha.ext hx).int_at hlt
   obtain ⟨b2,o2,y,rfl,hb2,hyk,hc2⟩:=(hb.ext hx).int_at hlt
   rw [hxk] at hyk
   injection hyk with hyk
   subst hyk
   have HE2:=Lib.hid hx
   clear hxk hx
   go_wp2
   go_quiet (fail)
   go_wp2
   go_roundw
   case rel => exact ⟨k + 1,by omega,by go_num,HE2.out.drN _⟩
   case measure => simp [intOf];omega
  ·go_wp2
   go_ret
   exact ⟨rfl,hx⟩

/-- What markIntS leaves: k,k+1,.. -/
def marks (k : Int) (n : Nat) : List Int:=(List.range n).map fun i : Nat => k + (i : Int)
theorem marks_length (k : Int) (n : Nat) : (marks k n).length = n:=by simp [marks]
theorem marks_get (k : Int) (n i : Nat) (h : i < n) : (marks k n)[i]? = some (k + (i : Int)):=by simp [marks,h]

set_option maxHeartbeats 400000 in
theorem markIntS_any (A : Option Addr) (n c : Nat) (base : Nat) (cs0 : List Value) (q : Int) (w : World) (ho0 : w.ownsRow base 3 1 (.slice A n c) n cs0) (hq : 0 ≤ q) (hqn : q + n ≤ 9007199254740992) :
  Calls Tryz.prog 13 #[.slice A n c,.int .i64 q] w fun e w' => e = .returned (.int .i64 (q + n)) ∧ w'.ownsRow base 3 1 (.slice A n c) n (ints (marks q n)) ∧ Chg (fun k => (Value.slice A n c).ownBlock = some k) w w':=by
 have HO:=Lib.hid ho0
 clear ho0
 go_enter Tryz.func13,Tryz.ntmps13
 go_wp2
 go_loopw [1,5] (fun r i wr => ∃ (k : Nat) (cs : List Value),k ≤ n ∧ i = .int .i64 k ∧ r = .int .i64 (q + k) ∧ wr.ownsRow base 3 1 (.slice A n c) n cs ∧ Upto cs (ints (marks q n)) k ∧ Chg (fun k => (Value.slice A n c).ownBlock = some k) w wr) (fun _ i _ => n - (intOf i).toNat)
 case atStart => exact ⟨0,_,Nat.zero_le _,rfl,by simp,HO.out,Upto.zero _ _,Chg.refl _ _⟩
 case round =>
  obtain ⟨k,cs,hk,rfl,rfl,ho,hu,hx⟩:=hrel
  by_cases hlt : k < n
  ·have hcl:=own_len ho
   obtain ⟨g,v0,rfl,-,hco,hf0⟩:=own_at ho hlt
   have HO2:=Lib.hid ho
   have HE2:=Lib.hid hx
   have HCL:=Lib.hid hcl
   clear ho hx hcl
   go_wp2
   go_roundw
   case rel => 
    have hst:=HO2.out.stored k (.int .i64 (q + k))
    exact ⟨k + 1,_,by omega,by go_num,by go_num,hst.1,hu.set1 (by rw [HCL.out];exact hlt) (by rw [ints_get,marks_get _ _ _ hlt];rfl),HE2.out.grown hst.2 (fun j hj => .inl hj)⟩
   case measure => simp [intOf];omega
  ·go_wp2
   go_ret
   have : k = n:=by omega
   subst this
   refine ⟨rfl,?_,hx⟩
   rw [← hu.all (by have:=ho.1;omega) (by rw [ints_length,marks_length])]
   exact ho

set_option maxHeartbeats 400000 in
theorem heldIntS_any (A : Option Addr) (n c : Nat) (q : Int) (w : World) (S : Nat → Prop) (hs : Sl w S 1 A n (ints (marks q n))) (hq : 0 ≤ q) (hqn : q + n ≤ 9007199254740992) :
  Calls Tryz.prog 98 #[.slice A n c,.int .i64 q] w fun e w' => e = .returned (.int .i64 (q + n)) ∧ w = w':=by
 go_enter Tryz.func98,Tryz.ntmps98
 go_wp2
 go_loop [1,5] (fun r i => ∃ (k : Nat),k ≤ n ∧ i = .int .i64 k ∧ r = .int .i64 (q + k)) (fun _ i => n - (intOf i).toNat)
 case atStart => exact ⟨0,Nat.zero_le _,rfl,by simp⟩
 case round =>
  obtain ⟨k,hk,rfl,rfl⟩:=hrel
  by_cases hlt : k < n
  ·obtain ⟨b,o,x,rfl,hb,hxk,hc⟩:=hs.int_at hlt
   rw [marks_get _ _ _ hlt] at hxk
   injection hxk with hxk
   subst hxk
   go_wp2
   go_round
   case rel => exact ⟨k + 1,by omega,by go_num,by go_num⟩
   case measure => simp [intOf];omega
  ·go_wp2
   go_ret
   have : k = n:=by omega
   subst this
   exact ⟨rfl,rfl⟩
end Go.Proofs.YtpmfhfpjiebcjaaGreat
namespace Go.Proofs.YtpmfhfpjiebcjaaGreat
open Go.RowKit

theorem szIntS_any (A : Option Addr) (n c : Nat) (q : Int) (w : World) (hq : 0 ≤ q) (hq2 : q ≤ 1048576) (hn : n ≤ 9223372036854775807) :
  Calls Tryz.prog 75 #[.slice A n c,.int .i64 q] w fun e w' => e = .returned (.int .i64 (if (n : Int) ≤ q then q - n else -1)) ∧ w = w':=by
 by_cases h : (n : Int) ≤ q
 ·go_enter Tryz.func75,Tryz.ntmps75
  go_wp2
  go_ret
  exact ⟨by first|rfl|(simp;done)|simp [h],rfl⟩
 ·go_enter Tryz.func75,Tryz.ntmps75
  go_wp2
  go_ret
  exact ⟨by first|rfl|(simp;done)|simp [h],rfl⟩
end Go.Proofs.YtpmfhfpjiebcjaaGreat
namespace Go.Proofs.YtpmfhfpjiebcjaaGreat
open Go.RowKit

theorem l1In_any (x lo hi : Int) (w : World) :
  Calls Tryz.prog 30 #[.int .i64 x,.int .i64 lo,.int .i64 hi] w fun e w' => e = .returned (.bool (decide (lo ≤ x ∧ x ≤ hi))) ∧ w = w':=by
 by_cases h1 : lo ≤ x
 all_goals by_cases h2 : x ≤ hi
 all_goals go_enter Tryz.func30,Tryz.ntmps30
 all_goals go_wp2
 all_goals go_ret
 all_goals simp [h1,h2]

theorem within_any (x lo hi : Int) (w : World) :
  Calls Tryz.prog 35 #[.int .i64 x,.int .i64 lo,.int .i64 hi] w fun e w' => e = .returned (.bool (decide (lo ≤ x ∧ x ≤ hi))) ∧ w = w':=by
 by_cases h1 : lo ≤ x
 all_goals by_cases h2 : x ≤ hi
 all_goals go_enter Tryz.func35,Tryz.ntmps35
 all_goals go_wp2
 all_goals go_ret
 all_goals simp [h1,h2]

end Go.Proofs.YtpmfhfpjiebcjaaGreat
namespace Go.Proofs.YtpmfhfpjiebcjaaGreat
open Go.RowKit Go.Deep

theorem l3Cell_any (x : Int) (w : World) :
  Calls Tryz.prog 57 #[.int .i64 x] w fun e w' => e = .returned (.bool (decide (0 ≤ x ∧ x ≤ 7))) ∧ w = w':=by
 go_enter Tryz.func57,Tryz.ntmps57
 go_wp2_with (go_at_call 30;refine (l1In_any _ _ _ _).mono ?_;rintro e w' ⟨rfl,rfl⟩)
 go_ret
 simp
theorem isCell_any (x : Int) (w : World) :
  Calls Tryz.prog 84 #[.int .i64 x] w fun e w' => e = .returned (.bool (decide (0 ≤ x ∧ x ≤ 7))) ∧ w = w':=by
 go_enter Tryz.func84,Tryz.ntmps84
 go_wp2_with (go_at_call 35;refine (within_any _ _ _ _).mono ?_;rintro e w' ⟨rfl,rfl⟩)
 go_ret
 simp
theorem l3Val_any (x : Int) (w : World) :
  Calls Tryz.prog 103 #[.int .i64 x] w fun e w' => e = .returned (.bool (decide (0 ≤ x ∧ x ≤ 65535))) ∧ w = w':=by
 go_enter Tryz.func103,Tryz.ntmps103
 go_wp2_with (go_at_call 30;refine (l1In_any _ _ _ _).mono ?_;rintro e w' ⟨rfl,rfl⟩)
 go_ret
 simp
theorem isValue_any (x : Int) (w : World) :
  Calls Tryz.prog 104 #[.int .i64 x] w fun e w' => e = .returned (.bool (decide (0 ≤ x ∧ x ≤ 65535))) ∧ w = w':=by
 go_enter Tryz.func104,Tryz.ntmps104
 go_wp2_with (go_at_call 35;refine (within_any _ _ _ _).mono ?_;rintro e w' ⟨rfl,rfl⟩)
 go_ret
 simp
end Go.Proofs.YtpmfhfpjiebcjaaGreat
namespace Go.Proofs.YtpmfhfpjiebcjaaGreat
open Go.RowKit

section
variable {P : Program} (w : World)
theorem run_pour_nil (base : Nat) (t ty e : TypeId) (i : TypeInfo) (size : Nat) (ht : P.underlying t = some (.slice e)) (hi : P.info? e = some i)
  (v : Value) (n : Nat) (xs : List Value) (hown : w.ownsRow base e size v n xs) (c : Nat) : (Builtin.append_ #[t,t] ty #[v,.slice none 0 c]).run P w = .ok v w:=by
 rcases hown.2 with ⟨rfl,rfl⟩|⟨g,cap,cur,rfl,_,_,hnc,_⟩
 ·simp [Builtin.append_,run_underlying ht,sizeOf,typeInfo,hi,Builtin.lenOf,Builtin.firstCells]
 ·simp [Builtin.append_,run_underlying ht,sizeOf,typeInfo,hi,Builtin.lenOf,Builtin.firstCells,hnc,storeCells]

theorem run_pour (base : Nat) (t ty e : TypeId) (i : TypeInfo) (z : Value) (size bytes : Nat) (ht : P.underlying t = some (.slice e)) (hi : P.info? e = some i) (hz : i.zero = some z)
  (hsize : i.size = size) (hby : i.bytes = bytes) (hzs : z.cells.size = size) (hsz : 0 < size)
  (v : Value) (n : Nat) (xs : List Value) (hown : w.ownsRow base e size v n xs)
  (S : Nat → Prop) (A : Option Addr) (m c : Nat) (news : List Value) (hr : Sl w S size A m news) (h1 : ∀ u ∈ news,u.oneCell' = true)
  (h63 : n + m ≤ maxLen) (hbytes : (n + m) * bytes ≤ 140737488355328) (hbase : base ≤ w.heap.size) :
  ∃ v' w',(Builtin.append_ #[t,t] ty #[v,.slice A m c]).run P w = .ok v' w' ∧ w'.ownsRow base e size v' (n + m) (xs ++ news) ∧ w.grownBy w' v.ownBlock ∧
   (v'.ownBlock = v.ownBlock ∨ v'.ownBlock = some w.heap.size):=by
 rcases A with _|ad
 ·have hm : m = 0:=by
   rcases Nat.eq_zero_or_pos m with h0|h0
   ·exact h0
   ·obtain ⟨b,o,h,_⟩:=hr.2 h0
    cases h
  subst hm
  have hn : news = []:=List.eq_nil_of_length_eq_zero (by simpa using hr.1)
  subst hn
  exact ⟨v,w,run_pour_nil w base t ty e i size ht hi v n xs hown c,by simpa using hown,World.grownBy.refl w _,.inl rfl⟩
 ·have hcells : ∀ j u,news[j]? = some u → w.cell? (ad.add j) = some u:=by
   intro j u hu
   rcases Nat.eq_zero_or_pos m with h0|h0
   ·subst h0
    have hn : news = []:=List.eq_nil_of_length_eq_zero (by simpa using hr.1)
    subst hn
    simp at hu
   ·obtain ⟨b,o,h,_,_,hc⟩:=hr.2 h0
    injection h with h
    subst h
    have hj : j < m * size:=by rw [← hr.1];exact (List.getElem?_eq_some_iff.1 hu).1
    have hadd : (⟨b,o,none⟩ : Addr).add j = ⟨b,o + j,none⟩:=by unfold Addr.add;split <;> simp_all
    rw [hadd,hc j hj,hu]
  obtain ⟨v',w',hrun,h2,h3,_,h5⟩:=run_append_own_at (P:=P) w base t ty e i z size bytes ht hi hz hsize hby hzs hsz v n xs hown ad m c news hr.1 hcells h1 h63 hbytes hbase
  exact ⟨v',w',hrun,h2,h3,h5⟩
end

theorem wp_pour {P : Program} {w : World} {ops : Array Oper} {rest : List Oper} {o : Oper} {a : Act} {Q : Exit → Act → World → Prop} (hgd : o.guard = none) (s x : Operand) (t : TypeId)
  (ho : o.op = .call { callee:=.builtin .append,args:=#[s,x],argTypes:=#[t,t] })
  (base : Nat) (e : TypeId) (z : Value) (size bytes : Nat) (ht : P.underlying t = some (.slice e)) (hi : (P.info? e).map (fun i => (i.zero,i.size,i.bytes)) = some (some z,size,bytes)) (hzs : z.cells.size = size) (hsz : 0 < size)
  (v : Value) (n : Nat) (xs : List Value) (hs : a.eval s = v) (hown : w.ownsRow base e size v n xs)
  (S : Nat → Prop) (A : Option Addr) (m c : Nat) (news : List Value) (hx : a.eval x = .slice A m c) (hr : Sl w S size A m news) (h1 : ∀ u ∈ news,u.oneCell' = true)
  (hbytes : (n + m) * bytes ≤ 140737488355328) (h63 : n + m ≤ maxLen) (hbase : base ≤ w.heap.size)
  (h : ∀ A' c' w',w'.ownsRow base e size (.slice A' (n + m) c') (n + m) (xs ++ news) → Chg (fun k => v.ownBlock = some k) w w' → ((Value.slice A' (n + m) c').ownBlock = v.ownBlock ∨ (Value.slice A' (n + m) c').ownBlock = some w.heap.size) →
   wpList P ops Q rest (a.put o.dst (.slice A' (n + m) c')) w') :
  wpList P ops Q (o::rest) a w:=by
 obtain ⟨i0,hi,hz0,hz1,hz2⟩:=info_parts hi
 obtain ⟨v',w',hrun,h2,h3,h5⟩:=run_pour (P:=P) w base t o.type e i0 z size bytes ht hi hz0 hz1 hz2 hzs hsz v n xs hown S A m c news hr h1 h63 hbytes hbase
 obtain ⟨A',c',rfl⟩ : ∃ A' c',v' = .slice A' (n + m) c':=by
  rcases h2.2 with ⟨hv,h0⟩|⟨g,cap,cur,hv,_⟩
  ·exact ⟨none,0,by rw [hv,h0]⟩
  ·exact ⟨_,_,hv⟩
 refine wpList_plain hgd fun _ hK => ?_
 unfold Oper.wp execOp
 simp only [ho,resolve,invoke,builtin,Sem.run_bind,Sem.run_pure,Result.andThen_ok,List.map_toArray,List.map_cons,List.map_nil,hs,hx,hrun]
 exact hK _ _ (h A' c' w' h2 ((Chg.refl _ w).grown h3 (fun k hk => .inl hk)) h5)
theorem ints_one (l : List Int) : ∀ u ∈ ints l,u.oneCell' = true:=by
 intro u hu
 obtain ⟨x,_,rfl⟩:=List.mem_map.1 hu
 rfl
/-- What is poured onto nothing is the call's own,and nothing that was there is changed. -/
theorem Chg.none {w w' : World} (h : Chg (fun k => (Value.slice none 0 0).ownBlock = some k) w w') : Ext w w' :=
 h.ext (Ext.refl' w) (fun k hk => by simp [Value.ownBlock] at hk)
end Go.Proofs.YtpmfhfpjiebcjaaGreat
namespace Go.Proofs.YtpmfhfpjiebcjaaGreat
open Go.RowKit
theorem own_emptyC (w : World) : (w.alloc (.cells #[] 3)).ownsRow w.heap.size 3 1 (.slice (some ⟨w.heap.size,0,none⟩) 0 0) 0 (ints []) :=
 World.ownsRow_lit w #[] 0 (Nat.le_refl _) (Nat.zero_le _) (by simp)
theorem copyInts_any (A : Option Addr) (n c : Nat) (l : List Int) (w : World) (S : Nat → Prop) (hs : Sl w S 1 A n (ints l)) (hm : n ≤ 1048576) :
  Calls Tryz.prog 72 #[.slice A n c] w fun e w' => ∃ B d,e = .returned (.slice B n d) ∧ w'.ownsRow w.heap.size 3 1 (.slice B n d) n (ints l) ∧ Ext w w':=by
 go_enter Tryz.func72,Tryz.ntmps72
 go_wp2_with (at_builtin;refine wp_pour rfl _ _ _ rfl w.heap.size 3 _ _ _ Tryz.underlying22 Tryz.infoInt rfl (by omega) (.slice none 0 0) 0 [] rfl (World.ownsRow_nil _ _ _ _) S A n c (ints l) rfl hs (ints_one l) (by omega) (by unfold maxLen;omega) (Nat.le_refl _) ?_;intro A' c' w' hown hchg hat)
 go_ret
 exact ⟨A',c',by simp,by simpa using hown,hchg.none⟩
end Go.Proofs.YtpmfhfpjiebcjaaGreat
namespace Go.Proofs.YtpmfhfpjiebcjaaGreat
open Go.RowKit Go.Deep

def isVal (_ : Nat) (x : Int) : Prop:=0 ≤ x ∧ x ≤ 65535
noncomputable def valsOk (l : List Int) : Bool:=dec (l.length = 8 ∧ AllTo isVal l l.length)
theorem valsOk_len {l : List Int} (h : valsOk l = true) : l.length = 8:=(dec_true h).1

set_option maxHeartbeats 1000000 in
theorem l3Vals_any (A : Option Addr) (n c : Nat) (l : List Int) (w : World) (S : Nat → Prop) (hs : Sl w S 1 A n (ints l)) (hm : n ≤ 1048576) :
  Calls Tryz.prog 55 #[.slice A n c] w fun e w' => e = .returned (.bool (valsOk l)) ∧ w = w':=by
 have H:=Lib.hid hs.len
 by_cases h8 : n = 8
 rotate_left
 ·have b8 : ((n : Int) != 8) = true:=by simp;omega
  have H8:=Lib.hid h8
  clear h8
  go_enter Tryz.func55,Tryz.ntmps55
  go_wp2
  go_ret
  exact ⟨by rw [valsOk,dec_no fun h => H8.out (by rw [← H.out];exact h.1)];rfl,rfl⟩
 have b8 : ((n : Int) != 8) = false:=by simp;omega
 have H8:=Lib.hid h8
 clear h8
 go_enter Tryz.func55,Tryz.ntmps55
 go_wp2
 go_loop [3] (fun i => ∃ k : Nat,k ≤ n ∧ i = .int .i64 k ∧ AllTo isVal l k) (fun i => n - (intOf i).toNat)
 case atStart => exact ⟨0,Nat.zero_le _,rfl,AllTo.zero _ _⟩
 case round =>
  obtain ⟨k,hk,rfl,hup⟩:=hrel
  have HU:=Lib.hid hup
  clear hup
  by_cases hlt : k < n
  ·obtain ⟨b,o,x,rfl,hb,hx,hc⟩:=hs.int_at hlt
   have HX:=Lib.hid hx
   clear hx
   by_cases h0 : 0 ≤ x ∧ x ≤ 65535
   ·have d0 : decide (0 ≤ x ∧ x ≤ 65535) = true:=by simpa using h0
    go_wp2_with (go_at_call 103;refine (l3Val_any _ _).mono ?_;rintro e w' ⟨rfl,rfl⟩)
    go_round
    case rel => exact ⟨k + 1,by omega,by go_num,HU.out.succ HX.out h0⟩
    case measure => simp [intOf];omega
   ·have d0 : decide (0 ≤ x ∧ x ≤ 65535) = false:=by simpa using h0
    go_wp2_with (go_at_call 103;refine (l3Val_any _ _).mono ?_;rintro e w' ⟨rfl,rfl⟩)
    go_ret
    exact ⟨by rw [valsOk,dec_no fun h => AllTo.not HX.out (by rw [H.out];exact hlt) h0 h.2];rfl,rfl⟩
  ·go_wp2
   go_ret
   have e : k = l.length:=by rw [H.out];omega
   exact ⟨by rw [valsOk,dec_yes ⟨by rw [H.out];exact H8.out,by rw [← e];exact HU.out⟩];rfl,rfl⟩

set_option maxHeartbeats 1000000 in
theorem areValues_any (A : Option Addr) (n c : Nat) (l : List Int) (w : World) (S : Nat → Prop) (hs : Sl w S 1 A n (ints l)) (hm : n ≤ 1048576) :
  Calls Tryz.prog 64 #[.slice A n c,.int .i64 8] w fun e w' => e = .returned (.bool (valsOk l)) ∧ w = w':=by
 have H:=Lib.hid hs.len
 go_enter Tryz.func64,Tryz.ntmps64
 go_wp2
 go_loop [9] (fun i => ∃ k : Nat,k ≤ n ∧ i = .int .i64 k ∧ AllTo isVal l k) (fun i => n - (intOf i).toNat)
 case atStart => exact ⟨0,Nat.zero_le _,rfl,AllTo.zero _ _⟩
 case round =>
  obtain ⟨k,hk,rfl,hup⟩:=hrel
  have HU:=Lib.hid hup
  clear hup
  by_cases hlt : k < n
  ·obtain ⟨b,o,x,rfl,hb,hx,hc⟩:=hs.int_at hlt
   have HX:=Lib.hid hx
   clear hx
   by_cases h0 : 0 ≤ x ∧ x ≤ 65535
   ·have d0 : decide (0 ≤ x ∧ x ≤ 65535) = true:=by simpa using h0
    go_wp2_with (go_at_call 104;refine (isValue_any _ _).mono ?_;rintro e w' ⟨rfl,rfl⟩)
    go_round
    case rel => exact ⟨k + 1,by omega,by go_num,HU.out.succ HX.out h0⟩
    case measure => simp [intOf];omega
   ·have d0 : decide (0 ≤ x ∧ x ≤ 65535) = false:=by simpa using h0
    go_wp2_with (go_at_call 104;refine (isValue_any _ _).mono ?_;rintro e w' ⟨rfl,rfl⟩)
    go_ret
    exact ⟨by rw [valsOk,dec_no fun h => AllTo.not HX.out (by rw [H.out];exact hlt) h0 h.2];rfl,rfl⟩
  ·have e : k = l.length:=by rw [H.out];omega
   by_cases h8 : n = 8
   ·have b8 : ((n : Int) == 8) = true:=by simp;omega
    have HY:=Lib.hid (dec_yes (p:=l.length = 8 ∧ AllTo isVal l l.length) ⟨by rw [H.out];exact h8,by rw [← e];exact HU.out⟩)
    clear h8 e
    go_wp2
    go_ret
    exact ⟨by rw [valsOk,HY.out];rfl,rfl⟩
   ·have b8 : ((n : Int) == 8) = false:=by simp;omega
    have HY:=Lib.hid (dec_no (p:=l.length = 8 ∧ AllTo isVal l l.length) fun h => h8 (by rw [← H.out];exact h.1))
    clear h8 e
    go_wp2
    go_ret
    exact ⟨by rw [valsOk,HY.out];rfl,rfl⟩
end Go.Proofs.YtpmfhfpjiebcjaaGreat
namespace Go.Proofs.YtpmfhfpjiebcjaaGreat
open Go.ChangeShapes Go.WideShapes Go.ChangeAt Go.RowKit Go.Deep

/-- How many marks a list takes. -/
def ctl {α : Type} (f : α → Nat) : List α → Nat
 | [] => 0
 | a::l => f a + ctl f l
/-- A list,marked from q on. -/
def mkl {α : Type} (g : Int → α → α) (f : α → Nat) (q : Int) : List α → List α
 | [] => []
 | x::l => g q x::mkl g f (q + f x) l
section
variable {α : Type} {g : Int → α → α} {f : α → Nat}
theorem mkl_len (q : Int) (l : List α) : (mkl g f q l).length = l.length:=by
 induction l generalizing q with
 | nil => rfl
 | cons x l ih => simp [mkl,ih]
theorem mkl_get {l : List α} {k : Nat} {x : α} (h : l[k]? = some x) : ∀ q : Int,(mkl g f q l)[k]? = some (g (q + ctl f (l.take k)) x):=by
 induction l generalizing k with
 | nil => simp at h
 | cons y l ih =>
  intro q
  rcases k with _|k
  ·simp at h;subst h;simp [mkl,ctl]
  ·simp only [List.getElem?_cons_succ] at h
   simp only [mkl,List.getElem?_cons_succ,List.take_succ_cons,ctl]
   rw [ih h]
   congr 2
   omega
theorem ctl_take {l : List α} {k : Nat} {x : α} (h : l[k]? = some x) : ctl f (l.take (k + 1)) = ctl f (l.take k) + f x:=by
 induction l generalizing k with
 | nil => simp at h
 | cons y l ih =>
  rcases k with _|k
  ·simp at h;subst h;simp [ctl]
  ·simp only [List.getElem?_cons_succ] at h
   simp only [List.take_succ_cons,ctl,ih h]
   omega
theorem ctl_le (l : List α) (k : Nat) : ctl f (l.take k) ≤ ctl f l:=by
 induction l generalizing k with
 | nil => simp [ctl]
 | cons b l ih =>
  rcases k with _|k
  ·simp [ctl]
  ·simp only [List.take_succ_cons,ctl];have:=ih k;omega
theorem ctl_bound {l : List α} {wt : α → Nat} {b : Nat} (h : ∀ x,f x ≤ b * (wt x + 1)) : ctl f l ≤ b * wtl wt l:=by
 induction l with
 | nil => simp [ctl,wtl]
 | cons x l ih =>
  simp only [ctl,wtl]
  have:=h x
  rw [Nat.mul_add]
  omega
/-- The first k marked. -/
def mixl (g : Int → α → α) (f : α → Nat) (q : Int) (l : List α) (k : Nat) : List α:=(mkl g f q l).take k ++ l.drop k
theorem mixl_zero (q : Int) (l : List α) : mixl g f q l 0 = l:=by simp [mixl]
theorem mixl_all {q : Int} {l : List α} {n : Nat} (h : l.length = n) : mixl g f q l n = mkl g f q l:=by
 subst h
 have h1:=mkl_len (g:=g) (f:=f) q l
 simp only [mixl,List.drop_length,List.append_nil]
 rw [List.take_of_length_le (by omega)]
theorem mixl_len (q : Int) (l : List α) (k : Nat) : (mixl g f q l k).length = l.length:=by
 simp only [mixl,List.length_append,List.length_take,List.length_drop,mkl_len]
 omega
theorem mixl_at {q : Int} {l : List α} {k : Nat} {x : α} (h : l[k]? = some x) : (mixl g f q l k)[k]? = some x:=by
 have hk:=(List.getElem?_eq_some_iff.1 h).1
 have h1:=mkl_len (g:=g) (f:=f) q l
 rw [mixl,List.getElem?_append_right (by rw [List.length_take];omega),List.length_take,Nat.min_eq_left (by omega),Nat.sub_self,List.getElem?_drop,Nat.add_zero,h]
theorem mixl_next {q : Int} {l : List α} {k : Nat} {x : α} (h : l[k]? = some x) : mixl g f q l (k + 1) = (mixl g f q l k).set k (g (q + ctl f (l.take k)) x):=by
 have hk:=(List.getElem?_eq_some_iff.1 h).1
 have h1:=mkl_len (g:=g) (f:=f) q l
 have h2:=mkl_get (g:=g) (f:=f) h q
 apply List.ext_getElem?
 intro i
 rw [List.getElem?_set]
 by_cases e : k = i
 ·subst e
  rw [if_pos rfl,if_pos (by rw [mixl_len];exact hk),mixl,List.getElem?_append_left (by rw [List.length_take];omega),List.getElem?_take,if_pos (by omega),h2]
 ·rw [if_neg e]
  simp only [mixl]
  by_cases hi : i < k
  ·rw [List.getElem?_append_left (by rw [List.length_take];omega),List.getElem?_append_left (by rw [List.length_take];omega),List.getElem?_take,List.getElem?_take,if_pos (by omega),if_pos hi]
  ·rw [List.getElem?_append_right (by rw [List.length_take];omega),List.getElem?_append_right (by rw [List.length_take];omega),List.getElem?_drop,List.getElem?_drop,List.length_take,List.length_take]
   congr 1
   omega
end
section
variable {α : Type} {W : Rd α} {size n c : Nat} {w w' : World} {S T : Nat → Prop} {A : Option Addr} {l : List α} {e : TypeId} {cs cs' : List Value} {lab : Nat → Nat}
/-- One element's row is another one. -/
theorem WRows.set_ {k : Nat} {row' : List Value} {x' : α} (G : Good W size) (h : WRows W size w S lab cs l n) (hl : l.length = n) (hk : k < n) (hc : Chg T w w') (hT : ∀ g,T g → S g → lab g = 0 ∨ lab g = k + 1) (hold : ∀ j,(j < k * size ∨ (k + 1) * size ≤ j) → cs'[j]? = cs[j]?) (hw : W w' (fun g => S g ∧ lab g = k + 1) row' x') (hnew : ∀ j,j < size → cs'[k * size + j]? = row'[j]?) :
  WRows W size w' S lab cs' (l.set k x') n:=by
 intro i hi y hy
 rw [List.getElem?_set] at hy
 by_cases ek : k = i
 ·subst ek
  rw [if_pos rfl,if_pos (by omega)] at hy
  injection hy with hy
  subst hy
  exact ⟨row',hw,hnew⟩
 ·rw [if_neg ek] at hy
  obtain ⟨r,hr,hj⟩:=h i hi y hy
  refine ⟨r,G.chg hr hc fun g hg ht => ?_,fun j hjs => ?_⟩
  ·have h1:=hT g ht hg.1
   have h2:=hg.2
   omega
  ·rw [hold]
   ·exact hj j hjs
   ·by_cases hik : i < k
    ·left
     have : (i + 1) * size ≤ k * size:=Nat.mul_le_mul_right _ (by omega)
     rw [Nat.succ_mul] at this
     omega
    ·right
     have : (k + 1) * size ≤ i * size:=Nat.mul_le_mul_right _ (by omega)
     omega
/-- The block of an owned slice that has elements,and the cells of one of them. -/
theorem OwS.at_ {k : Nat} (h : OwS w S e size A n c cs) (hk : k < n) : ∃ g,A = some ⟨g,0,none⟩ ∧ S g ∧ g < w.heap.size ∧ ∀ j,j < size → ∃ v,cs[k * size + j]? = some v ∧ w.cell? ⟨g,k * size + j,none⟩ = some v ∧ w.frozen? ⟨g,k * size + j,none⟩ = false:=by
 obtain ⟨g,rfl⟩ : ∃ g,A = some ⟨g,0,none⟩:=by
  rcases h.1.2 with ⟨hv,h0⟩|⟨g,cap,cur,hv,_⟩
  ·omega
  ·injection hv with h1;exact ⟨g,h1⟩
 refine ⟨g,rfl,h.2 g rfl,(h.1.lt g rfl).2,fun j hj => ?_⟩
 have hm : k * size + j < n * size:=by
  have : (k + 1) * size ≤ n * size:=Nat.mul_le_mul_right _ hk
  rw [Nat.succ_mul] at this
  omega
 have hlt : k * size + j < cs.length:=by rw [h.1.1];exact hm
 refine ⟨cs[k * size + j],List.getElem?_eq_getElem hlt,?_,h.1.frozenAt _⟩
 rw [h.1.cellAt _ hm]
 exact List.getElem?_eq_getElem hlt
end
end Go.Proofs.YtpmfhfpjiebcjaaGreat
