/- Draws of duels: jobs that may be wrong. What DrawDuelPlay draws. -/
import Derived.Test.YtpmfhfpjiebcjaaGreatD06
import Derived.Test.YtpmfhfpjiebcjaaGreatD22
namespace Go.Proofs.YtpmfhfpjiebcjaaGreat
open Go.RowKit Go.Deep
set_option linter.unnecessarySimpa false
set_option linter.unusedSimpArgs false
set_option linter.unusedVariables false

def JPost (b w' : World) (g : Nat) (A : Option Addr) (n c : Nat) (bs : List UInt8) (fr : List Res) (B : Option Addr) (m d : Nat) : Prop:=∃ es : List GEnt,(1 ≤ m ∧ m ≤ 5) ∧ (∀ e ∈ es,e.j.reads_.length ≤ 101 ∧ e.j.puts_.length ≤ 101) ∧ CurM b w' g A n c bs (.row 72 2 B m d (es.flatMap gcell)::(es.flatMap grows ++ fr))
theorem made_ints8_8 : (madeCells (Value.int IntKind.i64 0).cells (8 * 1)).toList = ints (List.replicate 8 0):=by
 show (madeCells #[Value.int .i64 0] 8).toList = _
 rw [toList_madeCells_one]
 rfl
theorem made_ints8_9 : (madeCells (Value.int IntKind.i64 0).cells (9 * 1)).toList = ints (List.replicate 9 0):=by
 show (madeCells #[Value.int .i64 0] 9).toList = _
 rw [toList_madeCells_one]
 rfl
theorem jobs_in0 {b w : World} {C R N : Res} {E : GEnt} {es : List GEnt} {A2 : Option Addr} {n2 c2 : Nat} {xs : List Value} {fr : List Res} (hx : xs = es.flatMap gcell ++ gcell E) (h1 : grows E = [R,N]) (M : Mine b w (R::N::C::.row 72 2 A2 n2 c2 xs::(es.flatMap grows ++ fr))) : Mine b w (C::.row 72 2 A2 n2 c2 ((es ++ [E]).flatMap gcell)::((es ++ [E]).flatMap grows ++ fr)):=by
 have e : [E].flatMap grows = [R,N]:=by simp [h1]
 have e2 : [E].flatMap gcell = gcell E:=by simp
 rw [List.flatMap_append,List.flatMap_append,e,e2,← hx]
 refine M.perm ?_
 generalize Res.row _ _ A2 n2 c2 xs = J
 have p1 : (R::N::C::J::(es.flatMap grows ++ fr)).Perm (C::J::([R,N] ++ (es.flatMap grows ++ fr))):=List.perm_append_comm_assoc [R,N] [C,J] (es.flatMap grows ++ fr)
 refine p1.trans (List.Perm.cons _ (List.Perm.cons _ ?_))
 rw [← List.append_assoc]
 exact (List.perm_append_comm (l₁:=[R,N])).append_right fr
theorem JPost.mk1 {b w : World} {g : Nat} {A : Option Addr} {n c : Nat} {bs : List UInt8} {fr : List Res} {B : Option Addr} {m d : Nat} {e : GEnt} {es : List GEnt} (hm : 1 ≤ m ∧ m ≤ 5) (he : e.j.reads_.length ≤ 101 ∧ e.j.puts_.length ≤ 101) (h : ∀ e ∈ es,e.j.reads_.length ≤ 101 ∧ e.j.puts_.length ≤ 101) (C : CurM b w g A n c bs (.row 72 2 B m d (gcell e ++ es.flatMap gcell)::(grows e ++ (es.flatMap grows ++ fr)))) : JPost b w g A n c bs fr B m d :=
 ⟨e::es,hm,fun x hx => by rcases List.mem_cons.1 hx with rfl|h1;exact he;exact h x h1,by rw [List.flatMap_cons,List.flatMap_cons,List.append_assoc];exact C⟩

set_option maxRecDepth 8000 in
set_option maxHeartbeats 8000000 in
theorem l12AnyJobs_m {b w : World} {g : Nat} {A : Option Addr} {n c : Nat} {bs : List UInt8} {fr : List Res} (C0 : CurM b w g A n c bs fr) (hn : n ≤ 1048576) :
  Calls Tryz.prog 52 #[.pointer (some ⟨g,0,none⟩)] w fun e w' => ∃ (B : Option Addr) (m d : Nat),e = .returned (.slice B m d) ∧ JPost b w' g A n c bs fr B m d:=by
 have C:=Lib.hid C0
 clear C0
 go_enter Tryz.func52,Tryz.ntmps52
 go_wp2_with fail
 refine (l12Jobs_m C.out hn).mono ?_
 rintro e w9 ⟨B,m,d,es,rfl,hm,hes,C1⟩
 replace C:=Lib.hid C1
 clear C1
 have hlen : es.length = m:=by obtain ⟨_,_,_,M9⟩:=C.out.op;have h:=M9.len 1 rfl;rw [flat_length gcell_length] at h;omega
 have hm5 : m ≤ 4:=by omega
 have hm1 : 1 ≤ m:=by omega
 clear hm
 rcases es with _|⟨⟨⟨rA,rn,rc⟩,⟨pA,pn,pc⟩,⟨rs,ps⟩⟩,es⟩
 ·simp at hlen;omega
 clear hlen
 have he0:=hes _ (List.mem_cons_self ..)
 have HE0 : Hid (rs.length ≤ 100 ∧ ps.length ≤ 100):=he0
 have HES : Hid (∀ e ∈ es,e.j.reads_.length ≤ 101 ∧ e.j.puts_.length ≤ 101):=fun e he => by have:=hes e (List.mem_cons_of_mem _ he);omega
 clear he0 hes
 replace C : Hid (CurM b w9 g A n c bs (.row 72 2 B m d (.slice rA rn rc::.slice pA pn pc::es.flatMap gcell)::.row 3 1 rA rn rc (ints rs)::.row 97 2 pA pn pc (ps.flatMap Row.cells)::(es.flatMap grows ++ fr))):=C.out
 have hmI : (1 : Int) ≤ (m : Int):=by omega
 go_wp2_with fail
 refine (below_m C.out hn 24 (by omega)).mono ?_
 rintro e w9 ⟨⟨y,rfl,hy⟩,C1⟩
 replace C:=Lib.hid C1
 clear C1
 clear hy
 by_cases y0 : y = 0
 ·subst y0
  obtain ⟨i9,q9,hi9,M9⟩:=C.out.op
  have M:=Lib.hid M9
  clear M9
  obtain ⟨gB,rfl⟩:=M.out.addr 1 rfl (by omega)
  have hrn : rn ≤ 100:=by have h:=M.out.len1 2 rfl;rw [ints_length] at h;have:=HE0.out;omega
  go_wp2_with (first|(at_builtin;refine Mine.wp_push M.out rfl _ _ 22 rfl 3 _ _ _ Tryz.underlying22 Tryz.infoInt rfl (by omega) 2 rfl rfl _ _ rfl rfl rfl (by simp [Value.oneCell']) (by omega) (by unfold maxLen;omega) ?_;intro A2 c2 w' M';(try simp only [zr_,zm_] at M');replace M:=Lib.hid M';clear M')|((with_reducible show wpList _ _ _ (⟨_,_,_,_,_,none⟩::_) _ _);first|(refine Mine.wp_getr M.out rfl _ _ rfl 1 _ rfl rfl _ (by rfl) _ (by first|exact Tryz.underlying22) (by rfl) ?_;(try simp only [zr_,zm_]))|(refine Mine.wp_put M.out rfl _ _ _ rfl rfl 1 _ rfl rfl _ (by (conv => lhs;whnf) <;> rfl) (by omega) (by rfl) (by kernel_rfl) ?_;intro w' M';(try simp only [zr_,zm_] at M');replace M:=Lib.hid M';clear M')))
  have C9:=C.out.cl hi9 M.out
  go_ret
  first|exact ⟨_,_,_,rfl,JPost.mk1 (e:=⟨(A2,rn + 1,c2),(pA,pn,pc),⟨rs ++ [8],ps⟩⟩) ⟨hm1,by omega⟩ (by have:=HE0.out;simp;omega) HES.out C9⟩|exact ⟨_,_,rfl,JPost.mk1 (e:=⟨(A2,rn + 1,c2),(pA,pn,pc),⟨rs ++ [8],ps⟩⟩) ⟨hm1,by omega⟩ (by have:=HE0.out;simp;omega) HES.out C9⟩
 have c0 : (y == 0) = false:=by simpa using y0
 by_cases y1 : y = 1
 ·subst y1
  obtain ⟨i9,q9,hi9,M9⟩:=C.out.op
  have M:=Lib.hid M9
  clear M9
  obtain ⟨gB,rfl⟩:=M.out.addr 1 rfl (by omega)
  have hpn : pn ≤ 100:=by have h:=M.out.len 3 rfl;rw [flat_length Row.cells_length] at h;have:=HE0.out;omega
  clear c0
  go_wp2_with (first|(at_builtin;refine Mine.wp_push M.out rfl _ _ 51 rfl 97 _ _ _ Tryz.underlying51 Tryz.infoRow rfl (by omega) 3 rfl rfl _ _ rfl rfl rfl (by simp [Value.oneCell']) (by omega) (by unfold maxLen;omega) ?_;intro A2 c2 w' M';(try simp only [zr_,zm_] at M');replace M:=Lib.hid M';clear M')|((with_reducible show wpList _ _ _ (⟨_,_,_,_,_,none⟩::_) _ _);first|(refine Mine.wp_getr M.out rfl _ _ rfl 1 _ rfl rfl _ (by rfl) _ (by first|exact Tryz.underlying51) (by rfl) ?_;(try simp only [zr_,zm_]))|(refine Mine.wp_put M.out rfl _ _ _ rfl rfl 1 _ rfl rfl _ (by (conv => lhs;whnf) <;> rfl) (by omega) (by rfl) (by kernel_rfl) ?_;intro w' M';(try simp only [zr_,zm_] at M');replace M:=Lib.hid M';clear M')))
  have eP : ps.flatMap Row.cells ++ [Value.int IntKind.i64 (-1),Value.int IntKind.i64 0] = (ps ++ [(⟨-1,0⟩ : Row)]).flatMap Row.cells:=by simp [Row.cells]
  have MX:=M.out
  rw [eP] at MX
  clear M
  have M:=Lib.hid MX
  clear MX
  have C9:=C.out.cl hi9 M.out
  go_ret
  first|exact ⟨_,_,_,rfl,JPost.mk1 (e:=⟨(rA,rn,rc),(A2,pn + 1,c2),⟨rs,ps ++ [(⟨-1,0⟩ : Row)]⟩⟩) ⟨hm1,by omega⟩ (by have:=HE0.out;simp;omega) HES.out C9⟩|exact ⟨_,_,rfl,JPost.mk1 (e:=⟨(rA,rn,rc),(A2,pn + 1,c2),⟨rs,ps ++ [(⟨-1,0⟩ : Row)]⟩⟩) ⟨hm1,by omega⟩ (by have:=HE0.out;simp;omega) HES.out C9⟩
 have c1 : (y == 1) = false:=by simpa using y1
 by_cases y2 : y = 2
 ·subst y2
  have C2 : Hid (JPost b w9 g A n c bs fr B m d):=JPost.mk1 (e:=⟨(rA,rn,rc),(pA,pn,pc),⟨rs,ps⟩⟩) ⟨hm1,by omega⟩ (by have:=HE0.out;simp;omega) HES.out C.out
  clear C HES HE0 c0 c1
  go_wp2
  go_loopw [3] (fun u wr => ∃ (m d : Nat) (B : Option Addr),u = .slice B m d ∧ Hid (JPost b wr g A n c bs fr B m d)) (fun u _ => match u with|.slice _ m _ => 5 - m|_ => 0)
  case atStart => exact ⟨m,d,B,rfl,C2⟩
  case round =>
   clear C2 hm1 hmI hm5
   skip
   obtain ⟨m,d,B,rfl,es,⟨hm1,hm5⟩,hes,C1⟩:=hrel
   have C:=Lib.hid C1
   have HES:=Lib.hid hes
   clear C1 hes
   by_cases hlt : (m : Int) < 5
   rotate_left
   ·go_wp2
    go_ret
    first|exact ⟨_,_,_,rfl,es,⟨hm1,hm5⟩,HES.out,C.out⟩|exact ⟨_,_,rfl,es,⟨hm1,hm5⟩,HES.out,C.out⟩
   have hltN : m < 5:=by omega
   obtain ⟨i9,q9,hi9,M9⟩:=C.out.op
   have M:=Lib.hid M9
   clear M9
   go_wp2_with (first|(at_builtin;refine Mine.wp_push M.out rfl _ _ 34 rfl 72 _ _ _ Tryz.underlying34 Tryz.infoJob2 rfl (by omega) 1 rfl rfl _ _ rfl rfl rfl (by simp [Value.oneCell']) (by omega) (by unfold maxLen;omega) ?_;intro A2 c2 w' M';(try simp only [zr_,zm_] at M');replace M:=Lib.hid M';clear M'))
   have M8:=jobs_in0 (E:=⟨(none,0,0),(none,0,0),⟨[],[]⟩⟩) (by first|rfl|simp [gcell]) rfl ((M.out.nil 97 2).nil 3 1)
   have hq : m + 1 ≤ 5:=by omega
   go_roundw
   case rel => exact ⟨m + 1,_,_,rfl,es ++ [_],⟨Nat.succ_pos _,hq⟩,fun e he => by rcases List.mem_append.1 he with h|h;exact HES.out e h;(rw [List.mem_singleton] at h;subst h;simp),C.out.cl hi9 M8⟩
   case measure => simp;omega
 have c2 : (y == 2) = false:=by simpa using y2
 by_cases y3 : y = 3
 rotate_left
 ·have c3 : (y == 3) = false:=by simpa using y3
  go_wp2
  have C9:=C.out
  go_ret
  first|exact ⟨_,_,_,rfl,JPost.mk1 (e:=⟨(rA,rn,rc),(pA,pn,pc),⟨rs,ps⟩⟩) ⟨hm1,by omega⟩ (by have:=HE0.out;simp;omega) HES.out C9⟩|exact ⟨_,_,rfl,JPost.mk1 (e:=⟨(rA,rn,rc),(pA,pn,pc),⟨rs,ps⟩⟩) ⟨hm1,by omega⟩ (by have:=HE0.out;simp;omega) HES.out C9⟩
 subst y3
 clear c0 c1 c2
 go_wp2_with fail
 refine (below_m C.out hn 2 (by omega)).mono ?_
 rintro e w9 ⟨⟨x2,rfl,hx2⟩,C1⟩
 replace C:=Lib.hid C1
 clear C1
 have h2 : x2 = 0 ∨ x2 = 1:=by omega
 clear hx2
 rcases h2 with rfl|rfl
 ·skip
  obtain ⟨i9,q9,hi9,M9⟩:=C.out.op
  have M:=Lib.hid M9
  clear M9
  obtain ⟨gB,rfl⟩:=M.out.addr 1 rfl (by omega)
  go_wp2_with (first|((with_reducible show wpList _ _ _ (⟨_,_,_,_,_,none⟩::_) _ _);first|(refine Mine.wp_make M.out rfl _ _ 22 rfl 3 _ _ _ Tryz.underlying22 Tryz.infoInt 8 rfl rfl (by omega) (by unfold maxLen;omega) ?_;intro gv w' M';(try simp only [zr_,zm_] at M');replace M:=Lib.hid M';clear M';(try simp only [zr_,zm_]))|(refine Mine.wp_put M.out rfl _ _ _ rfl rfl 2 _ rfl rfl _ (by (conv => lhs;whnf) <;> rfl) (by omega) (by rfl) (by kernel_rfl) ?_;intro w' M';(try simp only [zr_,zm_] at M');replace M:=Lib.hid M';clear M')))
  have M7:=M.out.sub (sk_ (sk_ (sk_ (sd_ s1_))))
  have M8:=M7.perm ((List.Perm.swap _ _ _).trans (List.Perm.cons _ (List.Perm.swap _ _ _)))
  rw [made_ints8_8] at M8
  have C9:=C.out.cl hi9 M8
  go_ret
  first|exact ⟨_,_,_,rfl,JPost.mk1 (e:=⟨(some ⟨gv,0,none⟩,8,8),(pA,pn,pc),⟨List.replicate 8 0,ps⟩⟩) ⟨hm1,by omega⟩ (by have:=HE0.out;simp;omega) HES.out C9⟩|exact ⟨_,_,rfl,JPost.mk1 (e:=⟨(some ⟨gv,0,none⟩,8,8),(pA,pn,pc),⟨List.replicate 8 0,ps⟩⟩) ⟨hm1,by omega⟩ (by have:=HE0.out;simp;omega) HES.out C9⟩
 ·skip
  obtain ⟨i9,q9,hi9,M9⟩:=C.out.op
  have M:=Lib.hid M9
  clear M9
  obtain ⟨gB,rfl⟩:=M.out.addr 1 rfl (by omega)
  go_wp2_with (first|((with_reducible show wpList _ _ _ (⟨_,_,_,_,_,none⟩::_) _ _);first|(refine Mine.wp_make M.out rfl _ _ 22 rfl 3 _ _ _ Tryz.underlying22 Tryz.infoInt 9 rfl rfl (by omega) (by unfold maxLen;omega) ?_;intro gv w' M';(try simp only [zr_,zm_] at M');replace M:=Lib.hid M';clear M';(try simp only [zr_,zm_]))|(refine Mine.wp_put M.out rfl _ _ _ rfl rfl 2 _ rfl rfl _ (by (conv => lhs;whnf) <;> rfl) (by omega) (by rfl) (by kernel_rfl) ?_;intro w' M';(try simp only [zr_,zm_] at M');replace M:=Lib.hid M';clear M')))
  have M7:=M.out.sub (sk_ (sk_ (sk_ (sd_ s1_))))
  have M8:=M7.perm ((List.Perm.swap _ _ _).trans (List.Perm.cons _ (List.Perm.swap _ _ _)))
  rw [made_ints8_9] at M8
  have C9:=C.out.cl hi9 M8
  go_ret
  first|exact ⟨_,_,_,rfl,JPost.mk1 (e:=⟨(some ⟨gv,0,none⟩,9,9),(pA,pn,pc),⟨List.replicate 9 0,ps⟩⟩) ⟨hm1,by omega⟩ (by have:=HE0.out;simp;omega) HES.out C9⟩|exact ⟨_,_,rfl,JPost.mk1 (e:=⟨(some ⟨gv,0,none⟩,9,9),(pA,pn,pc),⟨List.replicate 9 0,ps⟩⟩) ⟨hm1,by omega⟩ (by have:=HE0.out;simp;omega) HES.out C9⟩

end Go.Proofs.YtpmfhfpjiebcjaaGreat
namespace Go.Proofs.YtpmfhfpjiebcjaaGreat
open Go.RowKit Go.Deep
set_option linter.unnecessarySimpa false
set_option linter.unusedSimpArgs false
set_option linter.unusedVariables false

theorem cut_to {b w : World} {g : Nat} {A : Option Addr} {n c : Nat} {bs : List UInt8} {B : Option Addr} {m d : Nat} {zs : List Int} {fr : List Res} (k : Nat) (hk : k ≤ m) (C : CurM b w g A n c bs (.row 3 1 B m d (ints zs)::fr)) : CurM b w g A n c bs (.row 3 1 B k d (ints (zs.take k))::fr):=by
 obtain ⟨i,q,h0,h1,M⟩:=C.st
 have M2:=M.cut 1 rfl (m:=k) hk
 simp only [Nat.mul_one,List.set_cons_succ,List.set_cons_zero] at M2
 refine ⟨⟨i,q,h0,h1,?_⟩,C.sl⟩
 have e : ints (zs.take k) = (ints zs).take k:=by simp [ints]
 rw [e]
 exact M2
theorem JPost.drop {b w : World} {g : Nat} {A : Option Addr} {n c : Nat} {bs : List UInt8} {V J : Res} {gs : List Res} {B : Option Addr} {m d : Nat} (h : JPost b w g A n c bs (J::(gs ++ [V])) B m d) : JPost b w g A n c bs [V] B m d:=by
 obtain ⟨es,hm,he,C⟩:=h
 refine ⟨es,hm,he,?_⟩
 obtain ⟨i,q,h0,h1,M⟩:=C.st
 exact ⟨⟨i,q,h0,h1,M.sub (sk_ (sk_ (s1_.append (sd_ (List.sublist_append_right _ _)))))⟩,C.sl⟩
/-- What DrawDuelPlay draws. -/
def DrawnV (b w : World) (vs : Array Value) : Prop:=∃ (B0 : Option Addr) (m0 d0 : Nat) (zs : List Int) (B1 : Option Addr) (m1 d1 : Nat) (es : List GEnt) (B2 : Option Addr) (m2 d2 : Nat) (ps : List Int),vs = #[.slice B0 m0 d0,.slice B1 m1 d1,.slice B2 m2 d2] ∧ m0 ≤ 8 ∧ (1 ≤ m1 ∧ m1 ≤ 5) ∧ (∀ e ∈ es,e.j.reads_.length ≤ 101 ∧ e.j.puts_.length ≤ 101) ∧ m2 ≤ 1100002 ∧ Mine b w (.row 3 1 B2 m2 d2 (ints ps)::.row 72 2 B1 m1 d1 (es.flatMap gcell)::(es.flatMap grows ++ [.row 3 1 B0 m0 d0 (ints zs)]))

set_option maxRecDepth 8000 in
set_option maxHeartbeats 8000000 in
theorem DrawDuelPlay_any {A : Option Addr} {n c : Nat} {bs : List UInt8} (w : World) (hs : Sl w (fun j => j < w.heap.size) 1 A n (charsD bs)) (hn : n ≤ 1048576) :
  Calls Tryz.prog 18 #[.slice A n c] w fun e w' => ∃ vs,e = .returned (.tuple vs) ∧ DrawnV w w' vs:=by
 have HS:=Lib.hid hs
 clear hs
 go_enter Tryz.func18,Tryz.ntmps18
 go_wp2_with fail
 refine (new_m w HS.out hn).mono ?_
 rintro e w1 ⟨g,rfl,C1⟩
 have C:=Lib.hid C1
 clear C1
 go_wp2_with fail
 refine (l3DrawVals_m C.out hn).mono ?_
 rintro e w9 ⟨B0,m0,d0,zs,rfl,hm0,C1⟩
 replace C:=Lib.hid C1
 clear C1
 go_wp2_with fail
 refine (l12Jobs_m C.out hn).mono ?_
 rintro e w9 ⟨B1,m1,d1,es,rfl,hm1,hes,C1⟩
 replace C:=Lib.hid C1
 clear C1
 have H0 : Hid (m0 ≤ 8):=hm0
 clear hm0
 go_wp2_with fail
 refine (once_m C.out hn 12 (by omega)).mono ?_
 rintro e w9 ⟨⟨b1,rfl⟩,C1⟩
 replace C:=Lib.hid C1
 clear C1
 cases b1
 ·skip
  have HES : Hid (∀ e ∈ es,e.j.reads_.length ≤ 101 ∧ e.j.puts_.length ≤ 101):=fun e he => by have:=hes e he;omega
  clear hes
  have HM1 : Hid (1 ≤ m1 ∧ m1 ≤ 5):=by show _ ∧ _;omega
  have hmI : (0 : Int) ≤ (m1 : Int) ∧ (m1 : Int) ≤ 256:=by omega
  clear hm1
  have hnI : (n : Int) ≤ 1048576:=by omega
  go_wp2_with fail
  refine (belowB_m C.out hn (20 + (n : Int)) (by omega)).mono ?_
  rintro e w9 ⟨⟨x,rfl,hx⟩,C1⟩
  replace C:=Lib.hid C1
  clear C1
  have hx2 : x ≤ 1100000:=by omega
  clear hx
  go_wp2_with fail
  refine (l12Picks_m C.out hn (m1 : Int) hmI x hx2).mono ?_
  rintro e w9 ⟨B2,m2,d2,ps,rfl,hm2,C1⟩
  replace C:=Lib.hid C1
  clear C1
  clear hmI hx2
  go_wp2_with fail
  refine (once_m C.out hn 30 (by omega)).mono ?_
  rintro e w9 ⟨⟨b2,rfl⟩,C1⟩
  replace C:=Lib.hid C1
  clear C1
  cases b2
  ·skip
   by_cases hA : (200 : Int) < (m2 : Int)
   rotate_left
   ·go_wp2
    refine bodyPost_ret (v:=.tuple #[.slice B0 m0 d0,.slice B1 m1 d1,.slice B2 m2 d2]) (by simp [results,Tryz.results18,go_sem]) rfl ?_
    have C9:=C.out
    first|exact ⟨_,rfl,B0,m0,d0,zs,B1,m1,d1,es,B2,m2,d2,ps,rfl,H0.out,HM1.out,HES.out,hm2,C9.fr⟩
   by_cases hB : (m2 : Int) < 399
   rotate_left
   ·go_wp2
    refine bodyPost_ret (v:=.tuple #[.slice B0 m0 d0,.slice B1 m1 d1,.slice B2 m2 d2]) (by simp [results,Tryz.results18,go_sem]) rfl ?_
    have C9:=C.out
    first|exact ⟨_,rfl,B0,m0,d0,zs,B1,m1,d1,es,B2,m2,d2,ps,rfl,H0.out,HM1.out,HES.out,hm2,C9.fr⟩
   have hd : 200 ≤ d2:=by obtain ⟨_,_,_,M9⟩:=C.out.op;have:=M9.cap 1 rfl;omega
   have hm200 : 200 ≤ m2:=by omega
   replace C:=Lib.hid (cut_to 200 hm200 C.out)
   go_wp2
   refine bodyPost_ret (v:=.tuple #[.slice B0 m0 d0,.slice B1 m1 d1,.slice B2 200 d2]) (by simp [results,Tryz.results18,go_sem]) rfl ?_
   have C9:=C.out
   first|exact ⟨_,rfl,B0,m0,d0,zs,B1,m1,d1,es,B2,200,d2,(ps.take 200),rfl,H0.out,HM1.out,HES.out,(by omega),C9.fr⟩
  ·skip
   go_wp2
   go_loopw [8] (fun u wr => ∃ (m2 d2 : Nat) (B2 : Option Addr) (ps : List Int),m2 ≤ 1100002 ∧ u = .slice B2 m2 d2 ∧ Hid (CurM w wr g A n c bs (.row 3 1 B2 m2 d2 (ints ps)::.row 72 2 B1 m1 d1 (es.flatMap gcell)::(es.flatMap grows ++ [.row 3 1 B0 m0 d0 (ints zs)])))) (fun u _ => match u with|.slice _ m _ => 401 - m|_ => 0)
   case atStart => exact ⟨m2,d2,B2,ps,hm2,rfl,C⟩
   case round =>
    clear C hm2
    obtain ⟨m2,d2,B2,ps,hm2,rfl,C⟩:=hrel
    go_wp2_with fail
    refine (below_m C.out hn 2 (by omega)).mono ?_
    rintro e w9 ⟨⟨y,rfl,hy⟩,C1⟩
    replace C:=Lib.hid C1
    clear C1
    have hy2 : 0 ≤ y ∧ y ≤ 1:=by omega
    clear hy
    by_cases hlt : (m2 : Int) < 401 - y
    rotate_left
    ·skip
     have hA : (200 : Int) < (m2 : Int):=by omega
     have hB : ¬ (m2 : Int) < 399:=by omega
     go_wp2
     refine bodyPost_ret (v:=.tuple #[.slice B0 m0 d0,.slice B1 m1 d1,.slice B2 m2 d2]) (by simp [results,Tryz.results18,go_sem]) rfl ?_
     have C9:=C.out
     exact ⟨_,rfl,B0,m0,d0,zs,B1,m1,d1,es,B2,m2,d2,ps,rfl,H0.out,HM1.out,HES.out,hm2,C9.fr⟩
    have hltN : m2 < 401:=by omega
    obtain ⟨i9,q9,hi9,M9⟩:=C.out.op
    have M:=Lib.hid M9
    clear M9
    go_wp2_with (first|(at_builtin;refine Mine.wp_push M.out rfl _ _ 22 rfl 3 _ _ _ Tryz.underlying22 Tryz.infoInt rfl (by omega) 1 rfl rfl _ _ rfl rfl rfl (by simp [Value.oneCell']) (by omega) (by unfold maxLen;omega) ?_;intro A2 c2 w' M';(try simp only [zr_,zm_] at M');replace M:=Lib.hid M';clear M'))
    go_roundw
    case rel => exact ⟨m2 + 1,_,_,ps ++ [0],by omega,rfl,Lib.hid (C.out.cl hi9 M.out)⟩
    case measure => simp;omega
 ·skip
  go_wp2_with fail
  refine (l12AnyJobs_m C.out hn).mono ?_
  rintro e w9 ⟨B3,m3,d3,rfl,C1⟩
  clear C hm1 hes
  obtain ⟨es3,hm1,hes,C2⟩:=JPost.drop C1
  have C:=Lib.hid C2
  clear C1 C2
  have HES:=Lib.hid hes
  clear hes
  have HM1 : Hid (1 ≤ m3 ∧ m3 ≤ 5):=by show _ ∧ _;omega
  have hmI : (0 : Int) ≤ (m3 : Int) ∧ (m3 : Int) ≤ 256:=by omega
  clear hm1
  have hnI : (n : Int) ≤ 1048576:=by omega
  go_wp2_with fail
  refine (belowB_m C.out hn (20 + (n : Int)) (by omega)).mono ?_
  rintro e w9 ⟨⟨x,rfl,hx⟩,C1⟩
  replace C:=Lib.hid C1
  clear C1
  have hx2 : x ≤ 1100000:=by omega
  clear hx
  go_wp2_with fail
  refine (l12Picks_m C.out hn (m3 : Int) hmI x hx2).mono ?_
  rintro e w9 ⟨B2,m2,d2,ps,rfl,hm2,C1⟩
  replace C:=Lib.hid C1
  clear C1
  clear hmI hx2
  go_wp2_with fail
  refine (once_m C.out hn 30 (by omega)).mono ?_
  rintro e w9 ⟨⟨b2,rfl⟩,C1⟩
  replace C:=Lib.hid C1
  clear C1
  cases b2
  ·skip
   by_cases hA : (200 : Int) < (m2 : Int)
   rotate_left
   ·go_wp2
    refine bodyPost_ret (v:=.tuple #[.slice B0 m0 d0,.slice B3 m3 d3,.slice B2 m2 d2]) (by simp [results,Tryz.results18,go_sem]) rfl ?_
    have C9:=C.out
    first|exact ⟨_,rfl,B0,m0,d0,zs,B3,m3,d3,es3,B2,m2,d2,ps,rfl,H0.out,HM1.out,HES.out,hm2,C9.fr⟩
   by_cases hB : (m2 : Int) < 399
   rotate_left
   ·go_wp2
    refine bodyPost_ret (v:=.tuple #[.slice B0 m0 d0,.slice B3 m3 d3,.slice B2 m2 d2]) (by simp [results,Tryz.results18,go_sem]) rfl ?_
    have C9:=C.out
    first|exact ⟨_,rfl,B0,m0,d0,zs,B3,m3,d3,es3,B2,m2,d2,ps,rfl,H0.out,HM1.out,HES.out,hm2,C9.fr⟩
   have hd : 200 ≤ d2:=by obtain ⟨_,_,_,M9⟩:=C.out.op;have:=M9.cap 1 rfl;omega
   have hm200 : 200 ≤ m2:=by omega
   replace C:=Lib.hid (cut_to 200 hm200 C.out)
   go_wp2
   refine bodyPost_ret (v:=.tuple #[.slice B0 m0 d0,.slice B3 m3 d3,.slice B2 200 d2]) (by simp [results,Tryz.results18,go_sem]) rfl ?_
   have C9:=C.out
   first|exact ⟨_,rfl,B0,m0,d0,zs,B3,m3,d3,es3,B2,200,d2,(ps.take 200),rfl,H0.out,HM1.out,HES.out,(by omega),C9.fr⟩
  ·skip
   go_wp2
   go_loopw [8] (fun u wr => ∃ (m2 d2 : Nat) (B2 : Option Addr) (ps : List Int),m2 ≤ 1100002 ∧ u = .slice B2 m2 d2 ∧ Hid (CurM w wr g A n c bs (.row 3 1 B2 m2 d2 (ints ps)::.row 72 2 B3 m3 d3 (es3.flatMap gcell)::(es3.flatMap grows ++ [.row 3 1 B0 m0 d0 (ints zs)])))) (fun u _ => match u with|.slice _ m _ => 401 - m|_ => 0)
   case atStart => exact ⟨m2,d2,B2,ps,hm2,rfl,C⟩
   case round =>
    clear C hm2
    obtain ⟨m2,d2,B2,ps,hm2,rfl,C⟩:=hrel
    go_wp2_with fail
    refine (below_m C.out hn 2 (by omega)).mono ?_
    rintro e w9 ⟨⟨y,rfl,hy⟩,C1⟩
    replace C:=Lib.hid C1
    clear C1
    have hy2 : 0 ≤ y ∧ y ≤ 1:=by omega
    clear hy
    by_cases hlt : (m2 : Int) < 401 - y
    rotate_left
    ·skip
     have hA : (200 : Int) < (m2 : Int):=by omega
     have hB : ¬ (m2 : Int) < 399:=by omega
     go_wp2
     refine bodyPost_ret (v:=.tuple #[.slice B0 m0 d0,.slice B3 m3 d3,.slice B2 m2 d2]) (by simp [results,Tryz.results18,go_sem]) rfl ?_
     have C9:=C.out
     exact ⟨_,rfl,B0,m0,d0,zs,B3,m3,d3,es3,B2,m2,d2,ps,rfl,H0.out,HM1.out,HES.out,hm2,C9.fr⟩
    have hltN : m2 < 401:=by omega
    obtain ⟨i9,q9,hi9,M9⟩:=C.out.op
    have M:=Lib.hid M9
    clear M9
    go_wp2_with (first|(at_builtin;refine Mine.wp_push M.out rfl _ _ 22 rfl 3 _ _ _ Tryz.underlying22 Tryz.infoInt rfl (by omega) 1 rfl rfl _ _ rfl rfl rfl (by simp [Value.oneCell']) (by omega) (by unfold maxLen;omega) ?_;intro A2 c2 w' M';(try simp only [zr_,zm_] at M');replace M:=Lib.hid M';clear M'))
    go_roundw
    case rel => exact ⟨m2 + 1,_,_,ps ++ [0],by omega,rfl,Lib.hid (C.out.cl hi9 M.out)⟩
    case measure => simp;omega

end Go.Proofs.YtpmfhfpjiebcjaaGreat
