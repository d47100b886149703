/- ThingsOk of program and reference. No condition but sizes. What a serial walk through right code computes. Plain. No condition. slices.Index and slices.Contains on []int. No condition but lengths. Orders: l7Order, orderOk, fullOrder. No condition but lengths. What programs one behind another compute. Plain. No condition. OpOk of program and reference. No condition. EndOf of program and reference at a right block. No condition but the length. l5Skip, HasFork, Touches and CodeOk of the reference. No condition but the length. CodeOk of the reference. No condition but the length. No condition but lengths. -/
import Derived.Test.YtoegjiigaoanbaaGreatS00
import Derived.Test.YtoegjiigaoanbaaGreatS05
namespace Go.Proofs.YtoegjiigaoanbaaGreat
open Go.RowKit Go.Deep
set_option linter.unnecessarySimpa false
set_option maxHeartbeats 400000000
open Go.Lib (hid)
set_option linter.unusedSimpArgs false
set_option linter.unusedVariables false

def inMap (_ : Nat) (x : Int) : Prop:=0 ≤ x ∧ x ≤ 65536
noncomputable def mapOk (l : List Int) : Bool:=dec (l.length = 8 ∧ AllTo inMap l l.length)
noncomputable def thingsOk (x : Things) : Bool:=dec (valsOk x.cells_ = true ∧ mapOk x.map_ = true ∧ (0 ≤ x.count_ ∧ x.count_ ≤ 65535))
theorem isMap_any (A : Option Addr) (n c : Nat) (l : List Int) (w : World) (S : Nat → Prop) (hs : Sl w S 1 A n (ints l)) (hm : n ≤ 1048576) :
  Calls Tryz.prog 149 #[.slice A n c] w fun e w' => e = .returned (.bool (mapOk l)) ∧ w = w':=by
 have H:=hid hs.len
 go_enter Tryz.func149,Tryz.ntmps149
 go_wp2
 go_loop [7] (fun i => ∃ k : Nat,k ≤ n ∧ i = .int .i64 k ∧ AllTo inMap l k) (fun i => n - (intOf i).toNat)
 case atStart => exact ⟨0,Nat.zero_le _,rfl,AllTo.zero _ _⟩
 case round =>
  obtain ⟨k,hk,rfl,hup⟩:=hrel
  have HU:=hid hup
  clear hup
  by_cases hlt : k < n
  ·obtain ⟨b,o,x,rfl,hb,hx,hc⟩:=hs.int_at hlt
   have HX:=hid hx
   clear hx
   by_cases h0 : 0 ≤ x ∧ x ≤ 65536
   ·have d0 : decide (0 ≤ x ∧ x ≤ 65536) = true:=by simpa using h0
    go_wp2_with (go_at_call 175;refine (within_any _ _ _ _).mono ?_;rintro e w' ⟨rfl,rfl⟩)
    go_round
    case rel => exact ⟨k + 1,by omega,by go_num,HU.out.succ HX.out h0⟩
    case measure => simp [intOf];omega
   ·have d0 : decide (0 ≤ x ∧ x ≤ 65536) = false:=by simpa using h0
    go_wp2_with (go_at_call 175;refine (within_any _ _ _ _).mono ?_;rintro e w' ⟨rfl,rfl⟩)
    go_ret
    exact ⟨by rw [mapOk,dec_no fun h => AllTo.not HX.out (by rw [H.out];exact hlt) h0 h.2];rfl,rfl⟩
  ·have e : k = l.length:=by rw [H.out];omega
   by_cases h8 : n = 8
   ·have b8 : ((n : Int) == 8) = true:=by simp;omega
    have HY:=hid (dec_yes (p:=l.length = 8 ∧ AllTo inMap l l.length) ⟨by rw [H.out];exact h8,by rw [← e];exact HU.out⟩)
    clear h8 e
    go_wp2
    go_ret
    exact ⟨by rw [mapOk,HY.out];rfl,rfl⟩
   ·have b8 : ((n : Int) == 8) = false:=by simp;omega
    have HY:=hid (dec_no (p:=l.length = 8 ∧ AllTo inMap l l.length) fun h => h8 (by rw [← H.out];exact h.1))
    clear h8 e
    go_wp2
    go_ret
    exact ⟨by rw [mapOk,HY.out];rfl,rfl⟩

set_option maxRecDepth 8000 in
theorem impl_ThingsOk (x : Things) (cs : List Value) (w : World) (S : Nat → Prop) (h : Things.R w S cs x) (_hw : Things.wt x ≤ 1048576) :
  Calls Tryz.prog 91 #[.agg cs.toArray] w fun e w' => e = .returned (.bool (thingsOk x)) ∧ Ext w w':=by
 obtain ⟨A0,n0,c0,A1,n1,c1,rfl,⟨kh0,mh0,h0⟩,⟨kh1,mh1,h1⟩⟩:=h
 have HA:=hid h0
 have HB:=hid h1
 have hl0:=h0.len
 have hl1:=h1.len
 have hn0 : n0 ≤ 1048576:=by unfold Things.wt at _hw;omega
 have hn1 : n1 ≤ 1048576:=by unfold Things.wt at _hw;omega
 clear h0 h1
 have M : Hid (Mine w (w.alloc (.cells #[.slice A0 n0 c0,.slice A1 n1 c1,.int .i64 x.count_] 42)) [.box w.heap.size 42 #[.slice A0 n0 c0,.slice A1 n1 c1,.int .i64 x.count_]]):=(Mine.refl w).box 42 #[.slice A0 n0 c0,.slice A1 n1 c1,.int .i64 x.count_]
 show Calls Tryz.prog _ #[.agg #[.slice A0 n0 c0,.slice A1 n1 c1,.int .i64 x.count_]] w _
 cases hv : valsOk x.cells_
 ·have HZ : Hid (dec (valsOk x.cells_ = true ∧ mapOk x.map_ = true ∧ (0 ≤ x.count_ ∧ x.count_ ≤ 65535)) = false):=dec_no fun z => by rw [hv] at z;exact absurd z.1 (by simp)
  go_enter Tryz.func91,Tryz.ntmps91
  go_wp2_with (first|(go_at_call 148;(with_reducible refine (areValues_any A0 n0 c0 x.cells_ _ S (HA.out.ext M.out.ext) hn0).mono ?_);rintro e w' ⟨rfl,rfl⟩;rw [hv])|((with_reducible refine zN ?_);first|(refine zG M.out 0 ?_;(try simp only [zr_,zm_]))))
  go_ret
  exact ⟨by unfold thingsOk;rw [HZ.out];rfl,M.out.ext⟩
 cases hmp : mapOk x.map_
 ·have HZ : Hid (dec (valsOk x.cells_ = true ∧ mapOk x.map_ = true ∧ (0 ≤ x.count_ ∧ x.count_ ≤ 65535)) = false):=dec_no fun z => by rw [hmp] at z;exact absurd z.2.1 (by simp)
  go_enter Tryz.func91,Tryz.ntmps91
  go_wp2_with (first|(go_at_call 148;(with_reducible refine (areValues_any A0 n0 c0 x.cells_ _ S (HA.out.ext M.out.ext) hn0).mono ?_);rintro e w' ⟨rfl,rfl⟩;rw [hv])|(go_at_call 149;(with_reducible refine (isMap_any A1 n1 c1 x.map_ _ S (HB.out.ext M.out.ext) hn1).mono ?_);rintro e w' ⟨rfl,rfl⟩;rw [hmp])|((with_reducible refine zN ?_);first|(refine zG M.out 0 ?_;(try simp only [zr_,zm_]))))
  go_ret
  exact ⟨by unfold thingsOk;rw [HZ.out];rfl,M.out.ext⟩
 by_cases hc : 0 ≤ x.count_ ∧ x.count_ ≤ 65535
 ·have HZ : Hid (dec (valsOk x.cells_ = true ∧ mapOk x.map_ = true ∧ (0 ≤ x.count_ ∧ x.count_ ≤ 65535)) = true):=dec_yes ⟨hv,hmp,hc⟩
  have dc : decide (0 ≤ x.count_ ∧ x.count_ ≤ 65535) = true:=by simpa using hc
  clear hc
  go_enter Tryz.func91,Tryz.ntmps91
  go_wp2_with (first|(go_at_call 148;(with_reducible refine (areValues_any A0 n0 c0 x.cells_ _ S (HA.out.ext M.out.ext) hn0).mono ?_);rintro e w' ⟨rfl,rfl⟩;rw [hv])|(go_at_call 149;(with_reducible refine (isMap_any A1 n1 c1 x.map_ _ S (HB.out.ext M.out.ext) hn1).mono ?_);rintro e w' ⟨rfl,rfl⟩;rw [hmp])|(go_at_call 150;(with_reducible refine (isValue_any _ _).mono ?_);rintro e w' ⟨rfl,rfl⟩)|((with_reducible refine zN ?_);first|(refine zG M.out 0 ?_;(try simp only [zr_,zm_]))))
  go_ret
  exact ⟨by unfold thingsOk;rw [HZ.out];rfl,M.out.ext⟩
 ·have HZ : Hid (dec (valsOk x.cells_ = true ∧ mapOk x.map_ = true ∧ (0 ≤ x.count_ ∧ x.count_ ≤ 65535)) = false):=dec_no fun z => hc z.2.2
  have dc : decide (0 ≤ x.count_ ∧ x.count_ ≤ 65535) = false:=by simpa using hc
  clear hc
  go_enter Tryz.func91,Tryz.ntmps91
  go_wp2_with (first|(go_at_call 148;(with_reducible refine (areValues_any A0 n0 c0 x.cells_ _ S (HA.out.ext M.out.ext) hn0).mono ?_);rintro e w' ⟨rfl,rfl⟩;rw [hv])|(go_at_call 149;(with_reducible refine (isMap_any A1 n1 c1 x.map_ _ S (HB.out.ext M.out.ext) hn1).mono ?_);rintro e w' ⟨rfl,rfl⟩;rw [hmp])|(go_at_call 150;(with_reducible refine (isValue_any _ _).mono ?_);rintro e w' ⟨rfl,rfl⟩)|((with_reducible refine zN ?_);first|(refine zG M.out 0 ?_;(try simp only [zr_,zm_]))))
  go_ret
  exact ⟨by unfold thingsOk;rw [HZ.out];rfl,M.out.ext⟩
set_option maxRecDepth 8000 in
theorem spec_ThingsOk (x : Things) (cs : List Value) (w : World) (S : Nat → Prop) (h : Things.R w S cs x) (_hw : Things.wt x ≤ 1048576) :
  Calls Tryz.prog 78 #[.agg cs.toArray] w fun e w' => e = .returned (.bool (thingsOk x)) ∧ Ext w w':=by
 obtain ⟨A0,n0,c0,A1,n1,c1,rfl,⟨kh0,mh0,h0⟩,⟨kh1,mh1,h1⟩⟩:=h
 have HA:=hid h0
 have HB:=hid h1
 have hl0:=h0.len
 have hl1:=h1.len
 have hn0 : n0 ≤ 1048576:=by unfold Things.wt at _hw;omega
 have hn1 : n1 ≤ 1048576:=by unfold Things.wt at _hw;omega
 clear h0 h1
 have M : Hid (Mine w (w.alloc (.cells #[.slice A0 n0 c0,.slice A1 n1 c1,.int .i64 x.count_] 42)) [.box w.heap.size 42 #[.slice A0 n0 c0,.slice A1 n1 c1,.int .i64 x.count_]]):=(Mine.refl w).box 42 #[.slice A0 n0 c0,.slice A1 n1 c1,.int .i64 x.count_]
 show Calls Tryz.prog _ #[.agg #[.slice A0 n0 c0,.slice A1 n1 c1,.int .i64 x.count_]] w _
 cases hv : valsOk x.cells_
 ·have HZ : Hid (dec (valsOk x.cells_ = true ∧ mapOk x.map_ = true ∧ (0 ≤ x.count_ ∧ x.count_ ≤ 65535)) = false):=dec_no fun z => by rw [hv] at z;exact absurd z.1 (by simp)
  go_enter Tryz.func78,Tryz.ntmps78
  go_wp2_with (first|(go_at_call 130;(with_reducible refine (l3Vals_any A0 n0 c0 x.cells_ _ S (HA.out.ext M.out.ext) hn0).mono ?_);rintro e w' ⟨rfl,rfl⟩;rw [hv])|((with_reducible refine zN ?_);first|(refine zG M.out 0 ?_;(try simp only [zr_,zm_]))))
  go_ret
  exact ⟨by unfold thingsOk;rw [HZ.out];rfl,M.out.ext⟩
 by_cases h8 : n1 = 8
 rotate_left
 ·have HZ : Hid (dec (valsOk x.cells_ = true ∧ mapOk x.map_ = true ∧ (0 ≤ x.count_ ∧ x.count_ ≤ 65535)) = false):=dec_no fun z => h8 (by have a:=(dec_true z.2.1).1;omega)
  have b8 : ((n1 : Int) != 8) = true:=by simp;omega
  clear h8
  go_enter Tryz.func78,Tryz.ntmps78
  go_wp2_with (first|(go_at_call 130;(with_reducible refine (l3Vals_any A0 n0 c0 x.cells_ _ S (HA.out.ext M.out.ext) hn0).mono ?_);rintro e w' ⟨rfl,rfl⟩;rw [hv])|((with_reducible refine zN ?_);first|(refine zG M.out 0 ?_;(try simp only [zr_,zm_]))))
  go_ret
  exact ⟨by unfold thingsOk;rw [HZ.out];rfl,M.out.ext⟩
 have b8 : ((n1 : Int) != 8) = false:=by simp;omega
 have H8:=hid h8
 clear h8
 by_cases hc : 0 ≤ x.count_ ∧ x.count_ ≤ 65535
 rotate_left
 ·have HZ : Hid (dec (valsOk x.cells_ = true ∧ mapOk x.map_ = true ∧ (0 ≤ x.count_ ∧ x.count_ ≤ 65535)) = false):=dec_no fun z => hc z.2.2
  have dc : decide (0 ≤ x.count_ ∧ x.count_ ≤ 65535) = false:=by simpa using hc
  clear hc
  go_enter Tryz.func78,Tryz.ntmps78
  go_wp2_with (first|(go_at_call 130;(with_reducible refine (l3Vals_any A0 n0 c0 x.cells_ _ S (HA.out.ext M.out.ext) hn0).mono ?_);rintro e w' ⟨rfl,rfl⟩;rw [hv])|(go_at_call 131;(with_reducible refine (l3Val_any _ _).mono ?_);rintro e w' ⟨rfl,rfl⟩)|((with_reducible refine zN ?_);first|(refine zG M.out 0 ?_;(try simp only [zr_,zm_]))))
  go_ret
  exact ⟨by unfold thingsOk;rw [HZ.out];rfl,M.out.ext⟩
 have dc : decide (0 ≤ x.count_ ∧ x.count_ ≤ 65535) = true:=by simpa using hc
 have HC:=hid hc
 have HV:=hid hv
 clear hc
 go_enter Tryz.func78,Tryz.ntmps78
 go_wp2_with (first|(go_at_call 130;(with_reducible refine (l3Vals_any A0 n0 c0 x.cells_ _ S (HA.out.ext M.out.ext) hn0).mono ?_);rintro e w' ⟨rfl,rfl⟩;rw [hv])|(go_at_call 131;(with_reducible refine (l3Val_any _ _).mono ?_);rintro e w' ⟨rfl,rfl⟩)|((with_reducible refine zN ?_);first|(refine zG M.out 0 ?_;(try simp only [zr_,zm_]))))
 clear b8 dc hv
 go_loopw [3] (fun iv wr => ∃ k : Nat,k ≤ n1 ∧ iv = .int .i64 k ∧ Hid (AllTo inMap x.map_ k) ∧ Hid (Mine w wr [.box w.heap.size 42 #[.slice A0 n0 c0,.slice A1 n1 c1,.int .i64 x.count_]])) (fun iv _ => n1 - (intOf iv).toNat)
 case atStart => exact ⟨0,Nat.zero_le _,rfl,AllTo.zero _ _,M⟩
 case round =>
  clear M
  obtain ⟨k,hk,rfl,HU,M⟩:=hrel
  by_cases hlt : (k : Int) < (n1 : Int)
  rotate_left
  ·have HZ : Hid (dec (valsOk x.cells_ = true ∧ mapOk x.map_ = true ∧ (0 ≤ x.count_ ∧ x.count_ ≤ 65535)) = true):=dec_yes ⟨HV.out,dec_yes ⟨by rw [hl1];exact H8.out,by rw [hl1,← (show k = n1 by omega)];exact HU.out⟩,HC.out⟩
   go_wp2_with (first|((with_reducible refine zN ?_);first|(refine zG M.out 0 ?_;(try simp only [zr_,zm_]))))
   go_ret
   exact ⟨by unfold thingsOk;rw [HZ.out];rfl,M.out.ext⟩
  have HLT : Hid (k < n1):=by show _ < _;omega
  obtain ⟨b,o,rfl⟩:=HB.out.addr (by omega)
  obtain ⟨v,hv,hb,cz⟩:=(HB.out.ext M.out.ext).int_cell (k:=k) HLT.out
  have HX:=hid hv
  clear hv
  by_cases h0 : 0 ≤ v ∧ v ≤ 65536
  rotate_left
  ·have HZ : Hid (dec (valsOk x.cells_ = true ∧ mapOk x.map_ = true ∧ (0 ≤ x.count_ ∧ x.count_ ≤ 65535)) = false):=dec_no fun z => h0 ((dec_true z.2.1).2 k (by rw [hl1];exact HLT.out) v HX.out)
   have d0 : decide (0 ≤ v ∧ v ≤ 65536) = false:=by simpa using h0
   clear h0
   go_wp2_with (first|(go_at_call 132;(with_reducible refine (l1In_any _ _ _ _).mono ?_);rintro e w' ⟨rfl,rfl⟩)|((with_reducible refine zN ?_);first|(refine zG M.out 0 ?_;(try simp only [zr_,zm_]))))
   go_ret
   exact ⟨by unfold thingsOk;rw [HZ.out];rfl,M.out.ext⟩
  have d0 : decide (0 ≤ v ∧ v ≤ 65536) = true:=by simpa using h0
  have H0:=hid h0
  clear h0
  go_wp2_with (first|(go_at_call 132;(with_reducible refine (l1In_any _ _ _ _).mono ?_);rintro e w' ⟨rfl,rfl⟩)|((with_reducible refine zN ?_);first|(refine zG M.out 0 ?_;(try simp only [zr_,zm_]))))
  go_roundw
  case rel => exact ⟨k + 1,HLT.out,by go_num,hid (HU.out.succ HX.out H0.out),M⟩
  case measure => have:=HLT.out;simp [intOf];omega

end Go.Proofs.YtoegjiigaoanbaaGreat
namespace Go.Proofs.YtoegjiigaoanbaaGreat
open Go.RowKit Go.Deep
set_option linter.unnecessarySimpa false
set_option maxHeartbeats 400000000
open Go.Lib (hid)
set_option linter.unusedSimpArgs false
set_option linter.unusedVariables false

def gi (l : List Int) (x : Int) : Int:=l.getD x.toNat 0
theorem gi_at {l : List Int} {x : Int} (h0 : 0 ≤ x) (h : x < l.length) : l[x.toNat]? = some (gi l x):=by
 unfold gi
 rw [List.getD_eq_getElem?_getD,List.getElem?_eq_getElem (show x.toNat < l.length by omega)]
 rfl
noncomputable def regsOk (l : List Int) : Bool:=dec (l.length = 4 ∧ AllTo isVal l l.length)
theorem regsOk_len {l : List Int} (h : regsOk l = true) : l.length = 4:=(dec_true h).1
theorem allTo_gi {p : Nat → Int → Prop} {l : List Int} {x : Int} (h : AllTo p l l.length) (h0 : 0 ≤ x) (hx : x < l.length) : p x.toNat (gi l x):=h _ (by omega) _ (gi_at h0 hx)
theorem allTo_set {p : Nat → Int → Prop} (hp : ∀ i j x,p i x → p j x) {l : List Int} {k : Nat} {v : Int} (h : AllTo p l l.length) (hv : p 0 v) : AllTo p (l.set k v) (l.set k v).length:=by
 intro i hi a ha
 rw [List.length_set] at hi
 rw [List.getElem?_set] at ha
 split at ha
 ·split at ha
  ·injection ha with ha;subst ha;exact hp _ _ _ hv
  ·cases ha
 ·exact h i hi a ha
theorem isVal_any (i j : Nat) (x : Int) (h : isVal i x) : isVal j x:=h
theorem inMap_any (i j : Nat) (x : Int) (h : inMap i x) : inMap j x:=h
theorem regs_set {l : List Int} (h : regsOk l = true) (k : Nat) {v : Int} (hv : 0 ≤ v ∧ v ≤ 65535) : regsOk (l.set k v) = true :=
 dec_yes ⟨by rw [List.length_set];exact (dec_true h).1,allTo_set isVal_any (dec_true h).2 hv⟩
theorem vals_set {l : List Int} (h : valsOk l = true) (k : Nat) {v : Int} (hv : 0 ≤ v ∧ v ≤ 65535) : valsOk (l.set k v) = true :=
 dec_yes ⟨by rw [List.length_set];exact (dec_true h).1,allTo_set isVal_any (dec_true h).2 hv⟩
theorem map_set {l : List Int} (h : mapOk l = true) (k : Nat) {v : Int} (hv : 0 ≤ v ∧ v ≤ 65536) : mapOk (l.set k v) = true :=
 dec_yes ⟨by rw [List.length_set];exact (dec_true h).1,allTo_set inMap_any (dec_true h).2 hv⟩
theorem regs_gi {l : List Int} (h : regsOk l = true) {x : Int} (hx : isReg x) : 0 ≤ gi l x ∧ gi l x ≤ 65535 :=
 allTo_gi (dec_true h).2 hx.1 (by rw [(dec_true h).1];have:=hx.2;omega)
theorem vals_gi {l : List Int} (h : valsOk l = true) {x : Int} (hx : is7 x) : 0 ≤ gi l x ∧ gi l x ≤ 65535 :=
 allTo_gi (dec_true h).2 hx.1 (by rw [(dec_true h).1];have:=hx.2;omega)
theorem map_gi {l : List Int} (h : mapOk l = true) {x : Int} (hx : is7 x) : 0 ≤ gi l x ∧ gi l x ≤ 65536 :=
 allTo_gi (dec_true h).2 hx.1 (by rw [(dec_true h).1];have:=hx.2;omega)
theorem th_parts {t : Things} (h : thingsOk t = true) : valsOk t.cells_ = true ∧ mapOk t.map_ = true ∧ (0 ≤ t.count_ ∧ t.count_ ≤ 65535):=dec_true h
theorem th_mk {c m : List Int} {n : Int} (h1 : valsOk c = true) (h2 : mapOk m = true) (h3 : 0 ≤ n ∧ n ≤ 65535) : thingsOk ⟨c,m,n⟩ = true:=dec_yes ⟨h1,h2,h3⟩

structure WM where
 at_ : Nat
 regs : List Int
 th : Things
structure WS where
 pc : Nat
 regs : List Int
 th : Things
 ms : List WM
def calcF (o : GOp) (r : List Int) : List Int :=
 r.set o.a_.toNat (if o.kind_ = 1 then o.b_ else if o.kind_ = 2 then (gi r o.b_ + gi r o.c_) % 65536 else if o.kind_ = 3 then (gi r o.b_ - gi r o.c_ + 65536) % 65536 else if gi r o.b_ < gi r o.c_ then 1 else 0)
def opA (l : List GOp) (k : Nat) : Nat:=match l[k]? with|some o => o.a_.toNat|none => 0
theorem opA_is {l : List GOp} {k : Nat} {o : GOp} (h : l[k]? = some o) : opA l k = o.a_.toNat:=by unfold opA;rw [h]
abbrev FF:=List Int → List Int → List Int × List Int
noncomputable def stp (l : List GOp) (F : FF) (o : GOp) (s : WS) : Option WS :=
 if o.kind_ = 5 then some ⟨s.pc + 1,s.regs.set o.a_.toNat (gi s.th.cells_ o.b_),s.th,s.ms⟩
 else if o.kind_ = 6 then some ⟨s.pc + 1,s.regs,⟨s.th.cells_.set o.a_.toNat (gi s.regs o.b_),s.th.map_,s.th.count_⟩,s.ms⟩
 else if o.kind_ = 7 then some ⟨s.pc + 1 + (if gi s.regs o.a_ = 0 then o.b_.toNat else 0),s.regs,s.th,s.ms⟩
 else if o.kind_ = 8 then some ⟨s.pc + 1,s.regs,s.th,s.ms ++ [⟨s.pc,s.regs,s.th⟩]⟩
 else if o.kind_ = 9 then match s.ms.getLast? with|some m => some ⟨s.pc + 1,s.regs.set (opA l m.at_) 1,s.th,s.ms.dropLast⟩|none => none
 else if o.kind_ = 10 then match s.ms.getLast? with|some m => some ⟨endOf l m.at_ + 1,m.regs.set (opA l m.at_) 0,m.th,s.ms.dropLast⟩|none => none
 else if o.kind_ = 11 then some ⟨s.pc + 1,(F s.regs s.th.cells_).1,⟨(F s.regs s.th.cells_).2,s.th.map_,s.th.count_⟩,s.ms⟩
 else if o.kind_ = 12 then some ⟨s.pc + 1,s.regs.set o.c_.toNat (gi s.th.map_ o.a_ % 65536),⟨s.th.cells_,s.th.map_.set o.a_.toNat (gi s.regs o.b_ + 1),s.th.count_⟩,s.ms⟩
 else if o.kind_ = 13 then some ⟨s.pc + 1,s.regs.set o.a_.toNat (gi s.th.map_ o.b_ % 65536),s.th,s.ms⟩
 else if o.kind_ = 14 then some ⟨s.pc + 1,s.regs.set o.b_.toNat (gi s.th.map_ o.a_ % 65536),⟨s.th.cells_,s.th.map_.set o.a_.toNat 0,s.th.count_⟩,s.ms⟩
 else if o.kind_ = 15 then some ⟨s.pc + 1,s.regs,⟨s.th.cells_,s.th.map_,(s.th.count_ + gi s.regs o.a_) % 65536⟩,s.ms⟩
 else if o.kind_ = 16 then some ⟨s.pc + 1,s.regs.set o.a_.toNat s.th.count_,s.th,s.ms⟩
 else some ⟨s.pc + 1,calcF o s.regs,s.th,s.ms⟩
theorem stp5 {l : List GOp} {F : FF} {o : GOp} {s : WS} (h : o.kind_ = 5) : stp l F o s = some ⟨s.pc + 1,s.regs.set o.a_.toNat (gi s.th.cells_ o.b_),s.th,s.ms⟩:=by
 unfold stp
 rw [if_pos h]
theorem stp6 {l : List GOp} {F : FF} {o : GOp} {s : WS} (h : o.kind_ = 6) : stp l F o s = some ⟨s.pc + 1,s.regs,⟨s.th.cells_.set o.a_.toNat (gi s.regs o.b_),s.th.map_,s.th.count_⟩,s.ms⟩:=by
 unfold stp
 rw [if_neg (by omega),if_pos h]
theorem stp7 {l : List GOp} {F : FF} {o : GOp} {s : WS} (h : o.kind_ = 7) : stp l F o s = some ⟨s.pc + 1 + (if gi s.regs o.a_ = 0 then o.b_.toNat else 0),s.regs,s.th,s.ms⟩:=by
 unfold stp
 rw [if_neg (by omega),if_neg (by omega),if_pos h]
theorem stp8 {l : List GOp} {F : FF} {o : GOp} {s : WS} (h : o.kind_ = 8) : stp l F o s = some ⟨s.pc + 1,s.regs,s.th,s.ms ++ [⟨s.pc,s.regs,s.th⟩]⟩:=by
 unfold stp
 rw [if_neg (by omega),if_neg (by omega),if_neg (by omega),if_pos h]
theorem stp9 {l : List GOp} {F : FF} {o : GOp} {s : WS} (h : o.kind_ = 9) : stp l F o s = (match s.ms.getLast? with|some m => some ⟨s.pc + 1,s.regs.set (opA l m.at_) 1,s.th,s.ms.dropLast⟩|none => none):=by
 unfold stp
 rw [if_neg (by omega),if_neg (by omega),if_neg (by omega),if_neg (by omega),if_pos h]
theorem stp10 {l : List GOp} {F : FF} {o : GOp} {s : WS} (h : o.kind_ = 10) : stp l F o s = (match s.ms.getLast? with|some m => some ⟨endOf l m.at_ + 1,m.regs.set (opA l m.at_) 0,m.th,s.ms.dropLast⟩|none => none):=by
 unfold stp
 rw [if_neg (by omega),if_neg (by omega),if_neg (by omega),if_neg (by omega),if_neg (by omega),if_pos h]
theorem stp11 {l : List GOp} {F : FF} {o : GOp} {s : WS} (h : o.kind_ = 11) : stp l F o s = some ⟨s.pc + 1,(F s.regs s.th.cells_).1,⟨(F s.regs s.th.cells_).2,s.th.map_,s.th.count_⟩,s.ms⟩:=by
 unfold stp
 rw [if_neg (by omega),if_neg (by omega),if_neg (by omega),if_neg (by omega),if_neg (by omega),if_neg (by omega),if_pos h]
theorem stp12 {l : List GOp} {F : FF} {o : GOp} {s : WS} (h : o.kind_ = 12) : stp l F o s = some ⟨s.pc + 1,s.regs.set o.c_.toNat (gi s.th.map_ o.a_ % 65536),⟨s.th.cells_,s.th.map_.set o.a_.toNat (gi s.regs o.b_ + 1),s.th.count_⟩,s.ms⟩:=by
 unfold stp
 rw [if_neg (by omega),if_neg (by omega),if_neg (by omega),if_neg (by omega),if_neg (by omega),if_neg (by omega),if_neg (by omega),if_pos h]
theorem stp13 {l : List GOp} {F : FF} {o : GOp} {s : WS} (h : o.kind_ = 13) : stp l F o s = some ⟨s.pc + 1,s.regs.set o.a_.toNat (gi s.th.map_ o.b_ % 65536),s.th,s.ms⟩:=by
 unfold stp
 rw [if_neg (by omega),if_neg (by omega),if_neg (by omega),if_neg (by omega),if_neg (by omega),if_neg (by omega),if_neg (by omega),if_neg (by omega),if_pos h]
theorem stp14 {l : List GOp} {F : FF} {o : GOp} {s : WS} (h : o.kind_ = 14) : stp l F o s = some ⟨s.pc + 1,s.regs.set o.b_.toNat (gi s.th.map_ o.a_ % 65536),⟨s.th.cells_,s.th.map_.set o.a_.toNat 0,s.th.count_⟩,s.ms⟩:=by
 unfold stp
 rw [if_neg (by omega),if_neg (by omega),if_neg (by omega),if_neg (by omega),if_neg (by omega),if_neg (by omega),if_neg (by omega),if_neg (by omega),if_neg (by omega),if_pos h]
theorem stp15 {l : List GOp} {F : FF} {o : GOp} {s : WS} (h : o.kind_ = 15) : stp l F o s = some ⟨s.pc + 1,s.regs,⟨s.th.cells_,s.th.map_,(s.th.count_ + gi s.regs o.a_) % 65536⟩,s.ms⟩:=by
 unfold stp
 rw [if_neg (by omega),if_neg (by omega),if_neg (by omega),if_neg (by omega),if_neg (by omega),if_neg (by omega),if_neg (by omega),if_neg (by omega),if_neg (by omega),if_neg (by omega),if_pos h]
theorem stp16 {l : List GOp} {F : FF} {o : GOp} {s : WS} (h : o.kind_ = 16) : stp l F o s = some ⟨s.pc + 1,s.regs.set o.a_.toNat s.th.count_,s.th,s.ms⟩:=by
 unfold stp
 rw [if_neg (by omega),if_neg (by omega),if_neg (by omega),if_neg (by omega),if_neg (by omega),if_neg (by omega),if_neg (by omega),if_neg (by omega),if_neg (by omega),if_neg (by omega),if_neg (by omega),if_pos h]
theorem stp1 {l : List GOp} {F : FF} {o : GOp} {s : WS} (h : o.kind_ ≤ 4) : stp l F o s = some ⟨s.pc + 1,calcF o s.regs,s.th,s.ms⟩:=by
 unfold stp
 rw [if_neg (by omega),if_neg (by omega),if_neg (by omega),if_neg (by omega),if_neg (by omega),if_neg (by omega),if_neg (by omega),if_neg (by omega),if_neg (by omega),if_neg (by omega),if_neg (by omega),if_neg (by omega)]
inductive Runs (l : List GOp) (F : FF) (t0 : Things) : WS → Run → Prop
 | done {s : WS} (h : l.length ≤ s.pc) : Runs l F t0 s ⟨1,s.regs,s.th⟩
 | abort {s : WS} {o : GOp} (h : l[s.pc]? = some o) (h2 : stp l F o s = none) : Runs l F t0 s ⟨2,s.regs,t0⟩
 | step {s s' : WS} {o : GOp} {r : Run} (h : l[s.pc]? = some o) (h2 : stp l F o s = some s') (h3 : Runs l F t0 s' r) : Runs l F t0 s r
theorem Runs.uniq {l : List GOp} {F : FF} {t0 : Things} {s : WS} {r1 r2 : Run} (h1 : Runs l F t0 s r1) (h2 : Runs l F t0 s r2) : r1 = r2:=by
 induction h1 generalizing r2 with
 | done h =>
  cases h2 with
  | done => rfl
  | abort k => have:=(List.getElem?_eq_some_iff.1 k).1;omega
  | step k => have:=(List.getElem?_eq_some_iff.1 k).1;omega
 | abort h h2' =>
  cases h2 with
  | done k => have:=(List.getElem?_eq_some_iff.1 h).1;omega
  | abort k => rfl
  | step k k2 => rw [h] at k;injection k with k;subst k;rw [h2'] at k2;cases k2
 | step h h2' h3 ih =>
  cases h2 with
  | done k => have:=(List.getElem?_eq_some_iff.1 h).1;omega
  | abort k k2 => rw [h] at k;injection k with k;subst k;rw [h2'] at k2;cases k2
  | step k k2 k3 =>
   rw [h] at k;injection k with k;subst k
   rw [h2'] at k2;injection k2 with k2;subst k2
   exact ih k3
structure WOk (s : WS) : Prop where
 regs : regsOk s.regs = true
 th : thingsOk s.th = true
 ms : ∀ m ∈ s.ms,regsOk m.regs = true ∧ thingsOk m.th = true
structure ROk (r : Run) : Prop where
 regs : regsOk r.regs_ = true
 th : thingsOk r.things_ = true
 out : r.out_ = 1 ∨ r.out_ = 2
def FOk (F : FF) : Prop:=∀ r c,regsOk r = true → valsOk c = true → regsOk (F r c).1 = true ∧ valsOk (F r c).2 = true
theorem calc_ok {o : GOp} {r : List Int} (ho : opOk o) (hr : regsOk r = true) : regsOk (calcF o r) = true:=by
 refine regs_set hr _ ?_
 split
 ·unfold opOk at ho;unfold isV at ho;omega
 ·split
  ·omega
  ·split
   ·omega
   ·split <;> omega
theorem getLast_mem {α : Type} {l : List α} {a : α} (h : l.getLast? = some a) : a ∈ l:=List.mem_of_getLast? h
theorem stp_ok {l : List GOp} {F : FF} {o : GOp} {s s' : WS} (hF : FOk F) (ho : opOk o) (h : WOk s) (hs : stp l F o s = some s') : WOk s':=by
 have hc:=th_parts h.th
 have hk:=opOk_kind ho
 have ho2:=ho
 unfold opOk at ho2
 by_cases k5 : o.kind_ = 5
 ·rw [stp5 k5] at hs;injection hs with hs;subst hs
  exact ⟨regs_set h.regs _ (vals_gi hc.1 (ok5 ho k5).2.1),h.th,h.ms⟩
 by_cases k6 : o.kind_ = 6
 ·rw [stp6 k6] at hs;injection hs with hs;subst hs
  exact ⟨h.regs,th_mk (vals_set hc.1 _ (regs_gi h.regs (ok6 ho k6).2.1)) hc.2.1 hc.2.2,h.ms⟩
 by_cases k7 : o.kind_ = 7
 ·rw [stp7 k7] at hs;injection hs with hs;subst hs
  exact ⟨h.regs,h.th,h.ms⟩
 by_cases k8 : o.kind_ = 8
 ·rw [stp8 k8] at hs;injection hs with hs;subst hs
  refine ⟨h.regs,h.th,fun m hm => ?_⟩
  rcases List.mem_append.1 hm with q|q
  ·exact h.ms m q
  ·simp only [List.mem_cons,List.not_mem_nil,or_false] at q;subst q;exact ⟨h.regs,h.th⟩
 by_cases k9 : o.kind_ = 9
 ·rw [stp9 k9] at hs
  cases e : s.ms.getLast? with
  | none => rw [e] at hs;cases hs
  | some m =>
   rw [e] at hs;injection hs with hs;subst hs
   exact ⟨regs_set h.regs _ (by omega),h.th,fun m hm => h.ms m ((List.dropLast_sublist _).subset hm)⟩
 by_cases k10 : o.kind_ = 10
 ·rw [stp10 k10] at hs
  cases e : s.ms.getLast? with
  | none => rw [e] at hs;cases hs
  | some m =>
   rw [e] at hs;injection hs with hs;subst hs
   have:=h.ms m (getLast_mem e)
   exact ⟨regs_set this.1 _ (by omega),this.2,fun m hm => h.ms m ((List.dropLast_sublist _).subset hm)⟩
 by_cases k11 : o.kind_ = 11
 ·rw [stp11 k11] at hs;injection hs with hs;subst hs
  have:=hF _ _ h.regs hc.1
  exact ⟨this.1,th_mk this.2 hc.2.1 hc.2.2,h.ms⟩
 by_cases k12 : o.kind_ = 12
 ·rw [stp12 k12] at hs;injection hs with hs;subst hs
  refine ⟨regs_set h.regs _ (by omega),th_mk hc.1 (map_set hc.2.1 _ ?_) hc.2.2,h.ms⟩
  have:=regs_gi h.regs (ok12 ho k12).2.1
  omega
 by_cases k13 : o.kind_ = 13
 ·rw [stp13 k13] at hs;injection hs with hs;subst hs
  exact ⟨regs_set h.regs _ (by omega),h.th,h.ms⟩
 by_cases k14 : o.kind_ = 14
 ·rw [stp14 k14] at hs;injection hs with hs;subst hs
  exact ⟨regs_set h.regs _ (by omega),th_mk hc.1 (map_set hc.2.1 _ (by omega)) hc.2.2,h.ms⟩
 by_cases k15 : o.kind_ = 15
 ·rw [stp15 k15] at hs;injection hs with hs;subst hs
  exact ⟨h.regs,th_mk hc.1 hc.2.1 (by omega),h.ms⟩
 by_cases k16 : o.kind_ = 16
 ·rw [stp16 k16] at hs;injection hs with hs;subst hs
  exact ⟨regs_set h.regs _ hc.2.2,h.th,h.ms⟩
 ·rw [stp1 (by omega)] at hs;injection hs with hs;subst hs
  exact ⟨calc_ok ho h.regs,h.th,h.ms⟩
theorem Runs.ok {l : List GOp} {F : FF} {t0 : Things} {s : WS} {r : Run} (hc : codeOk l = true) (hF : FOk F) (ht : thingsOk t0 = true) (h : Runs l F t0 s r) (k : WOk s) : ROk r:=by
 induction h with
 | done h => exact ⟨k.regs,k.th,.inl rfl⟩
 | abort h h2 => exact ⟨k.regs,ht,.inr rfl⟩
 | step h h2 h3 ih => exact ih (stp_ok hF (codeOk_at hc h).1 k h2)
/-! ### Code without forks -/
def F0 : FF:=fun r c => (r,c)
theorem F0_ok : FOk F0:=fun _ _ h k => ⟨h,k⟩
noncomputable def run0 (l : List GOp) (regs : List Int) (t : Things) : Run:=@dite _ (∃ r,Runs l F0 t ⟨0,regs,t,[]⟩ r) (Classical.propDecidable _) (fun h => h.choose) (fun _ => ⟨1,regs,t⟩)
theorem run0_is {l : List GOp} {regs : List Int} {t : Things} {r : Run} (h : Runs l F0 t ⟨0,regs,t,[]⟩ r) : run0 l regs t = r:=by
 unfold run0
 rw [dif_pos ⟨r,h⟩]
 exact Runs.uniq (Exists.choose_spec (⟨r,h⟩ : ∃ r,Runs l F0 t ⟨0,regs,t,[]⟩ r)) h
theorem run0_ok {l : List GOp} {regs : List Int} {t : Things} (hc : codeOk l = true) (hr : regsOk regs = true) (ht : thingsOk t = true) : ROk (run0 l regs t):=by
 unfold run0
 split
 ·next h => exact Runs.ok hc F0_ok ht h.choose_spec ⟨hr,ht,fun m hm => by cases hm⟩
 ·exact ⟨hr,ht,.inl rfl⟩
def thW (m : List Int) (n : Int) (t : Things) : Things:=⟨t.cells_,m,n⟩
def wsW (m : List Int) (n : Int) (s : WS) : WS:=⟨s.pc,s.regs,thW m n s.th,s.ms.map fun q => ⟨q.at_,q.regs,thW m n q.th⟩⟩
theorem stp_w {l : List GOp} {F : FF} {o : GOp} {s : WS} (m : List Int) (n : Int) (hk : opOk o) (h : ¬ (12 ≤ o.kind_ ∧ o.kind_ ≤ 16)) : stp l F o (wsW m n s) = (stp l F o s).map (wsW m n):=by
 have hl : (wsW m n s).ms.getLast? = s.ms.getLast?.map fun q => (⟨q.at_,q.regs,thW m n q.th⟩ : WM):=by simp [wsW]
 have hd : (wsW m n s).ms.dropLast = s.ms.dropLast.map fun q => (⟨q.at_,q.regs,thW m n q.th⟩ : WM):=by simp [wsW]
 have hr:=opOk_kind hk
 by_cases k5 : o.kind_ = 5
 ·rw [stp5 k5,stp5 k5];rfl
 by_cases k6 : o.kind_ = 6
 ·rw [stp6 k6,stp6 k6];rfl
 by_cases k7 : o.kind_ = 7
 ·rw [stp7 k7,stp7 k7];rfl
 by_cases k8 : o.kind_ = 8
 ·rw [stp8 k8,stp8 k8];simp [wsW]
 by_cases k9 : o.kind_ = 9
 ·rw [stp9 k9,stp9 k9,hl,hd]
  cases e : s.ms.getLast? <;> rfl
 by_cases k10 : o.kind_ = 10
 ·rw [stp10 k10,stp10 k10,hl,hd]
  cases e : s.ms.getLast? <;> rfl
 by_cases k11 : o.kind_ = 11
 ·rw [stp11 k11,stp11 k11];rfl
 rw [stp1 (by omega),stp1 (by omega)]
 rfl
def runW (m : List Int) (n : Int) (r : Run) : Run:=⟨r.out_,r.regs_,thW m n r.things_⟩
theorem Runs.w {l : List GOp} {F : FF} {t0 : Things} {s : WS} {r : Run} (m : List Int) (n : Int) (hk : ∀ (i : Nat) (o : GOp),l[i]? = some o → opOk o ∧ ¬ (12 ≤ o.kind_ ∧ o.kind_ ≤ 16)) (h : Runs l F t0 s r) : Runs l F (thW m n t0) (wsW m n s) (runW m n r):=by
 induction h with
 | done h => exact Runs.done h
 | abort h h2 => exact Runs.abort (s:=wsW m n _) h (by rw [stp_w m n (hk _ _ h).1 (hk _ _ h).2,h2];rfl)
 | step h h2 h3 ih => exact Runs.step (s:=wsW m n _) h (by rw [stp_w m n (hk _ _ h).1 (hk _ _ h).2,h2];rfl) ih
/-! ### Kids -/
def zeros8 : List Int:=List.replicate 8 0
theorem zeros_ok : mapOk zeros8 = true:=dec_yes ⟨rfl,fun i hi a ha => by
 have:=List.eq_of_mem_replicate (List.mem_of_getElem? ha)
 subst this;exact ⟨by omega,by omega⟩⟩
noncomputable def kidRun (kids : List Kid) (regs c : List Int) (k : Int) : Run:=run0 (kids.getD k.toNat default).code_ regs ⟨c,zeros8,0⟩
def kidVal (r : Run) : Int:=if r.out_ = 1 then gi r.regs_ 0 else 0
noncomputable def forkStep (kids : List Kid) (regs : List Int) (p : List Int × List Int) (k : Int) : List Int × List Int :=
 (p.1.set k.toNat (kidVal (kidRun kids regs p.2 k)),(kidRun kids regs p.2 k).things_.cells_)
noncomputable def forkF (kids : List Kid) (lo : List Int) : FF:=fun regs c => lo.foldl (forkStep kids regs) (regs,c)
def KidsOk (kids : List Kid) : Prop:=∀ k ∈ kids,kidOk k.code_ = true
theorem kidVal_ok {r : Run} (h : ROk r) : 0 ≤ kidVal r ∧ kidVal r ≤ 65535:=by
 unfold kidVal;split
 ·exact regs_gi h.regs ⟨by omega,by omega⟩
 ·omega
theorem kid_in {kids : List Kid} (h : KidsOk kids) {k : Int} (h0 : 0 ≤ k) (h1 : k < kids.length) : kidOk (kids.getD k.toNat default).code_ = true:=by
 rw [List.getD_eq_getElem?_getD,List.getElem?_eq_getElem (show k.toNat < kids.length by omega)]
 exact h _ (List.getElem_mem _)
theorem kidRun_ok {kids : List Kid} (h : KidsOk kids) {regs c : List Int} (hr : regsOk regs = true) (hc : valsOk c = true) {k : Int} (h0 : 0 ≤ k) (h1 : k < kids.length) : ROk (kidRun kids regs c k) :=
 run0_ok (dec_true (kid_in h h0 h1)).1 hr (th_mk hc zeros_ok ⟨by omega,by omega⟩)
theorem fork_take_ok {kids : List Kid} (hk : KidsOk kids) {regs c : List Int} (hr : regsOk regs = true) (hc : valsOk c = true) : ∀ (lo : List Int) (p : List Int × List Int),(∀ x ∈ lo,0 ≤ x ∧ x < kids.length) → regsOk p.1 = true → valsOk p.2 = true →
  regsOk (lo.foldl (forkStep kids regs) p).1 = true ∧ valsOk (lo.foldl (forkStep kids regs) p).2 = true
 | [],p,_,h1,h2 => ⟨h1,h2⟩
 | x::lo,p,hx,h1,h2 => by
  have h0:=hx x (List.mem_cons_self ..)
  have hrk:=kidRun_ok hk hr h2 h0.1 h0.2
  exact fork_take_ok hk hr hc lo _ (fun y hy => hx y (List.mem_cons_of_mem _ hy)) (regs_set h1 _ (kidVal_ok hrk)) (th_parts hrk.th).1
theorem fork_ok {kids : List Kid} (hk : KidsOk kids) {lo : List Int} (hx : ∀ x ∈ lo,0 ≤ x ∧ x < kids.length) : FOk (forkF kids lo):=fun r c hr hc => fork_take_ok hk hr hc lo (r,c) hx hr hc
theorem fork_snoc (kids : List Kid) (lo : List Int) (regs c : List Int) (k : Int) : forkF kids (lo ++ [k]) regs c = forkStep kids regs (forkF kids lo regs c) k:=by
 unfold forkF;rw [List.foldl_append];rfl
theorem fold_len (kids : List Kid) (regs : List Int) : ∀ (lo : List Int) (p : List Int × List Int),(lo.foldl (forkStep kids regs) p).1.length = p.1.length
 | [],_ => rfl
 | k::lo,p => by rw [List.foldl_cons,fold_len kids regs lo];simp only [forkStep,List.length_set]
theorem fork_len (kids : List Kid) (regs c : List Int) (lo : List Int) : (forkF kids lo regs c).1.length = regs.length:=fold_len kids regs lo (regs,c)
theorem fold_out (kids : List Kid) (regs : List Int) : ∀ (lo : List Int) (p : List Int × List Int) (j : Nat),(∀ x ∈ lo,x.toNat ≠ j) → (lo.foldl (forkStep kids regs) p).1[j]? = p.1[j]?
 | [],_,_,_ => rfl
 | k::lo,p,j,h => by
  rw [List.foldl_cons,fold_out kids regs lo _ j fun x hx => h x (List.mem_cons_of_mem _ hx)]
  simp only [forkStep]
  rw [List.getElem?_set_ne (h k (List.mem_cons_self ..))]
theorem fork_out (kids : List Kid) (regs c : List Int) (lo : List Int) (j : Nat) (h : ∀ x ∈ lo,x.toNat ≠ j) : (forkF kids lo regs c).1[j]? = regs[j]?:=fold_out kids regs lo (regs,c) j h
def ResAt (kids : List Kid) (lo : List Int) (regs c : List Int) (res : List Int) : Prop:=res.length = kids.length ∧ ∀ j : Nat,j < kids.length → res[j]? = some (if (j : Int) ∈ lo then (forkF kids lo regs c).1.getD j 0 else 0)
theorem ResAt.nil (kids : List Kid) (regs c : List Int) : ResAt kids [] regs c (List.replicate kids.length 0) :=
 ⟨by simp,fun j hj => by simp [hj]⟩
theorem ResAt.next {kids : List Kid} {lo regs c res : List Int} {k : Int} (h : ResAt kids lo regs c res) (h0 : 0 ≤ k) (hk : k < kids.length) (hl : kids.length ≤ regs.length) (hn : k ∉ lo) :
  ResAt kids (lo ++ [k]) regs c (if (kidRun kids regs (forkF kids lo regs c).2 k).out_ = 1 then res.set k.toNat (gi (kidRun kids regs (forkF kids lo regs c).2 k).regs_ 0) else res):=by
 have e1 : (forkF kids (lo ++ [k]) regs c).1 = (forkF kids lo regs c).1.set k.toNat (kidVal (kidRun kids regs (forkF kids lo regs c).2 k)):=by rw [fork_snoc];rfl
 have hfl:=fork_len kids regs c lo
 have e2 : ∀ v : Int,v = kidVal (kidRun kids regs (forkF kids lo regs c).2 k) → ResAt kids (lo ++ [k]) regs c (res.set k.toNat v):=by
  intro v hv
  refine ⟨by rw [List.length_set];exact h.1,fun j hj => ?_⟩
  rw [e1]
  by_cases q : k.toNat = j
  ·subst q
   rw [List.getElem?_set_self (by rw [h.1];exact hj),if_pos (by simp;omega),List.getD_eq_getElem?_getD,List.getElem?_set_self (by omega),hv]
   rfl
  ·rw [List.getElem?_set_ne q,List.getD_eq_getElem?_getD,List.getElem?_set_ne q,h.2 j hj]
   have hm : ((j : Int) ∈ lo ++ [k]) ↔ (j : Int) ∈ lo:=by
    simp only [List.mem_append,List.mem_cons,List.not_mem_nil,or_false]
    exact ⟨fun z => z.elim id fun z => absurd z (by omega),.inl⟩
   simp only [hm,List.getD_eq_getElem?_getD]
 split
 ·next ho => exact e2 _ (by unfold kidVal;rw [if_pos ho])
 ·next ho =>
  have hv : (0 : Int) = kidVal (kidRun kids regs (forkF kids lo regs c).2 k):=by unfold kidVal;rw [if_neg ho]
  have h3:=e2 0 hv
  have h4 : res[k.toNat]? = some 0:=by rw [h.2 k.toNat (by omega),if_neg (by rw [Int.toNat_of_nonneg h0];exact hn)]
  have h5 : res.set k.toNat 0 = res:=by
   refine List.ext_getElem? fun j => ?_
   by_cases q : k.toNat = j
   ·subst q;rw [List.getElem?_set_self (by rw [h.1];omega),h4]
   ·rw [List.getElem?_set_ne q]
  rw [h5] at h3
  exact h3
def overTo (regs res : List Int) (i : Nat) : List Int:=res.take i ++ regs.drop i
theorem over_zero (regs res : List Int) : overTo regs res 0 = regs:=by simp [overTo]
theorem over_next {regs res : List Int} {i : Nat} {v : Int} (hv : res[i]? = some v) (hr : i < regs.length) : (overTo regs res i).set i v = overTo regs res (i + 1):=by
 have hi:=(List.getElem?_eq_some_iff.1 hv).1
 unfold overTo
 rw [List.set_append,if_neg (by simp;omega)]
 rw [show i - (res.take i).length = 0 by simp;omega]
 rw [List.drop_eq_getElem_cons hr,List.set_cons_zero,List.take_add_one,hv]
 simp
theorem over_all {kids : List Kid} {lo regs c res : List Int} (h : ResAt kids lo regs c res) (hl : kids.length ≤ regs.length) (hx : ∀ x ∈ lo,0 ≤ x ∧ x < kids.length) (ha : ∀ j : Nat,j < kids.length → (j : Int) ∈ lo) : overTo regs res kids.length = (forkF kids lo regs c).1:=by
 refine List.ext_getElem? fun j => ?_
 unfold overTo
 rw [List.getElem?_append]
 have hlen : (res.take kids.length).length = kids.length:=by simp [h.1]
 rw [hlen]
 have hfl:=fork_len kids regs c lo
 split
 ·next q =>
  rw [List.getElem?_take,if_pos q,h.2 j q,if_pos (ha j q),List.getD_eq_getElem?_getD,List.getElem?_eq_getElem (by omega)]
  rfl
 ·next q =>
  rw [List.getElem?_drop,show kids.length + (j - kids.length) = j by omega,fork_out]
  intro x hx2 e
  have:=hx x hx2
  omega
/-! ### Orders -/
def ordP (n : Nat) (lo : List Int) (i : Nat) (k : Int) : Prop:=(0 ≤ k ∧ k < n) ∧ k ∉ lo.take i
noncomputable def ordOk (n : Nat) (lo : List Int) : Bool:=dec (AllTo (ordP n lo) lo lo.length)
def missing (n : Nat) (lo : List Int) : List Int:=((List.range n).map fun k : Nat => (k : Int)).filter fun k => !lo.contains k
def fullOrd (n : Nat) (lo : List Int) : List Int:=lo ++ missing n lo
theorem miss_mem {n : Nat} {lo : List Int} {k : Int} : k ∈ missing n lo ↔ (0 ≤ k ∧ k < n) ∧ k ∉ lo:=by
 unfold missing
 simp only [List.mem_filter,List.mem_map,List.mem_range,Bool.not_eq_eq_eq_not,Bool.not_true,List.contains_eq_mem,decide_eq_false_iff_not]
 constructor
 ·rintro ⟨⟨a,h,rfl⟩,h2⟩;exact ⟨⟨by omega,by omega⟩,h2⟩
 ·rintro ⟨⟨h0,h1⟩,h2⟩;exact ⟨⟨k.toNat,by omega,by omega⟩,h2⟩
theorem full_in {n : Nat} {lo : List Int} (h : ordOk n lo = true) : ∀ x ∈ fullOrd n lo,0 ≤ x ∧ x < n:=by
 intro x hx
 rcases List.mem_append.1 hx with q|q
 ·obtain ⟨i,hi⟩:=List.mem_iff_getElem?.1 q
  exact (dec_true h i (List.getElem?_eq_some_iff.1 hi).1 x hi).1
 ·exact (miss_mem.1 q).1
theorem full_all {n : Nat} {lo : List Int} (j : Nat) (hj : j < n) : (j : Int) ∈ fullOrd n lo:=by
 by_cases q : (j : Int) ∈ lo
 ·exact List.mem_append.2 (.inl q)
 ·exact List.mem_append.2 (.inr (miss_mem.2 ⟨⟨by omega,by omega⟩,q⟩))
theorem nodup_takes {l : List Int} (h : ∀ (i : Nat) (k : Int),l[i]? = some k → k ∉ l.take i) : l.Nodup:=by
 rw [List.nodup_iff_pairwise_ne,List.pairwise_iff_getElem]
 intro i j hi hj hij e
 refine h j l[j] (List.getElem?_eq_getElem hj) ?_
 rw [← e]
 exact List.mem_iff_getElem?.2 ⟨i,by rw [List.getElem?_take,if_pos hij];exact List.getElem?_eq_getElem hi⟩
theorem full_nodup {n : Nat} {lo : List Int} (h : ordOk n lo = true) : (fullOrd n lo).Nodup:=by
 refine List.nodup_append.2 ⟨nodup_takes fun i k hk => (dec_true h i (List.getElem?_eq_some_iff.1 hk).1 k hk).2,?_,fun a ha b hb e => ?_⟩
 ·refine List.Pairwise.filter _ ?_
  exact List.Pairwise.map _ (fun a b hab e => hab (by omega)) List.nodup_range
 ·subst e;exact (miss_mem.1 hb).2 ha
theorem nodup_take {l : List Int} (h : l.Nodup) {i : Nat} {k : Int} (hk : l[i]? = some k) : k ∉ l.take i:=by
 intro hm
 obtain ⟨j,hj⟩:=List.mem_iff_getElem?.1 hm
 rw [List.getElem?_take] at hj
 split at hj
 ·next q =>
  have h1:=List.pairwise_iff_getElem.1 (List.nodup_iff_pairwise_ne.1 h) j i (by have:=(List.getElem?_eq_some_iff.1 hk).1;omega) (List.getElem?_eq_some_iff.1 hk).1 q
  rw [(List.getElem?_eq_some_iff.1 hk).2,(List.getElem?_eq_some_iff.1 hj).2] at h1
  exact h1 rfl
 ·cases hj
theorem nodup_le : ∀ (n : Nat) (l : List Int),l.Nodup → (∀ x ∈ l,0 ≤ x ∧ x < n) → l.length ≤ n
 | 0,l,_,h => by
  cases l with
  | nil => simp
  | cons a l => have:=h a (List.mem_cons_self ..);omega
 | n + 1,l,hd,h => by
  by_cases q : (n : Int) ∈ l
  ·have h1:=nodup_le n (l.erase n) (hd.erase _) fun x hx => by
    have h2:=h x (List.mem_of_mem_erase hx)
    have h3 : x ≠ n:=fun e => by subst e;exact (hd.not_mem_erase) hx
    omega
   rw [List.length_erase_of_mem q] at h1
   omega
  ·have h1:=nodup_le n l hd fun x hx => by
    have h2:=h x hx
    have h3 : x ≠ n:=fun e => q (e ▸ hx)
    omega
   omega
theorem full_le {n : Nat} {lo : List Int} (h : ordOk n lo = true) : (fullOrd n lo).length ≤ n:=nodup_le n _ (full_nodup h) (full_in h)
theorem miss_succ_in {k : Nat} {lo : List Int} (h : (k : Int) ∈ lo) : missing (k + 1) lo = missing k lo:=by
 unfold missing;rw [List.range_succ,List.map_append,List.filter_append];simp [h]
theorem miss_succ_out {k : Nat} {lo : List Int} (h : (k : Int) ∉ lo) : missing (k + 1) lo = missing k lo ++ [(k : Int)]:=by
 unfold missing;rw [List.range_succ,List.map_append,List.filter_append];simp [h]
end Go.Proofs.YtoegjiigaoanbaaGreat
namespace Go.Proofs.YtoegjiigaoanbaaGreat
open Go.RowKit Go.Deep
set_option linter.unnecessarySimpa false
set_option maxHeartbeats 400000000
open Go.Lib (hid)

theorem notMem_upto {zs : List Int} {x : Int} (h : ∀ j,j < zs.length → zs[j]? ≠ some x) : x ∉ zs:=by
 intro hx
 obtain ⟨j,hj,e⟩:=List.getElem_of_mem hx
 exact h j hj (by rw [List.getElem?_eq_getElem hj,e])

theorem Index_any (A : Option Addr) (n c : Nat) (zs : List Int) (x : Int) (w : World) (S : Nat → Prop) (hs : Sl w S 1 A n (ints zs)) (hm : n ≤ 9223372036854775807) :
  Calls Tryz.prog 228 #[.slice A n c,.int .i64 x] w fun e w' => ∃ i : Int,e = .returned (.int .i64 i) ∧ ((i = -1 ∧ x ∉ zs) ∨ (0 ≤ i ∧ x ∈ zs)) ∧ w = w':=by
 have H:=hid hs.len
 go_enter Tryz.func228,Tryz.ntmps228
 go_wp2
 go_loop [8] (fun i => ∃ k : Nat,k ≤ n ∧ i = .int .i64 k ∧ ∀ j,j < k → zs[j]? ≠ some x) (fun i => n - (intOf i).toNat)
 case atStart => exact ⟨0,Nat.zero_le _,rfl,fun j hj => absurd hj (Nat.not_lt_zero _)⟩
 case round =>
  obtain ⟨k,hk,rfl,hno⟩:=hrel
  have HN:=hid hno
  clear hno
  by_cases hlt : k < n
  ·obtain ⟨b,o,y,rfl,hb,hy,hc⟩:=hs.int_at hlt
   have HY:=hid hy
   clear hy
   by_cases he : x = y
   ·have hbe : (x == y) = true:=by simp [he]
    have HE:=hid he
    clear he
    go_wp2
    go_ret
    exact ⟨k,rfl,.inr ⟨by omega,List.mem_of_getElem? (by rw [HY.out,HE.out])⟩,rfl⟩
   ·have hbe : (x == y) = false:=by simp [he]
    have HE:=hid he
    clear he
    go_wp2
    go_round
    case rel =>
     refine ⟨k + 1,by omega,by go_num,fun j hj => ?_⟩
     by_cases e : j = k
     ·subst e;rw [HY.out];intro q;injection q with q;exact HE.out q.symm
     ·exact HN.out j (by omega)
    case measure => simp [intOf];omega
  ·go_wp2
   go_ret
   exact ⟨-1,rfl,.inl ⟨rfl,notMem_upto fun j hj => HN.out j (by rw [H.out] at hj;omega)⟩,rfl⟩

theorem Contains_any (A : Option Addr) (n c : Nat) (zs : List Int) (x : Int) (w : World) (S : Nat → Prop) (hs : Sl w S 1 A n (ints zs)) (hm : n ≤ 9223372036854775807) :
  Calls Tryz.prog 205 #[.slice A n c,.int .i64 x] w fun e w' => e = .returned (.bool (dec (x ∈ zs))) ∧ w = w':=by
 go_enter Tryz.func205,Tryz.ntmps205
 go_wp2_with fail
 refine (Index_any _ _ _ _ _ _ _ hs hm).mono ?_
 rintro e w1 ⟨i,rfl,hi,rfl⟩
 rcases hi with ⟨rfl,hx⟩|⟨hi,hx⟩
 ·have HX:=hid hx
  clear hx
  go_wp2
  go_ret
  exact ⟨by rw [dec_no HX.out];rfl,rfl⟩
 ·have HX:=hid hx
  clear hx
  go_wp2
  go_ret
  exact ⟨by rw [dec_yes HX.out];rfl,rfl⟩
end Go.Proofs.YtoegjiigaoanbaaGreat
namespace Go.Proofs.YtoegjiigaoanbaaGreat
open Go.RowKit Go.Deep
set_option linter.unnecessarySimpa false
set_option maxHeartbeats 400000000
open Go.Lib (hid)
set_option linter.unusedSimpArgs false
set_option linter.unusedVariables false

theorem Tryz.infoBoolU : (Tryz.prog.info? 4).map (fun i => (i.zero,i.size,i.bytes)) = some (some (.bool false),1,1):=by kernel_rfl
noncomputable def seenV (l : List Int) : List Value:=[.bool (dec ((0 : Int) ∈ l)),.bool (dec ((1 : Int) ∈ l)),.bool (dec ((2 : Int) ∈ l))]
theorem made_b3 : (madeCells (Value.bool false).cells (3 * 1)).toList = [.bool false,.bool false,.bool false] :=
 (made_flat (α:=Unit) (cells:=fun _ => [Value.bool false]) (size:=1) (fun _ => rfl) (by omega) (z:=.bool false) (a:=()) rfl 3).trans rfl
theorem with_is {x lo hi : Int} {v : Bool} (h : decide (lo ≤ x ∧ x ≤ hi) = v) (w : World) : Calls Tryz.prog 175 #[.int .i64 x,.int .i64 lo,.int .i64 hi] w fun e w' => e = .returned (.bool v) ∧ w = w':=h ▸ within_any x lo hi w
theorem in_is {x lo hi : Int} {v : Bool} (h : decide (lo ≤ x ∧ x ≤ hi) = v) (w : World) : Calls Tryz.prog 132 #[.int .i64 x,.int .i64 lo,.int .i64 hi] w fun e w' => e = .returned (.bool v) ∧ w = w':=h ▸ l1In_any x lo hi w
theorem seen_nil : seenV [] = [.bool false,.bool false,.bool false]:=by unfold seenV;simp [dec]
theorem seen_at (l : List Int) {k : Nat} (hk : k < 3) : (seenV l)[k]? = some (.bool (dec ((k : Int) ∈ l))):=by
 rcases k with _|_|_|k
 ·rfl
 ·rfl
 ·rfl
 ·omega
theorem dec_congr {p q : Prop} (h : p ↔ q) : dec p = dec q:=by
 cases e : dec q
 ·exact dec_no fun z => dec_false e (h.1 z)
 ·exact dec_yes (h.2 (dec_true e))
theorem seen_set (l : List Int) {k : Nat} (hk : k < 3) : (seenV l).set k (.bool true) = seenV (l ++ [(k : Int)]):=by
 have e : ∀ j : Int,j ≠ k → (dec (j ∈ l) = dec (j ∈ l ++ [(k : Int)])):=fun j hj => dec_congr (by simp [hj])
 have y : dec ((k : Int) ∈ l ++ [(k : Int)]) = true:=dec_yes (by simp)
 rcases k with _|_|_|k
 ·have e1:=e 1 (by omega)
  have e2:=e 2 (by omega)
  show [Value.bool true,Value.bool (dec ((1 : Int) ∈ l)),Value.bool (dec ((2 : Int) ∈ l))] = seenV _
  rw [e1,e2,← y];rfl
 ·have e1:=e 0 (by omega)
  have e2:=e 2 (by omega)
  show [Value.bool (dec ((0 : Int) ∈ l)),Value.bool true,Value.bool (dec ((2 : Int) ∈ l))] = seenV _
  rw [e1,e2,← y];rfl
 ·have e1:=e 0 (by omega)
  have e2:=e 1 (by omega)
  show [Value.bool (dec ((0 : Int) ∈ l)),Value.bool (dec ((1 : Int) ∈ l)),Value.bool true] = seenV _
  rw [e1,e2,← y];rfl
 ·omega
theorem ord_le {k : Nat} {lo : List Int} {q : Nat} (hq : q ≤ lo.length) (h : AllTo (ordP k lo) lo q) : q ≤ k:=by
 have h1 : (lo.take q).Nodup:=nodup_takes fun i x hi => by
  rw [List.getElem?_take] at hi
  split at hi
  ·next z => rw [List.take_take,Nat.min_eq_left (by omega)];exact (h i z x hi).2
  ·cases hi
 have h2:=nodup_le k _ h1 fun x hx => by
  obtain ⟨i,hi⟩:=List.mem_iff_getElem?.1 hx
  rw [List.getElem?_take] at hi
  split at hi
  ·next z => exact (h i z x hi).1
  ·cases hi
 rw [List.length_take] at h2
 omega
theorem take_snoc {l : List Int} {q : Nat} {x : Int} (h : l[q]? = some x) : l.take (q + 1) = l.take q ++ [x]:=by rw [List.take_add_one,h];rfl
theorem miss_le (k : Nat) (lo : List Int) : (missing k lo).length ≤ k:=by
 unfold missing
 refine Nat.le_trans (List.length_filter_le _ _) ?_
 simp

theorem spec_l7Order (A : Option Addr) (n c : Nat) (lo : List Int) (k : Nat) (hk : k ≤ 3) (w : World) (S : Nat → Prop) (hs : Sl w S 1 A n (ints lo)) (hm : n ≤ 1048576) :
  Calls Tryz.prog 137 #[.slice A n c,.int .i64 (k : Int)] w fun e w' => ∃ B m d,e = .returned (.tuple #[.slice B m d,.bool (ordOk k lo)]) ∧ Ext w w' ∧ Hid (ordOk k lo = true → m ≤ 3 ∧ Mine w w' [.row 3 1 B m d (ints (fullOrd k lo))]):=by
 have hl : lo.length = n:=hs.len
 have HS:=hid hs
 have HL:=hid hl
 have M:=hid (Mine.refl w)
 clear hs hl
 have hki : (k : Int) ≤ 3:=by omega
 go_enter Tryz.func137,Tryz.ntmps137
 go_wp2_with (((with_reducible refine zN ?_);first|(refine Mine.wp_make (M.out.own (own_lit0 _ 3 1) ((Ext.refl' _).al _)) rfl _ _ 250 rfl 4 _ _ _ Tryz.underlying250 Tryz.infoBoolU 3 rfl rfl (by omega) (by unfold maxLen;omega) ?_;intro gs w' M';(try simp only [zr_,zm_] at M');replace M:=hid M';clear M';(try simp only [zr_,zm_]))))
 have M9 : Hid (Mine w w' [.row 3 1 (some ⟨w.heap.size,0,none⟩) 0 0 (ints (lo.take 0)),.row 4 1 (some ⟨gs,0,none⟩) 3 3 (seenV (lo.take 0))]):=by
  have h:=M.out
  rw [List.take_zero,seen_nil]
  rw [made_b3] at h
  exact h.perm (List.Perm.swap _ _ _)
 replace M:=M9
 clear M9
 go_loopw [6,8] (fun u i wr => ∃ (q : Nat) (OA : Option Addr) (om od : Nat),q ≤ n ∧ i = .int .i64 (q : Int) ∧ u = .slice OA om od ∧ Hid (AllTo (ordP k lo) lo q) ∧ Hid (Mine w wr [.row 3 1 OA om od (ints (lo.take q)),.row 4 1 (some ⟨gs,0,none⟩) 3 3 (seenV (lo.take q))])) (fun _ i _ => n - (intOf i).toNat)
 case atStart => exact ⟨0,_,_,_,Nat.zero_le _,rfl,rfl,AllTo.zero _ _,M⟩
 case round =>
  clear M
  obtain ⟨q,OA,om,od,hq,rfl,rfl,HU,M⟩:=hrel
  have hqk:=ord_le (by rw [HL.out];exact hq) HU.out
  have hom : om = q:=by have h:=M.out.len1 0 rfl;rw [ints_length,List.length_take,HL.out] at h;omega
  subst hom
  by_cases hlt : om < n
  rotate_left
  ·skip
   have HOK : Hid (ordOk k lo = true):=dec_yes (by rw [HL.out,← (show om = n by omega)];exact HU.out)
   rw [List.take_of_length_le (by rw [HL.out];omega)] at M
   have hn3 : n ≤ 3:=by omega
   have HLN : Hid (lo.length ≤ 3):=by show _ ≤ _;rw [HL.out];omega
   go_wp2
   go_loopw [6,10] (fun u i wr => ∃ (p : Nat) (OA : Option Addr) (om od : Nat),p ≤ k ∧ i = .int .i64 (p : Int) ∧ u = .slice OA om od ∧ Hid (Mine w wr [.row 3 1 OA om od (ints (lo ++ missing p lo)),.row 4 1 (some ⟨gs,0,none⟩) 3 3 (seenV (lo))])) (fun _ i _ => k - (intOf i).toNat)
   case atStart => exact ⟨0,_,_,_,Nat.zero_le _,rfl,rfl,by simpa [missing] using M⟩
   case round =>
    clear M
    obtain ⟨p,OB,m,d,hp,rfl,rfl,M⟩:=hrel
    have hm6 : m ≤ 6:=by have h:=M.out.len1 0 rfl;rw [ints_length,List.length_append] at h;have:=miss_le p lo;have:=HLN.out;omega
    by_cases hlp : p < k
    rotate_left
    ·obtain rfl : p = k:=by omega
     have hm3 : m ≤ 3:=by have h:=M.out.len1 0 rfl;rw [ints_length] at h;have:=full_le HOK.out;unfold fullOrd at this;omega
     go_wp2
     go_ret2
     exact ⟨_,_,_,by rw [HOK.out];first|done|rfl,M.out.ext,fun _ => ⟨hm3,M.out.sub (sk_ (sd_ s0_))⟩⟩
    have hp3 : p < 3:=by omega
    have hp3i : (p : Int) < 3:=by omega
    have HLP : Hid (p < k):=hlp
    have HSE:=hid (seen_at lo hp3)
    cases hmem : dec ((p : Int) ∈ lo)
    ·skip
     rw [hmem] at HSE
     have HN:=hid (dec_false hmem)
     clear hmem
     go_wp2_with (first|(at_builtin;refine Mine.wp_push M.out rfl _ _ 22 rfl 3 _ _ _ Tryz.underlying22 Tryz.infoInt rfl (by omega) 0 rfl rfl _ _ rfl rfl rfl (by simp [Value.oneCell']) (by omega) (by unfold maxLen;omega) ?_;intro A2 c2 w' M';(try simp only [ints_push,Act.put,List.setIfInBounds_toArray,List.set_cons_zero,List.set_cons_succ,List.drop_succ_cons,List.drop_zero,List.take_succ_cons,List.take_zero,putAt,ints_set,ints_push,List.getElem_toArray,List.getElem_cons_zero,List.getElem_cons_succ] at M');replace M:=hid M';clear M')|((with_reducible refine zN ?_);first|(refine Mine.wp_getr M.out rfl _ _ rfl 1 _ rfl rfl _ (by exact HSE.out) _ (by first|exact Tryz.underlying4) (by rfl) ?_;(try simp only [zr_,zm_]))))
     go_roundw
     case rel => exact ⟨p + 1,_,_,_,HLP.out,by go_num,rfl,by rw [miss_succ_out HN.out,← List.append_assoc];first|exact M|(have M9:=M.out;simp only [ints_push] at M9;exact M9)⟩
     case measure => have:=HLP.out;simp [intOf];omega
    ·skip
     rw [hmem] at HSE
     have HY:=hid (dec_true hmem)
     clear hmem
     go_wp2_with (((with_reducible refine zN ?_);first|(refine Mine.wp_getr M.out rfl _ _ rfl 1 _ rfl rfl _ (by exact HSE.out) _ (by first|exact Tryz.underlying4) (by rfl) ?_;(try simp only [zr_,zm_]))))
     go_roundw
     case rel => exact ⟨p + 1,_,_,_,HLP.out,by go_num,rfl,by rw [miss_succ_in HY.out];exact M⟩
     case measure => have:=HLP.out;simp [intOf];omega
  have HLT : Hid (om < n):=hlt
  obtain ⟨b,o,rfl⟩:=HS.out.addr (by omega)
  obtain ⟨x,hx,hb,cx⟩:=HS.out.int_cell (k:=om) hlt
  have HX:=hid hx
  have HC : Hid (w.cell? ⟨b,o + om,none⟩ = some (.int .i64 x) ∧ b < w.heap.size):=⟨cx,hb⟩
  clear hx hb cx
  by_cases hz : 0 ≤ x ∧ x ≤ (k : Int) - 1
  rotate_left
  ·have HZ : Hid (ordOk k lo = false):=dec_no fun z => AllTo.not HX.out (by rw [HL.out];exact HLT.out) (fun p => hz ⟨p.1.1,by have:=p.1.2;omega⟩) z
   have dz : decide (0 ≤ x ∧ x ≤ (k : Int) - 1) = false:=decide_eq_false hz
   clear hz
   go_wp2_with (first|(go_at_call 132;(with_reducible refine (in_is dz _).mono ?_);rintro e w' ⟨rfl,rfl⟩)|((with_reducible refine zN ?_);first|(refine Mine.wp_argc M.out rfl 3 _ rfl _ _ HC.out rfl _ Tryz.underlying3 (by rfl) ?_;(try simp only [zr_,zm_]))))
   go_ret2
   exact ⟨_,_,_,by rw [HZ.out];first|done|rfl,M.out.ext,fun z => absurd (HZ.out.symm.trans z) (by simp)⟩
  have dz : decide (0 ≤ x ∧ x ≤ (k : Int) - 1) = true:=decide_eq_true hz
  obtain ⟨kx,rfl⟩ : ∃ u : Nat,x = (u : Int):=⟨x.toNat,by omega⟩
  have hx3 : kx < 3:=by omega
  have hx3i : (kx : Int) < 3:=by omega
  have HKX : Hid (kx < k):=by show _ < _;omega
  clear hz
  have HSE:=hid (seen_at (lo.take om) hx3)
  cases hmem : dec ((kx : Int) ∈ lo.take om)
  rotate_left
  ·have HZ : Hid (ordOk k lo = false):=dec_no fun z => AllTo.not HX.out (by rw [HL.out];exact HLT.out) (fun p => p.2 (dec_true hmem)) z
   rw [hmem] at HSE
   clear hmem
   go_wp2_with (first|(go_at_call 132;(with_reducible refine (in_is dz _).mono ?_);rintro e w' ⟨rfl,rfl⟩)|((with_reducible refine zN ?_);first|(refine Mine.wp_argc M.out rfl 3 _ rfl _ _ HC.out rfl _ Tryz.underlying3 (by rfl) ?_;(try simp only [zr_,zm_])))|((with_reducible show wpList _ _ _ (⟨_,.load _ _,_,_,_,some _⟩::_) _ _);first|(refine Mine.wp_getrg M.out (by rfl) _ _ rfl 1 _ rfl rfl _ (by exact HSE.out) _ (by first|exact Tryz.underlying4) (by rfl) ?_;(try simp only [zr_,zm_]))))
   go_ret2
   exact ⟨_,_,_,by rw [HZ.out];first|done|rfl,M.out.ext,fun z => absurd (HZ.out.symm.trans z) (by simp)⟩
  rw [hmem] at HSE
  have HNM:=hid (dec_false hmem)
  have HP : Hid (ordP k lo om (kx : Int)):=⟨⟨by omega,by have:=HKX.out;omega⟩,HNM.out⟩
  have HT:=hid (take_snoc HX.out)
  have HST:=hid (seen_set (lo.take om) hx3)
  clear hmem
  go_wp2_with (first|(go_at_call 132;(with_reducible refine (in_is dz _).mono ?_);rintro e w' ⟨rfl,rfl⟩)|(at_builtin;refine Mine.wp_push M.out rfl _ _ 22 rfl 3 _ _ _ Tryz.underlying22 Tryz.infoInt rfl (by omega) 0 rfl rfl _ _ rfl rfl rfl (by simp [Value.oneCell']) (by omega) (by unfold maxLen;omega) ?_;intro A2 c2 w' M';(try simp only [ints_push,Act.put,List.setIfInBounds_toArray,List.set_cons_zero,List.set_cons_succ,List.drop_succ_cons,List.drop_zero,List.take_succ_cons,List.take_zero,putAt,ints_set,ints_push,List.getElem_toArray,List.getElem_cons_zero,List.getElem_cons_succ] at M');replace M:=hid M';clear M')|((with_reducible refine zN ?_);first|(refine Mine.wp_argc M.out rfl 3 _ rfl _ _ HC.out rfl _ Tryz.underlying3 (by rfl) ?_;(try simp only [zr_,zm_]))|(refine Mine.wp_put M.out rfl _ _ _ rfl rfl 1 _ rfl rfl _ (by (conv => lhs;whnf) <;> rfl) (by omega) (by rfl) (by kernel_rfl) ?_;intro w' M';(try simp only [zr_,zm_] at M');replace M:=hid M';clear M'))|((with_reducible show wpList _ _ _ (⟨_,.load _ _,_,_,_,some _⟩::_) _ _);first|(refine Mine.wp_getrg M.out (by rfl) _ _ rfl 1 _ rfl rfl _ (by exact HSE.out) _ (by first|exact Tryz.underlying4) (by rfl) ?_;(try simp only [zr_,zm_]))))
  go_roundw
  case rel => exact ⟨om + 1,_,_,_,HLT.out,by go_num,rfl,hid (HU.out.succ HX.out HP.out),by rw [HT.out,← HST.out];first|exact M|(have M9:=M.out;simp only [ints_push] at M9;exact M9)⟩
  case measure => have:=HLT.out;simp [intOf];omega
theorem impl_orderOk (A : Option Addr) (n c : Nat) (lo : List Int) (k : Nat) (hk : k ≤ 3) (w : World) (S : Nat → Prop) (hs : Sl w S 1 A n (ints lo)) (hm : n ≤ 1048576) (hcn : n ≤ c) :
  Calls Tryz.prog 158 #[.slice A n c,.int .i64 (k : Int)] w fun e w' => e = .returned (.bool (ordOk k lo)) ∧ w = w':=by
 have hl : lo.length = n:=hs.len
 have HS:=hid hs
 have HL:=hid hl
 clear hs hl
 go_enter Tryz.func158,Tryz.ntmps158
 go_wp2
 go_loopw [9] (fun i wr => ∃ q : Nat,q ≤ n ∧ i = .int .i64 (q : Int) ∧ Hid (AllTo (ordP k lo) lo q) ∧ w = wr) (fun i _ => n - (intOf i).toNat)
 case atStart => exact ⟨0,Nat.zero_le _,rfl,AllTo.zero _ _,rfl⟩
 case round =>
  obtain ⟨q,hq,rfl,HU,rfl⟩:=hrel
  by_cases hlt : q < n
  rotate_left
  ·have HZ : Hid (ordOk k lo = true):=dec_yes (by rw [HL.out,← (show q = n by omega)];exact HU.out)
   go_wp2
   go_ret
   exact ⟨by rw [HZ.out];first|done|rfl,by trivial⟩
  have HLT : Hid (q < n):=hlt
  obtain ⟨b,o,rfl⟩:=HS.out.addr (by omega)
  obtain ⟨x,hx,hb,cx⟩:=HS.out.int_cell (k:=q) hlt
  have HX:=hid hx
  clear hx
  by_cases hz : 0 ≤ x ∧ x ≤ (k : Int) - 1
  rotate_left
  ·have HZ : Hid (ordOk k lo = false):=dec_no fun z => AllTo.not HX.out (by rw [HL.out];exact HLT.out) (fun p => hz ⟨p.1.1,by have:=p.1.2;omega⟩) z
   have dz : decide (0 ≤ x ∧ x ≤ (k : Int) - 1) = false:=decide_eq_false hz
   clear hz
   go_wp2_with ((go_at_call 175;(with_reducible refine (with_is dz _).mono ?_);rintro e w' ⟨rfl,rfl⟩))
   go_ret
   exact ⟨by rw [HZ.out];first|done|rfl,by trivial⟩
  have dz : decide (0 ≤ x ∧ x ≤ (k : Int) - 1) = true:=decide_eq_true hz
  have HKX : Hid (0 ≤ x ∧ x < k):=⟨hz.1,by have:=hz.2;omega⟩
  clear hz
  have HSUB : Hid (Sl w S 1 (some ⟨b,o,none⟩) q (ints (lo.take q))):=by
   have h:=HS.out
   refine ⟨by rw [ints_length,List.length_take,HL.out];omega,fun hq0 => ?_⟩
   obtain ⟨b',o',e,hS,hb',hc⟩:=h.2 (by omega)
   refine ⟨_,_,e,hS,hb',fun j hj => ?_⟩
   rw [hc j (by omega)]
   unfold ints
   rw [List.map_take,List.getElem?_take,if_pos (by omega)]
  cases hmem : dec (x ∈ lo.take q)
  rotate_left
  ·have HZ : Hid (ordOk k lo = false):=dec_no fun z => AllTo.not HX.out (by rw [HL.out];exact HLT.out) (fun p => p.2 (dec_true hmem)) z
   go_wp2_with (first|(go_at_call 175;(with_reducible refine (with_is dz _).mono ?_);rintro e w' ⟨rfl,rfl⟩)|(go_at_call 205;(with_reducible refine (Contains_any _ q c (lo.take q) _ _ S HSUB.out (by omega)).mono ?_);rintro e w' ⟨rfl,rfl⟩;rw [hmem]))
   go_ret
   exact ⟨by rw [HZ.out];first|done|rfl,by trivial⟩
  have HP : Hid (ordP k lo q x):=⟨HKX.out,dec_false hmem⟩
  go_wp2_with (first|(go_at_call 175;(with_reducible refine (with_is dz _).mono ?_);rintro e w' ⟨rfl,rfl⟩)|(go_at_call 205;(with_reducible refine (Contains_any _ q c (lo.take q) _ _ S HSUB.out (by omega)).mono ?_);rintro e w' ⟨rfl,rfl⟩;rw [hmem]))
  go_roundw
  case rel => exact ⟨q + 1,HLT.out,by go_num,hid (HU.out.succ HX.out HP.out),by trivial⟩
  case measure => have:=HLT.out;simp [intOf];omega
theorem impl_fullOrder (A : Option Addr) (n c : Nat) (lo : List Int) (k : Nat) (hk : k ≤ 3) (w : World) (S : Nat → Prop) (hs : Sl w S 1 A n (ints lo)) (hm : n ≤ 1048576) (hok : ordOk k lo = true) :
  Calls Tryz.prog 208 #[.slice A n c,.int .i64 (k : Int)] w fun e w' => ∃ B m d,e = .returned (.slice B m d) ∧ m ≤ 3 ∧ Mine w w' [.row 3 1 B m d (ints (fullOrd k lo))]:=by
 have hl : lo.length = n:=hs.len
 have hn3 : n ≤ 3:=by have:=full_le hok;unfold fullOrd at this;rw [List.length_append] at this;omega
 have HS:=hid hs
 have HL:=hid hl
 have HOK:=hid hok
 have M:=hid (Mine.refl w)
 clear hs hl hok
 go_enter Tryz.func208,Tryz.ntmps208
 go_wp2_with ((go_at_call 157;(with_reducible refine (copyInts_any A n c lo _ S (HS.out.ext M.out.ext) hm).mono ?_);rintro e w' ⟨A2,c2,rfl,o9,x9⟩;replace M:=hid (M.out.own o9 x9);clear o9 x9))
 go_loopw [5,10] (fun u i wr => ∃ (p : Nat) (OA : Option Addr) (om od : Nat),p ≤ k ∧ i = .int .i64 (p : Int) ∧ u = .slice OA om od ∧ Hid (Mine w wr [.row 3 1 OA om od (ints (lo ++ missing p lo))])) (fun _ i _ => k - (intOf i).toNat)
 case atStart => exact ⟨0,_,_,_,Nat.zero_le _,rfl,rfl,by simpa [missing] using M⟩
 case round =>
  clear M
  obtain ⟨p,OB,m,d,hp,rfl,rfl,M⟩:=hrel
  have hm6 : m ≤ 6:=by have h:=M.out.len1 0 rfl;rw [ints_length,List.length_append,HL.out] at h;have:=miss_le p lo;omega
  by_cases hlp : p < k
  rotate_left
  ·obtain rfl : p = k:=by omega
   have hm3 : m ≤ 3:=by have h:=M.out.len1 0 rfl;rw [ints_length] at h;have:=full_le HOK.out;unfold fullOrd at this;omega
   go_wp2
   go_ret
   exact ⟨_,_,_,rfl,hm3,M.out⟩
  have HLP : Hid (p < k):=hlp
  cases hmem : dec ((p : Int) ∈ lo)
  ·skip
   have HN:=hid (dec_false hmem)
   go_wp2_with (first|(go_at_call 205;(with_reducible refine (Contains_any A n c lo _ _ S (HS.out.ext M.out.ext) (by omega)).mono ?_);rintro e w' ⟨rfl,rfl⟩;rw [hmem])|(at_builtin;refine Mine.wp_push M.out rfl _ _ 22 rfl 3 _ _ _ Tryz.underlying22 Tryz.infoInt rfl (by omega) 0 rfl rfl _ _ rfl rfl rfl (by simp [Value.oneCell']) (by omega) (by unfold maxLen;omega) ?_;intro A2 c2 w' M';(try simp only [ints_push,Act.put,List.setIfInBounds_toArray,List.set_cons_zero,List.set_cons_succ,List.drop_succ_cons,List.drop_zero,List.take_succ_cons,List.take_zero,putAt,ints_set,ints_push,List.getElem_toArray,List.getElem_cons_zero,List.getElem_cons_succ] at M');replace M:=hid M';clear M'))
   go_roundw
   case rel => exact ⟨p + 1,_,_,_,HLP.out,by go_num,rfl,by rw [miss_succ_out HN.out,← List.append_assoc];first|exact M|(have M9:=M.out;simp only [ints_push] at M9;exact M9)⟩
   case measure => have:=HLP.out;simp [intOf];omega
  ·skip
   have HY:=hid (dec_true hmem)
   go_wp2_with ((go_at_call 205;(with_reducible refine (Contains_any A n c lo _ _ S (HS.out.ext M.out.ext) (by omega)).mono ?_);rintro e w' ⟨rfl,rfl⟩;rw [hmem]))
   go_roundw
   case rel => exact ⟨p + 1,_,_,_,HLP.out,by go_num,rfl,by rw [miss_succ_in HY.out];exact M⟩
   case measure => have:=HLP.out;simp [intOf];omega

end Go.Proofs.YtoegjiigaoanbaaGreat
namespace Go.Proofs.YtoegjiigaoanbaaGreat
open Go.RowKit Go.Deep
set_option linter.unnecessarySimpa false
set_option maxHeartbeats 400000000
open Go.Lib (hid)
set_option linter.unusedSimpArgs false
set_option linter.unusedVariables false

noncomputable def runF (l : List GOp) (F : FF) (regs : List Int) (t : Things) : Run:=@dite _ (∃ r,Runs l F t ⟨0,regs,t,[]⟩ r) (Classical.propDecidable _) (fun h => h.choose) (fun _ => ⟨1,regs,t⟩)
theorem runF_is {l : List GOp} {F : FF} {regs : List Int} {t : Things} {r : Run} (h : Runs l F t ⟨0,regs,t,[]⟩ r) : runF l F regs t = r:=by
 unfold runF
 rw [dif_pos ⟨r,h⟩]
 exact Runs.uniq (Exists.choose_spec (⟨r,h⟩ : ∃ r,Runs l F t ⟨0,regs,t,[]⟩ r)) h
theorem runF_ok {l : List GOp} {F : FF} {regs : List Int} {t : Things} (hF : FOk F) (hc : codeOk l = true) (hr : regsOk regs = true) (ht : thingsOk t = true) : ROk (runF l F regs t):=by
 unfold runF
 split
 ·next h => exact Runs.ok hc hF ht h.choose_spec ⟨hr,ht,fun m hm => by cases hm⟩
 ·exact ⟨hr,ht,.inl rfl⟩
def zThings : Things:=⟨[],[],0⟩
def zRun : Run:=⟨0,[],zThings⟩
def regs0 : List Int:=[0,0,0,0]
theorem regs0_ok : regsOk regs0 = true:=dec_yes ⟨rfl,fun i hi a ha => by
 have : a ∈ regs0:=List.mem_of_getElem? ha
 simp [regs0] at this;subst this;exact ⟨by omega,by omega⟩⟩
noncomputable def serialF (p : Prog) (lo : List Int) (t : Things) : Run:=if ordOk p.kids_.length lo = true then runF p.code_ (forkF p.kids_ (fullOrd p.kids_.length lo)) regs0 t else zRun
theorem progOk_kids {p : Prog} (h : progOk p = true) : KidsOk p.kids_:=fun k hk => by
 obtain ⟨i,hi⟩:=List.mem_iff_getElem?.1 hk
 exact (dec_true h).2.2.2 i (List.getElem?_eq_some_iff.1 hi).1 k hi
theorem progOk_code {p : Prog} (h : progOk p = true) : codeOk p.code_ = true:=(dec_true h).1
theorem progOk_le {p : Prog} (h : progOk p = true) : p.kids_.length ≤ 3:=(dec_true h).2.1
theorem serial_ok {p : Prog} {lo : List Int} {t : Things} (hp : progOk p = true) (ho : ordOk p.kids_.length lo = true) (ht : thingsOk t = true) : ROk (serialF p lo t):=by
 unfold serialF
 rw [if_pos ho]
 exact runF_ok (fork_ok (progOk_kids hp) (full_in ho)) (progOk_code hp) regs0_ok ht
theorem serial_bad {p : Prog} {lo : List Int} {t : Things} (ho : ordOk p.kids_.length lo = false) : serialF p lo t = zRun:=by
 unfold serialF;rw [if_neg (by rw [ho];simp)]
noncomputable def serNext (acc : Option (List Run × Things)) (p : Prog × List Int) : Option (List Run × Things) :=
 match acc with
 | none => none
 | some (rs,s) => if (serialF p.1 p.2 s).out_ = 0 then none else some (rs ++ [serialF p.1 p.2 s],(serialF p.1 p.2 s).things_)
noncomputable def serTo (l : List (Prog × List Int)) (t : Things) : Option (List Run × Things):=l.foldl serNext (some ([],t))
noncomputable def serAll (l : List (Prog × List Int)) (t : Things) : List Run × Things:=match serTo l t with|none => ([],zThings)|some x => x
theorem serTo_none : ∀ l : List (Prog × List Int),l.foldl serNext none = none
 | [] => rfl
 | p::l => serTo_none l
theorem serTo_snoc (l : List (Prog × List Int)) (p : Prog × List Int) (t : Things) : serTo (l ++ [p]) t = serNext (serTo l t) p:=by
 unfold serTo;rw [List.foldl_append];rfl
theorem serTo_take {l : List (Prog × List Int)} {t : Things} {k : Nat} {p : Prog × List Int} (hk : l[k]? = some p) : serTo (l.take (k + 1)) t = serNext (serTo (l.take k) t) p:=by
 rw [List.take_add_one,hk];exact serTo_snoc _ _ _
theorem serAll_bad {l : List (Prog × List Int)} {t : Things} {k : Nat} (h : serTo (l.take k) t = none) : serAll l t = ([],zThings):=by
 have : serTo l t = none:=by
  unfold serTo at h ⊢
  rw [← List.take_append_drop k l,List.foldl_append,h]
  exact serTo_none _
 unfold serAll;rw [this]
theorem serAll_good {l : List (Prog × List Int)} {t s : Things} {rs : List Run} {k : Nat} (h : serTo (l.take k) t = some (rs,s)) (hk : k = l.length) : serAll l t = (rs,s):=by
 subst hk
 rw [List.take_length] at h
 unfold serAll;rw [h]
theorem serTo_ok {l : List (Prog × List Int)} {t : Things} (hp : ∀ p ∈ l,progOk p.1 = true) (ht : thingsOk t = true) : ∀ (k : Nat) (rs : List Run) (s : Things),k ≤ l.length → serTo (l.take k) t = some (rs,s) → thingsOk s = true ∧ rs.length = k ∧ ∀ r ∈ rs,ROk r
 | 0,rs,s,_,h => by
  simp [serTo] at h
  obtain ⟨rfl,rfl⟩:=h
  exact ⟨ht,rfl,fun r hr => by cases hr⟩
 | k + 1,rs,s,hk,h => by
  obtain ⟨p,hpk⟩ : ∃ p,l[k]? = some p:=⟨_,List.getElem?_eq_getElem (by omega)⟩
  rw [serTo_take hpk] at h
  unfold serNext at h
  cases e : serTo (l.take k) t with
  | none => rw [e] at h;cases h
  | some x =>
   obtain ⟨rs1,s1⟩:=x
   rw [e] at h
   simp only at h
   have h1:=serTo_ok hp ht k rs1 s1 (by omega) e
   split at h
   ·cases h
   ·next hz =>
    injection h with h
    injection h with h2 h3
    subst h2 h3
    have ho : ordOk p.1.kids_.length p.2 = true:=by
     cases q : ordOk p.1.kids_.length p.2
     ·exact absurd (by rw [serial_bad q];rfl) hz
     ·rfl
    have hr:=serial_ok (hp p (List.mem_of_getElem? hpk)) ho h1.1
    refine ⟨hr.th,by simp [h1.2.1],fun r hr2 => ?_⟩
    rcases List.mem_append.1 hr2 with q|q
    ·exact h1.2.2 r q
    ·simp only [List.mem_cons,List.not_mem_nil,or_false] at q;subst q;exact hr
noncomputable def scriptOk (s : Script) : Bool:=dec (thingsOk s.start_ = true ∧ s.progs_.length ≤ 4 ∧ s.acts_.length ≤ 400 ∧ AllTo (fun _ p => progOk p = true) s.progs_ s.progs_.length)
end Go.Proofs.YtoegjiigaoanbaaGreat
namespace Go.Proofs.YtoegjiigaoanbaaGreat
open Go.RowKit Go.Deep
set_option linter.unnecessarySimpa false
set_option maxHeartbeats 400000000
open Go.Lib (hid)
set_option linter.unusedSimpArgs false
set_option linter.unusedVariables false
theorem l4Reg_any (x : Int) (w : World) :
  Calls Tryz.prog 218 #[.int .i64 x] w fun e w' => e = .returned (.bool (decide (0 ≤ x ∧ x ≤ 3))) ∧ w = w':=by
 go_enter Tryz.func218,Tryz.ntmps218
 go_wp2_with (go_at_call 132;refine (l1In_any _ _ _ _).mono ?_;rintro e w' ⟨rfl,rfl⟩)
 go_ret
 simp
theorem isReg_any (x : Int) (w : World) :
  Calls Tryz.prog 224 #[.int .i64 x] w fun e w' => e = .returned (.bool (decide (0 ≤ x ∧ x ≤ 3))) ∧ w = w':=by
 go_enter Tryz.func224,Tryz.ntmps224
 go_wp2_with (go_at_call 175;refine (within_any _ _ _ _).mono ?_;rintro e w' ⟨rfl,rfl⟩)
 go_ret
 simp
theorem isKey_any (x : Int) (w : World) :
  Calls Tryz.prog 179 #[.int .i64 x] w fun e w' => e = .returned (.bool (decide (0 ≤ x ∧ x ≤ 7))) ∧ w = w':=by
 go_enter Tryz.func179,Tryz.ntmps179
 go_wp2_with (go_at_call 175;refine (within_any _ _ _ _).mono ?_;rintro e w' ⟨rfl,rfl⟩)
 go_ret
 simp
theorem dec_eqv {p : Prop} {b : Bool} (h : p ↔ b = true) : dec p = b:=by
 cases b
 ·exact dec_no fun q => by have:=h.1 q;cases this
 ·exact dec_yes (h.2 rfl)
theorem opk1 (a b c : Int) : dec (opOk ⟨1,a,b,c⟩) = ((decide (0 ≤ a ∧ a ≤ 3) && decide (0 ≤ b ∧ b ≤ 65535)) && (c == 0)):=dec_eqv (by
 unfold opOk isReg is7 isV
 simp
 omega)
theorem opk2 (a b c : Int) : dec (opOk ⟨2,a,b,c⟩) = ((decide (0 ≤ a ∧ a ≤ 3) && decide (0 ≤ b ∧ b ≤ 3)) && decide (0 ≤ c ∧ c ≤ 3)):=dec_eqv (by
 unfold opOk isReg is7 isV
 simp
 omega)
theorem opk3 (a b c : Int) : dec (opOk ⟨3,a,b,c⟩) = ((decide (0 ≤ a ∧ a ≤ 3) && decide (0 ≤ b ∧ b ≤ 3)) && decide (0 ≤ c ∧ c ≤ 3)):=dec_eqv (by
 unfold opOk isReg is7 isV
 simp
 omega)
theorem opk4 (a b c : Int) : dec (opOk ⟨4,a,b,c⟩) = ((decide (0 ≤ a ∧ a ≤ 3) && decide (0 ≤ b ∧ b ≤ 3)) && decide (0 ≤ c ∧ c ≤ 3)):=dec_eqv (by
 unfold opOk isReg is7 isV
 simp
 omega)
theorem opk5 (a b c : Int) : dec (opOk ⟨5,a,b,c⟩) = ((decide (0 ≤ a ∧ a ≤ 3) && decide (0 ≤ b ∧ b ≤ 7)) && (c == 0)):=dec_eqv (by
 unfold opOk isReg is7 isV
 simp
 omega)
theorem opk6 (a b c : Int) : dec (opOk ⟨6,a,b,c⟩) = ((decide (0 ≤ a ∧ a ≤ 7) && decide (0 ≤ b ∧ b ≤ 3)) && (c == 0)):=dec_eqv (by
 unfold opOk isReg is7 isV
 simp
 omega)
theorem opk7 (a b c : Int) : dec (opOk ⟨7,a,b,c⟩) = ((decide (0 ≤ a ∧ a ≤ 3) && decide (1 ≤ b ∧ b ≤ 20)) && (c == 0)):=dec_eqv (by
 unfold opOk isReg is7 isV
 simp
 omega)
theorem opk8 (a b c : Int) : dec (opOk ⟨8,a,b,c⟩) = ((decide (0 ≤ a ∧ a ≤ 3) && (b == 0)) && (c == 0)):=dec_eqv (by
 unfold opOk isReg is7 isV
 simp
 omega)
theorem opk15 (a b c : Int) : dec (opOk ⟨15,a,b,c⟩) = ((decide (0 ≤ a ∧ a ≤ 3) && (b == 0)) && (c == 0)):=dec_eqv (by
 unfold opOk isReg is7 isV
 simp
 omega)
theorem opk16 (a b c : Int) : dec (opOk ⟨16,a,b,c⟩) = ((decide (0 ≤ a ∧ a ≤ 3) && (b == 0)) && (c == 0)):=dec_eqv (by
 unfold opOk isReg is7 isV
 simp
 omega)
theorem opk9 (a b c : Int) : dec (opOk ⟨9,a,b,c⟩) = (((a == 0) && (b == 0)) && (c == 0)):=dec_eqv (by
 unfold opOk isReg is7 isV
 simp
 omega)
theorem opk10 (a b c : Int) : dec (opOk ⟨10,a,b,c⟩) = (((a == 0) && (b == 0)) && (c == 0)):=dec_eqv (by
 unfold opOk isReg is7 isV
 simp
 omega)
theorem opk11 (a b c : Int) : dec (opOk ⟨11,a,b,c⟩) = (((a == 0) && (b == 0)) && (c == 0)):=dec_eqv (by
 unfold opOk isReg is7 isV
 simp
 omega)
theorem opk12 (a b c : Int) : dec (opOk ⟨12,a,b,c⟩) = ((decide (0 ≤ a ∧ a ≤ 7) && decide (0 ≤ b ∧ b ≤ 3)) && decide (0 ≤ c ∧ c ≤ 3)):=dec_eqv (by
 unfold opOk isReg is7 isV
 simp
 omega)
theorem opk13 (a b c : Int) : dec (opOk ⟨13,a,b,c⟩) = ((decide (0 ≤ a ∧ a ≤ 3) && decide (0 ≤ b ∧ b ≤ 7)) && (c == 0)):=dec_eqv (by
 unfold opOk isReg is7 isV
 simp
 omega)
theorem opk14 (a b c : Int) : dec (opOk ⟨14,a,b,c⟩) = ((decide (0 ≤ a ∧ a ≤ 7) && decide (0 ≤ b ∧ b ≤ 3)) && (c == 0)):=dec_eqv (by
 unfold opOk isReg is7 isV
 simp
 omega)
theorem spec_OpOk (k a b c : Int) (w : World) :
  Calls Tryz.prog 185 #[.agg #[.int .i64 k,.int .i64 a,.int .i64 b,.int .i64 c]] w fun e w' => e = .returned (.bool (dec (opOk ⟨k,a,b,c⟩))) ∧ Ext w w':=by
 by_cases e1 : k = 1
 rotate_left
 by_cases e2 : k = 2
 rotate_left
 by_cases e3 : k = 3
 rotate_left
 by_cases e4 : k = 4
 rotate_left
 by_cases e5 : k = 5
 rotate_left
 by_cases e6 : k = 6
 rotate_left
 by_cases e7 : k = 7
 rotate_left
 by_cases e8 : k = 8
 rotate_left
 by_cases e15 : k = 15
 rotate_left
 by_cases e16 : k = 16
 rotate_left
 by_cases e9 : k = 9
 rotate_left
 by_cases e10 : k = 10
 rotate_left
 by_cases e11 : k = 11
 rotate_left
 by_cases e12 : k = 12
 rotate_left
 by_cases e13 : k = 13
 rotate_left
 by_cases e14 : k = 14
 rotate_left
 have HZ : Hid (dec (opOk ⟨k,a,b,c⟩) = false):=dec_no fun h => by have:=opOk_kind h;simp only at this;omega
 have b1 : (k == 1) = false:=by simpa using e1
 have b2 : (k == 2) = false:=by simpa using e2
 have b3 : (k == 3) = false:=by simpa using e3
 have b4 : (k == 4) = false:=by simpa using e4
 have b5 : (k == 5) = false:=by simpa using e5
 have b6 : (k == 6) = false:=by simpa using e6
 have b7 : (k == 7) = false:=by simpa using e7
 have b8 : (k == 8) = false:=by simpa using e8
 have b15 : (k == 15) = false:=by simpa using e15
 have b16 : (k == 16) = false:=by simpa using e16
 have b9 : (k == 9) = false:=by simpa using e9
 have b10 : (k == 10) = false:=by simpa using e10
 have b11 : (k == 11) = false:=by simpa using e11
 have b12 : (k == 12) = false:=by simpa using e12
 have b13 : (k == 13) = false:=by simpa using e13
 have b14 : (k == 14) = false:=by simpa using e14
 clear e1 e2 e3 e4 e5 e6 e7 e8 e15 e16 e9 e10 e11 e12 e13 e14
 rotate_left
 subst e1
 have HQ:=opk1 a b c
 cases dA : decide (0 ≤ a ∧ a ≤ 3)
 rotate_left
 cases dB : decide (0 ≤ b ∧ b ≤ 65535)
 rotate_left
 cases dC : (c == 0)
 rotate_left 2
 subst e2
 have HQ:=opk2 a b c
 cases dA : decide (0 ≤ a ∧ a ≤ 3)
 rotate_left
 cases dB : decide (0 ≤ b ∧ b ≤ 3)
 rotate_left
 cases dC : decide (0 ≤ c ∧ c ≤ 3)
 rotate_left 2
 subst e3
 have HQ:=opk3 a b c
 cases dA : decide (0 ≤ a ∧ a ≤ 3)
 rotate_left
 cases dB : decide (0 ≤ b ∧ b ≤ 3)
 rotate_left
 cases dC : decide (0 ≤ c ∧ c ≤ 3)
 rotate_left 2
 subst e4
 have HQ:=opk4 a b c
 cases dA : decide (0 ≤ a ∧ a ≤ 3)
 rotate_left
 cases dB : decide (0 ≤ b ∧ b ≤ 3)
 rotate_left
 cases dC : decide (0 ≤ c ∧ c ≤ 3)
 rotate_left 2
 subst e5
 have HQ:=opk5 a b c
 cases dA : decide (0 ≤ a ∧ a ≤ 3)
 rotate_left
 cases dB : decide (0 ≤ b ∧ b ≤ 7)
 rotate_left
 cases dC : (c == 0)
 rotate_left 2
 subst e6
 have HQ:=opk6 a b c
 cases dA : decide (0 ≤ a ∧ a ≤ 7)
 rotate_left
 cases dB : decide (0 ≤ b ∧ b ≤ 3)
 rotate_left
 cases dC : (c == 0)
 rotate_left 2
 subst e7
 have HQ:=opk7 a b c
 cases dA : decide (0 ≤ a ∧ a ≤ 3)
 rotate_left
 cases dB : decide (1 ≤ b ∧ b ≤ 20)
 rotate_left
 cases dC : (c == 0)
 rotate_left 2
 subst e8
 have HQ:=opk8 a b c
 cases dA : decide (0 ≤ a ∧ a ≤ 3)
 rotate_left
 cases dB : (b == 0)
 rotate_left
 cases dC : (c == 0)
 rotate_left 2
 subst e15
 have HQ:=opk15 a b c
 cases dA : decide (0 ≤ a ∧ a ≤ 3)
 rotate_left
 cases dB : (b == 0)
 rotate_left
 cases dC : (c == 0)
 rotate_left 2
 subst e16
 have HQ:=opk16 a b c
 cases dA : decide (0 ≤ a ∧ a ≤ 3)
 rotate_left
 cases dB : (b == 0)
 rotate_left
 cases dC : (c == 0)
 rotate_left 2
 subst e9
 have HQ:=opk9 a b c
 cases dA : (a == 0)
 rotate_left
 cases dB : (b == 0)
 rotate_left
 cases dC : (c == 0)
 rotate_left 2
 subst e10
 have HQ:=opk10 a b c
 cases dA : (a == 0)
 rotate_left
 cases dB : (b == 0)
 rotate_left
 cases dC : (c == 0)
 rotate_left 2
 subst e11
 have HQ:=opk11 a b c
 cases dA : (a == 0)
 rotate_left
 cases dB : (b == 0)
 rotate_left
 cases dC : (c == 0)
 rotate_left 2
 subst e12
 have HQ:=opk12 a b c
 cases dA : decide (0 ≤ a ∧ a ≤ 7)
 rotate_left
 cases dB : decide (0 ≤ b ∧ b ≤ 3)
 rotate_left
 cases dC : decide (0 ≤ c ∧ c ≤ 3)
 rotate_left 2
 subst e13
 have HQ:=opk13 a b c
 cases dA : decide (0 ≤ a ∧ a ≤ 3)
 rotate_left
 cases dB : decide (0 ≤ b ∧ b ≤ 7)
 rotate_left
 cases dC : (c == 0)
 rotate_left 2
 subst e14
 have HQ:=opk14 a b c
 cases dA : decide (0 ≤ a ∧ a ≤ 7)
 rotate_left
 cases dB : decide (0 ≤ b ∧ b ≤ 3)
 rotate_left
 cases dC : (c == 0)
 rotate_left 2
 all_goals
  try
   first|simp only [dA,dB,dC,Bool.false_and,Bool.and_false,Bool.true_and,Bool.and_true] at HQ|simp only [dA,dB,Bool.false_and,Bool.and_false,Bool.true_and,Bool.and_true] at HQ|simp only [dA,Bool.false_and,Bool.and_false,Bool.true_and,Bool.and_true] at HQ
   have HZ:=hid HQ
   clear HQ
  go_enter Tryz.func185,Tryz.ntmps185
  go_wp2_with (first|(go_at_call 218;(with_reducible refine (l4Reg_any _ _).mono ?_);rintro e w' ⟨rfl,rfl⟩)|(go_at_call 131;(with_reducible refine (l3Val_any _ _).mono ?_);rintro e w' ⟨rfl,rfl⟩)|(go_at_call 219;(with_reducible refine (l3Cell_any _ _).mono ?_);rintro e w' ⟨rfl,rfl⟩)|(go_at_call 132;(with_reducible refine (l1In_any _ _ _ _).mono ?_);rintro e w' ⟨rfl,rfl⟩))
  go_ret
  refine ⟨?_,(Ext.refl' _).al _⟩
  rw [HZ.out]
  try rfl
theorem impl_OpOk (k a b c : Int) (w : World) :
  Calls Tryz.prog 199 #[.agg #[.int .i64 k,.int .i64 a,.int .i64 b,.int .i64 c]] w fun e w' => e = .returned (.bool (dec (opOk ⟨k,a,b,c⟩))) ∧ Ext w w':=by
 by_cases e1 : k = 1
 rotate_left
 by_cases e2 : k = 2
 rotate_left
 by_cases e3 : k = 3
 rotate_left
 by_cases e4 : k = 4
 rotate_left
 by_cases e5 : k = 5
 rotate_left
 by_cases e6 : k = 6
 rotate_left
 by_cases e7 : k = 7
 rotate_left
 by_cases e8 : k = 8
 rotate_left
 by_cases e15 : k = 15
 rotate_left
 by_cases e16 : k = 16
 rotate_left
 by_cases e9 : k = 9
 rotate_left
 by_cases e10 : k = 10
 rotate_left
 by_cases e11 : k = 11
 rotate_left
 by_cases e12 : k = 12
 rotate_left
 by_cases e13 : k = 13
 rotate_left
 by_cases e14 : k = 14
 rotate_left
 have HZ : Hid (dec (opOk ⟨k,a,b,c⟩) = false):=dec_no fun h => by have:=opOk_kind h;simp only at this;omega
 have b1 : (k == 1) = false:=by simpa using e1
 have b2 : (k == 2) = false:=by simpa using e2
 have b3 : (k == 3) = false:=by simpa using e3
 have b4 : (k == 4) = false:=by simpa using e4
 have b5 : (k == 5) = false:=by simpa using e5
 have b6 : (k == 6) = false:=by simpa using e6
 have b7 : (k == 7) = false:=by simpa using e7
 have b8 : (k == 8) = false:=by simpa using e8
 have b15 : (k == 15) = false:=by simpa using e15
 have b16 : (k == 16) = false:=by simpa using e16
 have b9 : (k == 9) = false:=by simpa using e9
 have b10 : (k == 10) = false:=by simpa using e10
 have b11 : (k == 11) = false:=by simpa using e11
 have b12 : (k == 12) = false:=by simpa using e12
 have b13 : (k == 13) = false:=by simpa using e13
 have b14 : (k == 14) = false:=by simpa using e14
 clear e1 e2 e3 e4 e5 e6 e7 e8 e15 e16 e9 e10 e11 e12 e13 e14
 rotate_left
 subst e1
 have HQ:=opk1 a b c
 cases dA : decide (0 ≤ a ∧ a ≤ 3)
 rotate_left
 cases dB : decide (0 ≤ b ∧ b ≤ 65535)
 rotate_left
 cases dC : (c == 0)
 rotate_left 2
 subst e2
 have HQ:=opk2 a b c
 cases dA : decide (0 ≤ a ∧ a ≤ 3)
 rotate_left
 cases dB : decide (0 ≤ b ∧ b ≤ 3)
 rotate_left
 cases dC : decide (0 ≤ c ∧ c ≤ 3)
 rotate_left 2
 subst e3
 have HQ:=opk3 a b c
 cases dA : decide (0 ≤ a ∧ a ≤ 3)
 rotate_left
 cases dB : decide (0 ≤ b ∧ b ≤ 3)
 rotate_left
 cases dC : decide (0 ≤ c ∧ c ≤ 3)
 rotate_left 2
 subst e4
 have HQ:=opk4 a b c
 cases dA : decide (0 ≤ a ∧ a ≤ 3)
 rotate_left
 cases dB : decide (0 ≤ b ∧ b ≤ 3)
 rotate_left
 cases dC : decide (0 ≤ c ∧ c ≤ 3)
 rotate_left 2
 subst e5
 have HQ:=opk5 a b c
 cases dA : decide (0 ≤ a ∧ a ≤ 3)
 rotate_left
 cases dB : decide (0 ≤ b ∧ b ≤ 7)
 rotate_left
 cases dC : (c == 0)
 rotate_left 2
 subst e6
 have HQ:=opk6 a b c
 cases dA : decide (0 ≤ a ∧ a ≤ 7)
 rotate_left
 cases dB : decide (0 ≤ b ∧ b ≤ 3)
 rotate_left
 cases dC : (c == 0)
 rotate_left 2
 subst e7
 have HQ:=opk7 a b c
 cases dA : decide (0 ≤ a ∧ a ≤ 3)
 rotate_left
 cases dB : decide (1 ≤ b ∧ b ≤ 20)
 rotate_left
 cases dC : (c == 0)
 rotate_left 2
 subst e8
 have HQ:=opk8 a b c
 cases dA : decide (0 ≤ a ∧ a ≤ 3)
 rotate_left
 cases dB : (b == 0)
 rotate_left
 cases dC : (c == 0)
 rotate_left 2
 subst e15
 have HQ:=opk15 a b c
 cases dA : decide (0 ≤ a ∧ a ≤ 3)
 rotate_left
 cases dB : (b == 0)
 rotate_left
 cases dC : (c == 0)
 rotate_left 2
 subst e16
 have HQ:=opk16 a b c
 cases dA : decide (0 ≤ a ∧ a ≤ 3)
 rotate_left
 cases dB : (b == 0)
 rotate_left
 cases dC : (c == 0)
 rotate_left 2
 subst e9
 have HQ:=opk9 a b c
 cases dA : (a == 0)
 rotate_left
 cases dB : (b == 0)
 rotate_left
 cases dC : (c == 0)
 rotate_left 2
 subst e10
 have HQ:=opk10 a b c
 cases dA : (a == 0)
 rotate_left
 cases dB : (b == 0)
 rotate_left
 cases dC : (c == 0)
 rotate_left 2
 subst e11
 have HQ:=opk11 a b c
 cases dA : (a == 0)
 rotate_left
 cases dB : (b == 0)
 rotate_left
 cases dC : (c == 0)
 rotate_left 2
 subst e12
 have HQ:=opk12 a b c
 cases dA : decide (0 ≤ a ∧ a ≤ 7)
 rotate_left
 cases dB : decide (0 ≤ b ∧ b ≤ 3)
 rotate_left
 cases dC : decide (0 ≤ c ∧ c ≤ 3)
 rotate_left 2
 subst e13
 have HQ:=opk13 a b c
 cases dA : decide (0 ≤ a ∧ a ≤ 3)
 rotate_left
 cases dB : decide (0 ≤ b ∧ b ≤ 7)
 rotate_left
 cases dC : (c == 0)
 rotate_left 2
 subst e14
 have HQ:=opk14 a b c
 cases dA : decide (0 ≤ a ∧ a ≤ 7)
 rotate_left
 cases dB : decide (0 ≤ b ∧ b ≤ 3)
 rotate_left
 cases dC : (c == 0)
 rotate_left 2
 all_goals
  try
   first|simp only [dA,dB,dC,Bool.false_and,Bool.and_false,Bool.true_and,Bool.and_true] at HQ|simp only [dA,dB,Bool.false_and,Bool.and_false,Bool.true_and,Bool.and_true] at HQ|simp only [dA,Bool.false_and,Bool.and_false,Bool.true_and,Bool.and_true] at HQ
   have HZ:=hid HQ
   clear HQ
  go_enter Tryz.func199,Tryz.ntmps199
  go_wp2_with (first|(go_at_call 224;(with_reducible refine (isReg_any _ _).mono ?_);rintro e w' ⟨rfl,rfl⟩)|(go_at_call 150;(with_reducible refine (isValue_any _ _).mono ?_);rintro e w' ⟨rfl,rfl⟩)|(go_at_call 225;(with_reducible refine (isCell_any _ _).mono ?_);rintro e w' ⟨rfl,rfl⟩)|(go_at_call 179;(with_reducible refine (isKey_any _ _).mono ?_);rintro e w' ⟨rfl,rfl⟩)|(go_at_call 175;(with_reducible refine (within_any _ _ _ _).mono ?_);rintro e w' ⟨rfl,rfl⟩))
  go_ret
  refine ⟨?_,(Ext.refl' _).al _⟩
  rw [HZ.out]
  try rfl

end Go.Proofs.YtoegjiigaoanbaaGreat
namespace Go.Proofs.YtoegjiigaoanbaaGreat
open Go.RowKit Go.Deep
set_option linter.unnecessarySimpa false
set_option maxHeartbeats 400000000
open Go.Lib (hid)
set_option linter.unusedSimpArgs false
set_option linter.unusedVariables false

theorem code_at {w : World} {S : Nat → Prop} {b oo n : Nat} {l : List GOp} (hs : Sl w S 4 (some ⟨b,oo,none⟩) n (l.flatMap GOp.cells)) {k : Nat} (hk : k < n) :
  ∃ o : GOp,l[k]? = some o ∧ w.rangeAt b (oo + k * 4) o.cells ∧ b < w.heap.size ∧ w.cell? ⟨b,oo + k * 4,none⟩ = some (.int .i64 o.kind_) ∧ w.cell? ⟨b,oo + k * 4 + 1,none⟩ = some (.int .i64 o.a_):=by
 obtain ⟨x,hx,hb,hc⟩:=hs.flat_cell GOp.cells_length (by omega) (k:=k) hk
 refine ⟨x,hx,fun j v hj => ?_,hb,?_,?_⟩
 ·have h3 : j < 4:=by have:=(List.getElem?_eq_some_iff.1 hj).1;simpa [GOp.cells] using this
  rw [hc j h3];exact hj
 ·have:=hc 0 (by omega);simpa [GOp.cells] using this
 ·have:=hc 1 (by omega);simpa [GOp.cells] using this
theorem dep_bd {l : List GOp} {n : Nat} (hn : n ≤ 1000) {k m : Nat} (hk : k ≤ n) (hm : m ≤ n) : -2000 ≤ dep l k - dep l m ∧ dep l k - dep l m ≤ 2000:=by
 have:=dep_le l k
 have:=dep_le l m
 omega
theorem opens_any (k a b c : Int) (w : World) :
  Calls Tryz.prog 223 #[.agg #[.int .i64 k,.int .i64 a,.int .i64 b,.int .i64 c]] w fun e w' => e = .returned (.int .i64 (opn ⟨k,a,b,c⟩)) ∧ Ext w w':=by
 by_cases h8 : k = 8
 ·subst h8
  go_enter Tryz.func223,Tryz.ntmps223
  go_wp2
  go_ret
  exact ⟨rfl,(Ext.refl' _).al _⟩
 by_cases h9 : k = 9
 ·subst h9
  go_enter Tryz.func223,Tryz.ntmps223
  go_wp2
  go_ret
  exact ⟨rfl,(Ext.refl' _).al _⟩
 have HZ : Hid (opn ⟨k,a,b,c⟩ = 0):=by show _ = _;unfold opn;rw [if_neg h8,if_neg h9]
 have b8 : (k == 8) = false:=by simpa using h8
 have b9 : (k == 9) = false:=by simpa using h9
 clear h8 h9
 go_enter Tryz.func223,Tryz.ntmps223
 go_wp2
 go_ret
 exact ⟨by rw [HZ.out];first|done|rfl,(Ext.refl' _).al _⟩
theorem IsEnd.at_ {l : List GOp} {m e q : Nat} (h : IsEnd l m e) (h1 : m ≤ q) (h2 : q ≤ e) {o : GOp} (ho : l[q]? = some o) : (q = e ∧ dep l q - dep l m + opn o = 0) ∨ (q < e ∧ 0 < dep l q - dep l m + opn o):=by
 obtain ⟨a,b,c,d⟩:=h
 by_cases e1 : q = e
 ·subst e1;left;refine ⟨rfl,?_⟩;rw [dep_succ ho] at c;omega
 ·right;refine ⟨by omega,?_⟩;have:=d q h1 (by omega);rw [dep_succ ho] at this;omega
theorem spec_EndOf (A : Option Addr) (n c : Nat) (l : List GOp) (w : World) (S : Nat → Prop) (hs : Sl w S 4 A n (l.flatMap GOp.cells)) (hn : n ≤ 1000) (m e : Nat) (o : GOp) (ho : l[m]? = some o) (h8 : o.kind_ = 8) (he : IsEnd l m e) :
  Calls Tryz.prog 188 #[.slice A n c,.int .i64 (m : Int)] w fun x w' => x = .returned (.int .i64 (e : Int)) ∧ w = w':=by
 have hl : l.length = n:=hs.flen GOp.cells_length (by omega)
 have hm : m < n:=by have:=(List.getElem?_eq_some_iff.1 ho).1;omega
 have hen : e < n:=by have:=he.2.1;omega
 obtain ⟨b,oo,rfl⟩:=hs.addr (by omega)
 obtain ⟨x,hx,-,-,k0,-⟩:=code_at hs hm
 rw [ho] at hx
 injection hx with hx
 subst hx
 rw [h8] at k0
 have HS:=hid hs
 have HE:=hid he
 have HL:=hid hl
 clear hs he hl ho h8
 go_enter Tryz.func188,Tryz.ntmps188
 go_wp2
 go_loopw [5,6] (fun d i wr => ∃ q : Nat,(m ≤ q ∧ q ≤ e) ∧ i = .int .i64 (q : Int) ∧ d = .int .i64 (dep l q - dep l m) ∧ w = wr) (fun _ i _ => e + 1 - (intOf i).toNat)
 case atStart => exact ⟨m,⟨Nat.le_refl _,by have:=HE.out.1;omega⟩,rfl,by simp,rfl⟩
 case round =>
  clear k0
  obtain ⟨q,⟨hq1,hq2⟩,rfl,rfl,rfl⟩:=hrel
  have hqn : q < n:=by omega
  obtain ⟨o2,ho2,-,-,k0,-⟩:=code_at HS.out hqn
  have hbd:=dep_bd (l:=l) hn (k:=q) (m:=m) (by omega) (by omega)
  have hst:=HE.out.at_ hq1 hq2 ho2
  have HO:=hid (dep_succ ho2)
  have H2:=hid ho2
  generalize hd : dep l q - dep l m = d at hbd hst ⊢
  have HD:=hid hd
  clear hd ho2
  by_cases h8 : o2.kind_ = 8
  ·have h1 : opn o2 = 1:=by unfold opn;rw [if_pos h8]
   rw [h1] at hst
   rw [h8] at k0
   have H1:=hid h1
   clear h8 h1
   rcases hst with ⟨e1,e2⟩|⟨e1,e2⟩
   ·have HZ:=hid e1
    obtain rfl : d = -1:=by omega
    clear e1 e2
    go_wp2
    go_ret
    exact ⟨by rw [HZ.out];first|done|rfl,rfl⟩
   ·go_wp2
    go_roundw
    case rel => exact ⟨q + 1,⟨by omega,by omega⟩,by go_num,by have a:=HO.out;have b:=HD.out;have c:=H1.out;congr 1;omega,by trivial⟩
    case measure => simp [intOf];omega
  by_cases h9 : o2.kind_ = 9
  ·have h1 : opn o2 = -1:=by unfold opn;rw [if_neg h8,if_pos h9]
   rw [h1] at hst
   rw [h9] at k0
   have H1:=hid h1
   clear h8 h9 h1
   rcases hst with ⟨e1,e2⟩|⟨e1,e2⟩
   ·have HZ:=hid e1
    obtain rfl : d = 1:=by omega
    clear e1 e2
    go_wp2
    go_ret
    exact ⟨by rw [HZ.out];first|done|rfl,rfl⟩
   ·go_wp2
    go_roundw
    case rel => exact ⟨q + 1,⟨by omega,by omega⟩,by go_num,by have a:=HO.out;have b:=HD.out;have c:=H1.out;congr 1;omega,by trivial⟩
    case measure => simp [intOf];omega
  have h1 : opn o2 = 0:=by unfold opn;rw [if_neg h8,if_neg h9]
  rw [h1] at hst
  have b8 : (o2.kind_ == 8) = false:=by simpa using h8
  have b9 : (o2.kind_ == 9) = false:=by simpa using h9
  have H1:=hid h1
  clear h8 h9 h1
  rcases hst with ⟨e1,e2⟩|⟨e1,e2⟩
  ·have HZ:=hid e1
   obtain rfl : d = 0:=by omega
   clear e1 e2
   go_wp2
   go_ret
   exact ⟨by rw [HZ.out];first|done|rfl,rfl⟩
  ·go_wp2
   go_roundw
   case rel => exact ⟨q + 1,⟨by omega,by omega⟩,by go_num,by have a:=HO.out;have b:=HD.out;have c:=H1.out;congr 1;omega,by trivial⟩
   case measure => simp [intOf];omega
theorem impl_EndOf (A : Option Addr) (n c : Nat) (l : List GOp) (w : World) (S : Nat → Prop) (hs : Sl w S 4 A n (l.flatMap GOp.cells)) (hn : n ≤ 1000) (m e : Nat) (o : GOp) (ho : l[m]? = some o) (h8 : o.kind_ = 8) (he : IsEnd l m e) :
  Calls Tryz.prog 207 #[.slice A n c,.int .i64 (m : Int)] w fun x w' => x = .returned (.int .i64 (e : Int)) ∧ Ext w w':=by
 have hl : l.length = n:=hs.flen GOp.cells_length (by omega)
 have hm : m < n:=by have:=(List.getElem?_eq_some_iff.1 ho).1;omega
 have hen : e < n:=by have:=he.2.1;omega
 obtain ⟨b,oo,rfl⟩:=hs.addr (by omega)
 obtain ⟨x,hx,-,-,k0,-⟩:=code_at hs hm
 rw [ho] at hx
 injection hx with hx
 subst hx
 rw [h8] at k0
 have HS:=hid hs
 have HE:=hid he
 have HL:=hid hl
 have dw : decide (0 ≤ (m : Int) ∧ (m : Int) ≤ (n : Int) - 1) = true:=decide_eq_true ⟨by omega,by omega⟩
 clear hs he hl ho h8
 go_enter Tryz.func207,Tryz.ntmps207
 go_wp2_with (go_at_call 175;refine (within_any _ _ _ _).mono ?_;rintro e w' ⟨rfl,rfl⟩)
 go_loopw [5,6] (fun d i wr => ∃ q : Nat,(m ≤ q ∧ q ≤ e) ∧ i = .int .i64 (q : Int) ∧ d = .int .i64 (dep l q - dep l m) ∧ Ext w wr) (fun _ i _ => e + 1 - (intOf i).toNat)
 case atStart => exact ⟨m,⟨Nat.le_refl _,by have:=HE.out.1;omega⟩,rfl,by simp,Ext.refl' _⟩
 case round =>
  clear k0 dw
  obtain ⟨q,⟨hq1,hq2⟩,rfl,rfl,hx⟩:=hrel
  have hqn : q < n:=by omega
  obtain ⟨o2,ho2,hr,hb,-,-⟩:=code_at (HS.out.ext hx) hqn
  have hbd:=dep_bd (l:=l) hn (k:=q) (m:=m) (by omega) (by omega)
  have hst:=HE.out.at_ hq1 hq2 ho2
  have HO:=hid (dep_succ ho2)
  have hob:=opn_le o2
  have HX:=hid hx
  have M : Hid (Mine wr wr []):=hid (Mine.refl wr)
  have HR:=hid hr
  have HB:=hid hb
  generalize hd : dep l q - dep l m = d at hbd hst ⊢
  have HD:=hid hd
  clear hd ho2 hx hr hb
  obtain ⟨k,a,b2,c2⟩:=o2
  simp only [GOp.cells] at HR
  have hu : ∃ u : Int,opn ⟨k,a,b2,c2⟩ = u:=⟨_,rfl⟩
  obtain ⟨u,hu⟩:=hu
  rw [hu] at hst hob HO
  have HU:=hid hu
  clear hu
  rcases hst with ⟨e1,e2⟩|⟨e1,e2⟩
  ·have HZ:=hid e1
   have b0 : (d + u == 0) = true:=by simpa using e2
   clear e1 e2
   go_wp2_with (first|(go_at_call 223;refine (opens_any _ _ _ _ _).mono ?_;rintro e w' ⟨rfl,x9⟩;rw [HU.out];replace M:=hid (M.out.on x9);clear x9)|((with_reducible refine zN ?_);first|(refine Mine.wp_arg M.out rfl 237 _ rfl _ _ rfl _ HR.out HB.out _ Tryz.underlying237 (by rfl) (by kernel_rfl) ?_;(try simp only [zr_,zm_]))))
   go_ret
   exact ⟨by rw [HZ.out];first|done|rfl,HX.out.tr M.out.ext⟩
  ·have b0 : (d + u == 0) = false:=by simp;omega
   go_wp2_with (first|(go_at_call 223;refine (opens_any _ _ _ _ _).mono ?_;rintro e w' ⟨rfl,x9⟩;rw [HU.out];replace M:=hid (M.out.on x9);clear x9)|((with_reducible refine zN ?_);first|(refine Mine.wp_arg M.out rfl 237 _ rfl _ _ rfl _ HR.out HB.out _ Tryz.underlying237 (by rfl) (by kernel_rfl) ?_;(try simp only [zr_,zm_]))))
   go_roundw
   case rel => exact ⟨q + 1,⟨by omega,by omega⟩,by go_num,by have a:=HO.out;have b:=HD.out;congr 1;omega,HX.out.tr M.out.ext⟩
   case measure => simp [intOf];omega
end Go.Proofs.YtoegjiigaoanbaaGreat
namespace Go.Proofs.YtoegjiigaoanbaaGreat
open Go.RowKit Go.Deep
set_option linter.unnecessarySimpa false
set_option maxHeartbeats 400000000
open Go.Lib (hid)
set_option linter.unusedSimpArgs false
set_option linter.unusedVariables false

theorem spec_l5Skip (A : Option Addr) (n c : Nat) (l : List GOp) (w : World) (S : Nat → Prop) (hs : Sl w S 4 A n (l.flatMap GOp.cells)) (hn : n ≤ 1000) (i : Nat) (o : GOp) (ho : l[i]? = some o) (hb : 1 ≤ o.b_ ∧ o.b_ ≤ 20) :
  Calls Tryz.prog 186 #[.slice A n c,.int .i64 (i : Int)] w fun x w' => x = .returned (.bool (dec (skipOk l i o))) ∧ w = w':=by
 have hl : l.length = n:=hs.flen GOp.cells_length (by omega)
 have hi : i < n:=by have:=(List.getElem?_eq_some_iff.1 ho).1;omega
 obtain ⟨b,oo,rfl⟩:=hs.addr (by omega)
 have k2 : w.cell? ⟨b,oo + i * 4 + 2,none⟩ = some (.int .i64 o.b_):=by
  obtain ⟨x,hx,-,hc⟩:=hs.flat_cell GOp.cells_length (by omega) (k:=i) hi
  rw [ho] at hx
  injection hx with hx
  subst hx
  simpa [GOp.cells] using hc 2 (by omega)
 obtain ⟨B,hB⟩ : ∃ B : Nat,o.b_ = (B : Int):=⟨o.b_.toNat,by omega⟩
 have e1 : skipOk l i o ↔ (i + 1 + B ≤ n ∧ (∀ k : Nat,i + 1 ≤ k → k ≤ i + 1 + B → dep l (i + 1) ≤ dep l k) ∧ dep l (i + 1 + B) = dep l (i + 1)):=by
  unfold skipOk
  rw [hB,hl,Int.toNat_natCast]
  constructor
  ·rintro ⟨a,b,c⟩;exact ⟨by omega,fun k h1 h2 => b k h1 (by omega),c⟩
  ·rintro ⟨a,b,c⟩;exact ⟨by omega,fun k h1 h2 => b k h1 (by omega),c⟩
 rw [hB] at k2 hb
 have hB1 : 1 ≤ B:=by omega
 have hB2 : B ≤ 20:=by omega
 have HS:=hid hs
 have HE:=hid e1
 have HL:=hid hl
 clear hs e1 hl ho hB hb
 by_cases ht : i + 1 + B ≤ n
 rotate_left
 ·have HZ : Hid (dec (skipOk l i o) = false):=dec_no fun h => ht (HE.out.1 h).1
  go_enter Tryz.func186,Tryz.ntmps186
  go_wp2
  go_ret
  exact ⟨by rw [HZ.out];rfl,rfl⟩
 go_enter Tryz.func186,Tryz.ntmps186
 go_wp2
 clear k2
 go_loopw [6,7] (fun d k wr => ∃ q : Nat,(i + 1 ≤ q ∧ q ≤ i + 1 + B) ∧ k = .int .i64 (q : Int) ∧ d = .int .i64 (dep l q - dep l (i + 1)) ∧ Hid (∀ j : Nat,i + 1 ≤ j → j ≤ q → dep l (i + 1) ≤ dep l j) ∧ w = wr) (fun _ k _ => i + 1 + B - (intOf k).toNat)
 case atStart => exact ⟨i + 1,⟨by omega,by omega⟩,by go_num,by simp,fun j h1 h2 => by rw [show j = i + 1 by omega];exact Int.le_refl _,rfl⟩
 case round =>
  obtain ⟨q,⟨hq1,hq2⟩,rfl,rfl,HU,rfl⟩:=hrel
  have hbd:=dep_bd (l:=l) hn (k:=q) (m:=i + 1) (by omega) (by omega)
  have hge:=HU.out q hq1 (Nat.le_refl _)
  by_cases hqt : q < i + 1 + B
  rotate_left
  ·have e : q = i + 1 + B:=by omega
   have HZ : Hid (dec (skipOk l i o) = (dep l q - dep l (i + 1) == 0)):=by
    show _ = _
    refine (dec_eqv (HE.out.trans ?_))
    rw [beq_iff_eq,← e]
    exact ⟨fun h => by have:=h.2.2;omega,fun h => ⟨by omega,fun k h1 h2 => HU.out k h1 h2,by omega⟩⟩
   generalize dep l q - dep l (i + 1) = d at hbd HZ ⊢
   clear hge
   go_wp2
   go_ret
   exact ⟨by rw [HZ.out];first|done|rfl,rfl⟩
  have hqn : q < n:=by omega
  obtain ⟨o2,ho2,-,-,k0,-⟩:=code_at HS.out hqn
  have hbd2:=dep_bd (l:=l) hn (k:=q + 1) (m:=i + 1) (by omega) (by omega)
  have hds:=dep_succ ho2
  have HO:=hid hds
  have HN : 0 ≤ dep l (q + 1) - dep l (i + 1) → ∀ j : Nat,i + 1 ≤ j → j ≤ q + 1 → dep l (i + 1) ≤ dep l j:=fun h j h1 h2 => by
   by_cases e : j = q + 1
   ·subst e;omega
   ·exact HU.out j h1 (by omega)
  have HB : ¬ 0 ≤ dep l (q + 1) - dep l (i + 1) → dec (skipOk l i o) = false:=fun h => dec_no fun z => h (by have:=(HE.out.1 z).2.1 (q + 1) (by omega) (by omega);omega)
  have HN:=hid HN
  have HB:=hid HB
  have hge2 : 0 ≤ dep l q - dep l (i + 1):=by omega
  generalize hd : dep l q - dep l (i + 1) = d at hbd hge2 ⊢
  have HD:=hid hd
  clear hd ho2 hge hds
  by_cases h8 : o2.kind_ = 8
  ·have h1 : opn o2 = 1:=by unfold opn;rw [if_pos h8]
   rw [h8] at k0
   have H1:=hid h1
   clear h8 h1 hbd2
   go_wp2
   go_roundw
   case rel => exact ⟨q + 1,⟨by omega,by omega⟩,by go_num,by have a:=HO.out;have b:=HD.out;have c:=H1.out;congr 1;omega,HN.out (by have a:=HO.out;have b:=HD.out;have c:=H1.out;omega),by trivial⟩
   case measure => simp [intOf];omega
  by_cases h9 : o2.kind_ = 9
  ·have h1 : opn o2 = -1:=by unfold opn;rw [if_neg h8,if_pos h9]
   rw [h9] at k0
   have H1:=hid h1
   clear h8 h9 h1 hbd2
   by_cases hz : d = 0
   ·subst hz
    have HZ:=hid (HB.out (by have a:=HO.out;have b:=HD.out;have c:=H1.out;omega))
    go_wp2
    go_ret
    exact ⟨by rw [HZ.out];first|done|rfl,rfl⟩
   ·have hd1 : 1 ≤ d:=by omega
    go_wp2
    go_roundw
    case rel => exact ⟨q + 1,⟨by omega,by omega⟩,by go_num,by have a:=HO.out;have b:=HD.out;have c:=H1.out;congr 1;omega,HN.out (by have a:=HO.out;have b:=HD.out;have c:=H1.out;omega),by trivial⟩
    case measure => simp [intOf];omega
  have h1 : opn o2 = 0:=by unfold opn;rw [if_neg h8,if_neg h9]
  have b8 : (o2.kind_ == 8) = false:=by simpa using h8
  have b9 : (o2.kind_ == 9) = false:=by simpa using h9
  have H1:=hid h1
  clear h8 h9 h1 hbd2
  go_wp2
  go_roundw
  case rel => exact ⟨q + 1,⟨by omega,by omega⟩,by go_num,by have a:=HO.out;have b:=HD.out;have c:=H1.out;congr 1;omega,HN.out (by have a:=HO.out;have b:=HD.out;have c:=H1.out;omega),by trivial⟩
  case measure => simp [intOf];omega
end Go.Proofs.YtoegjiigaoanbaaGreat
namespace Go.Proofs.YtoegjiigaoanbaaGreat
open Go.RowKit Go.Deep
set_option linter.unnecessarySimpa false
set_option maxHeartbeats 400000000
open Go.Lib (hid)
set_option linter.unusedSimpArgs false
set_option linter.unusedVariables false

theorem dep_nn {l : List GOp} {q : Nat} (h : AllTo (cOne l) l q) (hq : q ≤ l.length) : 0 ≤ dep l q:=by
 cases q with
 | zero => simp [dep]
 | succ q => exact (h q (by omega) _ (List.getElem?_eq_getElem (show q < l.length by omega))).2.2.2
theorem ff_zero (l : List GOp) : forkFree l 0:=fun j o h => absurd h (Nat.not_lt_zero _)
theorem ff_next {l : List GOp} {q : Nat} {o : GOp} (ho : l[q]? = some o) (h : forkFree l q) (hk : o.kind_ ≠ 11) : forkFree l (q + 1):=fun j p hj hp => by
 by_cases e : j = q
 ·subst e;rw [ho] at hp;injection hp with hp;subst hp;exact hk
 ·exact h j p (by omega) hp
theorem ff_back {l : List GOp} {q : Nat} (h : forkFree l (q + 1)) : forkFree l q:=fun j p hj hp => h j p (by omega) hp
theorem ff_not {l : List GOp} {q : Nat} {o : GOp} (ho : l[q]? = some o) (hk : o.kind_ = 11) : ¬ forkFree l (q + 1):=fun h => h q o (by omega) ho hk
def FkN (l : List GOp) (q : Nat) (f : Int) : Prop:=(f = 0 ∧ forkFree l q) ∨ (f = 1 ∧ ¬ forkFree l q)
theorem FkN.next {l : List GOp} {q : Nat} {o : GOp} {f : Int} (h : FkN l q f) (ho : l[q]? = some o) (hk : o.kind_ ≠ 11) : FkN l (q + 1) f:=by
 rcases h with ⟨a,b⟩|⟨a,b⟩
 ·exact .inl ⟨a,ff_next ho b hk⟩
 ·exact .inr ⟨a,fun z => b (ff_back z)⟩
theorem code_yes {l : List GOp} {q n : Nat} (hl : l.length = n) (hn : n ≤ 24) (hq : ¬ q < n) (hqn : q ≤ n) (h : AllTo (cOne l) l q) : codeOk l = (dep l q == 0):=by
 have e : q = l.length:=by omega
 refine dec_eqv ?_
 rw [beq_iff_eq,e]
 exact ⟨fun z => z.2.2,fun z => ⟨by omega,by rw [← e];exact h,z⟩⟩
theorem code_no {l : List GOp} {q n : Nat} {o : GOp} (hl : l.length = n) (hq : q < n) (ho : l[q]? = some o) (h : ¬ cOne l q o) : codeOk l = false :=
 dec_no fun z => h (z.2.1 q (by omega) o ho)

theorem spec_CodeOk (A : Option Addr) (n c : Nat) (l : List GOp) (w : World) (S : Nat → Prop) (hs : Sl w S 4 A n (l.flatMap GOp.cells)) (hm : n ≤ 1048576) :
  Calls Tryz.prog 133 #[.slice A n c] w fun e w' => e = .returned (.bool (codeOk l)) ∧ Ext w w':=by
 have hl : l.length = n:=hs.flen GOp.cells_length (by omega)
 have HS:=hid hs
 have HL:=hid hl
 have M : Hid (Mine w w []):=Mine.refl w
 clear hs hl
 by_cases hn : n ≤ 24
 rotate_left
 ·have HZ : Hid (codeOk l = false):=dec_no fun h => hn (by rw [← HL.out];exact h.1)
  have d24 : decide ((24 : Int) < (n : Int)) = true:=decide_eq_true (by omega)
  go_enter Tryz.func133,Tryz.ntmps133
  go_wp2
  go_ret
  exact ⟨by rw [HZ.out];rfl,M.out.ext⟩
 have d24 : decide ((24 : Int) < (n : Int)) = false:=decide_eq_false (by omega)
 go_enter Tryz.func133,Tryz.ntmps133
 go_wp2
 clear d24
 go_loopw [3,4,5] (fun d f i wr => ∃ (q : Nat) (fk : Int),q ≤ n ∧ i = .int .i64 (q : Int) ∧ d = .int .i64 (dep l q) ∧ f = .int .i64 fk ∧ Hid (AllTo (cOne l) l q) ∧ Hid (FkN l q fk) ∧ Hid (Mine w wr [])) (fun _ _ i _ => n - (intOf i).toNat)
 case atStart => exact ⟨0,0,Nat.zero_le _,rfl,rfl,rfl,AllTo.zero _ _,.inl ⟨rfl,ff_zero l⟩,M⟩
 case round =>
  clear M
  obtain ⟨q,fk,hq,rfl,rfl,rfl,HU,HF,M⟩:=hrel
  have hd0:=dep_nn HU.out (by rw [HL.out];exact hq)
  have hdl:=dep_le l q
  by_cases hlt : q < n
  rotate_left
  ·have HZ:=hid (code_yes HL.out hn hlt hq HU.out)
   generalize dep l q = d at hd0 hdl HZ ⊢
   go_wp2
   go_ret
   exact ⟨by rw [HZ.out];first|done|rfl,M.out.ext⟩
  have HLT : Hid (q < n):=hlt
  obtain ⟨b,oo,rfl⟩:=HS.out.addr (by omega)
  obtain ⟨o,ho,hr,hb,k0,-⟩:=code_at HS.out hlt
  have HR:=hid hr
  have HB:=hid hb
  have HO:=hid ho
  have K0 : Hid (w.cell? ⟨b,oo + q * 4,none⟩ = some (.int .i64 o.kind_) ∧ b < w.heap.size):=⟨k0,hb⟩
  have HNO:=hid (fun h => code_no HL.out HLT.out HO.out h)
  have HDS:=hid (dep_succ ho)
  clear hr hb ho k0
  obtain ⟨k,a,b2,c2⟩:=o
  simp only [GOp.cells] at HR
  simp only at K0
  generalize hd : dep l q = d at hd0 hdl HDS ⊢
  have HD:=hid hd
  clear hd
  cases hop : dec (opOk ⟨k,a,b2,c2⟩)
  ·skip
   have HZ:=hid (HNO.out (fun z => dec_false hop z.1))
   go_wp2_with (first|(go_at_call 185;refine zC M (spec_OpOk _ _ _ _ _) ?_;clear M;intro w' M;rw [hop])|((with_reducible refine zN ?_);first|(refine Mine.wp_arg M.out rfl 237 _ rfl _ _ rfl _ HR.out HB.out _ Tryz.underlying237 (by rfl) (by kernel_rfl) ?_;(try simp only [zr_,zm_]))))
   go_ret
   exact ⟨by rw [HZ.out];rfl,M.out.ext⟩
  have HOK:=hid (dec_true hop)
  by_cases k8 : k = 8
  ·subst k8
   have HOP : Hid (opn ⟨8,a,b2,c2⟩ = 1):=rfl
   have HC : Hid (cOne l q _):=⟨HOK.out,fun z => (by simp at z),fun z => (by simp at z),by rw [HDS.out,HOP.out];omega⟩
   go_wp2_with (first|(go_at_call 185;refine zC M (spec_OpOk _ _ _ _ _) ?_;clear M;intro w' M;rw [hop])|((with_reducible refine zN ?_);first|((first|refine Mine.wp_arg M.out rfl 237 _ rfl _ _ rfl _ HR.out HB.out _ Tryz.underlying237 (by rfl) (by kernel_rfl) ?_|refine Mine.wp_argc M.out rfl _ _ rfl _ _ K0.out rfl _ Tryz.underlying3 (by rfl) ?_);(try simp only [zr_,zm_]))))
   go_roundw
   case rel => exact ⟨q + 1,_,HLT.out,by go_num,by rw [HDS.out,HOP.out];first|done|rfl|(congr 1;omega),rfl,hid (HU.out.succ HO.out HC.out),hid (HF.out.next HO.out (by first|decide|(simp only;omega))),M⟩
   case measure => have:=HLT.out;simp [intOf];omega
  by_cases k9 : k = 9
  ·subst k9
   have HOP : Hid (opn ⟨9,a,b2,c2⟩ = -1):=rfl
   clear k8
   by_cases hz : d = 0
   ·subst hz
    have HZ:=hid (HNO.out (fun z => by have h1:=z.2.2.2;rw [HDS.out,HOP.out] at h1;omega))
    go_wp2_with (first|(go_at_call 185;refine zC M (spec_OpOk _ _ _ _ _) ?_;clear M;intro w' M;rw [hop])|((with_reducible refine zN ?_);first|((first|refine Mine.wp_arg M.out rfl 237 _ rfl _ _ rfl _ HR.out HB.out _ Tryz.underlying237 (by rfl) (by kernel_rfl) ?_|refine Mine.wp_argc M.out rfl _ _ rfl _ _ K0.out rfl _ Tryz.underlying3 (by rfl) ?_);(try simp only [zr_,zm_]))))
    go_ret
    exact ⟨by rw [HZ.out];rfl,M.out.ext⟩
   have hd1 : 1 ≤ d:=by omega
   clear hz
   have HC : Hid (cOne l q _):=⟨HOK.out,fun z => (by simp at z),fun z => (by simp at z),by rw [HDS.out,HOP.out];omega⟩
   go_wp2_with (first|(go_at_call 185;refine zC M (spec_OpOk _ _ _ _ _) ?_;clear M;intro w' M;rw [hop])|((with_reducible refine zN ?_);first|((first|refine Mine.wp_arg M.out rfl 237 _ rfl _ _ rfl _ HR.out HB.out _ Tryz.underlying237 (by rfl) (by kernel_rfl) ?_|refine Mine.wp_argc M.out rfl _ _ rfl _ _ K0.out rfl _ Tryz.underlying3 (by rfl) ?_);(try simp only [zr_,zm_]))))
   go_roundw
   case rel => exact ⟨q + 1,_,HLT.out,by go_num,by rw [HDS.out,HOP.out];first|done|rfl|(congr 1;omega),rfl,hid (HU.out.succ HO.out HC.out),hid (HF.out.next HO.out (by first|decide|(simp only;omega))),M⟩
   case measure => have:=HLT.out;simp [intOf];omega
  by_cases k7 : k = 7
  ·subst k7
   have HOP : Hid (opn ⟨7,a,b2,c2⟩ = 0):=rfl
   have HBB : Hid (1 ≤ b2 ∧ b2 ≤ 20):=(ok7 HOK.out rfl).2.1
   clear k8 k9
   cases hsk : dec (skipOk l q ⟨7,a,b2,c2⟩)
   ·skip
    have HZ:=hid (HNO.out (fun z => dec_false hsk (z.2.1 rfl)))
    go_wp2_with (first|(go_at_call 185;refine zC M (spec_OpOk _ _ _ _ _) ?_;clear M;intro w' M;rw [hop])|(go_at_call 186;(with_reducible refine (spec_l5Skip _ n c l _ S (HS.out.ext M.out.ext) (by omega) q _ HO.out HBB.out).mono ?_);rintro e w' ⟨rfl,rfl⟩;rw [hsk])|((with_reducible refine zN ?_);first|((first|refine Mine.wp_arg M.out rfl 237 _ rfl _ _ rfl _ HR.out HB.out _ Tryz.underlying237 (by rfl) (by kernel_rfl) ?_|refine Mine.wp_argc M.out rfl _ _ rfl _ _ K0.out rfl _ Tryz.underlying3 (by rfl) ?_);(try simp only [zr_,zm_]))))
    go_ret
    exact ⟨by rw [HZ.out];rfl,M.out.ext⟩
   have HSK:=hid (dec_true hsk)
   have HC : Hid (cOne l q _):=⟨HOK.out,fun _ => HSK.out,fun z => (by simp at z),by rw [HDS.out,HOP.out];omega⟩
   go_wp2_with (first|(go_at_call 185;refine zC M (spec_OpOk _ _ _ _ _) ?_;clear M;intro w' M;rw [hop])|(go_at_call 186;(with_reducible refine (spec_l5Skip _ n c l _ S (HS.out.ext M.out.ext) (by omega) q _ HO.out HBB.out).mono ?_);rintro e w' ⟨rfl,rfl⟩;rw [hsk])|((with_reducible refine zN ?_);first|((first|refine Mine.wp_arg M.out rfl 237 _ rfl _ _ rfl _ HR.out HB.out _ Tryz.underlying237 (by rfl) (by kernel_rfl) ?_|refine Mine.wp_argc M.out rfl _ _ rfl _ _ K0.out rfl _ Tryz.underlying3 (by rfl) ?_);(try simp only [zr_,zm_]))))
   go_roundw
   case rel => exact ⟨q + 1,_,HLT.out,by go_num,by rw [HDS.out,HOP.out];first|done|rfl|(congr 1;omega),rfl,hid (HU.out.succ HO.out HC.out),hid (HF.out.next HO.out (by first|decide|(simp only;omega))),M⟩
   case measure => have:=HLT.out;simp [intOf];omega
  by_cases k11 : k = 11
  ·subst k11
   have HOP : Hid (opn ⟨11,a,b2,c2⟩ = 0):=rfl
   clear k8 k9 k7
   by_cases hz : d = 0
   rotate_left
   ·have hd1 : 0 < d:=by omega
    have HZ:=hid (HNO.out (fun z => hz (by have h1:=(z.2.2.1 rfl).1;rw [HD.out] at h1;exact h1)))
    go_wp2_with (first|(go_at_call 185;refine zC M (spec_OpOk _ _ _ _ _) ?_;clear M;intro w' M;rw [hop])|((with_reducible refine zN ?_);first|((first|refine Mine.wp_arg M.out rfl 237 _ rfl _ _ rfl _ HR.out HB.out _ Tryz.underlying237 (by rfl) (by kernel_rfl) ?_|refine Mine.wp_argc M.out rfl _ _ rfl _ _ K0.out rfl _ Tryz.underlying3 (by rfl) ?_);(try simp only [zr_,zm_]))))
    go_ret
    exact ⟨by rw [HZ.out];rfl,M.out.ext⟩
   subst hz
   rcases HF.out with ⟨e1,e2⟩|⟨e1,e2⟩
   rotate_left
   ·subst e1
    have HNF:=hid e2
    clear e2
    have HZ:=hid (HNO.out (fun z => HNF.out (z.2.2.1 rfl).2))
    go_wp2_with (first|(go_at_call 185;refine zC M (spec_OpOk _ _ _ _ _) ?_;clear M;intro w' M;rw [hop])|((with_reducible refine zN ?_);first|((first|refine Mine.wp_arg M.out rfl 237 _ rfl _ _ rfl _ HR.out HB.out _ Tryz.underlying237 (by rfl) (by kernel_rfl) ?_|refine Mine.wp_argc M.out rfl _ _ rfl _ _ K0.out rfl _ Tryz.underlying3 (by rfl) ?_);(try simp only [zr_,zm_]))))
    go_ret
    exact ⟨by rw [HZ.out];rfl,M.out.ext⟩
   subst e1
   have HFF:=hid e2
   clear e2
   have HC : Hid (cOne l q _):=⟨HOK.out,fun z => (by simp at z),fun _ => ⟨HD.out,HFF.out⟩,by rw [HDS.out,HOP.out];omega⟩
   go_wp2_with (first|(go_at_call 185;refine zC M (spec_OpOk _ _ _ _ _) ?_;clear M;intro w' M;rw [hop])|((with_reducible refine zN ?_);first|((first|refine Mine.wp_arg M.out rfl 237 _ rfl _ _ rfl _ HR.out HB.out _ Tryz.underlying237 (by rfl) (by kernel_rfl) ?_|refine Mine.wp_argc M.out rfl _ _ rfl _ _ K0.out rfl _ Tryz.underlying3 (by rfl) ?_);(try simp only [zr_,zm_]))))
   go_roundw
   case rel => exact ⟨q + 1,_,HLT.out,by go_num,by rw [HDS.out,HOP.out];first|done|rfl|(congr 1;omega),rfl,hid (HU.out.succ HO.out HC.out),hid (.inr ⟨rfl,ff_not HO.out rfl⟩),M⟩
   case measure => have:=HLT.out;simp [intOf];omega
  have b8 : (k == 8) = false:=by simpa using k8
  have b9 : (k == 9) = false:=by simpa using k9
  have b7 : (k == 7) = false:=by simpa using k7
  have b11 : (k == 11) = false:=by simpa using k11
  have HOP : Hid (opn ⟨k,a,b2,c2⟩ = 0):=by show _ = _;unfold opn;rw [if_neg k8,if_neg k9]
  have HK7:=hid k7
  have HK11:=hid k11
  clear k8 k9 k7 k11
  have HC : Hid (cOne l q _):=⟨HOK.out,fun z => absurd z HK7.out,fun z => absurd z HK11.out,by rw [HDS.out,HOP.out];omega⟩
  go_wp2_with (first|(go_at_call 185;refine zC M (spec_OpOk _ _ _ _ _) ?_;clear M;intro w' M;rw [hop])|((with_reducible refine zN ?_);first|((first|refine Mine.wp_arg M.out rfl 237 _ rfl _ _ rfl _ HR.out HB.out _ Tryz.underlying237 (by rfl) (by kernel_rfl) ?_|refine Mine.wp_argc M.out rfl _ _ rfl _ _ K0.out rfl _ Tryz.underlying3 (by rfl) ?_);(try simp only [zr_,zm_]))))
  go_roundw
  case rel => exact ⟨q + 1,_,HLT.out,by go_num,by rw [HDS.out,HOP.out];first|done|rfl|(congr 1;omega),rfl,hid (HU.out.succ HO.out HC.out),hid (HF.out.next HO.out HK11.out),M⟩
  case measure => have:=HLT.out;simp [intOf];omega

end Go.Proofs.YtoegjiigaoanbaaGreat
namespace Go.Proofs.YtoegjiigaoanbaaGreat
open Go.RowKit Go.Deep
set_option linter.unnecessarySimpa false
set_option maxHeartbeats 400000000
open Go.Lib (hid)
set_option linter.unusedSimpArgs false
set_option linter.unusedVariables false

theorem kid_at {w : World} {S : Nat → Prop} {A : Option Addr} {n : Nat} {l : List Kid} (h : SlR Kid.R 1 w S A n l) {k : Nat} (hk : k < n) :
  ∃ (b o : Nat) (x : Kid) (A0 : Option Addr) (n0 c0 : Nat),A = some ⟨b,o,none⟩ ∧ l[k]? = some x ∧ b < w.heap.size ∧ w.cell? ⟨b,o + k,none⟩ = some (.slice A0 n0 c0) ∧ Sl w S 4 A0 n0 (x.code_.flatMap GOp.cells) ∧ x.code_.length = n0 ∧ n0 ≤ c0:=by
 obtain ⟨b,o,rfl⟩:=h.addr (by omega)
 obtain ⟨x,row,hx,hb,hr,hc⟩:=h.at_ hk
 obtain ⟨A0,n0,c0,rfl,⟨k0,m0,s0⟩⟩:=hr
 have h0:=hc 0 (by omega)
 simp only [Nat.mul_one,Nat.add_zero] at h0
 exact ⟨b,o,x,A0,n0,c0,rfl,hx,hb,h0,s0,s0.flen GOp.cells_length (by omega),k0⟩
theorem prog_at {w : World} {S : Nat → Prop} {A : Option Addr} {n : Nat} {l : List Prog} (h : SlR Prog.R 2 w S A n l) {k : Nat} (hk : k < n) :
  ∃ (b o : Nat) (x : Prog) (A0 : Option Addr) (n0 c0 : Nat) (A1 : Option Addr) (n1 c1 : Nat),A = some ⟨b,o,none⟩ ∧ l[k]? = some x ∧ b < w.heap.size ∧ w.rangeAt b (o + k * 2) [.slice A0 n0 c0,.slice A1 n1 c1] ∧ Prog.R w S [.slice A0 n0 c0,.slice A1 n1 c1] x:=by
 obtain ⟨b,o,rfl⟩:=h.addr (by omega)
 obtain ⟨x,row,hx,hb,hr,hc⟩:=h.at_ hk
 have hr2:=hr
 obtain ⟨A0,n0,c0,A1,n1,c1,rfl,-,-⟩:=hr2
 refine ⟨b,o,x,A0,n0,c0,A1,n1,c1,rfl,hx,hb,fun u v hu => ?_,hr⟩
 have h3 : u < 2:=by have:=(List.getElem?_eq_some_iff.1 hu).1;simpa using this
 rw [hc u h3];exact hu
noncomputable def touchF (o : GOp) : Int:=if dec (opOk o) = true then (if o.kind_ = 5 ∨ o.kind_ = 6 then 1 else if 12 ≤ o.kind_ ∧ o.kind_ ≤ 16 then 2 else 0) else 0
theorem touch_two (o : GOp) : touchF o = 2 ↔ (opOk o ∧ 12 ≤ o.kind_ ∧ o.kind_ ≤ 16):=by
 unfold touchF
 by_cases h : opOk o
 ·rw [if_pos (dec_yes h)]
  constructor
  ·intro z;refine ⟨h,?_⟩;split at z
   ·omega
   ·split at z
    ·assumption
    ·omega
  ·rintro ⟨-,a,b⟩;rw [if_neg (by omega),if_pos ⟨a,b⟩]
 ·rw [if_neg (by rw [dec_no h];simp)]
  exact ⟨fun z => by omega,fun z => absurd z.1 h⟩
def noFk (_ : Nat) (o : GOp) : Prop:=o.kind_ ≠ 11
def fkOk (p : Prog) : Prop:=hasFork p.code_ = decide (0 < p.kids_.length)
def kidP (_ : Nat) (k : Kid) : Prop:=kidOk k.code_ = true
theorem spec_Touches (k a b c : Int) (w : World) :
  Calls Tryz.prog 187 #[.agg #[.int .i64 k,.int .i64 a,.int .i64 b,.int .i64 c]] w fun e w' => e = .returned (.int .i64 (touchF ⟨k,a,b,c⟩)) ∧ Ext w w':=by
 have M : Hid (Mine w w []):=Mine.refl w
 cases hop : dec (opOk ⟨k,a,b,c⟩)
 ·have HZ : Hid (touchF ⟨k,a,b,c⟩ = 0):=by show _ = _;unfold touchF;rw [if_neg (by rw [hop];simp)]
  go_enter Tryz.func187,Tryz.ntmps187
  go_wp2_with (first|(go_at_call 185;refine zC M (spec_OpOk _ _ _ _ _) ?_;clear M;intro w' M;rw [hop])|((with_reducible refine zN ?_);first|(refine Mine.wp_box M.out rfl 237 _ rfl _ rfl ?_;intro gv w' M';(try simp only [zr_,zm_] at M');replace M:=hid M';clear M';(try simp only [zr_,zm_]))|(refine zGs M.out 237 0 4 ?_;(try simp only [zr_,zm_]))))
  go_ret
  exact ⟨by rw [HZ.out];first|done|rfl,M.out.ext⟩
 have HT:=fun (v : Int) (h : (if k = 5 ∨ k = 6 then (1 : Int) else if 12 ≤ k ∧ k ≤ 16 then 2 else 0) = v) => hid (show touchF ⟨k,a,b,c⟩ = v by unfold touchF;rw [if_pos hop];exact h)
 by_cases e5 : k = 5
 ·subst e5
  have HZ:=HT 1 (by simp)
  clear HT
  go_enter Tryz.func187,Tryz.ntmps187
  go_wp2_with (first|(go_at_call 185;refine zC M (spec_OpOk _ _ _ _ _) ?_;clear M;intro w' M;rw [hop])|((with_reducible refine zN ?_);first|(refine Mine.wp_box M.out rfl 237 _ rfl _ rfl ?_;intro gv w' M';(try simp only [zr_,zm_] at M');replace M:=hid M';clear M';(try simp only [zr_,zm_]))|((first|refine zGs M.out 237 0 4 ?_|refine zG M.out 0 ?_);(try simp only [zr_,zm_]))))
  go_ret
  exact ⟨by rw [HZ.out];first|done|rfl,M.out.ext⟩
 by_cases e6 : k = 6
 ·subst e6
  have HZ:=HT 1 (by simp)
  clear HT
  go_enter Tryz.func187,Tryz.ntmps187
  go_wp2_with (first|(go_at_call 185;refine zC M (spec_OpOk _ _ _ _ _) ?_;clear M;intro w' M;rw [hop])|((with_reducible refine zN ?_);first|(refine Mine.wp_box M.out rfl 237 _ rfl _ rfl ?_;intro gv w' M';(try simp only [zr_,zm_] at M');replace M:=hid M';clear M';(try simp only [zr_,zm_]))|((first|refine zGs M.out 237 0 4 ?_|refine zG M.out 0 ?_);(try simp only [zr_,zm_]))))
  go_ret
  exact ⟨by rw [HZ.out];first|done|rfl,M.out.ext⟩
 by_cases e12 : k = 12
 ·subst e12
  have HZ:=HT 2 (by simp)
  clear HT
  go_enter Tryz.func187,Tryz.ntmps187
  go_wp2_with (first|(go_at_call 185;refine zC M (spec_OpOk _ _ _ _ _) ?_;clear M;intro w' M;rw [hop])|((with_reducible refine zN ?_);first|(refine Mine.wp_box M.out rfl 237 _ rfl _ rfl ?_;intro gv w' M';(try simp only [zr_,zm_] at M');replace M:=hid M';clear M';(try simp only [zr_,zm_]))|((first|refine zGs M.out 237 0 4 ?_|refine zG M.out 0 ?_);(try simp only [zr_,zm_]))))
  go_ret
  exact ⟨by rw [HZ.out];first|done|rfl,M.out.ext⟩
 by_cases e13 : k = 13
 ·subst e13
  have HZ:=HT 2 (by simp)
  clear HT
  go_enter Tryz.func187,Tryz.ntmps187
  go_wp2_with (first|(go_at_call 185;refine zC M (spec_OpOk _ _ _ _ _) ?_;clear M;intro w' M;rw [hop])|((with_reducible refine zN ?_);first|(refine Mine.wp_box M.out rfl 237 _ rfl _ rfl ?_;intro gv w' M';(try simp only [zr_,zm_] at M');replace M:=hid M';clear M';(try simp only [zr_,zm_]))|((first|refine zGs M.out 237 0 4 ?_|refine zG M.out 0 ?_);(try simp only [zr_,zm_]))))
  go_ret
  exact ⟨by rw [HZ.out];first|done|rfl,M.out.ext⟩
 by_cases e14 : k = 14
 ·subst e14
  have HZ:=HT 2 (by simp)
  clear HT
  go_enter Tryz.func187,Tryz.ntmps187
  go_wp2_with (first|(go_at_call 185;refine zC M (spec_OpOk _ _ _ _ _) ?_;clear M;intro w' M;rw [hop])|((with_reducible refine zN ?_);first|(refine Mine.wp_box M.out rfl 237 _ rfl _ rfl ?_;intro gv w' M';(try simp only [zr_,zm_] at M');replace M:=hid M';clear M';(try simp only [zr_,zm_]))|((first|refine zGs M.out 237 0 4 ?_|refine zG M.out 0 ?_);(try simp only [zr_,zm_]))))
  go_ret
  exact ⟨by rw [HZ.out];first|done|rfl,M.out.ext⟩
 by_cases e15 : k = 15
 ·subst e15
  have HZ:=HT 2 (by simp)
  clear HT
  go_enter Tryz.func187,Tryz.ntmps187
  go_wp2_with (first|(go_at_call 185;refine zC M (spec_OpOk _ _ _ _ _) ?_;clear M;intro w' M;rw [hop])|((with_reducible refine zN ?_);first|(refine Mine.wp_box M.out rfl 237 _ rfl _ rfl ?_;intro gv w' M';(try simp only [zr_,zm_] at M');replace M:=hid M';clear M';(try simp only [zr_,zm_]))|((first|refine zGs M.out 237 0 4 ?_|refine zG M.out 0 ?_);(try simp only [zr_,zm_]))))
  go_ret
  exact ⟨by rw [HZ.out];first|done|rfl,M.out.ext⟩
 by_cases e16 : k = 16
 ·subst e16
  have HZ:=HT 2 (by simp)
  clear HT
  go_enter Tryz.func187,Tryz.ntmps187
  go_wp2_with (first|(go_at_call 185;refine zC M (spec_OpOk _ _ _ _ _) ?_;clear M;intro w' M;rw [hop])|((with_reducible refine zN ?_);first|(refine Mine.wp_box M.out rfl 237 _ rfl _ rfl ?_;intro gv w' M';(try simp only [zr_,zm_] at M');replace M:=hid M';clear M';(try simp only [zr_,zm_]))|((first|refine zGs M.out 237 0 4 ?_|refine zG M.out 0 ?_);(try simp only [zr_,zm_]))))
  go_ret
  exact ⟨by rw [HZ.out];first|done|rfl,M.out.ext⟩
 have HZ:=HT 0 (by rw [if_neg (by omega),if_neg (by omega)])
 clear HT
 have b5 : (k == 5) = false:=by simpa using e5
 have b6 : (k == 6) = false:=by simpa using e6
 have b12 : (k == 12) = false:=by simpa using e12
 have b13 : (k == 13) = false:=by simpa using e13
 have b14 : (k == 14) = false:=by simpa using e14
 have b15 : (k == 15) = false:=by simpa using e15
 have b16 : (k == 16) = false:=by simpa using e16
 clear e5 e6 e12 e13 e14 e15 e16
 go_enter Tryz.func187,Tryz.ntmps187
 go_wp2_with (first|(go_at_call 185;refine zC M (spec_OpOk _ _ _ _ _) ?_;clear M;intro w' M;rw [hop])|((with_reducible refine zN ?_);first|(refine Mine.wp_box M.out rfl 237 _ rfl _ rfl ?_;intro gv w' M';(try simp only [zr_,zm_] at M');replace M:=hid M';clear M';(try simp only [zr_,zm_]))|((first|refine zGs M.out 237 0 4 ?_|refine zG M.out 0 ?_);(try simp only [zr_,zm_]))))
 go_ret
 exact ⟨by rw [HZ.out];first|done|rfl,M.out.ext⟩
theorem impl_Touches (k a b c : Int) (w : World) :
  Calls Tryz.prog 197 #[.agg #[.int .i64 k,.int .i64 a,.int .i64 b,.int .i64 c]] w fun e w' => e = .returned (.int .i64 (touchF ⟨k,a,b,c⟩)) ∧ Ext w w':=by
 have M : Hid (Mine w w []):=Mine.refl w
 cases hop : dec (opOk ⟨k,a,b,c⟩)
 ·have HZ : Hid (touchF ⟨k,a,b,c⟩ = 0):=by show _ = _;unfold touchF;rw [if_neg (by rw [hop];simp)]
  go_enter Tryz.func197,Tryz.ntmps197
  go_wp2_with (first|(go_at_call 199;refine zC M (impl_OpOk _ _ _ _ _) ?_;clear M;intro w' M;rw [hop])|((with_reducible refine zN ?_);first|(refine Mine.wp_box M.out rfl 237 _ rfl _ rfl ?_;intro gv w' M';(try simp only [zr_,zm_] at M');replace M:=hid M';clear M';(try simp only [zr_,zm_]))|(refine zGs M.out 237 0 4 ?_;(try simp only [zr_,zm_]))))
  go_ret
  exact ⟨by rw [HZ.out];first|done|rfl,M.out.ext⟩
 have HT:=fun (v : Int) (h : (if k = 5 ∨ k = 6 then (1 : Int) else if 12 ≤ k ∧ k ≤ 16 then 2 else 0) = v) => hid (show touchF ⟨k,a,b,c⟩ = v by unfold touchF;rw [if_pos hop];exact h)
 by_cases e5 : k = 5
 ·subst e5
  have HZ:=HT 1 (by simp)
  clear HT
  go_enter Tryz.func197,Tryz.ntmps197
  go_wp2_with (first|(go_at_call 199;refine zC M (impl_OpOk _ _ _ _ _) ?_;clear M;intro w' M;rw [hop])|((with_reducible refine zN ?_);first|(refine Mine.wp_box M.out rfl 237 _ rfl _ rfl ?_;intro gv w' M';(try simp only [zr_,zm_] at M');replace M:=hid M';clear M';(try simp only [zr_,zm_]))|((first|refine zGs M.out 237 0 4 ?_|refine zG M.out 0 ?_);(try simp only [zr_,zm_]))))
  go_ret
  exact ⟨by rw [HZ.out];first|done|rfl,M.out.ext⟩
 by_cases e6 : k = 6
 ·subst e6
  have HZ:=HT 1 (by simp)
  clear HT
  go_enter Tryz.func197,Tryz.ntmps197
  go_wp2_with (first|(go_at_call 199;refine zC M (impl_OpOk _ _ _ _ _) ?_;clear M;intro w' M;rw [hop])|((with_reducible refine zN ?_);first|(refine Mine.wp_box M.out rfl 237 _ rfl _ rfl ?_;intro gv w' M';(try simp only [zr_,zm_] at M');replace M:=hid M';clear M';(try simp only [zr_,zm_]))|((first|refine zGs M.out 237 0 4 ?_|refine zG M.out 0 ?_);(try simp only [zr_,zm_]))))
  go_ret
  exact ⟨by rw [HZ.out];first|done|rfl,M.out.ext⟩
 by_cases e12 : k = 12
 ·subst e12
  have HZ:=HT 2 (by simp)
  clear HT
  go_enter Tryz.func197,Tryz.ntmps197
  go_wp2_with (first|(go_at_call 199;refine zC M (impl_OpOk _ _ _ _ _) ?_;clear M;intro w' M;rw [hop])|((with_reducible refine zN ?_);first|(refine Mine.wp_box M.out rfl 237 _ rfl _ rfl ?_;intro gv w' M';(try simp only [zr_,zm_] at M');replace M:=hid M';clear M';(try simp only [zr_,zm_]))|((first|refine zGs M.out 237 0 4 ?_|refine zG M.out 0 ?_);(try simp only [zr_,zm_]))))
  go_ret
  exact ⟨by rw [HZ.out];first|done|rfl,M.out.ext⟩
 by_cases e13 : k = 13
 ·subst e13
  have HZ:=HT 2 (by simp)
  clear HT
  go_enter Tryz.func197,Tryz.ntmps197
  go_wp2_with (first|(go_at_call 199;refine zC M (impl_OpOk _ _ _ _ _) ?_;clear M;intro w' M;rw [hop])|((with_reducible refine zN ?_);first|(refine Mine.wp_box M.out rfl 237 _ rfl _ rfl ?_;intro gv w' M';(try simp only [zr_,zm_] at M');replace M:=hid M';clear M';(try simp only [zr_,zm_]))|((first|refine zGs M.out 237 0 4 ?_|refine zG M.out 0 ?_);(try simp only [zr_,zm_]))))
  go_ret
  exact ⟨by rw [HZ.out];first|done|rfl,M.out.ext⟩
 by_cases e14 : k = 14
 ·subst e14
  have HZ:=HT 2 (by simp)
  clear HT
  go_enter Tryz.func197,Tryz.ntmps197
  go_wp2_with (first|(go_at_call 199;refine zC M (impl_OpOk _ _ _ _ _) ?_;clear M;intro w' M;rw [hop])|((with_reducible refine zN ?_);first|(refine Mine.wp_box M.out rfl 237 _ rfl _ rfl ?_;intro gv w' M';(try simp only [zr_,zm_] at M');replace M:=hid M';clear M';(try simp only [zr_,zm_]))|((first|refine zGs M.out 237 0 4 ?_|refine zG M.out 0 ?_);(try simp only [zr_,zm_]))))
  go_ret
  exact ⟨by rw [HZ.out];first|done|rfl,M.out.ext⟩
 by_cases e15 : k = 15
 ·subst e15
  have HZ:=HT 2 (by simp)
  clear HT
  go_enter Tryz.func197,Tryz.ntmps197
  go_wp2_with (first|(go_at_call 199;refine zC M (impl_OpOk _ _ _ _ _) ?_;clear M;intro w' M;rw [hop])|((with_reducible refine zN ?_);first|(refine Mine.wp_box M.out rfl 237 _ rfl _ rfl ?_;intro gv w' M';(try simp only [zr_,zm_] at M');replace M:=hid M';clear M';(try simp only [zr_,zm_]))|((first|refine zGs M.out 237 0 4 ?_|refine zG M.out 0 ?_);(try simp only [zr_,zm_]))))
  go_ret
  exact ⟨by rw [HZ.out];first|done|rfl,M.out.ext⟩
 by_cases e16 : k = 16
 ·subst e16
  have HZ:=HT 2 (by simp)
  clear HT
  go_enter Tryz.func197,Tryz.ntmps197
  go_wp2_with (first|(go_at_call 199;refine zC M (impl_OpOk _ _ _ _ _) ?_;clear M;intro w' M;rw [hop])|((with_reducible refine zN ?_);first|(refine Mine.wp_box M.out rfl 237 _ rfl _ rfl ?_;intro gv w' M';(try simp only [zr_,zm_] at M');replace M:=hid M';clear M';(try simp only [zr_,zm_]))|((first|refine zGs M.out 237 0 4 ?_|refine zG M.out 0 ?_);(try simp only [zr_,zm_]))))
  go_ret
  exact ⟨by rw [HZ.out];first|done|rfl,M.out.ext⟩
 have HZ:=HT 0 (by rw [if_neg (by omega),if_neg (by omega)])
 clear HT
 have b5 : (k == 5) = false:=by simpa using e5
 have b6 : (k == 6) = false:=by simpa using e6
 have b12 : (k == 12) = false:=by simpa using e12
 have b13 : (k == 13) = false:=by simpa using e13
 have b14 : (k == 14) = false:=by simpa using e14
 have b15 : (k == 15) = false:=by simpa using e15
 have b16 : (k == 16) = false:=by simpa using e16
 clear e5 e6 e12 e13 e14 e15 e16
 go_enter Tryz.func197,Tryz.ntmps197
 go_wp2_with (first|(go_at_call 199;refine zC M (impl_OpOk _ _ _ _ _) ?_;clear M;intro w' M;rw [hop])|((with_reducible refine zN ?_);first|(refine Mine.wp_box M.out rfl 237 _ rfl _ rfl ?_;intro gv w' M';(try simp only [zr_,zm_] at M');replace M:=hid M';clear M';(try simp only [zr_,zm_]))|((first|refine zGs M.out 237 0 4 ?_|refine zG M.out 0 ?_);(try simp only [zr_,zm_]))))
 go_ret
 exact ⟨by rw [HZ.out];first|done|rfl,M.out.ext⟩

end Go.Proofs.YtoegjiigaoanbaaGreat
namespace Go.Proofs.YtoegjiigaoanbaaGreat
open Go.RowKit Go.Deep
set_option linter.unnecessarySimpa false
set_option maxHeartbeats 400000000
open Go.Lib (hid)
set_option linter.unusedSimpArgs false
set_option linter.unusedVariables false

theorem Mine.rd_arg {P : Program} {o : Oper} {a : Act} {b : World} {rs : List Res} {K : Act → Prop} (ty : TypeId) (x : Operand) (ho : o.op = .load ty x) (p : Addr) (v : Value) (hc : b.cell? p = some v ∧ p.block < b.heap.size) (hx : a.eval x = .pointer (some p))
  (d : TypeDesc) (hu : P.underlying ty = some d) (hd : d.isRow = false) (h : K (a.put o.dst v)) : Reads P o a (fun w' => Mine b w' rs) K :=
 ⟨v,fun w' M => by
  unfold execOp
  simp only [ho,hx,Instr.loadAt,Instr.sureAddr,Sem.run_bind,Sem.run_pure,Result.andThen_ok,run_loadVar_cell w' _ ty v d ((M.ext.cell hc.2).trans hc.1) hu hd],h⟩

structure MEnt where
 r : Option Addr × Nat
 c : Option Addr × Nat
 m : Option Addr × Nat
 x : WM
def mcell (p : MEnt) : List Value:=[.int .i64 (p.x.at_ : Int),.slice p.r.1 4 p.r.2,.slice p.c.1 8 p.c.2,.slice p.m.1 8 p.m.2,.int .i64 p.x.th.count_]
theorem mcell_length (p : MEnt) : (mcell p).length = 5:=rfl
def mrows (p : MEnt) : List Res:=[.row 3 1 p.r.1 4 p.r.2 (ints p.x.regs),.row 3 1 p.c.1 8 p.c.2 (ints p.x.th.cells_),.row 3 1 p.m.1 8 p.m.2 (ints p.x.th.map_)]
theorem marks_push (es : List MEnt) (e : MEnt) : es.flatMap mcell ++ mcell e = (es ++ [e]).flatMap mcell:=by rw [List.flatMap_append];simp
theorem marks_cut (es : List MEnt) (e : MEnt) : ((es ++ [e]).flatMap mcell).take (es.length * 5) = es.flatMap mcell:=by
 rw [List.flatMap_append,List.take_append_of_le_length (by rw [flat_length mcell_length];exact Nat.le_refl _),List.take_of_length_le (by rw [flat_length mcell_length];exact Nat.le_refl _)]
theorem marks_last (es : List MEnt) (e : MEnt) : ∀ k,k < 5 → ((es ++ [e]).flatMap mcell)[es.length * 5 + k]? = (mcell e)[k]?:=fun k hk =>
 flat_get mcell_length (es ++ [e]) es.length k e (by simp) hk
theorem rows_push (B : List Res) (es : List MEnt) (e : MEnt) : (B ++ es.flatMap mrows) ++ mrows e = B ++ (es ++ [e]).flatMap mrows:=by rw [List.flatMap_append];simp
section
variable {b w : World} {x y z : Res} {L : List Res}
theorem Mine.back3 (M : Mine b w (x::y::z::L)) : Mine b w (L ++ [z,x,y]):=by
 refine M.perm ?_
 have h1 : (x::y::z::L).Perm (L ++ [x,y,z]):=List.perm_append_comm (l₁:=[x,y,z]) (l₂:=L)
 refine h1.trans (List.Perm.append_left L ?_)
 exact ((List.Perm.cons x (List.Perm.swap z y [])).trans (List.Perm.swap z x [y]))
theorem Mine.front3 (M : Mine b w (L ++ [x,y,z])) : Mine b w (x::y::z::L):=M.perm (List.perm_append_comm (l₁:=L) (l₂:=[x,y,z]))
end
def SRows (tm : TypeId) (gs : Nat) (s : WS) (R : Option Addr × Nat) (C P : Option Addr × Nat) (A : Option Addr) (mc : Nat) (es : List MEnt) (B : List Res) : List Res :=
 .row 3 1 R.1 4 R.2 (ints s.regs)::.row 3 1 C.1 8 C.2 (ints s.th.cells_)::.row 3 1 P.1 8 P.2 (ints s.th.map_)::.row tm 5 A es.length mc (es.flatMap mcell) ::
 .box gs 42 #[.slice C.1 8 C.2,.slice P.1 8 P.2,.int .i64 s.th.count_]::(B ++ es.flatMap mrows)
structure WInv (l : List GOp) (F : FF) (t0 : Things) (s0 s : WS) : Prop where
 runs : ∀ r,Runs l F t0 s r → Runs l F t0 s0 r
 inv : MInv l s.pc (s.ms.map WM.at_)
 ok : WOk s
theorem WInv.zero {l : List GOp} {F : FF} {t : Things} {regs : List Int} (hr : regsOk regs = true) (ht : thingsOk t = true) : WInv l F t ⟨0,regs,t,[]⟩ ⟨0,regs,t,[]⟩ :=
 ⟨fun _ h => h,MInv.zero l,⟨hr,ht,fun m hm => by cases hm⟩⟩
theorem WInv.step {l : List GOp} {F : FF} {t0 : Things} {s0 s s' : WS} {o : GOp} (h : WInv l F t0 s0 s) (hc : codeOk l = true) (hF : FOk F) (ho : l[s.pc]? = some o) (hs : stp l F o s = some s') (hi : MInv l s'.pc (s'.ms.map WM.at_)) : WInv l F t0 s0 s' :=
 ⟨fun r hr => h.runs r (Runs.step ho hs hr),hi,stp_ok hF (codeOk_at hc ho).1 h.ok hs⟩
theorem WInv.plain {l : List GOp} {F : FF} {t0 : Things} {s0 s s' : WS} {o : GOp} (h : WInv l F t0 s0 s) (hc : codeOk l = true) (hF : FOk F) (ho : l[s.pc]? = some o) (hs : stp l F o s = some s') (h8 : o.kind_ ≠ 8) (h9 : o.kind_ ≠ 9) (hp : s'.pc = s.pc + 1) (hm : s'.ms = s.ms) : WInv l F t0 s0 s' :=
 h.step hc hF ho hs (by rw [hp,hm];exact h.inv.step ho h8 h9)
def WRel (l : List GOp) (F : FF) (t0 : Things) (s0 : WS) (tm : TypeId) (gs : Nat) (B : List Res) (b wr : World) (rv mv iv : Value) : Prop :=
 ∃ (s : WS) (R C P : Option Addr × Nat) (A : Option Addr) (mc : Nat) (es : List MEnt),rv = .slice R.1 4 R.2 ∧ mv = .slice A es.length mc ∧ iv = .int .i64 (s.pc : Int) ∧ es.map MEnt.x = s.ms ∧ WInv l F t0 s0 s ∧ Mine b wr (SRows tm gs s R C P A mc es B)
def WNext (l : List GOp) (F : FF) (t0 : Things) (s0 : WS) (pc : Nat) (tm : TypeId) (gs : Nat) (B : List Res) (b wr : World) (rv mv iv : Value) : Prop :=
 ∃ (s : WS) (R C P : Option Addr × Nat) (A : Option Addr) (mc : Nat) (es : List MEnt),rv = .slice R.1 4 R.2 ∧ mv = .slice A es.length mc ∧ iv = .int .i64 (s.pc : Int) ∧ es.map MEnt.x = s.ms ∧ WInv l F t0 s0 s ∧ pc < s.pc ∧ Mine b wr (SRows tm gs s R C P A mc es B)
theorem es_len {l : List GOp} {s : WS} {es : List MEnt} (hx : es.map MEnt.x = s.ms) (h : MInv l s.pc (s.ms.map WM.at_)) (hl : l.length ≤ 24) : es.length ≤ 24:=by
 have h1:=h.len
 have h2:=dep_le l s.pc
 have h3:=h.le
 have h4:=congrArg List.length hx
 rw [List.length_map] at h1 h4
 omega
theorem es_snoc {es : List MEnt} (h : es ≠ []) : ∃ es' e,es = es' ++ [e]:=by
 obtain ⟨a,l,rfl⟩:=List.exists_cons_of_ne_nil h
 exact ⟨(a::l).dropLast,(a::l).getLast (by simp),(List.dropLast_concat_getLast (by simp)).symm⟩
theorem ms_last {es : List MEnt} {e : MEnt} {ms : List WM} (h : (es ++ [e]).map MEnt.x = ms) : ms.getLast? = some e.x ∧ ms.dropLast = es.map MEnt.x:=by
 subst h;simp
theorem ms_snoc {es : List MEnt} {e : MEnt} {ms : List WM} (h : (es ++ [e]).map MEnt.x = ms) : ms.map WM.at_ = (es.map MEnt.x).map WM.at_ ++ [e.x.at_]:=by
 subst h;simp
theorem FOk.f0 : FOk F0:=F0_ok
def WPost (l : List GOp) (F : FF) (regs : List Int) (t : Things) (w : World) (e : Ending) (w' : World) : Prop :=
 ∃ (r : Run) (R C P : Option Addr × Nat),e = .returned (.agg #[.int .i64 r.out_,.slice R.1 4 R.2,.slice C.1 8 C.2,.slice P.1 8 P.2,.int .i64 r.things_.count_]) ∧ Runs l F t ⟨0,regs,t,[]⟩ r ∧ ROk r ∧
  Mine w w' [.row 3 1 R.1 4 R.2 (ints r.regs_),.row 3 1 C.1 8 C.2 (ints r.things_.cells_),.row 3 1 P.1 8 P.2 (ints r.things_.map_)]
theorem WInv.done {l : List GOp} {F : FF} {t0 : Things} {s0 s : WS} (h : WInv l F t0 s0 s) (hc : codeOk l = true) (hF : FOk F) (ht : thingsOk t0 = true) (hw : WOk s0) (hp : l.length ≤ s.pc) : Runs l F t0 s0 ⟨1,s.regs,s.th⟩ ∧ ROk ⟨1,s.regs,s.th⟩:=by
 have h1:=h.runs _ (Runs.done hp)
 exact ⟨h1,h1.ok hc hF ht hw⟩
theorem WInv.abort {l : List GOp} {F : FF} {t0 : Things} {s0 s : WS} {o : GOp} (h : WInv l F t0 s0 s) (hc : codeOk l = true) (hF : FOk F) (ht : thingsOk t0 = true) (hw : WOk s0) (ho : l[s.pc]? = some o) (hs : stp l F o s = none) : Runs l F t0 s0 ⟨2,s.regs,t0⟩ ∧ ROk ⟨2,s.regs,t0⟩:=by
 have h1:=h.runs _ (Runs.abort ho hs)
 exact ⟨h1,h1.ok hc hF ht hw⟩
theorem SRows.push {tm : TypeId} {gs : Nat} {b w : World} {k p2 : Nat} {regs : List Int} {th : Things} {ms : List WM} {R C P r c m : Option Addr × Nat} {A : Option Addr} {mc : Nat} {es : List MEnt} {B : List Res}
  (M : Mine b w (.row 3 1 c.1 8 c.2 (ints th.cells_)::.row 3 1 m.1 8 m.2 (ints th.map_)::.row 3 1 r.1 4 r.2 (ints regs)::.row 3 1 R.1 4 R.2 (ints regs)::.row 3 1 C.1 8 C.2 (ints th.cells_)::.row 3 1 P.1 8 P.2 (ints th.map_) ::
   .row tm 5 A (es.length + 1) mc (es.flatMap mcell ++ [.int .i64 (k : Int),.slice r.1 4 r.2,.slice c.1 8 c.2,.slice m.1 8 m.2,.int .i64 th.count_])::.box gs 42 #[.slice C.1 8 C.2,.slice P.1 8 P.2,.int .i64 th.count_]::(B ++ es.flatMap mrows))) :
  Mine b w (SRows tm gs ⟨p2,regs,th,ms⟩ R C P A mc (es ++ [⟨r,c,m,⟨k,regs,th⟩⟩]) B):=by
 have h:=M.back3
 have e1:=marks_push es ⟨r,c,m,⟨k,regs,th⟩⟩
 have e2:=rows_push B es ⟨r,c,m,⟨k,regs,th⟩⟩
 unfold SRows
 rw [← e1,← e2,List.length_append]
 exact h
theorem SRows.front {tm : TypeId} {gs : Nat} {b w : World} {s : WS} {R C P : Option Addr × Nat} {A : Option Addr} {mc : Nat} {es : List MEnt} {e : MEnt} {B : List Res} (M : Mine b w (SRows tm gs s R C P A mc (es ++ [e]) B)) :
  Mine b w (.row 3 1 e.r.1 4 e.r.2 (ints e.x.regs)::.row 3 1 e.c.1 8 e.c.2 (ints e.x.th.cells_)::.row 3 1 e.m.1 8 e.m.2 (ints e.x.th.map_)::.row 3 1 R.1 4 R.2 (ints s.regs)::.row 3 1 C.1 8 C.2 (ints s.th.cells_)::.row 3 1 P.1 8 P.2 (ints s.th.map_) ::
   .row tm 5 A (es.length + 1) mc ((es ++ [e]).flatMap mcell)::.box gs 42 #[.slice C.1 8 C.2,.slice P.1 8 P.2,.int .i64 s.th.count_]::(B ++ es.flatMap mrows)):=by
 unfold SRows at M
 rw [← rows_push,List.length_append] at M
 exact Mine.front3 (L:=.row 3 1 R.1 4 R.2 (ints s.regs)::.row 3 1 C.1 8 C.2 (ints s.th.cells_)::.row 3 1 P.1 8 P.2 (ints s.th.map_)::.row tm 5 A (es.length + 1) mc ((es ++ [e]).flatMap mcell)::.box gs 42 #[.slice C.1 8 C.2,.slice P.1 8 P.2,.int .i64 s.th.count_]::(B ++ es.flatMap mrows)) M
theorem SRows.cut {tm : TypeId} {gs : Nat} {b w : World} {p2 : Nat} {regs : List Int} {th : Things} {ms : List WM} {R C P : Option Addr × Nat} {A : Option Addr} {mc : Nat} {es : List MEnt} {e : MEnt} {B : List Res}
  (M : Mine b w (.row 3 1 R.1 4 R.2 (ints regs)::.row 3 1 C.1 8 C.2 (ints th.cells_)::.row 3 1 P.1 8 P.2 (ints th.map_) ::
   .row tm 5 A (es.length + 1) mc ((es ++ [e]).flatMap mcell)::.box gs 42 #[.slice C.1 8 C.2,.slice P.1 8 P.2,.int .i64 th.count_]::(B ++ es.flatMap mrows))) :
  Mine b w (SRows tm gs ⟨p2,regs,th,ms⟩ R C P A mc es B):=by
 have h:=M.cut 3 rfl (m:=es.length) (Nat.le_succ _)
 rw [marks_cut] at h
 exact h
theorem kid_map {l : List GOp} {regs : List Int} {t : Things} {r : Run} (hk : kidOk l = true) (h : Runs l F0 t ⟨0,regs,t,[]⟩ r) :
  r.things_.map_ = t.map_ ∧ r.things_.count_ = t.count_ ∧ run0 l regs ⟨t.cells_,zeros8,0⟩ = runW zeros8 0 r:=by
 have hko:=dec_true hk
 have hop : ∀ (i : Nat) (o : GOp),l[i]? = some o → opOk o ∧ ¬ (12 ≤ o.kind_ ∧ o.kind_ ≤ 16):=fun i o hi =>
  have h1:=(codeOk_at hko.1 hi).1
  ⟨h1,fun z => (hko.2 i (List.getElem?_eq_some_iff.1 hi).1 o hi).2 ⟨h1,z⟩⟩
 have h1:=h.w t.map_ t.count_ hop
 have h2:=h.uniq (r2:=runW t.map_ t.count_ r) h1
 refine ⟨by rw [h2];rfl,by rw [h2];rfl,run0_is ?_⟩
 exact h.w zeros8 0 hop
theorem kid_nofk {l : List GOp} (hk : kidOk l = true) : AllTo noFk l l.length:=fun i hi a ha => ((dec_true hk).2 i hi a ha).1
theorem made_zeros (n : Nat) : (madeCells (Value.int .i64 0).cells (n * 1)).toList = ints (List.replicate n 0):=by
 have h:=made_flat (α:=Int) (cells:=fun x => [Value.int .i64 x]) (size:=1) (fun _ => rfl) (by omega) (z:=.int .i64 0) (a:=0) rfl n
 rw [h]
 unfold ints
 induction n with
 | zero => rfl
 | succ n ih => rw [List.replicate_succ,List.flatMap_cons,List.map_cons,ih (made_flat (α:=Int) (cells:=fun x => [Value.int .i64 x]) (size:=1) (fun _ => rfl) (by omega) (z:=.int .i64 0) (a:=0) rfl n)];rfl
end Go.Proofs.YtoegjiigaoanbaaGreat
namespace Go.Proofs.YtoegjiigaoanbaaGreat
open Go.RowKit Go.Deep
set_option linter.unnecessarySimpa false
set_option maxHeartbeats 400000000
open Go.Lib (hid)
theorem Mine.step_make {P : Program} {ops : Array Oper} {o : Oper} {a : Act} {Q : Exit → Act → World → Prop} {b w : World} {rs : List Res} {K : Act → World → Prop} {E : Prop} (M : Mine b w rs) (hgd : o.guard = none) (t : TypeId) (x y : Operand) (ho : o.op = .makeSlice t x y) (e : TypeId) (z : Value) (size bytes : Nat) (ht : P.underlying t = some (.slice e))
  (hf : (P.info? e).map (fun i => (i.zero,i.size,i.bytes)) = some (some z,size,bytes)) (m : Nat) (hl : a.eval x = .int .i64 m) (hc : a.eval y = .int .i64 m) (hb : bytes * m ≤ 281474976710656) (hn : m ≤ maxLen)
  (h : ∀ g w',Mine b w' (.row e size (some ⟨g,0,none⟩) m m (madeCells z.cells (m * size)).toList::rs) → K (a.put o.dst (.slice (some ⟨g,0,none⟩) m m)) w') : if Region.wanted o (yielded ops a.tmps) = true then Oper.wp P o a w K Q else E:=by
 have hw : Region.wanted o (yielded ops a.tmps) = true:=by simp [Region.wanted,hgd]
 rw [if_pos hw]
 obtain ⟨w1,cs0,hmk,hown,rfl,hx1,-⟩:=made_row (P:=P) w t e z size bytes ht hf m hb hn
 unfold Oper.wp execOp
 simp only [ho,hl,hc,Sem.run_bind,Sem.run_pure,hmk,Result.andThen_ok]
 exact h _ _ (M.own hown hx1)
end Go.Proofs.YtoegjiigaoanbaaGreat
