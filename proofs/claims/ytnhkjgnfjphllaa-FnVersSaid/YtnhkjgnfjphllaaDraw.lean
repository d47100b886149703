/- The cursor over a code: l1Byte, l1Below, l1Once. No condition but lengths. -/
import Derived.Test.YtnhkjgnfjphllaaMem
import Derived.Laws.BitsAllLaws
import Derived.Laws.BitsLemmas
import Derived.IntWalk
namespace Go.Proofs.Ytnhkjgnfjphllaa
open Go.RowKit

def charsD (l : List UInt8) : List Value := l.map fun b => .int .u8 (b.toNat : Int)
theorem and255 (a : Int) : 0 ≤ bits .and .i64 a 255 ∧ bits .and .i64 a 255 ≤ 255 := by
  show 0 ≤ IntKind.i64.wrap ((BitVec.ofInt 64 a &&& BitVec.ofInt 64 255).toNat : Int) ∧ IntKind.i64.wrap ((BitVec.ofInt 64 a &&& BitVec.ofInt 64 255).toNat : Int) ≤ 255
  have h : (BitVec.ofInt 64 a &&& BitVec.ofInt 64 255).toNat ≤ 255 := by
    rw [BitVec.toNat_and]
    exact Nat.le_trans Nat.and_le_right (by decide)
  rw [IntKind.wrap_i64]
  omega
/-- The cursor lies in block g, over the bytes bs. -/
structure Cur (w : World) (g : Nat) (S : Nat → Prop) (A : Option Addr) (n c : Nat) (bs : List UInt8) (i h : Int) : Prop where
  bx : Bx w g 104 #[.slice A n c, .int .i64 i, .int .i64 h]
  i0 : 0 ≤ i
  i1 : i ≤ n
  sl : Sl w S 1 A n (charsD bs)
  ap : ¬ S g
theorem Cur.step {w w' : World} {g : Nat} {S : Nat → Prop} {A : Option Addr} {n c : Nat} {bs : List UInt8} {i h i' h' : Int} (k : Cur w g S A n c bs i h) (b : Bx w' g 104 #[.slice A n c, .int .i64 i', .int .i64 h']) (cc : Chg (fun j => j = g) w w') (h0 : 0 ≤ i') (h1 : i' ≤ n) : Cur w' g S A n c bs i' h' :=
  ⟨b, h0, h1, k.sl.chg cc (fun j hj e => k.ap (by rw [← show j = g from e]; exact hj)), k.ap⟩

set_option maxHeartbeats 4000000 in
theorem l1Byte_any (g : Nat) (S : Nat → Prop) (A : Option Addr) (n c : Nat) (bs : List UInt8) (i h : Int) (w : World) (k : Cur w g S A n c bs i h) (hn : n ≤ 1048576) :
    Calls Try.prog 88 #[.pointer (some ⟨g, 0, none⟩)] w fun e w' => ∃ x i' h' : Int, e = .returned (.int .i64 x) ∧ (0 ≤ x ∧ x ≤ 255) ∧ Cur w' g S A n c bs i' h' ∧ Chg (fun j => j = g) w w' := by
  have K := Lib.hid k
  have q0 := k.bx.cell 0
  have q1 := k.bx.cell 1
  have q2 := k.bx.cell 2
  have f1 := k.bx.frozen 1
  have f2 := k.bx.frozen 2
  have i0 := k.i0
  have i1 := k.i1
  have zg := k.bx.lt
  clear k
  by_cases hlt : i < (n : Int)
  · obtain ⟨j, rfl⟩ : ∃ j : Nat, i = (j : Int) := ⟨i.toNat, by omega⟩
    have hjn : j < n := by omega
    obtain ⟨b, o, rfl, hS, hb, hc⟩ := K.out.sl.2 (by omega)
    have hcj := hc j (by omega)
    have hbl : ∃ u, bs[j]? = some u := ⟨_, List.getElem?_eq_getElem (by have h := K.out.sl.1; simp [charsD] at h; omega)⟩
    obtain ⟨u, hu⟩ := hbl
    have k0 : w.cell? ⟨b, o + j, none⟩ = some (.int .u8 (u.toNat : Int)) := by rw [hcj]; simp [charsD, hu]
    have hbg : b ≠ g := fun e => K.out.ap (by rw [← e]; exact hS)
    have hu8 := u.toNat_lt
    have hj0 : (0 : Int) ≤ (j : Int) := by omega
    have hjb : (j : Int) ≤ 1048576 := by omega
    clear hc hcj hu hS hjn i0 i1
    go_enter Try.func88, Try.ntmps88
    go_wp2
    go_quiet (fail)
    go_wp2
    go_quiet (fail)
    go_wp2
    go_quiet (fail)
    go_wp2
    go_ret
    have b1 : ∀ m : Nat, Bx (((w.setCell ⟨g, 2, none⟩ (.int .i64 (wrap64 (wrap64 (h * 6364136223846793005) + 1442695040888963407)))).drewN m).setCell ⟨g, 1, none⟩ (.int .i64 ((j : Int) + 1))) g 104 #[.slice (some ⟨b, o, none⟩) n c, .int .i64 ((j : Int) + 1), .int .i64 (wrap64 (wrap64 (h * 6364136223846793005) + 1442695040888963407))] := fun m => ((((K.out.bx.set_ 2 _).drN m).set_ 1 _).cast rfl)
    have c1 : ∀ m : Nat, Chg (fun j => j = g) w (((w.setCell ⟨g, 2, none⟩ (.int .i64 (wrap64 (wrap64 (h * 6364136223846793005) + 1442695040888963407)))).drewN m).setCell ⟨g, 1, none⟩ (.int .i64 ((j : Int) + 1))) := fun m => Chg.sc ((Chg.sc (Chg.refl (fun j => j = g) w) (p := ⟨g, 2, none⟩) rfl _).drN m) (p := ⟨g, 1, none⟩) rfl _
    exact ⟨_, (j : Int) + 1, _, rfl, and255 _, K.out.step (b1 _) (c1 _) (by omega) (by omega), c1 _⟩
  · go_enter Try.func88, Try.ntmps88
    go_wp2
    go_quiet (fail)
    go_wp2
    go_quiet (fail)
    go_wp2
    go_ret
    have b1 := (K.out.bx.set_ 2 (.int .i64 (wrap64 (wrap64 (h * 6364136223846793005) + 1442695040888963407)))).cast (cs' := #[.slice A n c, .int .i64 i, .int .i64 (wrap64 (wrap64 (h * 6364136223846793005) + 1442695040888963407))]) rfl
    have c1 := Chg.sc (Chg.refl (fun j => j = g) w) (p := ⟨g, 2, none⟩) rfl (.int .i64 (wrap64 (wrap64 (h * 6364136223846793005) + 1442695040888963407)))
    exact ⟨_, i, _, rfl, and255 _, K.out.step ((b1.drN _).drN _) ((c1.drN _).drN _) i0 i1, (c1.drN _).drN _⟩

set_option maxHeartbeats 4000000 in
theorem l1Below_any (g : Nat) (S : Nat → Prop) (A : Option Addr) (n c : Nat) (bs : List UInt8) (i h : Int) (q : Int) (w : World) (k : Cur w g S A n c bs i h) (hn : n ≤ 1048576) (hq : q ≤ 256) :
    Calls Try.prog 78 #[.pointer (some ⟨g, 0, none⟩), .int .i64 q] w fun e w' => ∃ x i' h' : Int, e = .returned (.int .i64 x) ∧ (0 ≤ x ∧ (x < q ∨ x = 0)) ∧ Cur w' g S A n c bs i' h' ∧ Chg (fun j => j = g) w w' := by
  have K := Lib.hid k
  clear k
  by_cases h0 : q ≤ 0
  · go_enter Try.func78, Try.ntmps78
    go_wp2
    go_ret
    exact ⟨0, i, h, rfl, ⟨by omega, .inr rfl⟩, K.out, Chg.refl _ _⟩
  · go_enter Try.func78, Try.ntmps78
    go_wp2_with fail
    refine (l1Byte_any g S A n c bs i h w K.out hn).mono ?_
    rintro e w1 ⟨x, i1, h1, rfl, hx, k1, c1⟩
    have K1 := Lib.hid k1
    have C1 := Lib.hid c1
    have HX := Lib.hid hx
    obtain ⟨x0, x1⟩ := hx
    clear k1 c1
    have hm : Int.tmod x q = x % q := Int.tmod_eq_emod_of_nonneg x0
    have hr := Int.emod_nonneg x (show q ≠ 0 by omega)
    have hr2 := Int.emod_lt_of_pos x (show 0 < q by omega)
    have HR := Lib.hid (And.intro hr hr2)
    have hq0 : ¬ q = 0 := by omega
    clear hr hr2 hm
    go_wp2
    go_ret
    exact ⟨x % q, i1, h1, rfl, ⟨HR.out.1, .inl HR.out.2⟩, K1.out, C1.out⟩
theorem l1Once_any (g : Nat) (S : Nat → Prop) (A : Option Addr) (n c : Nat) (bs : List UInt8) (i h : Int) (q : Int) (w : World) (k : Cur w g S A n c bs i h) (hn : n ≤ 1048576) (hq : q ≤ 256) :
    Calls Try.prog 76 #[.pointer (some ⟨g, 0, none⟩), .int .i64 q] w fun e w' => ∃ (b : Bool) (i' h' : Int), e = .returned (.bool b) ∧ Cur w' g S A n c bs i' h' ∧ Chg (fun j => j = g) w w' := by
  have K := Lib.hid k
  clear k
  go_enter Try.func76, Try.ntmps76
  go_wp2_with fail
  refine (l1Below_any g S A n c bs i h q w K.out hn hq).mono ?_
  rintro e w1 ⟨x, i1, h1, rfl, _, k1, c1⟩
  have K1 := Lib.hid k1
  have C1 := Lib.hid c1
  clear k1 c1
  go_wp2
  go_ret
  exact ⟨_, i1, h1, rfl, K1.out, C1.out⟩

set_option maxHeartbeats 4000000 in
theorem l1New_any (A : Option Addr) (n c : Nat) (bs : List UInt8) (w : World) (S : Nat → Prop) (hs : Sl w S 1 A n (charsD bs)) (hn : n ≤ 1048576) (hS : ∀ j, S j → j < w.heap.size) :
    Calls Try.prog 74 #[.slice A n c] w fun e w' => ∃ g : Nat, e = .returned (.pointer (some ⟨g, 0, none⟩)) ∧ w.heap.size ≤ g ∧ (∃ h : Int, Cur w' g S A n c bs 0 h) ∧ Ext w w' := by
  have HS := Lib.hid hs
  clear hs
  go_enter Try.func74, Try.ntmps74
  go_wp2
  go_loop [3, 4] (fun h i => ∃ (k : Nat) (q : Int), k ≤ n ∧ i = .int .i64 k ∧ h = .int .i64 q) (fun _ i => n - (intOf i).toNat)
  case atStart => exact ⟨0, _, Nat.zero_le _, rfl, rfl⟩
  case round =>
    obtain ⟨k, q, hk, rfl, rfl⟩ := hrel
    have fin : ∀ (hq : Int), Cur (w.alloc (.cells #[.slice A n c, .int .i64 0, .int .i64 hq] 104)) w.heap.size S A n c bs 0 hq := fun hq => ⟨Bx.new' _ _ _ rfl, Int.le_refl _, by omega, HS.out.ext ((Ext.refl' w).al _), fun h => absurd (hS _ h) (Nat.lt_irrefl _)⟩
    have FIN := Lib.hid fin
    clear fin hS
    by_cases hlt : (k : Int) < (n : Int)
    rotate_left
    · go_wp2
      go_ret
      exact ⟨_, rfl, Nat.le_refl _, ⟨q, FIN.out q⟩, (Ext.refl' w).al _⟩
    by_cases h4 : (k : Int) < 4000
    rotate_left
    · go_wp2
      go_ret
      exact ⟨_, rfl, Nat.le_refl _, ⟨q, FIN.out q⟩, (Ext.refl' w).al _⟩
    obtain ⟨b, o, rfl, -, hb, hc⟩ := HS.out.2 (by omega)
    have hcj := hc k (by omega)
    obtain ⟨u, hu⟩ : ∃ u, bs[k]? = some u := ⟨_, List.getElem?_eq_getElem (by have h := HS.out.1; simp [charsD] at h; omega)⟩
    have k0 : w.cell? ⟨b, o + k, none⟩ = some (.int .u8 (u.toNat : Int)) := by rw [hcj]; simp [charsD, hu]
    have HL : Hid (k < n) := by show k < n; omega
    clear hc hcj hu
    go_wp2
    go_round
    case rel => exact ⟨k + 1, _, HL.out, by go_num, rfl⟩
    case measure => have := HL.out; simp [intOf]; omega
end Go.Proofs.Ytnhkjgnfjphllaa
