/- Held of Order and Pool. No condition but sizes. -/
import Derived.Test.YtfkbomcbcjjlbaaPoolM
namespace Go.Proofs.Ytfkbomcbcjjlbaa
open Go.RowKit Go.Deep
set_option linter.unusedSimpArgs false
set_option linter.unusedVariables false

set_option maxHeartbeats 4000000 in
theorem heldOrderS_any (A : Option Addr) (n c : Nat) (l : List Order) (q : Int) (w : World) (S : Nat → Prop) (h : SlR Order.R 1 w S A n (mkl Order.mkE Order.ct q l)) (hq : 0 ≤ q) (hqn : q + (ctl Order.ct l : Nat) ≤ 9007199254740992) (hm : n ≤ 9223372036854775807) :
    Calls Try.prog 49 #[.slice A n c, .int .i64 q] w fun e w' => e = .returned (.int .i64 (q + (ctl Order.ct l : Nat))) ∧ w = w' := by
  have hl : l.length = n := by rw [← h.1, mkl_len]
  have H := Lib.hid h
  clear h
  go_enter Try.func49, Try.ntmps49
  go_wp2
  go_loop [1, 5] (fun r i => ∃ (k : Nat), k ≤ n ∧ i = .int .i64 k ∧ r = .int .i64 (q + (ctl Order.ct (l.take k) : Nat))) (fun _ i => n - (intOf i).toNat)
  case atStart => exact ⟨0, Nat.zero_le _, rfl, by simp [ctl]⟩
  case round =>
    obtain ⟨k, hk, rfl, rfl⟩ := hrel
    by_cases hlt : (k : Int) < (n : Int)
    · obtain ⟨b, o, rfl⟩ := H.out.addr (by omega)
      obtain ⟨x, hx⟩ : ∃ x, l[k]? = some x := ⟨_, List.getElem?_eq_getElem (by omega)⟩
      obtain ⟨y, row, hy, hb, hr, hc⟩ := H.out.at_ (k := k) (by omega)
      rw [mkl_get hx] at hy
      injection hy with hy
      subst hy
      obtain ⟨A0, n0, c0, rfl, -, -, hs⟩ := hr
      have c1 := hc 0 (by omega)
      simp only [Nat.mul_one, Nat.add_zero, List.getElem?_cons_zero] at c1
      have hn0 : x.kids_.length = n0 := by have := hs.len; unfold Order.mkE at this; rw [marks_length] at this; exact this
      have hs2 : Sl w S 1 A0 n0 (ints (marks (q + (ctl Order.ct (l.take k) : Nat)) n0)) := by rw [← hn0] at hs ⊢; exact hs
      have hct := ctl_take (f := Order.ct) hx
      have hle := ctl_le (f := Order.ct) l (k + 1)
      have hcx : Order.ct x = n0 := hn0
      have HX := Lib.hid hct
      have HS2 := Lib.hid hs2
      obtain ⟨Q, hQ⟩ : ∃ Q : Int, Q = q + (ctl Order.ct (l.take k) : Nat) := ⟨_, rfl⟩
      have hQ0 : 0 ≤ Q := by omega
      have hQn : Q + n0 ≤ 9007199254740992 := by omega
      have HQ2 := Lib.hid hQ
      rw [← hQ] at HS2 ⊢
      have hneg : decide (Q + (n0 : Int) < 0) = false := decide_eq_false (by omega)
      clear hs hs2 hc hx hct hle hQ hn0
      go_wp2_with fail
      refine (heldIntS_any _ _ _ Q _ _ HS2.out hQ0 hQn).mono ?_
      rintro e w2 ⟨rfl, rfl⟩
      go_wp2
      go_round
      case rel => exact ⟨k + 1, by omega, by go_num, by congr 1; have a := HX.out; have b := HQ2.out; omega⟩
      case measure => simp [intOf]; omega
    · have e : k = n := by omega
      go_wp2
      go_ret
      refine ⟨?_, rfl⟩
      have e2 : l.take n = l := by rw [← hl, List.take_length]
      rw [e2]
      rfl

set_option maxRecDepth 4000 in
set_option maxHeartbeats 4000000 in
theorem heldPool_any (x : Pool) (cs : List Value) (q : Int) (w : World) (S : Nat → Prop) (h : Pool.R w S cs (Pool.mkA q x)) (hq : 0 ≤ q) (hqn : q + Pool.ca x ≤ 9007199254740992) :
    Calls Try.prog 29 #[.agg cs.toArray, .int .i64 q] w fun e w' => e = .returned (.int .i64 (q + Pool.ca x)) ∧ Ext w w' := by
  have hca : Pool.ca x = ctl Order.ct x.queues_ + x.cur_.length + x.spawned_.length + x.left_.length + x.state_.length + x.ran_.length + x.ended_.length := rfl
  obtain ⟨A0, n0, c0, A1, n1, c1, A2, n2, c2, A3, n3, c3, A4, n4, c4, A5, n5, c5, A6, n6, c6, rfl, ⟨-, m0, h0⟩, ⟨-, m1, h1⟩, ⟨-, m2, h2⟩, ⟨-, m3, h3⟩, ⟨-, m4, h4⟩, ⟨-, m5, h5⟩, ⟨-, m6, h6⟩⟩ := h
  simp only [Pool.mkA] at h0 h1 h2 h3 h4 h5 h6
  obtain ⟨Q1, hQ1⟩ : ∃ Q1 : Int, Q1 = q + (ctl Order.ct x.queues_ : Nat) := ⟨_, rfl⟩
  rw [← hQ1] at h1 h2 h3 h4 h5 h6
  obtain ⟨Q2, hQ2⟩ : ∃ Q2 : Int, Q2 = Q1 + (x.cur_.length : Int) := ⟨_, rfl⟩
  rw [← hQ2] at h2 h3 h4 h5 h6
  obtain ⟨Q3, hQ3⟩ : ∃ Q3 : Int, Q3 = Q2 + (x.spawned_.length : Int) := ⟨_, rfl⟩
  rw [← hQ3] at h3 h4 h5 h6
  obtain ⟨Q4, hQ4⟩ : ∃ Q4 : Int, Q4 = Q3 + (x.left_.length : Int) := ⟨_, rfl⟩
  rw [← hQ4] at h4 h5 h6
  obtain ⟨Q5, hQ5⟩ : ∃ Q5 : Int, Q5 = Q4 + (x.state_.length : Int) := ⟨_, rfl⟩
  rw [← hQ5] at h5 h6
  obtain ⟨Q6, hQ6⟩ : ∃ Q6 : Int, Q6 = Q5 + (x.ran_.length : Int) := ⟨_, rfl⟩
  rw [← hQ6] at h6
  obtain ⟨Q7, hQ7⟩ : ∃ Q7 : Int, Q7 = Q6 + (x.ended_.length : Int) := ⟨_, rfl⟩
  obtain rfl : x.cur_.length = n1 := by have := h1.len; rw [marks_length] at this; exact this
  obtain rfl : x.spawned_.length = n2 := by have := h2.len; rw [marks_length] at this; exact this
  obtain rfl : x.left_.length = n3 := by have := h3.len; rw [marks_length] at this; exact this
  obtain rfl : x.state_.length = n4 := by have := h4.len; rw [marks_length] at this; exact this
  obtain rfl : x.ran_.length = n5 := by have := h5.len; rw [marks_length] at this; exact this
  obtain rfl : x.ended_.length = n6 := by have := h6.len; rw [marks_length] at this; exact this
  have X := Lib.hid ((Ext.refl' w).al (.cells #[.slice A0 n0 c0, .slice A1 x.cur_.length c1, .slice A2 x.spawned_.length c2, .slice A3 x.left_.length c3, .slice A4 x.state_.length c4, .slice A5 x.ran_.length c5, .slice A6 x.ended_.length c6] 36))
  have H0 := Lib.hid (SlR.ext Order.R_good h0 X.out)
  have H1 := Lib.hid (h1.ext X.out)
  have H2 := Lib.hid (h2.ext X.out)
  have H3 := Lib.hid (h3.ext X.out)
  have H4 := Lib.hid (h4.ext X.out)
  have H5 := Lib.hid (h5.ext X.out)
  have H6 := Lib.hid (h6.ext X.out)
  have b1 : decide (Q1 < 0) = false := decide_eq_false (by omega)
  have b2 : decide (Q2 < 0) = false := decide_eq_false (by omega)
  have b3 : decide (Q3 < 0) = false := decide_eq_false (by omega)
  have b4 : decide (Q4 < 0) = false := decide_eq_false (by omega)
  have b5 : decide (Q5 < 0) = false := decide_eq_false (by omega)
  have b6 : decide (Q6 < 0) = false := decide_eq_false (by omega)
  have b7 : decide (Q7 < 0) = false := decide_eq_false (by omega)
  have p1 : 0 ≤ Q1 := by omega
  have p2 : 0 ≤ Q2 := by omega
  have p3 : 0 ≤ Q3 := by omega
  have p4 : 0 ≤ Q4 := by omega
  have p5 : 0 ≤ Q5 := by omega
  have p6 : 0 ≤ Q6 := by omega
  have p7 : 0 ≤ Q7 := by omega
  have r1 : Q1 + (x.cur_.length : Int) ≤ 9007199254740992 := by omega
  have r2 : Q2 + (x.spawned_.length : Int) ≤ 9007199254740992 := by omega
  have r3 : Q3 + (x.left_.length : Int) ≤ 9007199254740992 := by omega
  have r4 : Q4 + (x.state_.length : Int) ≤ 9007199254740992 := by omega
  have r5 : Q5 + (x.ran_.length : Int) ≤ 9007199254740992 := by omega
  have r6 : Q6 + (x.ended_.length : Int) ≤ 9007199254740992 := by omega
  have r0 : q + (ctl Order.ct x.queues_ : Nat) ≤ 9007199254740992 := by omega
  have hfin : q + (Pool.ca x : Nat) = Q7 := by omega
  have HF := Lib.hid hfin
  have HE1 := Lib.hid hQ1
  clear hQ1
  have HE2 := Lib.hid hQ2
  clear hQ2
  have HE3 := Lib.hid hQ3
  clear hQ3
  have HE4 := Lib.hid hQ4
  clear hQ4
  have HE5 := Lib.hid hQ5
  clear hQ5
  have HE6 := Lib.hid hQ6
  clear hQ6
  have HE7 := Lib.hid hQ7
  clear hQ7
  clear hca hqn
  clear h0 h1 h2 h3 h4 h5 h6 hfin
  show Calls Try.prog _ #[.agg #[.slice A0 n0 c0, .slice A1 x.cur_.length c1, .slice A2 x.spawned_.length c2, .slice A3 x.left_.length c3, .slice A4 x.state_.length c4, .slice A5 x.ran_.length c5, .slice A6 x.ended_.length c6], .int .i64 q] w _
  go_enter Try.func29, Try.ntmps29
  go_wp2_with fail
  refine (heldOrderS_any _ _ _ x.queues_ q _ S H0.out hq r0 m0).mono ?_
  rintro e w1 ⟨rfl, rfl⟩
  rw [← HE1.out]
  go_wp2_with fail
  refine (heldIntS_any _ _ _ Q1 _ S H1.out p1 r1).mono ?_
  rintro e w1 ⟨rfl, rfl⟩
  rw [← HE2.out]
  go_wp2_with fail
  refine (heldIntS_any _ _ _ Q2 _ S H2.out p2 r2).mono ?_
  rintro e w1 ⟨rfl, rfl⟩
  rw [← HE3.out]
  go_wp2_with fail
  refine (heldIntS_any _ _ _ Q3 _ S H3.out p3 r3).mono ?_
  rintro e w1 ⟨rfl, rfl⟩
  rw [← HE4.out]
  go_wp2_with fail
  refine (heldIntS_any _ _ _ Q4 _ S H4.out p4 r4).mono ?_
  rintro e w1 ⟨rfl, rfl⟩
  rw [← HE5.out]
  go_wp2_with fail
  refine (heldIntS_any _ _ _ Q5 _ S H5.out p5 r5).mono ?_
  rintro e w1 ⟨rfl, rfl⟩
  rw [← HE6.out]
  go_wp2_with fail
  refine (heldIntS_any _ _ _ Q6 _ S H6.out p6 r6).mono ?_
  rintro e w1 ⟨rfl, rfl⟩
  rw [← HE7.out]
  go_wp2
  go_ret
  exact ⟨by rw [HF.out]; rfl, X.out⟩


end Go.Proofs.Ytfkbomcbcjjlbaa
