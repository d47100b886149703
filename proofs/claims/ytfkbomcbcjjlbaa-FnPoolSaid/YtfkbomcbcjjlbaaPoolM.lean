/- Marks of Order and Pool. No condition but sizes. -/
import Derived.Test.YtfkbomcbcjjlbaaPoolXI
import Derived.Test.YtfkbomcbcjjlbaaMark
namespace Go.Proofs.Ytfkbomcbcjjlbaa
open Go.RowKit Go.Deep
set_option linter.unusedSimpArgs false
set_option linter.unusedVariables false

theorem markIntS_ow (A : Option Addr) (n c : Nat) (zs : List Int) (q : Int) (w : World) (S : Nat → Prop) (h : OwS w S 3 1 A n c (ints zs)) (hq : 0 ≤ q) (hqn : q + n ≤ 9007199254740992) :
    Calls Try.prog 15 #[.slice A n c, .int .i64 q] w fun e w' => e = .returned (.int .i64 (q + n)) ∧ OwS w' S 3 1 A n c (ints (marks q n)) ∧ Chg S w w' :=
  (markIntS_any A n c 0 _ q w h.1 hq hqn).mono fun _ _ ⟨h1, h2, h3⟩ => ⟨h1, ⟨h2, h.2⟩, h3.mono fun k hk => h.2 k hk⟩
def Order.mkE (q : Int) (x : Order) : Order := ⟨marks (q) x.kids_.length⟩
def Order.mkA (q : Int) (x : Order) : Order := ⟨marks (q) x.kids_.length⟩
def Order.ct (x : Order) : Nat := x.kids_.length
def Order.ca (x : Order) : Nat := x.kids_.length
set_option maxRecDepth 8000 in
set_option maxHeartbeats 16000000 in
theorem markOrderS_any (A : Option Addr) (n c : Nat) (l : List Order) (q : Int) (w : World) (S : Nat → Prop) (h : SlW Order.W 62 1 w S A n c l) (hS : ∀ g, S g → g < w.heap.size) (hq : 0 ≤ q) (hqn : q + (ctl Order.ct l : Nat) ≤ 9007199254740992) (hm : n ≤ 9223372036854775807) :
    Calls Try.prog 48 #[.slice A n c, .int .i64 q] w fun e w' => e = .returned (.int .i64 (q + (ctl Order.ct l : Nat))) ∧ SlW Order.W 62 1 w' S A n c (mkl Order.mkE Order.ct q l) ∧ Chg S w w' := by
  obtain ⟨hl, cs0, lab, ho0, hr0⟩ := h
  have HL := Lib.hid hl
  have HO0 := Lib.hid ho0
  have HR0 := Lib.hid hr0
  have HS := Lib.hid hS
  clear hl ho0 hr0 hS
  go_enter Try.func48, Try.ntmps48
  go_wp2
  go_loopw [1, 5] (fun r i wr => ∃ (k : Nat) (cs : List Value), k ≤ n ∧ i = .int .i64 k ∧ r = .int .i64 (q + (ctl Order.ct (l.take k) : Nat)) ∧ Hid (OwS wr (fun g => S g ∧ lab g = 0) 62 1 A n c cs) ∧ Hid (WRows Order.W 1 wr S lab cs (mixl Order.mkE Order.ct q l k) n) ∧ Chg S w wr) (fun _ i _ => n - (intOf i).toNat)
  case atStart => exact ⟨0, _, Nat.zero_le _, rfl, by simp [ctl], HO0, by rw [mixl_zero]; exact HR0, Chg.refl _ _⟩
  case round =>
    obtain ⟨k, cs, hk, rfl, rfl, HO, HR, hx⟩ := hrel
    have HX := Lib.hid hx
    clear hx
    by_cases hlt : (k : Int) < (n : Int)
    rotate_left
    · have e : Hid (k = n) := by show k = n; omega
      go_wp2
      go_ret
      refine ⟨by (rw [e.out, ← HL.out, List.take_length]) <;> rfl, ⟨by rw [mkl_len]; exact HL.out, cs, lab, HO.out, ?_⟩, HX.out⟩
      have h := HR.out
      rw [e.out, mixl_all HL.out] at h
      exact h
    have HLT : Hid (k < n) := by show k < n; omega
    obtain ⟨g, rfl, hgS, hgl, hg⟩ := HO.out.at_ HLT.out
    obtain ⟨x, hxk⟩ : ∃ x, l[k]? = some x := ⟨_, List.getElem?_eq_getElem (by have h := HL.out; omega)⟩
    obtain ⟨row, h, hrow⟩ := HR.out k HLT.out x (mixl_at hxk)
    obtain ⟨A0, n0, c0, lam, rfl, ⟨kh0, mh0, h0⟩⟩ := h
    obtain rfl : n0 = x.kids_.length := by have a := h0.sl.len; omega
    have L0 := Lib.hid h0
    clear h0
    obtain ⟨v0, i0, g0, e0⟩ := hg 0 (by omega)
    obtain rfl : v0 = .slice A0 x.kids_.length c0 := by have a := hrow 0 (by omega); rw [i0] at a; injection a
    have IX0 := Lib.hid i0
    rw [Nat.add_zero, Nat.mul_one] at g0 e0
    have HXK := Lib.hid hxk
    have HCT := Lib.hid (ctl_take (f := Order.ct) hxk)
    have HNX := Lib.hid (mixl_next (g := Order.mkE) (f := Order.ct) (q := q) hxk)
    have hle := ctl_le (f := Order.ct) l (k + 1)
    obtain ⟨Q, hQ⟩ : ∃ Q : Int, Q = q + (ctl Order.ct (l.take k) : Nat) := ⟨_, rfl⟩
    have hQ0 : 0 ≤ Q := by omega
    have hQn : Q + (Order.ct x : Nat) ≤ 9007199254740992 := by have a := HCT.out; omega
    unfold Order.ct at hQn
    have HQ := Lib.hid hQ
    have HG0 := Lib.hid hgS
    have HCL : Hid (cs.length = n * 1) := HO.out.1.1
    rw [← hQ]
    clear hQ hg hrow hxk hle hgl hgS i0
    have HS1 := Lib.hid (Chg.refl (fun j => j = g) wr)
    have HP1 := Lib.hid HO.out.1
    go_wp2_with fail
    refine (markIntS_ow _ _ _ x.kids_ _ _ _ L0.out (by omega) (by omega)).mono ?_
    rintro e w1 ⟨rfl, m_0, c_0⟩
    have HC1 := Lib.hid c_0
    replace L0 := Lib.hid m_0
    clear m_0 c_0
    have HO1 : Hid (OwS w1 (fun g => S g ∧ lab g = 0) 62 1 (some ⟨g, 0, none⟩) n c _) := OwS.chg ⟨HP1.out, HO.out.2⟩ HC1.out (fun i h1 h2 => by have e1 := h1.2; have e2 := h2.1.2; omega)
    have X1 : Hid (Chg (fun j => S j ∧ (lab j = 0 ∨ lab j = k + 1)) wr w1) := Chg.trans (Chg.trans (Chg.refl (fun j => S j ∧ (lab j = 0 ∨ lab j = k + 1)) wr) (HS1.out.mono fun i e => by rw [show i = g from e]; exact ⟨HG0.out.1, .inl HG0.out.2⟩)) (HC1.out.mono fun i e => ⟨e.1.1, .inr e.1.2⟩)
    go_wp2
    go_roundw
    case rel =>
      have hlt := HLT.out
      have tot := X1.out
      have hcl := HCL.out
      have f0 : cs[k * 1]? = some (.slice A0 x.kids_.length c0) := by exact IX0.out
      refine ⟨k + 1, cs, by omega, by go_num, by congr 1; have a := HCT.out; have b := HQ.out; have cc : Order.ct x = x.kids_.length := rfl; omega, Lib.hid ⟨HO1.out.1, HO.out.2⟩, ?_, HX.out.trans (tot.mono fun _ e => e.1)⟩
      rw [HNX.out, ← HQ.out]
      refine WRows.set_ Order.W_good HR.out (by rw [mixl_len]; exact HL.out) hlt tot (fun _ h1 _ => h1.2) ?_ (row' := [.slice A0 x.kids_.length c0]) ⟨_, _, _, lam, rfl, ⟨kh0, mh0, L0.out⟩⟩ ?_
      · intro j hj
        rfl
      · intro j hj
        obtain rfl : j = 0 := by omega
        exact f0
    case measure => have h := HLT.out; simp [intOf]; omega
def Pool.mkE (q : Int) (x : Pool) : Pool := ⟨mkl Order.mkE Order.ct (q) x.queues_, marks (q + (ctl Order.ct x.queues_ : Nat)) x.cur_.length, marks (q + (ctl Order.ct x.queues_ : Nat) + (x.cur_.length : Int)) x.spawned_.length, marks (q + (ctl Order.ct x.queues_ : Nat) + (x.cur_.length : Int) + (x.spawned_.length : Int)) x.left_.length, marks (q + (ctl Order.ct x.queues_ : Nat) + (x.cur_.length : Int) + (x.spawned_.length : Int) + (x.left_.length : Int)) x.state_.length, marks (q + (ctl Order.ct x.queues_ : Nat) + (x.cur_.length : Int) + (x.spawned_.length : Int) + (x.left_.length : Int) + (x.state_.length : Int)) x.ran_.length, marks (q + (ctl Order.ct x.queues_ : Nat) + (x.cur_.length : Int) + (x.spawned_.length : Int) + (x.left_.length : Int) + (x.state_.length : Int) + (x.ran_.length : Int)) x.ended_.length⟩
def Pool.mkA (q : Int) (x : Pool) : Pool := ⟨mkl Order.mkE Order.ct (q) x.queues_, marks (q + (ctl Order.ct x.queues_ : Nat)) x.cur_.length, marks (q + (ctl Order.ct x.queues_ : Nat) + (x.cur_.length : Int)) x.spawned_.length, marks (q + (ctl Order.ct x.queues_ : Nat) + (x.cur_.length : Int) + (x.spawned_.length : Int)) x.left_.length, marks (q + (ctl Order.ct x.queues_ : Nat) + (x.cur_.length : Int) + (x.spawned_.length : Int) + (x.left_.length : Int)) x.state_.length, marks (q + (ctl Order.ct x.queues_ : Nat) + (x.cur_.length : Int) + (x.spawned_.length : Int) + (x.left_.length : Int) + (x.state_.length : Int)) x.ran_.length, marks (q + (ctl Order.ct x.queues_ : Nat) + (x.cur_.length : Int) + (x.spawned_.length : Int) + (x.left_.length : Int) + (x.state_.length : Int) + (x.ran_.length : Int)) x.ended_.length⟩
def Pool.ct (x : Pool) : Nat := ctl Order.ct x.queues_ + x.cur_.length + x.spawned_.length + x.left_.length + x.state_.length + x.ran_.length + x.ended_.length
def Pool.ca (x : Pool) : Nat := ctl Order.ct x.queues_ + x.cur_.length + x.spawned_.length + x.left_.length + x.state_.length + x.ran_.length + x.ended_.length
set_option maxRecDepth 8000 in
set_option maxHeartbeats 8000000 in
theorem markPool_any (x : Pool) (cs : List Value) (q : Int) (w : World) (S : Nat → Prop) (h : Pool.W w S cs x) (hS : ∀ g, S g → g < w.heap.size) (hq : 0 ≤ q) (hqn : q + Pool.ca x ≤ 9007199254740992) :
    Calls Try.prog 28 #[.agg cs.toArray, .int .i64 q] w fun e w' => e = .returned (.int .i64 (q + Pool.ca x)) ∧ Pool.W w' S cs (Pool.mkA q x) ∧ Chg S w w' := by
  have hca := hqn
  unfold Pool.ca at hca
  obtain ⟨A0, n0, c0, A1, n1, c1, A2, n2, c2, A3, n3, c3, A4, n4, c4, A5, n5, c5, A6, n6, c6, lab, rfl, ⟨kh0, mh0, h0⟩, ⟨kh1, mh1, h1⟩, ⟨kh2, mh2, h2⟩, ⟨kh3, mh3, h3⟩, ⟨kh4, mh4, h4⟩, ⟨kh5, mh5, h5⟩, ⟨kh6, mh6, h6⟩⟩ := h
  obtain rfl : n0 = x.queues_.length := by have a := h0.1; omega
  have H0 := Lib.hid h0
  obtain rfl : n1 = x.cur_.length := by have a := h1.sl.len; omega
  have H1 := Lib.hid h1
  obtain rfl : n2 = x.spawned_.length := by have a := h2.sl.len; omega
  have H2 := Lib.hid h2
  obtain rfl : n3 = x.left_.length := by have a := h3.sl.len; omega
  have H3 := Lib.hid h3
  obtain rfl : n4 = x.state_.length := by have a := h4.sl.len; omega
  have H4 := Lib.hid h4
  obtain rfl : n5 = x.ran_.length := by have a := h5.sl.len; omega
  have H5 := Lib.hid h5
  obtain rfl : n6 = x.ended_.length := by have a := h6.sl.len; omega
  have H6 := Lib.hid h6
  have HS := Lib.hid hS
  clear hS h0 h1 h2 h3 h4 h5 h6
  show Calls Try.prog _ #[.agg #[.slice A0 x.queues_.length c0, .slice A1 x.cur_.length c1, .slice A2 x.spawned_.length c2, .slice A3 x.left_.length c3, .slice A4 x.state_.length c4, .slice A5 x.ran_.length c5, .slice A6 x.ended_.length c6], .int .i64 q] w _
  go_enter Try.func28, Try.ntmps28
  go_wp2_with fail
  refine (markOrderS_any _ _ _ x.queues_ _ _ _ (H0.out.chg Order.W_good ((Chg.refl (fun _ => False) w).al _) (fun _ _ z => z)) (fun g hg => Nat.lt_of_lt_of_le (HS.out g hg.1) (by simp)) (by omega) (by omega) (by omega)).mono ?_
  rintro e w1 ⟨rfl, m0, c_0⟩
  have C0 := Lib.hid c_0
  have M0 := Lib.hid m0
  have Z1 : Hid (w.heap.size ≤ w1.heap.size) := by have a := c_0.size; (try simp at a); show w.heap.size ≤ _; omega
  have b1 : Hid (Bx w1 w.heap.size 36 #[.slice A0 x.queues_.length c0, .slice A1 x.cur_.length c1, .slice A2 x.spawned_.length c2, .slice A3 x.left_.length c3, .slice A4 x.state_.length c4, .slice A5 x.ran_.length c5, .slice A6 x.ended_.length c6]) := Bx.chg (Bx.new' _ _ _ rfl) c_0 (fun z => by have a := HS.out _ z.1; omega)
  clear m0 c_0
  replace H1 := Lib.hid (OwS.chg (H1.out.chg ((Chg.refl (fun _ => False) w).al _) (fun _ _ z => z)) C0.out (fun g h1 h2 => by have e1 := h1.2; have e2 := h2.2; omega))
  replace H2 := Lib.hid (OwS.chg (H2.out.chg ((Chg.refl (fun _ => False) w).al _) (fun _ _ z => z)) C0.out (fun g h1 h2 => by have e1 := h1.2; have e2 := h2.2; omega))
  replace H3 := Lib.hid (OwS.chg (H3.out.chg ((Chg.refl (fun _ => False) w).al _) (fun _ _ z => z)) C0.out (fun g h1 h2 => by have e1 := h1.2; have e2 := h2.2; omega))
  replace H4 := Lib.hid (OwS.chg (H4.out.chg ((Chg.refl (fun _ => False) w).al _) (fun _ _ z => z)) C0.out (fun g h1 h2 => by have e1 := h1.2; have e2 := h2.2; omega))
  replace H5 := Lib.hid (OwS.chg (H5.out.chg ((Chg.refl (fun _ => False) w).al _) (fun _ _ z => z)) C0.out (fun g h1 h2 => by have e1 := h1.2; have e2 := h2.2; omega))
  replace H6 := Lib.hid (OwS.chg (H6.out.chg ((Chg.refl (fun _ => False) w).al _) (fun _ _ z => z)) C0.out (fun g h1 h2 => by have e1 := h1.2; have e2 := h2.2; omega))
  have ca1_1 : w1.cell? ⟨w.heap.size, 1, none⟩ = some (.slice A1 x.cur_.length c1) := b1.out.cell 1
  go_wp2_with fail
  refine (markIntS_ow _ _ _ x.cur_ _ _ _ (H1.out) (by omega) (by omega)).mono ?_
  rintro e w2 ⟨rfl, m1, c_1⟩
  have C1 := Lib.hid c_1
  have M1 := Lib.hid m1
  have Z2 : Hid (w.heap.size ≤ w2.heap.size) := by have a := c_1.size; have b := Z1.out; show w.heap.size ≤ _; omega
  have b2 : Hid (Bx w2 w.heap.size 36 #[.slice A0 x.queues_.length c0, .slice A1 x.cur_.length c1, .slice A2 x.spawned_.length c2, .slice A3 x.left_.length c3, .slice A4 x.state_.length c4, .slice A5 x.ran_.length c5, .slice A6 x.ended_.length c6]) := Bx.chg (b1.out) c_1 (fun z => by have a := HS.out _ z.1; omega)
  clear m1 c_1
  replace H2 := Lib.hid (OwS.chg (H2.out) C1.out (fun g h1 h2 => by have e1 := h1.2; have e2 := h2.2; omega))
  replace H3 := Lib.hid (OwS.chg (H3.out) C1.out (fun g h1 h2 => by have e1 := h1.2; have e2 := h2.2; omega))
  replace H4 := Lib.hid (OwS.chg (H4.out) C1.out (fun g h1 h2 => by have e1 := h1.2; have e2 := h2.2; omega))
  replace H5 := Lib.hid (OwS.chg (H5.out) C1.out (fun g h1 h2 => by have e1 := h1.2; have e2 := h2.2; omega))
  replace H6 := Lib.hid (OwS.chg (H6.out) C1.out (fun g h1 h2 => by have e1 := h1.2; have e2 := h2.2; omega))
  replace M0 := Lib.hid (SlW.chg Order.W_good M0.out C1.out (fun g h1 h2 => by have e1 := h1.2; have e2 := h2.2; omega))
  have ca2_2 : w2.cell? ⟨w.heap.size, 2, none⟩ = some (.slice A2 x.spawned_.length c2) := b2.out.cell 2
  go_wp2_with fail
  refine (markIntS_ow _ _ _ x.spawned_ _ _ _ (H2.out) (by omega) (by omega)).mono ?_
  rintro e w3 ⟨rfl, m2, c_2⟩
  have C2 := Lib.hid c_2
  have M2 := Lib.hid m2
  have Z3 : Hid (w.heap.size ≤ w3.heap.size) := by have a := c_2.size; have b := Z2.out; show w.heap.size ≤ _; omega
  have b3 : Hid (Bx w3 w.heap.size 36 #[.slice A0 x.queues_.length c0, .slice A1 x.cur_.length c1, .slice A2 x.spawned_.length c2, .slice A3 x.left_.length c3, .slice A4 x.state_.length c4, .slice A5 x.ran_.length c5, .slice A6 x.ended_.length c6]) := Bx.chg (b2.out) c_2 (fun z => by have a := HS.out _ z.1; omega)
  clear m2 c_2
  replace H3 := Lib.hid (OwS.chg (H3.out) C2.out (fun g h1 h2 => by have e1 := h1.2; have e2 := h2.2; omega))
  replace H4 := Lib.hid (OwS.chg (H4.out) C2.out (fun g h1 h2 => by have e1 := h1.2; have e2 := h2.2; omega))
  replace H5 := Lib.hid (OwS.chg (H5.out) C2.out (fun g h1 h2 => by have e1 := h1.2; have e2 := h2.2; omega))
  replace H6 := Lib.hid (OwS.chg (H6.out) C2.out (fun g h1 h2 => by have e1 := h1.2; have e2 := h2.2; omega))
  replace M0 := Lib.hid (SlW.chg Order.W_good M0.out C2.out (fun g h1 h2 => by have e1 := h1.2; have e2 := h2.2; omega))
  replace M1 := Lib.hid (OwS.chg M1.out C2.out (fun g h1 h2 => by have e1 := h1.2; have e2 := h2.2; omega))
  have ca3_3 : w3.cell? ⟨w.heap.size, 3, none⟩ = some (.slice A3 x.left_.length c3) := b3.out.cell 3
  go_wp2_with fail
  refine (markIntS_ow _ _ _ x.left_ _ _ _ (H3.out) (by omega) (by omega)).mono ?_
  rintro e w4 ⟨rfl, m3, c_3⟩
  have C3 := Lib.hid c_3
  have M3 := Lib.hid m3
  have Z4 : Hid (w.heap.size ≤ w4.heap.size) := by have a := c_3.size; have b := Z3.out; show w.heap.size ≤ _; omega
  have b4 : Hid (Bx w4 w.heap.size 36 #[.slice A0 x.queues_.length c0, .slice A1 x.cur_.length c1, .slice A2 x.spawned_.length c2, .slice A3 x.left_.length c3, .slice A4 x.state_.length c4, .slice A5 x.ran_.length c5, .slice A6 x.ended_.length c6]) := Bx.chg (b3.out) c_3 (fun z => by have a := HS.out _ z.1; omega)
  clear m3 c_3
  replace H4 := Lib.hid (OwS.chg (H4.out) C3.out (fun g h1 h2 => by have e1 := h1.2; have e2 := h2.2; omega))
  replace H5 := Lib.hid (OwS.chg (H5.out) C3.out (fun g h1 h2 => by have e1 := h1.2; have e2 := h2.2; omega))
  replace H6 := Lib.hid (OwS.chg (H6.out) C3.out (fun g h1 h2 => by have e1 := h1.2; have e2 := h2.2; omega))
  replace M0 := Lib.hid (SlW.chg Order.W_good M0.out C3.out (fun g h1 h2 => by have e1 := h1.2; have e2 := h2.2; omega))
  replace M1 := Lib.hid (OwS.chg M1.out C3.out (fun g h1 h2 => by have e1 := h1.2; have e2 := h2.2; omega))
  replace M2 := Lib.hid (OwS.chg M2.out C3.out (fun g h1 h2 => by have e1 := h1.2; have e2 := h2.2; omega))
  have ca4_4 : w4.cell? ⟨w.heap.size, 4, none⟩ = some (.slice A4 x.state_.length c4) := b4.out.cell 4
  go_wp2_with fail
  refine (markIntS_ow _ _ _ x.state_ _ _ _ (H4.out) (by omega) (by omega)).mono ?_
  rintro e w5 ⟨rfl, m4, c_4⟩
  have C4 := Lib.hid c_4
  have M4 := Lib.hid m4
  have Z5 : Hid (w.heap.size ≤ w5.heap.size) := by have a := c_4.size; have b := Z4.out; show w.heap.size ≤ _; omega
  have b5 : Hid (Bx w5 w.heap.size 36 #[.slice A0 x.queues_.length c0, .slice A1 x.cur_.length c1, .slice A2 x.spawned_.length c2, .slice A3 x.left_.length c3, .slice A4 x.state_.length c4, .slice A5 x.ran_.length c5, .slice A6 x.ended_.length c6]) := Bx.chg (b4.out) c_4 (fun z => by have a := HS.out _ z.1; omega)
  clear m4 c_4
  replace H5 := Lib.hid (OwS.chg (H5.out) C4.out (fun g h1 h2 => by have e1 := h1.2; have e2 := h2.2; omega))
  replace H6 := Lib.hid (OwS.chg (H6.out) C4.out (fun g h1 h2 => by have e1 := h1.2; have e2 := h2.2; omega))
  replace M0 := Lib.hid (SlW.chg Order.W_good M0.out C4.out (fun g h1 h2 => by have e1 := h1.2; have e2 := h2.2; omega))
  replace M1 := Lib.hid (OwS.chg M1.out C4.out (fun g h1 h2 => by have e1 := h1.2; have e2 := h2.2; omega))
  replace M2 := Lib.hid (OwS.chg M2.out C4.out (fun g h1 h2 => by have e1 := h1.2; have e2 := h2.2; omega))
  replace M3 := Lib.hid (OwS.chg M3.out C4.out (fun g h1 h2 => by have e1 := h1.2; have e2 := h2.2; omega))
  have ca5_5 : w5.cell? ⟨w.heap.size, 5, none⟩ = some (.slice A5 x.ran_.length c5) := b5.out.cell 5
  go_wp2_with fail
  refine (markIntS_ow _ _ _ x.ran_ _ _ _ (H5.out) (by omega) (by omega)).mono ?_
  rintro e w6 ⟨rfl, m5, c_5⟩
  have C5 := Lib.hid c_5
  have M5 := Lib.hid m5
  have Z6 : Hid (w.heap.size ≤ w6.heap.size) := by have a := c_5.size; have b := Z5.out; show w.heap.size ≤ _; omega
  have b6 : Hid (Bx w6 w.heap.size 36 #[.slice A0 x.queues_.length c0, .slice A1 x.cur_.length c1, .slice A2 x.spawned_.length c2, .slice A3 x.left_.length c3, .slice A4 x.state_.length c4, .slice A5 x.ran_.length c5, .slice A6 x.ended_.length c6]) := Bx.chg (b5.out) c_5 (fun z => by have a := HS.out _ z.1; omega)
  clear m5 c_5
  replace H6 := Lib.hid (OwS.chg (H6.out) C5.out (fun g h1 h2 => by have e1 := h1.2; have e2 := h2.2; omega))
  replace M0 := Lib.hid (SlW.chg Order.W_good M0.out C5.out (fun g h1 h2 => by have e1 := h1.2; have e2 := h2.2; omega))
  replace M1 := Lib.hid (OwS.chg M1.out C5.out (fun g h1 h2 => by have e1 := h1.2; have e2 := h2.2; omega))
  replace M2 := Lib.hid (OwS.chg M2.out C5.out (fun g h1 h2 => by have e1 := h1.2; have e2 := h2.2; omega))
  replace M3 := Lib.hid (OwS.chg M3.out C5.out (fun g h1 h2 => by have e1 := h1.2; have e2 := h2.2; omega))
  replace M4 := Lib.hid (OwS.chg M4.out C5.out (fun g h1 h2 => by have e1 := h1.2; have e2 := h2.2; omega))
  have ca6_6 : w6.cell? ⟨w.heap.size, 6, none⟩ = some (.slice A6 x.ended_.length c6) := b6.out.cell 6
  go_wp2_with fail
  refine (markIntS_ow _ _ _ x.ended_ _ _ _ (H6.out) (by omega) (by omega)).mono ?_
  rintro e w7 ⟨rfl, m6, c_6⟩
  have C6 := Lib.hid c_6
  have M6 := Lib.hid m6
  have Z7 : Hid (w.heap.size ≤ w7.heap.size) := by have a := c_6.size; have b := Z6.out; show w.heap.size ≤ _; omega
  have b7 : Hid (Bx w7 w.heap.size 36 #[.slice A0 x.queues_.length c0, .slice A1 x.cur_.length c1, .slice A2 x.spawned_.length c2, .slice A3 x.left_.length c3, .slice A4 x.state_.length c4, .slice A5 x.ran_.length c5, .slice A6 x.ended_.length c6]) := Bx.chg (b6.out) c_6 (fun z => by have a := HS.out _ z.1; omega)
  clear m6 c_6
  replace M0 := Lib.hid (SlW.chg Order.W_good M0.out C6.out (fun g h1 h2 => by have e1 := h1.2; have e2 := h2.2; omega))
  replace M1 := Lib.hid (OwS.chg M1.out C6.out (fun g h1 h2 => by have e1 := h1.2; have e2 := h2.2; omega))
  replace M2 := Lib.hid (OwS.chg M2.out C6.out (fun g h1 h2 => by have e1 := h1.2; have e2 := h2.2; omega))
  replace M3 := Lib.hid (OwS.chg M3.out C6.out (fun g h1 h2 => by have e1 := h1.2; have e2 := h2.2; omega))
  replace M4 := Lib.hid (OwS.chg M4.out C6.out (fun g h1 h2 => by have e1 := h1.2; have e2 := h2.2; omega))
  replace M5 := Lib.hid (OwS.chg M5.out C6.out (fun g h1 h2 => by have e1 := h1.2; have e2 := h2.2; omega))
  go_wp2
  go_ret
  exact ⟨congrArg (fun z => Ending.returned (.int .i64 z)) (by have cc : Pool.ca x = ctl Order.ct x.queues_ + x.cur_.length + x.spawned_.length + x.left_.length + x.state_.length + x.ran_.length + x.ended_.length := rfl; omega), ⟨_, _, _, _, _, _, _, _, _, _, _, _, _, _, _, _, _, _, _, _, _, lab, rfl, ⟨kh0, mh0, M0.out⟩, ⟨kh1, mh1, M1.out⟩, ⟨kh2, mh2, M2.out⟩, ⟨kh3, mh3, M3.out⟩, ⟨kh4, mh4, M4.out⟩, ⟨kh5, mh5, M5.out⟩, ⟨kh6, mh6, M6.out⟩⟩, Chg.trans (Chg.trans (Chg.trans (Chg.trans (Chg.trans (Chg.trans (Chg.trans (((Chg.refl S w).al (.cells #[.slice A0 x.queues_.length c0, .slice A1 x.cur_.length c1, .slice A2 x.spawned_.length c2, .slice A3 x.left_.length c3, .slice A4 x.state_.length c4, .slice A5 x.ran_.length c5, .slice A6 x.ended_.length c6] 36))) (C0.out.mono fun _ z => z.1)) (C1.out.mono fun _ z => z.1)) (C2.out.mono fun _ z => z.1)) (C3.out.mono fun _ z => z.1)) (C4.out.mono fun _ z => z.1)) (C5.out.mono fun _ z => z.1)) (C6.out.mono fun _ z => z.1)⟩

end Go.Proofs.Ytfkbomcbcjjlbaa
