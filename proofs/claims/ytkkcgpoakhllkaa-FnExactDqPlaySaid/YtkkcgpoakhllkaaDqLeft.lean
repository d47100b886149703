/- DqLeft of program and reference; the contract of laws.FnExactDqLeft. No condition. -/
import Derived.Test.YtkkcgpoakhllkaaDequeR
namespace Go.Proofs.Ytkkcgpoakhllkaa
open Go.RowKit Go.Deep

/-- What is left among the first k items: those from t on and below b. -/
def leftTo (zs : List Int) (t b : Int) : Nat → List Int
  | 0 => []
  | k + 1 => match zs[k]? with
    | some x => if t ≤ (k : Int) ∧ (k : Int) < b then leftTo zs t b k ++ [x] else leftTo zs t b k
    | none => leftTo zs t b k
theorem left_in {zs : List Int} {t b x : Int} {k : Nat} (h : zs[k]? = some x) (h1 : t ≤ (k : Int)) (h2 : (k : Int) < b) : leftTo zs t b (k + 1) = leftTo zs t b k ++ [x] := by
  rw [leftTo, h]; simp [h1, h2]
theorem left_out {zs : List Int} {t b : Int} {k : Nat} (h1 : ¬ (t ≤ (k : Int) ∧ (k : Int) < b)) : leftTo zs t b (k + 1) = leftTo zs t b k := by
  rw [leftTo]
  split
  · rw [if_neg h1]
  · rfl
theorem left_le (zs : List Int) (t b : Int) : ∀ k, (leftTo zs t b k).length ≤ k
  | 0 => by simp [leftTo]
  | k + 1 => by
    have ih := left_le zs t b k
    rw [leftTo]
    split
    · split
      · simp; omega
      · omega
    · omega
/-- Below t nothing is left. -/
theorem left_low {zs : List Int} {t b : Int} : ∀ {k : Nat}, (k : Int) ≤ t ∨ k = 0 → leftTo zs t b k = []
  | 0, _ => rfl
  | k + 1, h => by
    rw [left_out (by omega)]
    exact left_low (by omega)
/-- From b on nothing more is left. -/
theorem left_high {zs : List Int} {t b : Int} {k : Nat} (h : b ≤ (k : Int)) : ∀ {m : Nat}, k ≤ m → leftTo zs t b m = leftTo zs t b k
  | 0, hm => by rw [show k = 0 by omega]
  | m + 1, hm => by
    by_cases e : k = m + 1
    · rw [e]
    · rw [left_out (by omega)]
      exact left_high h (by omega)

theorem own_empty (w : World) : (w.alloc (.cells #[] 3)).ownsRow w.heap.size 3 1 (.slice (some ⟨w.heap.size, 0, none⟩) 0 0) 0 (ints []) :=
  World.ownsRow_lit w #[] 0 (Nat.le_refl _) (Nat.zero_le _) (by simp)

set_option maxHeartbeats 2000000 in
theorem impl_DqLeft (f0 f1 f2 f4 f5 f6 : Int) (A0 : Option Addr) (n0 c0 : Nat) (l0 : List Int) (A1 : Option Addr) (n1 c1 : Nat) (l1 : List Thief) (A2 : Option Addr) (n2 c2 : Nat) (l2 : List Taken) (w : World)
    (S0 : Nat → Prop) (hs0 : Sl w S0 1 A0 n0 (ints l0)) (hm0 : n0 ≤ 1048576) (S1 : Nat → Prop) (_hs1 : Sl w S1 4 A1 n1 (l1.flatMap Thief.cells)) (_hm1 : n1 ≤ 1048576) (S2 : Nat → Prop) (_hs2 : Sl w S2 2 A2 n2 (l2.flatMap Taken.cells)) (_hm2 : n2 ≤ 1048576) :
    Calls Try.prog 19 #[.agg #[.int .i64 f0, .int .i64 f1, .int .i64 f2, .slice A0 n0 c0, .int .i64 f4, .int .i64 f5, .int .i64 f6, .slice A1 n1 c1, .slice A2 n2 c2]] w fun e w' => ∃ B m d, e = .returned (.slice B m d) ∧ w'.ownsRow w.heap.size 3 1 (.slice B m d) m (ints (leftTo l0 f0 f1 l0.length)) ∧ Ext w w' := by
  have H := Lib.hid hs0.len
  have HX := Lib.hid ((Ext.refl' w).al (.cells #[.int .i64 f0, .int .i64 f1, .int .i64 f2, .slice A0 n0 c0, .int .i64 f4, .int .i64 f5, .int .i64 f6, .slice A1 n1 c1, .slice A2 n2 c2] 42))
  have oe := Lib.hid (own_empty (w.alloc (.cells #[.int .i64 f0, .int .i64 f1, .int .i64 f2, .slice A0 n0 c0, .int .i64 f4, .int .i64 f5, .int .i64 f6, .slice A1 n1 c1, .slice A2 n2 c2] 42)))
  have hb0 : Hid (Bx ((w.alloc (.cells #[.int .i64 f0, .int .i64 f1, .int .i64 f2, .slice A0 n0 c0, .int .i64 f4, .int .i64 f5, .int .i64 f6, .slice A1 n1 c1, .slice A2 n2 c2] 42)).alloc (.cells #[] 3)) w.heap.size 42 #[.int .i64 f0, .int .i64 f1, .int .i64 f2, .slice A0 n0 c0, .int .i64 f4, .int .i64 f5, .int .i64 f6, .slice A1 n1 c1, .slice A2 n2 c2]) := (Bx.new' _ _ _ rfl).al _
  clear _hs1 _hs2
  have HS := Lib.hid hs0
  clear hs0
  go_enter Try.func19, Try.ntmps19
  go_wp2
  go_loopw [3, 10] (fun u i wr => ∃ (k m : Nat) (B : Option Addr) (d : Nat), k ≤ n0 ∧ m ≤ k ∧ i = .int .i64 k ∧ u = .slice B m d ∧ wr.ownsRow (w.heap.size + 1) 3 1 (.slice B m d) m (ints (leftTo l0 f0 f1 k)) ∧ Ext w wr ∧ Hid (Bx wr w.heap.size 42 #[.int .i64 f0, .int .i64 f1, .int .i64 f2, .slice A0 n0 c0, .int .i64 f4, .int .i64 f5, .int .i64 f6, .slice A1 n1 c1, .slice A2 n2 c2])) (fun _ i _ => n0 - (intOf i).toNat)
  case atStart => exact ⟨0, 0, _, _, Nat.zero_le _, Nat.zero_le _, rfl, rfl, by have h := oe.out; simpa [leftTo] using h, (HX.out).al _, hb0⟩
  case round =>
    obtain ⟨k, m, B, d, hk, hmk, rfl, rfl, ho, hx, hbx⟩ := hrel
    have HXX := Lib.hid hx
    have HO := Lib.hid ho
    clear ho
    by_cases hlt : k < n0
    · obtain ⟨b, o, rfl⟩ := HS.out.addr (by omega)
      obtain ⟨x, hxk, -, hc⟩ := (HS.out.ext hx).int_cell hlt
      have HXK := Lib.hid hxk
      have hsz : w.heap.size < wr.heap.size := hbx.out.lt
      have q0 : wr.cell? ⟨w.heap.size, 0, none⟩ = some (.int .i64 f0) := hbx.out.cell 0
      have q1 : wr.cell? ⟨w.heap.size, 1, none⟩ = some (.int .i64 f1) := hbx.out.cell 1
      clear hx hxk
      by_cases h1 : f0 ≤ (k : Int)
      · by_cases h2 : (k : Int) < f1
        · have e1 := Lib.hid (left_in HXK.out h1 h2)
          go_wp2_with (at_builtin; refine wp_push rfl (.tmp 25) (.tmp 27) _ rfl (w.heap.size + 1) 3 _ _ _ Try.underlying29 Try.infoInt rfl (by omega) B m d _ rfl HO.out [.int .i64 x] _ (by simp) rfl rfl (by simp [Value.oneCell']) (by omega) (by unfold maxLen; omega) (by omega) ?_; intro A' c' w' hown' hchg' hat')
          go_roundw
          case rel => exact ⟨k + 1, m + 1, A', c', by omega, by omega, by go_num, rfl, by rw [e1.out]; simpa [ints] using hown', hchg'.ext HXX.out (fun g hg => by have := (HO.out.lt g hg).1; omega), hbx.out.chg hchg' (fun hg => by have := (HO.out.lt _ hg).1; omega)⟩
          case measure => simp [intOf]; omega
        · have e1 := Lib.hid (left_out (zs := l0) (t := f0) (b := f1) (k := k) (by omega))
          go_wp2
          go_roundw
          case rel => exact ⟨k + 1, m, B, d, by omega, by omega, by go_num, rfl, by rw [e1.out]; exact HO.out, HXX.out, hbx⟩
          case measure => simp [intOf]; omega
      · have e1 := Lib.hid (left_out (zs := l0) (t := f0) (b := f1) (k := k) (by omega))
        go_wp2
        go_roundw
        case rel => exact ⟨k + 1, m, B, d, by omega, by omega, by go_num, rfl, by rw [e1.out]; exact HO.out, HXX.out, hbx⟩
        case measure => simp [intOf]; omega
    · clear hx
      go_wp2
      go_ret
      have e : k = l0.length := by rw [H.out]; omega
      exact ⟨_, _, _, rfl, by rw [← e]; exact own_base HO.out (by omega), HXX.out⟩

set_option maxHeartbeats 2000000 in
theorem spec_DqLeft (f0 f1 f2 f4 f5 f6 : Int) (A0 : Option Addr) (n0 c0 : Nat) (l0 : List Int) (A1 : Option Addr) (n1 c1 : Nat) (l1 : List Thief) (A2 : Option Addr) (n2 c2 : Nat) (l2 : List Taken) (w : World)
    (S0 : Nat → Prop) (hs0 : Sl w S0 1 A0 n0 (ints l0)) (hm0 : n0 ≤ 1048576) (S1 : Nat → Prop) (_hs1 : Sl w S1 4 A1 n1 (l1.flatMap Thief.cells)) (_hm1 : n1 ≤ 1048576) (S2 : Nat → Prop) (_hs2 : Sl w S2 2 A2 n2 (l2.flatMap Taken.cells)) (_hm2 : n2 ≤ 1048576) :
    Calls Try.prog 18 #[.agg #[.int .i64 f0, .int .i64 f1, .int .i64 f2, .slice A0 n0 c0, .int .i64 f4, .int .i64 f5, .int .i64 f6, .slice A1 n1 c1, .slice A2 n2 c2]] w fun e w' => ∃ B m d, e = .returned (.slice B m d) ∧ w'.ownsRow w.heap.size 3 1 (.slice B m d) m (ints (leftTo l0 f0 f1 l0.length)) ∧ Ext w w' := by
  have H := Lib.hid hs0.len
  have HX := Lib.hid ((Ext.refl' w).al (.cells #[.int .i64 f0, .int .i64 f1, .int .i64 f2, .slice A0 n0 c0, .int .i64 f4, .int .i64 f5, .int .i64 f6, .slice A1 n1 c1, .slice A2 n2 c2] 42))
  have oe := Lib.hid (own_empty (w.alloc (.cells #[.int .i64 f0, .int .i64 f1, .int .i64 f2, .slice A0 n0 c0, .int .i64 f4, .int .i64 f5, .int .i64 f6, .slice A1 n1 c1, .slice A2 n2 c2] 42)))
  have hb0 : Hid (Bx ((w.alloc (.cells #[.int .i64 f0, .int .i64 f1, .int .i64 f2, .slice A0 n0 c0, .int .i64 f4, .int .i64 f5, .int .i64 f6, .slice A1 n1 c1, .slice A2 n2 c2] 42)).alloc (.cells #[] 3)) w.heap.size 42 #[.int .i64 f0, .int .i64 f1, .int .i64 f2, .slice A0 n0 c0, .int .i64 f4, .int .i64 f5, .int .i64 f6, .slice A1 n1 c1, .slice A2 n2 c2]) := (Bx.new' _ _ _ rfl).al _
  clear _hs1 _hs2
  have HS := Lib.hid hs0
  clear hs0
  rcases Int.lt_or_le f0 0 with ht | ht
  · go_enter Try.func18, Try.ntmps18
    go_wp2
    go_loopw [3, 4] (fun u i wr => ∃ (j : Int) (m : Nat) (B : Option Addr) (d : Nat), f0 ≤ j ∧ 0 ≤ j ∧ (j ≤ n0 ∨ j = f0) ∧ (m : Int) ≤ j ∧ m ≤ n0 ∧ i = .int .i64 j ∧ u = .slice B m d ∧ wr.ownsRow (w.heap.size + 1) 3 1 (.slice B m d) m (ints (leftTo l0 f0 f1 (min j.toNat n0))) ∧ Ext w wr ∧ Hid (Bx wr w.heap.size 42 #[.int .i64 f0, .int .i64 f1, .int .i64 f2, .slice A0 n0 c0, .int .i64 f4, .int .i64 f5, .int .i64 f6, .slice A1 n1 c1, .slice A2 n2 c2])) (fun _ i _ => n0 - (intOf i).toNat)
    case atStart => exact ⟨0, 0, _, _, by omega, by omega, by omega, by omega, by omega, rfl, rfl, by have h := oe.out; rw [left_low (by omega)]; simpa using h, (HX.out).al _, hb0⟩
    case round =>
      obtain ⟨j, m, B, d, hj0, hj1, hj2, hmj, hmn, rfl, rfl, ho, hx, hbx⟩ := hrel
      have HXX := Lib.hid hx
      have HO := Lib.hid ho
      clear ho
      have hsz : w.heap.size < wr.heap.size := hbx.out.lt
      have q1 : wr.cell? ⟨w.heap.size, 1, none⟩ = some (.int .i64 f1) := hbx.out.cell 1
      have q3 : wr.cell? ⟨w.heap.size, 3, none⟩ = some (.slice A0 n0 c0) := hbx.out.cell 3
      by_cases h1 : j < f1
      · by_cases h2 : j < n0
        · obtain ⟨k, rfl⟩ := Int.eq_ofNat_of_zero_le hj1
          have hlt : k < n0 := by omega
          obtain ⟨b, o, rfl⟩ := HS.out.addr (by omega)
          obtain ⟨x, hxk, -, hc⟩ := (HS.out.ext hx).int_cell hlt
          have HXK := Lib.hid hxk
          have hm1 : min (k : Int).toNat n0 = k := by omega
          have HO2 : Hid (wr.ownsRow (w.heap.size + 1) 3 1 (.slice B m d) m (ints (leftTo l0 f0 f1 k))) := by have h := HO.out; rw [hm1] at h; exact h
          have e1 := Lib.hid (left_in HXK.out hj0 h1)
          clear hx hxk hm1 HO
          go_wp2_with (at_builtin; refine wp_push rfl (.tmp 22) (.tmp 28) _ rfl (w.heap.size + 1) 3 _ _ _ Try.underlying29 Try.infoInt rfl (by omega) B m d _ rfl HO2.out [.int .i64 x] _ (by simp) rfl rfl (by simp [Value.oneCell']) (by omega) (by unfold maxLen; omega) (by omega) ?_; intro A' c' w' hown' hchg' hat')
          go_roundw
          case rel =>
            refine ⟨(k : Int) + 1, m + 1, A', c', by omega, by omega, by omega, by omega, by omega, rfl, rfl, ?_, hchg'.ext HXX.out (fun g hg => by have := (HO2.out.lt g hg).1; omega), hbx.out.chg hchg' (fun hg => by have := (HO2.out.lt _ hg).1; omega)⟩
            rw [show min ((k : Int) + 1).toNat n0 = k + 1 by omega, e1.out]; simpa [ints] using hown'
          case measure => simp [intOf]; omega
        · clear hx
          go_wp2
          go_ret
          refine ⟨_, _, _, rfl, ?_, HXX.out⟩
          have h := HO.out
          rw [show min j.toNat n0 = l0.length by rw [H.out]; omega] at h
          exact own_base h (by omega)
      · clear hx
        go_wp2
        go_ret
        refine ⟨_, _, _, rfl, ?_, HXX.out⟩
        have h := HO.out
        by_cases h2 : j ≤ n0
        · rw [show min j.toNat n0 = j.toNat by omega] at h
          rw [left_high (k := j.toNat) (by omega) (by rw [H.out]; omega)]
          exact own_base h (by omega)
        · rw [show min j.toNat n0 = l0.length by rw [H.out]; omega] at h
          exact own_base h (by omega)
  · go_enter Try.func18, Try.ntmps18
    go_wp2
    go_loopw [3, 4] (fun u i wr => ∃ (j : Int) (m : Nat) (B : Option Addr) (d : Nat), f0 ≤ j ∧ 0 ≤ j ∧ (j ≤ n0 ∨ j = f0) ∧ (m : Int) ≤ j ∧ m ≤ n0 ∧ i = .int .i64 j ∧ u = .slice B m d ∧ wr.ownsRow (w.heap.size + 1) 3 1 (.slice B m d) m (ints (leftTo l0 f0 f1 (min j.toNat n0))) ∧ Ext w wr ∧ Hid (Bx wr w.heap.size 42 #[.int .i64 f0, .int .i64 f1, .int .i64 f2, .slice A0 n0 c0, .int .i64 f4, .int .i64 f5, .int .i64 f6, .slice A1 n1 c1, .slice A2 n2 c2])) (fun _ i _ => n0 - (intOf i).toNat)
    case atStart => exact ⟨f0, 0, _, _, by omega, by omega, by omega, by omega, by omega, rfl, rfl, by have h := oe.out; rw [left_low (by omega)]; simpa using h, (HX.out).al _, hb0⟩
    case round =>
      obtain ⟨j, m, B, d, hj0, hj1, hj2, hmj, hmn, rfl, rfl, ho, hx, hbx⟩ := hrel
      have HXX := Lib.hid hx
      have HO := Lib.hid ho
      clear ho
      have hsz : w.heap.size < wr.heap.size := hbx.out.lt
      have q1 : wr.cell? ⟨w.heap.size, 1, none⟩ = some (.int .i64 f1) := hbx.out.cell 1
      have q3 : wr.cell? ⟨w.heap.size, 3, none⟩ = some (.slice A0 n0 c0) := hbx.out.cell 3
      by_cases h1 : j < f1
      · by_cases h2 : j < n0
        · obtain ⟨k, rfl⟩ := Int.eq_ofNat_of_zero_le hj1
          have hlt : k < n0 := by omega
          obtain ⟨b, o, rfl⟩ := HS.out.addr (by omega)
          obtain ⟨x, hxk, -, hc⟩ := (HS.out.ext hx).int_cell hlt
          have HXK := Lib.hid hxk
          have hm1 : min (k : Int).toNat n0 = k := by omega
          have HO2 : Hid (wr.ownsRow (w.heap.size + 1) 3 1 (.slice B m d) m (ints (leftTo l0 f0 f1 k))) := by have h := HO.out; rw [hm1] at h; exact h
          have e1 := Lib.hid (left_in HXK.out hj0 h1)
          clear hx hxk hm1 HO
          go_wp2_with (at_builtin; refine wp_push rfl (.tmp 22) (.tmp 28) _ rfl (w.heap.size + 1) 3 _ _ _ Try.underlying29 Try.infoInt rfl (by omega) B m d _ rfl HO2.out [.int .i64 x] _ (by simp) rfl rfl (by simp [Value.oneCell']) (by omega) (by unfold maxLen; omega) (by omega) ?_; intro A' c' w' hown' hchg' hat')
          go_roundw
          case rel =>
            refine ⟨(k : Int) + 1, m + 1, A', c', by omega, by omega, by omega, by omega, by omega, rfl, rfl, ?_, hchg'.ext HXX.out (fun g hg => by have := (HO2.out.lt g hg).1; omega), hbx.out.chg hchg' (fun hg => by have := (HO2.out.lt _ hg).1; omega)⟩
            rw [show min ((k : Int) + 1).toNat n0 = k + 1 by omega, e1.out]; simpa [ints] using hown'
          case measure => simp [intOf]; omega
        · clear hx
          go_wp2
          go_ret
          refine ⟨_, _, _, rfl, ?_, HXX.out⟩
          have h := HO.out
          rw [show min j.toNat n0 = l0.length by rw [H.out]; omega] at h
          exact own_base h (by omega)
      · clear hx
        go_wp2
        go_ret
        refine ⟨_, _, _, rfl, ?_, HXX.out⟩
        have h := HO.out
        by_cases h2 : j ≤ n0
        · rw [show min j.toNat n0 = j.toNat by omega] at h
          rw [left_high (k := j.toNat) (by omega) (by rw [H.out]; omega)]
          exact own_base h (by omega)
        · rw [show min j.toNat n0 = l0.length by rw [H.out]; omega] at h
          exact own_base h (by omega)

set_option maxHeartbeats 8000000 in
theorem law_DqLeft (f0_0 : Int) (f0_1 : Int) (f0_2 : Int) (f0_4 : Int) (f0_5 : Int) (f0_6 : Int) (A0_0 : Option Addr) (n0_0 c0_0 : Nat) (l0_0 : List Int) (A0_1 : Option Addr) (n0_1 c0_1 : Nat) (l0_1 : List Thief) (A0_2 : Option Addr) (n0_2 c0_2 : Nat) (l0_2 : List Taken) (w : World) (hs0_0 : Sl w (fun _ => True) 1 A0_0 n0_0 (ints l0_0)) (hm0_0 : n0_0 ≤ 9223372036854775807) (hs0_1 : Sl w (fun _ => True) 4 A0_1 n0_1 (l0_1.flatMap Thief.cells)) (hm0_1 : n0_1 ≤ 9223372036854775807) (hs0_2 : Sl w (fun _ => True) 2 A0_2 n0_2 (l0_2.flatMap Taken.cells)) (hm0_2 : n0_2 ≤ 9223372036854775807) :
    Calls Try.prog 5 #[.agg #[.int .i64 f0_0, .int .i64 f0_1, .int .i64 f0_2, .slice A0_0 n0_0 c0_0, .int .i64 f0_4, .int .i64 f0_5, .int .i64 f0_6, .slice A0_1 n0_1 c0_1, .slice A0_2 n0_2 c0_2]] w fun e w' => e = .returned (.bool true) ∧ Ext w w' := by
  have hsO0_0 := hs0_0
  have hsO0_1 := hs0_1
  have hsO0_2 := hs0_2
  by_cases hz0 : (n0_0 : Int) + (n0_1 : Int) + (n0_2 : Int) ≤ (1048576 : Int)
  rotate_left
  · go_enter Try.func5, Try.ntmps5
    go_wp2_with fail
    refine (szDeque_no _ _ _ _ _ _ _ _ _ _ _ _ _ _ _ ((1048576 : Int)) _ hm0_0 hm0_1 hm0_2 (by omega) (by omega) (by omega)).mono ?_
    rintro e w1 ⟨rfl, xw1⟩
    have ba0 : Hid (Bx w1 (w.heap.size) 35 #[.int .i64 f0_0, .int .i64 f0_1, .int .i64 f0_2, .slice A0_0 n0_0 c0_0, .int .i64 f0_4, .int .i64 f0_5, .int .i64 f0_6, .slice A0_1 n0_1 c0_1, .slice A0_2 n0_2 c0_2]) := Bx.ext (Bx.new' _ _ _ rfl) xw1
    have zw1 : w.heap.size + 1 ≤ w1.heap.size := by have h := xw1.size; (try simp at h); omega
    replace xw1 := Ext.tr ((Ext.refl' w).al _) xw1
    have xx := xw1
    replace hs0_0 := hsO0_0.ext xx
    replace hs0_1 := hsO0_1.ext xx
    replace hs0_2 := hsO0_2.ext xx
    clear xw1
    go_wp2
    go_ret
    exact ⟨rfl, xx⟩
  have hN0_0 : n0_0 ≤ 1048576 := by omega
  have hN0_1 : n0_1 ≤ 1048576 := by omega
  have hN0_2 : n0_2 ≤ 1048576 := by omega
  go_enter Try.func5, Try.ntmps5
  go_wp2_with fail
  refine (szDeque_yes _ _ _ _ _ _ _ _ _ _ _ _ _ _ _ ((1048576 : Int)) _ hm0_0 hm0_1 hm0_2 (by omega) (by omega) (by omega)).mono ?_
  rintro e w1 ⟨rfl, xw1⟩
  have ba0 : Hid (Bx w1 (w.heap.size) 35 #[.int .i64 f0_0, .int .i64 f0_1, .int .i64 f0_2, .slice A0_0 n0_0 c0_0, .int .i64 f0_4, .int .i64 f0_5, .int .i64 f0_6, .slice A0_1 n0_1 c0_1, .slice A0_2 n0_2 c0_2]) := Bx.ext (Bx.new' _ _ _ rfl) xw1
  have zw1 : w.heap.size + 1 ≤ w1.heap.size := by have h := xw1.size; (try simp at h); omega
  replace xw1 := Ext.tr ((Ext.refl' w).al _) xw1
  have xx := xw1
  replace hs0_0 := hsO0_0.ext xx
  replace hs0_1 := hsO0_1.ext xx
  replace hs0_2 := hsO0_2.ext xx
  clear xw1
  have ea0_0 : w1.cell? ⟨w.heap.size, 0, none⟩ = some (.int .i64 f0_0) := ba0.out.cell 0
  have ea0_1 : w1.cell? ⟨w.heap.size, 1, none⟩ = some (.int .i64 f0_1) := ba0.out.cell 1
  have ea0_2 : w1.cell? ⟨w.heap.size, 2, none⟩ = some (.int .i64 f0_2) := ba0.out.cell 2
  have ea0_3 : w1.cell? ⟨w.heap.size, 3, none⟩ = some (.slice A0_0 n0_0 c0_0) := ba0.out.cell 3
  have ea0_4 : w1.cell? ⟨w.heap.size, 4, none⟩ = some (.int .i64 f0_4) := ba0.out.cell 4
  have ea0_5 : w1.cell? ⟨w.heap.size, 5, none⟩ = some (.int .i64 f0_5) := ba0.out.cell 5
  have ea0_6 : w1.cell? ⟨w.heap.size, 6, none⟩ = some (.int .i64 f0_6) := ba0.out.cell 6
  have ea0_7 : w1.cell? ⟨w.heap.size, 7, none⟩ = some (.slice A0_1 n0_1 c0_1) := ba0.out.cell 7
  have ea0_8 : w1.cell? ⟨w.heap.size, 8, none⟩ = some (.slice A0_2 n0_2 c0_2) := ba0.out.cell 8
  go_wp2_with fail
  refine (toDeque_any _ _ _ _ _ _ _ _ _ _ _ _ _ _ _ _ _ _ _ _ hs0_0 hN0_0 _ hs0_1 hN0_1 _ hs0_2 hN0_2).mono ?_
  rintro e w2 ⟨B2_0, d2_0, B2_1, d2_1, B2_2, d2_2, rfl, o2_0, o2_1, o2_2, ap2, x2⟩
  clear ea0_0 ea0_1 ea0_2 ea0_3 ea0_4 ea0_5 ea0_6 ea0_7 ea0_8
  replace ba0 := Lib.hid (ba0.out.ext (Ext.tr (Ext.refl' w1) x2))
  have zw2 : w1.heap.size + 0 ≤ w2.heap.size := by have h := x2.size; (try simp at h); omega
  replace xx := xx.tr x2
  replace hs0_0 := hsO0_0.ext xx
  replace hs0_1 := hsO0_1.ext xx
  replace hs0_2 := hsO0_2.ext xx
  clear x2
  have r2_0 : Hid (∀ g, (Value.slice B2_0 n0_0 d2_0).ownBlock = some g → w1.heap.size + 0 ≤ g ∧ g < w2.heap.size) := fun g hg => by have h := o2_0.lt g hg; (try simp only [World.heap_alloc_size] at h); omega
  have r2_1 : Hid (∀ g, (Value.slice B2_1 n0_1 d2_1).ownBlock = some g → w1.heap.size + 0 ≤ g ∧ g < w2.heap.size) := fun g hg => by have h := o2_1.lt g hg; (try simp only [World.heap_alloc_size] at h); omega
  have r2_2 : Hid (∀ g, (Value.slice B2_2 n0_2 d2_2).ownBlock = some g → w1.heap.size + 0 ≤ g ∧ g < w2.heap.size) := fun g hg => by have h := o2_2.lt g hg; (try simp only [World.heap_alloc_size] at h); omega
  go_wp2_with fail
  refine (spec_DqLeft _ _ _ _ _ _ _ _ _ _ _ _ _ _ _ _ _ _ _ _ (ownSl o2_0) hN0_0 _ (ownSl o2_1) hN0_1 _ (ownSl o2_2) hN0_2).mono ?_
  rintro e w3 ⟨B3_0_0, m3_0_0, d3_0_0, rfl, o3_0_0, x3⟩
  replace ba0 := Lib.hid (ba0.out.ext (Ext.tr (Ext.refl' w2) x3))
  have zw3 : w2.heap.size + 0 ≤ w3.heap.size := by have h := x3.size; (try simp at h); omega
  replace o2_0 := own_ext o2_0 x3
  replace o2_1 := own_ext o2_1 x3
  replace o2_2 := own_ext o2_2 x3
  replace xx := xx.tr x3
  replace hs0_0 := hsO0_0.ext xx
  replace hs0_1 := hsO0_1.ext xx
  replace hs0_2 := hsO0_2.ext xx
  clear x3
  have r3_0_0 : Hid (∀ g, (Value.slice B3_0_0 m3_0_0 d3_0_0).ownBlock = some g → w2.heap.size + 0 ≤ g ∧ g < w3.heap.size) := fun g hg => by have h := o3_0_0.lt g hg; (try simp only [World.heap_alloc_size] at h); omega
  clear o2_0 o2_1 o2_2
  have bd0_0 : m3_0_0 ≤ 1048576 := by have h1 := own_len o3_0_0; have h2 := left_le l0_0 f0_0 f0_1 l0_0.length; have h3 := hsO0_0.len; rw [ints_length] at h1; omega
  have ea0_0 : w3.cell? ⟨w.heap.size, 0, none⟩ = some (.int .i64 f0_0) := ba0.out.cell 0
  have ea0_1 : w3.cell? ⟨w.heap.size, 1, none⟩ = some (.int .i64 f0_1) := ba0.out.cell 1
  have ea0_2 : w3.cell? ⟨w.heap.size, 2, none⟩ = some (.int .i64 f0_2) := ba0.out.cell 2
  have ea0_3 : w3.cell? ⟨w.heap.size, 3, none⟩ = some (.slice A0_0 n0_0 c0_0) := ba0.out.cell 3
  have ea0_4 : w3.cell? ⟨w.heap.size, 4, none⟩ = some (.int .i64 f0_4) := ba0.out.cell 4
  have ea0_5 : w3.cell? ⟨w.heap.size, 5, none⟩ = some (.int .i64 f0_5) := ba0.out.cell 5
  have ea0_6 : w3.cell? ⟨w.heap.size, 6, none⟩ = some (.int .i64 f0_6) := ba0.out.cell 6
  have ea0_7 : w3.cell? ⟨w.heap.size, 7, none⟩ = some (.slice A0_1 n0_1 c0_1) := ba0.out.cell 7
  have ea0_8 : w3.cell? ⟨w.heap.size, 8, none⟩ = some (.slice A0_2 n0_2 c0_2) := ba0.out.cell 8
  go_wp2_with fail
  refine (toDeque_any _ _ _ _ _ _ _ _ _ _ _ _ _ _ _ _ _ _ _ _ hs0_0 hN0_0 _ hs0_1 hN0_1 _ hs0_2 hN0_2).mono ?_
  rintro e w4 ⟨B4_0, d4_0, B4_1, d4_1, B4_2, d4_2, rfl, o4_0, o4_1, o4_2, ap4, x4⟩
  clear ea0_0 ea0_1 ea0_2 ea0_3 ea0_4 ea0_5 ea0_6 ea0_7 ea0_8
  replace ba0 := Lib.hid (ba0.out.ext (Ext.tr (Ext.refl' w3) x4))
  have zw4 : w3.heap.size + 0 ≤ w4.heap.size := by have h := x4.size; (try simp at h); omega
  replace o3_0_0 := own_ext o3_0_0 x4
  replace xx := xx.tr x4
  replace hs0_0 := hsO0_0.ext xx
  replace hs0_1 := hsO0_1.ext xx
  replace hs0_2 := hsO0_2.ext xx
  clear x4
  have r4_0 : Hid (∀ g, (Value.slice B4_0 n0_0 d4_0).ownBlock = some g → w3.heap.size + 0 ≤ g ∧ g < w4.heap.size) := fun g hg => by have h := o4_0.lt g hg; (try simp only [World.heap_alloc_size] at h); omega
  have r4_1 : Hid (∀ g, (Value.slice B4_1 n0_1 d4_1).ownBlock = some g → w3.heap.size + 0 ≤ g ∧ g < w4.heap.size) := fun g hg => by have h := o4_1.lt g hg; (try simp only [World.heap_alloc_size] at h); omega
  have r4_2 : Hid (∀ g, (Value.slice B4_2 n0_2 d4_2).ownBlock = some g → w3.heap.size + 0 ≤ g ∧ g < w4.heap.size) := fun g hg => by have h := o4_2.lt g hg; (try simp only [World.heap_alloc_size] at h); omega
  go_wp2_with fail
  refine (impl_DqLeft _ _ _ _ _ _ _ _ _ _ _ _ _ _ _ _ _ _ _ _ (ownSl (own_ext o4_0 ((Ext.refl' w4).al _))) hN0_0 _ (ownSl (own_ext o4_1 ((Ext.refl' w4).al _))) hN0_1 _ (ownSl (own_ext o4_2 ((Ext.refl' w4).al _))) hN0_2).mono ?_
  rintro e w5 ⟨B5_0_0, m5_0_0, d5_0_0, rfl, o5_0_0, x5⟩
  replace ba0 := Lib.hid (ba0.out.ext (Ext.tr ((Ext.refl' w4).al _) x5))
  have bx0 : Hid (Bx w5 (w4.heap.size) 42 #[.int .i64 f0_0, .int .i64 f0_1, .int .i64 f0_2, .slice B4_0 n0_0 d4_0, .int .i64 f0_4, .int .i64 f0_5, .int .i64 f0_6, .slice B4_1 n0_1 d4_1, .slice B4_2 n0_2 d4_2]) := Bx.ext (Bx.new' _ _ _ rfl) x5
  have zw5 : w4.heap.size + 1 ≤ w5.heap.size := by have h := x5.size; (try simp at h); omega
  replace x5 := Ext.tr ((Ext.refl' w4).al _) x5
  replace o3_0_0 := own_ext o3_0_0 x5
  replace o4_0 := own_ext o4_0 x5
  replace o4_1 := own_ext o4_1 x5
  replace o4_2 := own_ext o4_2 x5
  replace xx := xx.tr x5
  replace hs0_0 := hsO0_0.ext xx
  replace hs0_1 := hsO0_1.ext xx
  replace hs0_2 := hsO0_2.ext xx
  clear x5
  have r5_0_0 : Hid (∀ g, (Value.slice B5_0_0 m5_0_0 d5_0_0).ownBlock = some g → w4.heap.size + 1 ≤ g ∧ g < w5.heap.size) := fun g hg => by have h := o5_0_0.lt g hg; (try simp only [World.heap_alloc_size] at h); omega
  obtain rfl : m3_0_0 = m5_0_0 := by have h1 := o3_0_0.1; have h2 := o5_0_0.1; omega
  go_wp2_with fail
  refine (eqIntS_same _ _ _ _ _ _ _ _ _ (ownSl o5_0_0) (ownSl o3_0_0) (by omega)).mono ?_
  rintro e w6 ⟨rfl, x6⟩
  replace ba0 := Lib.hid (ba0.out.ext (Ext.tr (Ext.refl' w5) x6))
  replace bx0 := Lib.hid (bx0.out.ext (Ext.tr (Ext.refl' w5) x6))
  have zw6 : w5.heap.size + 0 ≤ w6.heap.size := by have h := x6.size; (try simp at h); omega
  replace o3_0_0 := own_ext o3_0_0 x6
  replace o4_0 := own_ext o4_0 x6
  replace o4_1 := own_ext o4_1 x6
  replace o4_2 := own_ext o4_2 x6
  replace o5_0_0 := own_ext o5_0_0 x6
  replace xx := xx.tr x6
  replace hs0_0 := hsO0_0.ext xx
  replace hs0_1 := hsO0_1.ext xx
  replace hs0_2 := hsO0_2.ext xx
  clear x6
  have ex0_0 : w6.cell? ⟨w4.heap.size, 0, none⟩ = some (.int .i64 f0_0) := bx0.out.cell 0
  have ex0_1 : w6.cell? ⟨w4.heap.size, 1, none⟩ = some (.int .i64 f0_1) := bx0.out.cell 1
  have ex0_2 : w6.cell? ⟨w4.heap.size, 2, none⟩ = some (.int .i64 f0_2) := bx0.out.cell 2
  have ex0_3 : w6.cell? ⟨w4.heap.size, 3, none⟩ = some (.slice B4_0 n0_0 d4_0) := bx0.out.cell 3
  have ex0_4 : w6.cell? ⟨w4.heap.size, 4, none⟩ = some (.int .i64 f0_4) := bx0.out.cell 4
  have ex0_5 : w6.cell? ⟨w4.heap.size, 5, none⟩ = some (.int .i64 f0_5) := bx0.out.cell 5
  have ex0_6 : w6.cell? ⟨w4.heap.size, 6, none⟩ = some (.int .i64 f0_6) := bx0.out.cell 6
  have ex0_7 : w6.cell? ⟨w4.heap.size, 7, none⟩ = some (.slice B4_1 n0_1 d4_1) := bx0.out.cell 7
  have ex0_8 : w6.cell? ⟨w4.heap.size, 8, none⟩ = some (.slice B4_2 n0_2 d4_2) := bx0.out.cell 8
  have ea0_0 : w6.cell? ⟨w.heap.size, 0, none⟩ = some (.int .i64 f0_0) := ba0.out.cell 0
  have ea0_1 : w6.cell? ⟨w.heap.size, 1, none⟩ = some (.int .i64 f0_1) := ba0.out.cell 1
  have ea0_2 : w6.cell? ⟨w.heap.size, 2, none⟩ = some (.int .i64 f0_2) := ba0.out.cell 2
  have ea0_3 : w6.cell? ⟨w.heap.size, 3, none⟩ = some (.slice A0_0 n0_0 c0_0) := ba0.out.cell 3
  have ea0_4 : w6.cell? ⟨w.heap.size, 4, none⟩ = some (.int .i64 f0_4) := ba0.out.cell 4
  have ea0_5 : w6.cell? ⟨w.heap.size, 5, none⟩ = some (.int .i64 f0_5) := ba0.out.cell 5
  have ea0_6 : w6.cell? ⟨w.heap.size, 6, none⟩ = some (.int .i64 f0_6) := ba0.out.cell 6
  have ea0_7 : w6.cell? ⟨w.heap.size, 7, none⟩ = some (.slice A0_1 n0_1 c0_1) := ba0.out.cell 7
  have ea0_8 : w6.cell? ⟨w.heap.size, 8, none⟩ = some (.slice A0_2 n0_2 c0_2) := ba0.out.cell 8
  go_wp2_with fail
  go_region_with (first | (go_at_call 15; refine (toDeque_any _ _ _ _ _ _ _ _ _ _ _ _ _ _ _ _ _ _ _ _ (hs0_0.ext ((Ext.refl' w6).dr)) hN0_0 _ (hs0_1.ext ((Ext.refl' w6).dr)) hN0_1 _ (hs0_2.ext ((Ext.refl' w6).dr)) hN0_2).mono ?_; rintro e w7 ⟨B7_0, d7_0, B7_1, d7_1, B7_2, d7_2, rfl, o7_0, o7_1, o7_2, ap7, x7⟩; have bq : Hid (Bx w7 (w4.heap.size) 42 #[.int .i64 f0_0, .int .i64 f0_1, .int .i64 f0_2, .slice B4_0 n0_0 d4_0, .int .i64 f0_4, .int .i64 f0_5, .int .i64 f0_6, .slice B4_1 n0_1 d4_1, .slice B4_2 n0_2 d4_2]) := Bx.ext ((bx0.out.ext ((Ext.refl' w6).dr))) x7; have eq_0 : w7.cell? ⟨w4.heap.size, 0, none⟩ = some (.int .i64 f0_0) := bq.out.cell 0; have eq_1 : w7.cell? ⟨w4.heap.size, 1, none⟩ = some (.int .i64 f0_1) := bq.out.cell 1; have eq_2 : w7.cell? ⟨w4.heap.size, 2, none⟩ = some (.int .i64 f0_2) := bq.out.cell 2; have eq_3 : w7.cell? ⟨w4.heap.size, 3, none⟩ = some (.slice B4_0 n0_0 d4_0) := bq.out.cell 3; have eq_4 : w7.cell? ⟨w4.heap.size, 4, none⟩ = some (.int .i64 f0_4) := bq.out.cell 4; have eq_5 : w7.cell? ⟨w4.heap.size, 5, none⟩ = some (.int .i64 f0_5) := bq.out.cell 5; have eq_6 : w7.cell? ⟨w4.heap.size, 6, none⟩ = some (.int .i64 f0_6) := bq.out.cell 6; have eq_7 : w7.cell? ⟨w4.heap.size, 7, none⟩ = some (.slice B4_1 n0_1 d4_1) := bq.out.cell 7; have eq_8 : w7.cell? ⟨w4.heap.size, 8, none⟩ = some (.slice B4_2 n0_2 d4_2) := bq.out.cell 8) | (go_at_call 17; refine (eqDeque_same _ _ _ _ _ _ _ _ _ _ _ _ _ _ _ _ _ _ _ _ _ _ _ _ _ _ (ownSl (own_ext o4_0 (Ext.tr ((Ext.refl' w6).dr) x7))) (by omega) _ (ownSl (own_ext o4_1 (Ext.tr ((Ext.refl' w6).dr) x7))) (by omega) _ (ownSl (own_ext o4_2 (Ext.tr ((Ext.refl' w6).dr) x7))) (by omega) _ (ownSl o7_0) _ (ownSl o7_1) _ (ownSl o7_2)).mono ?_; rintro e w8 ⟨rfl, x8⟩))
  all_goals
    clear bq eq_0 eq_1 eq_2 eq_3 eq_4 eq_5 eq_6 eq_7 eq_8
    replace x8 := Ext.tr x7 x8
    clear o7_0 o7_1 o7_2 ap7
    clear ex0_0 ex0_1 ex0_2 ex0_3 ex0_4 ex0_5 ex0_6 ex0_7 ex0_8 ea0_0 ea0_1 ea0_2 ea0_3 ea0_4 ea0_5 ea0_6 ea0_7 ea0_8
    replace ba0 := Lib.hid (ba0.out.ext (Ext.tr ((Ext.refl' w6).dr) x8))
    replace bx0 := Lib.hid (bx0.out.ext (Ext.tr ((Ext.refl' w6).dr) x8))
    have zw8 : w6.heap.size + 0 ≤ w8.heap.size := by have h := x8.size; (try simp at h); omega
    replace x8 := Ext.tr ((Ext.refl' w6).dr) x8
    replace o3_0_0 := own_ext o3_0_0 x8
    replace o4_0 := own_ext o4_0 x8
    replace o4_1 := own_ext o4_1 x8
    replace o4_2 := own_ext o4_2 x8
    replace o5_0_0 := own_ext o5_0_0 x8
    replace xx := xx.tr x8
    replace hs0_0 := hsO0_0.ext xx
    replace hs0_1 := hsO0_1.ext xx
    replace hs0_2 := hsO0_2.ext xx
    clear x8
    have ex0_0 : w8.cell? ⟨w4.heap.size, 0, none⟩ = some (.int .i64 f0_0) := bx0.out.cell 0
    have ex0_1 : w8.cell? ⟨w4.heap.size, 1, none⟩ = some (.int .i64 f0_1) := bx0.out.cell 1
    have ex0_2 : w8.cell? ⟨w4.heap.size, 2, none⟩ = some (.int .i64 f0_2) := bx0.out.cell 2
    have ex0_3 : w8.cell? ⟨w4.heap.size, 3, none⟩ = some (.slice B4_0 n0_0 d4_0) := bx0.out.cell 3
    have ex0_4 : w8.cell? ⟨w4.heap.size, 4, none⟩ = some (.int .i64 f0_4) := bx0.out.cell 4
    have ex0_5 : w8.cell? ⟨w4.heap.size, 5, none⟩ = some (.int .i64 f0_5) := bx0.out.cell 5
    have ex0_6 : w8.cell? ⟨w4.heap.size, 6, none⟩ = some (.int .i64 f0_6) := bx0.out.cell 6
    have ex0_7 : w8.cell? ⟨w4.heap.size, 7, none⟩ = some (.slice B4_1 n0_1 d4_1) := bx0.out.cell 7
    have ex0_8 : w8.cell? ⟨w4.heap.size, 8, none⟩ = some (.slice B4_2 n0_2 d4_2) := bx0.out.cell 8
    go_wp2_with fail
    refine (markDeque_any _ _ _ _ _ _ _ _ _ _ _ _ _ _ _ _ _ _ _ (1) _ (own_base o4_0 (Nat.zero_le _)) (own_base o4_1 (Nat.zero_le _)) (own_base o4_2 (Nat.zero_le _)) ap4 (by omega) (by omega)).mono ?_
    rintro e w9 ⟨rfl, o9_0, o9_1, o9_2, cc⟩
    clear ex0_0 ex0_1 ex0_2 ex0_3 ex0_4 ex0_5 ex0_6 ex0_7 ex0_8
    have n_b : Hid (Bx w9 (w.heap.size) 35 #[.int .i64 f0_0, .int .i64 f0_1, .int .i64 f0_2, .slice A0_0 n0_0 c0_0, .int .i64 f0_4, .int .i64 f0_5, .int .i64 f0_6, .slice A0_1 n0_1 c0_1, .slice A0_2 n0_2 c0_2]) := Bx.chg (ba0.out) cc (fun qq => by (rcases qq with qq | qq | qq <;> first | (have h2 := r4_0.out _ qq; skip; omega) | (have h2 := r4_1.out _ qq; skip; omega) | (have h2 := r4_2.out _ qq; skip; omega)))
    clear ba0
    have ba0 := n_b
    clear n_b
    have n_b : Hid (Bx w9 (w4.heap.size) 42 #[.int .i64 f0_0, .int .i64 f0_1, .int .i64 f0_2, .slice B4_0 n0_0 d4_0, .int .i64 f0_4, .int .i64 f0_5, .int .i64 f0_6, .slice B4_1 n0_1 d4_1, .slice B4_2 n0_2 d4_2]) := Bx.chg (bx0.out) cc (fun qq => by (rcases qq with qq | qq | qq <;> first | (have h2 := r4_0.out _ qq; skip; omega) | (have h2 := r4_1.out _ qq; skip; omega) | (have h2 := r4_2.out _ qq; skip; omega)))
    clear bx0
    have bx0 := n_b
    clear n_b
    have zw9 : w8.heap.size + 0 ≤ w9.heap.size := by have h := cc.size; (try simp at h); omega
    replace o3_0_0 := own_chg o3_0_0 cc (fun g hg qq => by (rcases qq with qq | qq | qq <;> first | (have h2 := r4_0.out _ qq; have h1 := r3_0_0.out g hg; omega) | (have h2 := r4_1.out _ qq; have h1 := r3_0_0.out g hg; omega) | (have h2 := r4_2.out _ qq; have h1 := r3_0_0.out g hg; omega)))
    replace o5_0_0 := own_chg o5_0_0 cc (fun g hg qq => by (rcases qq with qq | qq | qq <;> first | (have h2 := r4_0.out _ qq; have h1 := r5_0_0.out g hg; omega) | (have h2 := r4_1.out _ qq; have h1 := r5_0_0.out g hg; omega) | (have h2 := r4_2.out _ qq; have h1 := r5_0_0.out g hg; omega)))
    replace xx := cc.ext xx (fun g qq => by (rcases qq with qq | qq | qq <;> first | (have h2 := r4_0.out _ qq; skip; omega) | (have h2 := r4_1.out _ qq; skip; omega) | (have h2 := r4_2.out _ qq; skip; omega)))
    replace hs0_0 := hsO0_0.ext xx
    replace hs0_1 := hsO0_1.ext xx
    replace hs0_2 := hsO0_2.ext xx
    clear cc
    clear o4_0
    have r9_0 := r4_0
    clear o4_1
    have r9_1 := r4_1
    clear o4_2
    have r9_2 := r4_2
    clear o9_0 o9_1 o9_2
    have hq1 : (0 : Int) ≤ 1 + (n0_0 : Int) + (n0_1 : Int) * 4 + (n0_2 : Int) * 2 := by omega
    go_wp2_with fail
    refine (eqIntS_same _ _ _ _ _ _ _ _ _ (ownSl o5_0_0) (ownSl o3_0_0) (by omega)).mono ?_
    rintro e w10 ⟨rfl, x10⟩
    replace ba0 := Lib.hid (ba0.out.ext (Ext.tr (Ext.refl' w9) x10))
    replace bx0 := Lib.hid (bx0.out.ext (Ext.tr (Ext.refl' w9) x10))
    have zw10 : w9.heap.size + 0 ≤ w10.heap.size := by have h := x10.size; (try simp at h); omega
    replace o3_0_0 := own_ext o3_0_0 x10
    replace o5_0_0 := own_ext o5_0_0 x10
    replace xx := xx.tr x10
    replace hs0_0 := hsO0_0.ext xx
    replace hs0_1 := hsO0_1.ext xx
    replace hs0_2 := hsO0_2.ext xx
    clear x10
    go_wp2_with fail
    refine (markIntS_any _ _ _ _ _ (1) _ o5_0_0 (by omega) (by omega)).mono ?_
    rintro e w11 ⟨rfl, o11_0, cc⟩
    have n_b : Hid (Bx w11 (w.heap.size) 35 #[.int .i64 f0_0, .int .i64 f0_1, .int .i64 f0_2, .slice A0_0 n0_0 c0_0, .int .i64 f0_4, .int .i64 f0_5, .int .i64 f0_6, .slice A0_1 n0_1 c0_1, .slice A0_2 n0_2 c0_2]) := Bx.chg (ba0.out) cc (fun qq => by have h2 := r5_0_0.out _ qq; skip; omega)
    clear ba0
    have ba0 := n_b
    clear n_b
    have n_b : Hid (Bx w11 (w4.heap.size) 42 #[.int .i64 f0_0, .int .i64 f0_1, .int .i64 f0_2, .slice B4_0 n0_0 d4_0, .int .i64 f0_4, .int .i64 f0_5, .int .i64 f0_6, .slice B4_1 n0_1 d4_1, .slice B4_2 n0_2 d4_2]) := Bx.chg (bx0.out) cc (fun qq => by have h2 := r5_0_0.out _ qq; skip; omega)
    clear bx0
    have bx0 := n_b
    clear n_b
    have zw11 : w10.heap.size + 0 ≤ w11.heap.size := by have h := cc.size; (try simp at h); omega
    replace o3_0_0 := own_chg o3_0_0 cc (fun g hg qq => by have h2 := r5_0_0.out _ qq; have h1 := r3_0_0.out g hg; omega)
    replace xx := cc.ext xx (fun g qq => by have h2 := r5_0_0.out _ qq; skip; omega)
    replace hs0_0 := hsO0_0.ext xx
    replace hs0_1 := hsO0_1.ext xx
    replace hs0_2 := hsO0_2.ext xx
    clear cc
    clear o5_0_0
    have r11_0 := r5_0_0
    have hq2_0 : (0 : Int) ≤ 1 + (m3_0_0 : Int) := by omega
    have hq3 : ((1 + (m3_0_0 : Int)) != (1 + (m3_0_0 : Int))) = false := by simp
    go_wp2_with fail
    refine (heldIntS_any _ _ _ (1) _ _ (ownSl o11_0) (by omega) (by omega)).mono ?_
    rintro e w12 ⟨rfl, hx12⟩
    have x12 := Ext.of_eq hx12
    clear hx12
    replace ba0 := Lib.hid (ba0.out.ext (Ext.tr (Ext.refl' w11) x12))
    replace bx0 := Lib.hid (bx0.out.ext (Ext.tr (Ext.refl' w11) x12))
    have zw12 : w11.heap.size + 0 ≤ w12.heap.size := by have h := x12.size; (try simp at h); omega
    replace o3_0_0 := own_ext o3_0_0 x12
    replace o11_0 := own_ext o11_0 x12
    replace xx := xx.tr x12
    replace hs0_0 := hsO0_0.ext xx
    replace hs0_1 := hsO0_1.ext xx
    replace hs0_2 := hsO0_2.ext xx
    clear x12
    have ea0_0 : w12.cell? ⟨w.heap.size, 0, none⟩ = some (.int .i64 f0_0) := ba0.out.cell 0
    have ea0_1 : w12.cell? ⟨w.heap.size, 1, none⟩ = some (.int .i64 f0_1) := ba0.out.cell 1
    have ea0_2 : w12.cell? ⟨w.heap.size, 2, none⟩ = some (.int .i64 f0_2) := ba0.out.cell 2
    have ea0_3 : w12.cell? ⟨w.heap.size, 3, none⟩ = some (.slice A0_0 n0_0 c0_0) := ba0.out.cell 3
    have ea0_4 : w12.cell? ⟨w.heap.size, 4, none⟩ = some (.int .i64 f0_4) := ba0.out.cell 4
    have ea0_5 : w12.cell? ⟨w.heap.size, 5, none⟩ = some (.int .i64 f0_5) := ba0.out.cell 5
    have ea0_6 : w12.cell? ⟨w.heap.size, 6, none⟩ = some (.int .i64 f0_6) := ba0.out.cell 6
    have ea0_7 : w12.cell? ⟨w.heap.size, 7, none⟩ = some (.slice A0_1 n0_1 c0_1) := ba0.out.cell 7
    have ea0_8 : w12.cell? ⟨w.heap.size, 8, none⟩ = some (.slice A0_2 n0_2 c0_2) := ba0.out.cell 8
    go_wp2_with fail
    refine (toDeque_any _ _ _ _ _ _ _ _ _ _ _ _ _ _ _ _ _ _ _ _ hs0_0 hN0_0 _ hs0_1 hN0_1 _ hs0_2 hN0_2).mono ?_
    rintro e w13 ⟨B13_0, d13_0, B13_1, d13_1, B13_2, d13_2, rfl, o13_0, o13_1, o13_2, ap13, x13⟩
    clear ea0_0 ea0_1 ea0_2 ea0_3 ea0_4 ea0_5 ea0_6 ea0_7 ea0_8
    replace ba0 := Lib.hid (ba0.out.ext (Ext.tr (Ext.refl' w12) x13))
    replace bx0 := Lib.hid (bx0.out.ext (Ext.tr (Ext.refl' w12) x13))
    have zw13 : w12.heap.size + 0 ≤ w13.heap.size := by have h := x13.size; (try simp at h); omega
    replace o3_0_0 := own_ext o3_0_0 x13
    replace o11_0 := own_ext o11_0 x13
    replace xx := xx.tr x13
    replace hs0_0 := hsO0_0.ext xx
    replace hs0_1 := hsO0_1.ext xx
    replace hs0_2 := hsO0_2.ext xx
    clear x13
    have r13_0 : Hid (∀ g, (Value.slice B13_0 n0_0 d13_0).ownBlock = some g → w12.heap.size + 0 ≤ g ∧ g < w13.heap.size) := fun g hg => by have h := o13_0.lt g hg; (try simp only [World.heap_alloc_size] at h); omega
    have r13_1 : Hid (∀ g, (Value.slice B13_1 n0_1 d13_1).ownBlock = some g → w12.heap.size + 0 ≤ g ∧ g < w13.heap.size) := fun g hg => by have h := o13_1.lt g hg; (try simp only [World.heap_alloc_size] at h); omega
    have r13_2 : Hid (∀ g, (Value.slice B13_2 n0_2 d13_2).ownBlock = some g → w12.heap.size + 0 ≤ g ∧ g < w13.heap.size) := fun g hg => by have h := o13_2.lt g hg; (try simp only [World.heap_alloc_size] at h); omega
    go_wp2_with fail
    refine (impl_DqLeft _ _ _ _ _ _ _ _ _ _ _ _ _ _ _ _ _ _ _ _ (ownSl o13_0) hN0_0 _ (ownSl o13_1) hN0_1 _ (ownSl o13_2) hN0_2).mono ?_
    rintro e w14 ⟨B14_0_0, m14_0_0, d14_0_0, rfl, o14_0_0, x14⟩
    replace ba0 := Lib.hid (ba0.out.ext (Ext.tr (Ext.refl' w13) x14))
    replace bx0 := Lib.hid (bx0.out.ext (Ext.tr (Ext.refl' w13) x14))
    have zw14 : w13.heap.size + 0 ≤ w14.heap.size := by have h := x14.size; (try simp at h); omega
    replace o3_0_0 := own_ext o3_0_0 x14
    replace o11_0 := own_ext o11_0 x14
    replace o13_0 := own_ext o13_0 x14
    replace o13_1 := own_ext o13_1 x14
    replace o13_2 := own_ext o13_2 x14
    replace xx := xx.tr x14
    replace hs0_0 := hsO0_0.ext xx
    replace hs0_1 := hsO0_1.ext xx
    replace hs0_2 := hsO0_2.ext xx
    clear x14
    have r14_0_0 : Hid (∀ g, (Value.slice B14_0_0 m14_0_0 d14_0_0).ownBlock = some g → w13.heap.size + 0 ≤ g ∧ g < w14.heap.size) := fun g hg => by have h := o14_0_0.lt g hg; (try simp only [World.heap_alloc_size] at h); omega
    clear o13_0 o13_1 o13_2
    obtain rfl : m3_0_0 = m14_0_0 := by have h1 := o3_0_0.1; have h2 := o14_0_0.1; omega
    go_wp2_with fail
    refine (eqIntS_same _ _ _ _ _ _ _ _ _ (ownSl o14_0_0) (ownSl o3_0_0) (by omega)).mono ?_
    rintro e w15 ⟨rfl, x15⟩
    replace ba0 := Lib.hid (ba0.out.ext (Ext.tr (Ext.refl' w14) x15))
    replace bx0 := Lib.hid (bx0.out.ext (Ext.tr (Ext.refl' w14) x15))
    have zw15 : w14.heap.size + 0 ≤ w15.heap.size := by have h := x15.size; (try simp at h); omega
    replace o3_0_0 := own_ext o3_0_0 x15
    replace o11_0 := own_ext o11_0 x15
    replace o14_0_0 := own_ext o14_0_0 x15
    replace xx := xx.tr x15
    replace hs0_0 := hsO0_0.ext xx
    replace hs0_1 := hsO0_1.ext xx
    replace hs0_2 := hsO0_2.ext xx
    clear x15
    go_wp2_with fail
    refine (heldIntS_any _ _ _ (1) _ _ (ownSl o11_0) (by omega) (by omega)).mono ?_
    rintro e w16 ⟨rfl, hx16⟩
    have x16 := Ext.of_eq hx16
    clear hx16
    replace ba0 := Lib.hid (ba0.out.ext (Ext.tr (Ext.refl' w15) x16))
    replace bx0 := Lib.hid (bx0.out.ext (Ext.tr (Ext.refl' w15) x16))
    have zw16 : w15.heap.size + 0 ≤ w16.heap.size := by have h := x16.size; (try simp at h); omega
    replace o3_0_0 := own_ext o3_0_0 x16
    replace o11_0 := own_ext o11_0 x16
    replace o14_0_0 := own_ext o14_0_0 x16
    replace xx := xx.tr x16
    replace hs0_0 := hsO0_0.ext xx
    replace hs0_1 := hsO0_1.ext xx
    replace hs0_2 := hsO0_2.ext xx
    clear x16
    go_wp2
    go_ret
    exact ⟨rfl, xx⟩
end Go.Proofs.Ytkkcgpoakhllkaa
