/- VersState of program and reference; the contract of laws.FnExactVersState. No condition. -/
import Derived.Test.YtnhkjgnfjphllaaVersRead
import Derived.Test.YtnhkjgnfjphllaaCopyInts
namespace Go.Proofs.Ytnhkjgnfjphllaa
open Go.RowKit Go.Deep

noncomputable def stateTo (base : List Int) (f : Int) (l : List Ver) (n : Int) (k : Nat) : List Int := (List.range k).map fun (c : Nat) => versRead base f l (c : Int) n
theorem stateTo_succ (base : List Int) (f : Int) (l : List Ver) (n : Int) (k : Nat) : stateTo base f l n (k + 1) = stateTo base f l n k ++ [versRead base f l (k : Int) n] := by
  unfold stateTo
  rw [List.range_succ]
  simp
noncomputable def versState (base : List Int) (f : Int) (l : List Ver) (n : Int) : List Int := if dec (versOk base f l = true ∧ f ≤ n) = true then stateTo base f l n 8 else []
theorem versState_le (base : List Int) (f : Int) (l : List Ver) (n : Int) : (versState base f l n).length ≤ 8 := by
  unfold versState stateTo
  split <;> simp

set_option maxHeartbeats 4000000 in
theorem spec_VersState (n : Int) (f1 : Int) (A0 : Option Addr) (n0 c0 : Nat) (l0 : List Int) (A1 : Option Addr) (n1 c1 : Nat) (l1 : List Ver) (w : World)
    (S0 : Nat → Prop) (hs0 : Sl w S0 1 A0 n0 (ints l0)) (hm0 : n0 ≤ 1048576) (S1 : Nat → Prop) (hs1 : Sl w S1 3 A1 n1 (l1.flatMap Ver.cells)) (hm1 : n1 ≤ 1048576) :
    Calls Try.prog 27 #[.agg #[.slice A0 n0 c0, .int .i64 f1, .slice A1 n1 c1], .int .i64 n] w fun e w' => ∃ B m d, e = .returned (.slice B m d) ∧ w'.ownsRow w.heap.size 3 1 (.slice B m d) m (ints (versState l0 f1 l1 n)) ∧ Ext w w' := by
  have HX := Lib.hid ((Ext.refl' w).al (.cells #[.slice A0 n0 c0, .int .i64 f1, .slice A1 n1 c1] 25))
  have oe := Lib.hid (own_emptyC (w.alloc (.cells #[.slice A0 n0 c0, .int .i64 f1, .slice A1 n1 c1] 25)))
  have hb0 : Hid (Bx ((w.alloc (.cells #[.slice A0 n0 c0, .int .i64 f1, .slice A1 n1 c1] 25)).alloc (.cells #[] 3)) w.heap.size 25 #[.slice A0 n0 c0, .int .i64 f1, .slice A1 n1 c1]) := (Bx.new' _ _ _ rfl).al _
  have HS0 := Lib.hid hs0
  have HS1 := Lib.hid hs1
  clear hs0 hs1
  by_cases hok : versOk l0 f1 l1 = true ∧ f1 ≤ n
  rotate_left
  · have HN : Hid (versState l0 f1 l1 n = []) := by unfold versState; rw [dec_no hok]; rfl
    have HR : Hid (∀ c : Int, readOk l0 f1 l1 c n = false) := fun c => dec_no fun h => hok ⟨h.1, h.2.2⟩
    clear hok
    go_enter Try.func27, Try.ntmps27
    go_wp2
    go_loopw [5, 6] (fun u i wr => i = .int .i64 (0 : Int) ∧ Ext w wr ∧ Hid (Bx wr w.heap.size 25 #[.slice A0 n0 c0, .int .i64 f1, .slice A1 n1 c1])) (fun _ i _ => (intOf i).toNat)
    case atStart => exact ⟨rfl, (HX.out).al _, hb0⟩
    case round =>
      obtain ⟨rfl, hx, hbx⟩ := hrel
      have HXX := Lib.hid hx
      have hsz : w.heap.size < wr.heap.size := hbx.out.lt
      have q0 : wr.cell? ⟨w.heap.size, 0, none⟩ = some (.slice A0 n0 c0) := hbx.out.cell 0
      have q1 : wr.cell? ⟨w.heap.size, 1, none⟩ = some (.int .i64 f1) := hbx.out.cell 1
      have q2 : wr.cell? ⟨w.heap.size, 2, none⟩ = some (.slice A1 n1 c1) := hbx.out.cell 2
      clear hx
      go_wp2_with fail
      refine (spec_VersRead _ _ _ _ _ _ l0 _ _ _ l1 _ S0 (HS0.out.ext HXX.out) hm0 S1 (HS1.out.ext HXX.out) hm1).mono ?_
      rintro e w2 ⟨rfl, x2⟩
      rw [HR.out]
      clear q0 q1 q2
      have zz : wr.heap.size ≤ w2.heap.size := x2.size
      have X2 := Lib.hid (HXX.out.tr x2)
      have zw : w.heap.size ≤ w2.heap.size := X2.out.size
      clear x2
      go_wp2
      go_ret
      exact ⟨_, _, _, rfl, by rw [HN.out]; exact own_base (own_emptyC w2) zw, X2.out.al _⟩
  have HN : Hid (versState l0 f1 l1 n = stateTo l0 f1 l1 n 8) := by unfold versState; rw [dec_yes hok]; rfl
  have HR : Hid (∀ c : Nat, c < 8 → readOk l0 f1 l1 (c : Int) n = true) := fun c hc => dec_yes ⟨hok.1, by omega, hok.2⟩
  clear hok
  go_enter Try.func27, Try.ntmps27
  go_wp2
  go_loopw [5, 6] (fun u i wr => ∃ (k : Nat) (B : Option Addr) (d : Nat), k ≤ 8 ∧ i = .int .i64 k ∧ u = .slice B k d ∧ wr.ownsRow (w.heap.size + 1) 3 1 (.slice B k d) k (ints (stateTo l0 f1 l1 n k)) ∧ Ext w wr ∧ Hid (Bx wr w.heap.size 25 #[.slice A0 n0 c0, .int .i64 f1, .slice A1 n1 c1])) (fun _ i _ => 8 - (intOf i).toNat)
  case atStart => exact ⟨0, _, _, Nat.zero_le _, rfl, rfl, by have h := oe.out; simpa [stateTo] using h, (HX.out).al _, hb0⟩
  case round =>
    obtain ⟨k, B, d, hk, rfl, rfl, ho, hx, hbx⟩ := hrel
    have HXX := Lib.hid hx
    have HO := Lib.hid ho
    have hsz : w.heap.size < wr.heap.size := hbx.out.lt
    have q0 : wr.cell? ⟨w.heap.size, 0, none⟩ = some (.slice A0 n0 c0) := hbx.out.cell 0
    have q1 : wr.cell? ⟨w.heap.size, 1, none⟩ = some (.int .i64 f1) := hbx.out.cell 1
    have q2 : wr.cell? ⟨w.heap.size, 2, none⟩ = some (.slice A1 n1 c1) := hbx.out.cell 2
    clear hx ho
    by_cases hlt : k < 8
    rotate_left
    · go_wp2
      go_ret
      have e : k = 8 := by omega
      subst e
      exact ⟨_, _, _, rfl, by rw [HN.out]; exact own_base HO.out (by omega), HXX.out⟩
    have hk8 : (k : Int) < 8 := by omega
    go_wp2_with fail
    refine (spec_VersRead _ _ _ _ _ _ l0 _ _ _ l1 _ S0 (HS0.out.ext HXX.out) hm0 S1 (HS1.out.ext HXX.out) hm1).mono ?_
    rintro e w2 ⟨rfl, x2⟩
    rw [HR.out k hlt]
    clear q0 q1 q2
    have HO2 := Lib.hid (own_ext HO.out x2)
    have hbx2 := Lib.hid (hbx.out.ext x2)
    have X2 := Lib.hid (HXX.out.tr x2)
    have zz : w.heap.size < w2.heap.size := by have h := x2.size; omega
    clear x2
    go_wp2_with (at_builtin; refine wp_push rfl (.tmp 24) (.tmp 26) _ rfl (w.heap.size + 1) 3 _ _ _ Try.underlying22 Try.infoInt rfl (by omega) B k d _ rfl HO2.out [.int .i64 (versRead l0 f1 l1 (k : Int) n)] _ (by simp) rfl rfl (by simp [Value.oneCell']) (by omega) (by unfold maxLen; omega) (by omega) ?_; intro A' c' w' hown' hchg' hat')
    go_roundw
    case rel => exact ⟨k + 1, A', c', by omega, by go_num, rfl, by rw [stateTo_succ]; simpa [ints] using hown', hchg'.ext X2.out (fun g hg => by have := (HO2.out.lt g hg).1; omega), hbx2.out.chg hchg' (fun hg => by have := (HO2.out.lt _ hg).1; omega)⟩
    case measure => simp [intOf]; omega

set_option maxHeartbeats 4000000 in
theorem impl_VersState (n : Int) (f1 : Int) (A0 : Option Addr) (n0 c0 : Nat) (l0 : List Int) (A1 : Option Addr) (n1 c1 : Nat) (l1 : List Ver) (w : World)
    (S0 : Nat → Prop) (hs0 : Sl w S0 1 A0 n0 (ints l0)) (hm0 : n0 ≤ 1048576) (S1 : Nat → Prop) (hs1 : Sl w S1 3 A1 n1 (l1.flatMap Ver.cells)) (hm1 : n1 ≤ 1048576) :
    Calls Try.prog 28 #[.agg #[.slice A0 n0 c0, .int .i64 f1, .slice A1 n1 c1], .int .i64 n] w fun e w' => ∃ B m d, e = .returned (.slice B m d) ∧ w'.ownsRow w.heap.size 3 1 (.slice B m d) m (ints (versState l0 f1 l1 n)) ∧ Ext w w' := by
  have HX := Lib.hid ((Ext.refl' w).al (.cells #[.slice A0 n0 c0, .int .i64 f1, .slice A1 n1 c1] 25))
  have oe := Lib.hid (own_emptyC (w.alloc (.cells #[.slice A0 n0 c0, .int .i64 f1, .slice A1 n1 c1] 25)))
  have hb0 : Hid (Bx ((w.alloc (.cells #[.slice A0 n0 c0, .int .i64 f1, .slice A1 n1 c1] 25)).alloc (.cells #[] 3)) w.heap.size 25 #[.slice A0 n0 c0, .int .i64 f1, .slice A1 n1 c1]) := (Bx.new' _ _ _ rfl).al _
  have HS0 := Lib.hid hs0
  have HS1 := Lib.hid hs1
  clear hs0 hs1
  by_cases hok : versOk l0 f1 l1 = true ∧ f1 ≤ n
  rotate_left
  · have HN : Hid (versState l0 f1 l1 n = []) := by unfold versState; rw [dec_no hok]; rfl
    have HR : Hid (∀ c : Int, readOk l0 f1 l1 c n = false) := fun c => dec_no fun h => hok ⟨h.1, h.2.2⟩
    clear hok
    go_enter Try.func28, Try.ntmps28
    go_wp2
    go_loopw [5, 10] (fun u i wr => i = .int .i64 (0 : Int) ∧ Ext w wr ∧ Hid (Bx wr w.heap.size 25 #[.slice A0 n0 c0, .int .i64 f1, .slice A1 n1 c1])) (fun _ i _ => (intOf i).toNat)
    case atStart => exact ⟨rfl, (HX.out).al _, hb0⟩
    case round =>
      obtain ⟨rfl, hx, hbx⟩ := hrel
      have HXX := Lib.hid hx
      have hsz : w.heap.size < wr.heap.size := hbx.out.lt
      have q0 : wr.cell? ⟨w.heap.size, 0, none⟩ = some (.slice A0 n0 c0) := hbx.out.cell 0
      have q1 : wr.cell? ⟨w.heap.size, 1, none⟩ = some (.int .i64 f1) := hbx.out.cell 1
      have q2 : wr.cell? ⟨w.heap.size, 2, none⟩ = some (.slice A1 n1 c1) := hbx.out.cell 2
      clear hx
      go_wp2_with fail
      refine (impl_VersRead _ _ _ _ _ _ l0 _ _ _ l1 _ S0 (HS0.out.ext HXX.out) hm0 S1 (HS1.out.ext HXX.out) hm1).mono ?_
      rintro e w2 ⟨rfl, x2⟩
      rw [HR.out]
      clear q0 q1 q2
      have zz : wr.heap.size ≤ w2.heap.size := x2.size
      have X2 := Lib.hid (HXX.out.tr x2)
      have zw : w.heap.size ≤ w2.heap.size := X2.out.size
      clear x2
      go_wp2
      go_ret
      exact ⟨_, _, _, rfl, by rw [HN.out]; exact World.ownsRow_nil _ _ _ _, X2.out⟩
  have HN : Hid (versState l0 f1 l1 n = stateTo l0 f1 l1 n 8) := by unfold versState; rw [dec_yes hok]; rfl
  have HR : Hid (∀ c : Nat, c < 8 → readOk l0 f1 l1 (c : Int) n = true) := fun c hc => dec_yes ⟨hok.1, by omega, hok.2⟩
  clear hok
  go_enter Try.func28, Try.ntmps28
  go_wp2
  go_loopw [5, 10] (fun u i wr => ∃ (k : Nat) (B : Option Addr) (d : Nat), k ≤ 8 ∧ i = .int .i64 k ∧ u = .slice B k d ∧ wr.ownsRow (w.heap.size + 1) 3 1 (.slice B k d) k (ints (stateTo l0 f1 l1 n k)) ∧ Ext w wr ∧ Hid (Bx wr w.heap.size 25 #[.slice A0 n0 c0, .int .i64 f1, .slice A1 n1 c1])) (fun _ i _ => 8 - (intOf i).toNat)
  case atStart => exact ⟨0, _, _, Nat.zero_le _, rfl, rfl, by have h := oe.out; simpa [stateTo] using h, (HX.out).al _, hb0⟩
  case round =>
    obtain ⟨k, B, d, hk, rfl, rfl, ho, hx, hbx⟩ := hrel
    have HXX := Lib.hid hx
    have HO := Lib.hid ho
    have hsz : w.heap.size < wr.heap.size := hbx.out.lt
    have q0 : wr.cell? ⟨w.heap.size, 0, none⟩ = some (.slice A0 n0 c0) := hbx.out.cell 0
    have q1 : wr.cell? ⟨w.heap.size, 1, none⟩ = some (.int .i64 f1) := hbx.out.cell 1
    have q2 : wr.cell? ⟨w.heap.size, 2, none⟩ = some (.slice A1 n1 c1) := hbx.out.cell 2
    clear hx ho
    by_cases hlt : k < 8
    rotate_left
    · go_wp2
      go_ret
      have e : k = 8 := by omega
      subst e
      exact ⟨_, _, _, rfl, by rw [HN.out]; exact own_base HO.out (by omega), HXX.out⟩
    have hk8 : (k : Int) < 8 := by omega
    go_wp2_with fail
    refine (impl_VersRead _ _ _ _ _ _ l0 _ _ _ l1 _ S0 (HS0.out.ext HXX.out) hm0 S1 (HS1.out.ext HXX.out) hm1).mono ?_
    rintro e w2 ⟨rfl, x2⟩
    rw [HR.out k hlt]
    clear q0 q1 q2
    have HO2 := Lib.hid (own_ext HO.out x2)
    have hbx2 := Lib.hid (hbx.out.ext x2)
    have X2 := Lib.hid (HXX.out.tr x2)
    have zz : w.heap.size < w2.heap.size := by have h := x2.size; omega
    clear x2
    go_wp2_with (at_builtin; refine wp_push rfl (.tmp 22) (.tmp 24) _ rfl (w.heap.size + 1) 3 _ _ _ Try.underlying22 Try.infoInt rfl (by omega) B k d _ rfl HO2.out [.int .i64 (versRead l0 f1 l1 (k : Int) n)] _ (by simp) rfl rfl (by simp [Value.oneCell']) (by omega) (by unfold maxLen; omega) (by omega) ?_; intro A' c' w' hown' hchg' hat')
    go_roundw
    case rel => exact ⟨k + 1, A', c', by omega, by go_num, rfl, by rw [stateTo_succ]; simpa [ints] using hown', hchg'.ext X2.out (fun g hg => by have := (HO2.out.lt g hg).1; omega), hbx2.out.chg hchg' (fun hg => by have := (HO2.out.lt _ hg).1; omega)⟩
    case measure => simp [intOf]; omega

set_option maxHeartbeats 8000000 in
theorem law_VersState (f0_1 : Int) (A0_0 : Option Addr) (n0_0 c0_0 : Nat) (l0_0 : List Int) (A0_1 : Option Addr) (n0_1 c0_1 : Nat) (l0_1 : List Ver) (y1 : Int) (w : World) (hs0_0 : Sl w (fun _ => True) 1 A0_0 n0_0 (ints l0_0)) (hm0_0 : n0_0 ≤ 9223372036854775807) (hs0_1 : Sl w (fun _ => True) 3 A0_1 n0_1 (l0_1.flatMap Ver.cells)) (hm0_1 : n0_1 ≤ 9223372036854775807) :
    Calls Try.prog 7 #[.agg #[.slice A0_0 n0_0 c0_0, .int .i64 f0_1, .slice A0_1 n0_1 c0_1], .int .i64 y1] w fun e w' => e = .returned (.bool true) ∧ Ext w w' := by
  have hsO0_0 := hs0_0
  have hsO0_1 := hs0_1
  by_cases hz0 : (n0_0 : Int) + (n0_1 : Int) ≤ (1048576 : Int)
  rotate_left
  · go_enter Try.func7, Try.ntmps7
    go_wp2_with fail
    refine (szVersions_no _ _ _ _ _ _ _ ((1048576 : Int)) _ hm0_0 hm0_1 (by omega) (by omega) (by omega)).mono ?_
    rintro e w1 ⟨rfl, xw1⟩
    have ba0 : Hid (Bx w1 (w.heap.size) 36 #[.slice A0_0 n0_0 c0_0, .int .i64 f0_1, .slice A0_1 n0_1 c0_1]) := Bx.ext (Bx.new' _ _ _ rfl) xw1
    have zw1 : w.heap.size + 1 ≤ w1.heap.size := by have h := xw1.size; (try simp at h); omega
    replace xw1 := Ext.tr ((Ext.refl' w).al _) xw1
    have xx := xw1
    replace hs0_0 := hsO0_0.ext xx
    replace hs0_1 := hsO0_1.ext xx
    clear xw1
    go_wp2
    go_ret
    exact ⟨rfl, xx⟩
  have hN0_0 : n0_0 ≤ 1048576 := by omega
  have hN0_1 : n0_1 ≤ 1048576 := by omega
  go_enter Try.func7, Try.ntmps7
  go_wp2_with fail
  refine (szVersions_yes _ _ _ _ _ _ _ ((1048576 : Int)) _ hm0_0 hm0_1 (by omega) (by omega) (by omega)).mono ?_
  rintro e w1 ⟨rfl, xw1⟩
  have ba0 : Hid (Bx w1 (w.heap.size) 36 #[.slice A0_0 n0_0 c0_0, .int .i64 f0_1, .slice A0_1 n0_1 c0_1]) := Bx.ext (Bx.new' _ _ _ rfl) xw1
  have zw1 : w.heap.size + 1 ≤ w1.heap.size := by have h := xw1.size; (try simp at h); omega
  replace xw1 := Ext.tr ((Ext.refl' w).al _) xw1
  have xx := xw1
  replace hs0_0 := hsO0_0.ext xx
  replace hs0_1 := hsO0_1.ext xx
  clear xw1
  have ea0_0 : w1.cell? ⟨w.heap.size, 0, none⟩ = some (.slice A0_0 n0_0 c0_0) := ba0.out.cell 0
  have ea0_1 : w1.cell? ⟨w.heap.size, 1, none⟩ = some (.int .i64 f0_1) := ba0.out.cell 1
  have ea0_2 : w1.cell? ⟨w.heap.size, 2, none⟩ = some (.slice A0_1 n0_1 c0_1) := ba0.out.cell 2
  go_wp2_with fail
  refine (toVersions_any _ _ _ _ _ _ _ _ _ _ _ hs0_0 hN0_0 _ hs0_1 hN0_1).mono ?_
  rintro e w2 ⟨B2_0, d2_0, B2_1, d2_1, rfl, o2_0, o2_1, ap2, x2⟩
  clear ea0_0 ea0_1 ea0_2
  replace ba0 := Lib.hid (ba0.out.ext (Ext.tr (Ext.refl' w1) x2))
  have zw2 : w1.heap.size + 0 ≤ w2.heap.size := by have h := x2.size; (try simp at h); omega
  replace xx := xx.tr x2
  replace hs0_0 := hsO0_0.ext xx
  replace hs0_1 := hsO0_1.ext xx
  clear x2
  have r2_0 : Hid (∀ g, (Value.slice B2_0 n0_0 d2_0).ownBlock = some g → w1.heap.size + 0 ≤ g ∧ g < w2.heap.size) := fun g hg => by have h := o2_0.lt g hg; (try simp only [World.heap_alloc_size] at h); omega
  have r2_1 : Hid (∀ g, (Value.slice B2_1 n0_1 d2_1).ownBlock = some g → w1.heap.size + 0 ≤ g ∧ g < w2.heap.size) := fun g hg => by have h := o2_1.lt g hg; (try simp only [World.heap_alloc_size] at h); omega
  go_wp2_with fail
  refine (spec_VersState _ _ _ _ _ _ _ _ _ _ _ _ (ownSl o2_0) hN0_0 _ (ownSl o2_1) hN0_1).mono ?_
  rintro e w3 ⟨B3_0_0, m3_0_0, d3_0_0, rfl, o3_0_0, x3⟩
  replace ba0 := Lib.hid (ba0.out.ext (Ext.tr (Ext.refl' w2) x3))
  have zw3 : w2.heap.size + 0 ≤ w3.heap.size := by have h := x3.size; (try simp at h); omega
  replace o2_0 := own_ext o2_0 x3
  replace o2_1 := own_ext o2_1 x3
  replace xx := xx.tr x3
  replace hs0_0 := hsO0_0.ext xx
  replace hs0_1 := hsO0_1.ext xx
  clear x3
  have r3_0_0 : Hid (∀ g, (Value.slice B3_0_0 m3_0_0 d3_0_0).ownBlock = some g → w2.heap.size + 0 ≤ g ∧ g < w3.heap.size) := fun g hg => by have h := o3_0_0.lt g hg; (try simp only [World.heap_alloc_size] at h); omega
  clear o2_0 o2_1
  have bd0_0 : m3_0_0 ≤ 1048576 := by have h1 := own_len o3_0_0; have h2 := versState_le l0_0 f0_1 l0_1 y1; rw [ints_length] at h1; omega
  have ea0_0 : w3.cell? ⟨w.heap.size, 0, none⟩ = some (.slice A0_0 n0_0 c0_0) := ba0.out.cell 0
  have ea0_1 : w3.cell? ⟨w.heap.size, 1, none⟩ = some (.int .i64 f0_1) := ba0.out.cell 1
  have ea0_2 : w3.cell? ⟨w.heap.size, 2, none⟩ = some (.slice A0_1 n0_1 c0_1) := ba0.out.cell 2
  go_wp2_with fail
  refine (toVersions_any _ _ _ _ _ _ _ _ _ _ _ hs0_0 hN0_0 _ hs0_1 hN0_1).mono ?_
  rintro e w4 ⟨B4_0, d4_0, B4_1, d4_1, rfl, o4_0, o4_1, ap4, x4⟩
  clear ea0_0 ea0_1 ea0_2
  replace ba0 := Lib.hid (ba0.out.ext (Ext.tr (Ext.refl' w3) x4))
  have zw4 : w3.heap.size + 0 ≤ w4.heap.size := by have h := x4.size; (try simp at h); omega
  replace o3_0_0 := own_ext o3_0_0 x4
  replace xx := xx.tr x4
  replace hs0_0 := hsO0_0.ext xx
  replace hs0_1 := hsO0_1.ext xx
  clear x4
  have r4_0 : Hid (∀ g, (Value.slice B4_0 n0_0 d4_0).ownBlock = some g → w3.heap.size + 0 ≤ g ∧ g < w4.heap.size) := fun g hg => by have h := o4_0.lt g hg; (try simp only [World.heap_alloc_size] at h); omega
  have r4_1 : Hid (∀ g, (Value.slice B4_1 n0_1 d4_1).ownBlock = some g → w3.heap.size + 0 ≤ g ∧ g < w4.heap.size) := fun g hg => by have h := o4_1.lt g hg; (try simp only [World.heap_alloc_size] at h); omega
  go_wp2_with fail
  refine (impl_VersState _ _ _ _ _ _ _ _ _ _ _ _ (ownSl (own_ext o4_0 ((Ext.refl' w4).al _))) hN0_0 _ (ownSl (own_ext o4_1 ((Ext.refl' w4).al _))) hN0_1).mono ?_
  rintro e w5 ⟨B5_0_0, m5_0_0, d5_0_0, rfl, o5_0_0, x5⟩
  replace ba0 := Lib.hid (ba0.out.ext (Ext.tr ((Ext.refl' w4).al _) x5))
  have bx0 : Hid (Bx w5 (w4.heap.size) 25 #[.slice B4_0 n0_0 d4_0, .int .i64 f0_1, .slice B4_1 n0_1 d4_1]) := Bx.ext (Bx.new' _ _ _ rfl) x5
  have zw5 : w4.heap.size + 1 ≤ w5.heap.size := by have h := x5.size; (try simp at h); omega
  replace x5 := Ext.tr ((Ext.refl' w4).al _) x5
  replace o3_0_0 := own_ext o3_0_0 x5
  replace o4_0 := own_ext o4_0 x5
  replace o4_1 := own_ext o4_1 x5
  replace xx := xx.tr x5
  replace hs0_0 := hsO0_0.ext xx
  replace hs0_1 := hsO0_1.ext xx
  clear x5
  have r5_0_0 : Hid (∀ g, (Value.slice B5_0_0 m5_0_0 d5_0_0).ownBlock = some g → w4.heap.size + 1 ≤ g ∧ g < w5.heap.size) := fun g hg => by have h := o5_0_0.lt g hg; (try simp only [World.heap_alloc_size] at h); omega
  obtain rfl : m3_0_0 = m5_0_0 := by have h1 := o3_0_0.1; have h2 := o5_0_0.1; omega
  go_wp2_with fail
  refine (eqIntS_same _ _ _ _ _ _ _ _ _ (ownSl o5_0_0) (ownSl o3_0_0) (by omega)).mono ?_
  rintro e w6 ⟨rfl, x6⟩
  replace ba0 := Lib.hid (ba0.out.ext (Ext.tr (Ext.refl' w5) x6))
  replace bx0 := Lib.hid (bx0.out.ext (Ext.tr (Ext.refl' w5) x6))
  have zw6 : w5.heap.size + 0 ≤ w6.heap.size := by have h := x6.size; (try simp at h); omega
  replace o3_0_0 := own_ext o3_0_0 x6
  replace o4_0 := own_ext o4_0 x6
  replace o4_1 := own_ext o4_1 x6
  replace o5_0_0 := own_ext o5_0_0 x6
  replace xx := xx.tr x6
  replace hs0_0 := hsO0_0.ext xx
  replace hs0_1 := hsO0_1.ext xx
  clear x6
  have ex0_0 : w6.cell? ⟨w4.heap.size, 0, none⟩ = some (.slice B4_0 n0_0 d4_0) := bx0.out.cell 0
  have ex0_1 : w6.cell? ⟨w4.heap.size, 1, none⟩ = some (.int .i64 f0_1) := bx0.out.cell 1
  have ex0_2 : w6.cell? ⟨w4.heap.size, 2, none⟩ = some (.slice B4_1 n0_1 d4_1) := bx0.out.cell 2
  have ea0_0 : w6.cell? ⟨w.heap.size, 0, none⟩ = some (.slice A0_0 n0_0 c0_0) := ba0.out.cell 0
  have ea0_1 : w6.cell? ⟨w.heap.size, 1, none⟩ = some (.int .i64 f0_1) := ba0.out.cell 1
  have ea0_2 : w6.cell? ⟨w.heap.size, 2, none⟩ = some (.slice A0_1 n0_1 c0_1) := ba0.out.cell 2
  go_wp2_with fail
  go_region_with (first | (go_at_call 21; refine (toVersions_any _ _ _ _ _ _ _ _ _ _ _ (hs0_0.ext ((Ext.refl' w6).dr)) hN0_0 _ (hs0_1.ext ((Ext.refl' w6).dr)) hN0_1).mono ?_; rintro e w7 ⟨B7_0, d7_0, B7_1, d7_1, rfl, o7_0, o7_1, ap7, x7⟩; have bq : Hid (Bx w7 (w4.heap.size) 25 #[.slice B4_0 n0_0 d4_0, .int .i64 f0_1, .slice B4_1 n0_1 d4_1]) := Bx.ext ((bx0.out.ext ((Ext.refl' w6).dr))) x7; have eq_0 : w7.cell? ⟨w4.heap.size, 0, none⟩ = some (.slice B4_0 n0_0 d4_0) := bq.out.cell 0; have eq_1 : w7.cell? ⟨w4.heap.size, 1, none⟩ = some (.int .i64 f0_1) := bq.out.cell 1; have eq_2 : w7.cell? ⟨w4.heap.size, 2, none⟩ = some (.slice B4_1 n0_1 d4_1) := bq.out.cell 2) | (go_at_call 14; refine (eqVersions_same _ _ _ _ _ _ _ _ _ _ _ _ _ _ _ (ownSl (own_ext o4_0 (Ext.tr ((Ext.refl' w6).dr) x7))) (by omega) _ (ownSl (own_ext o4_1 (Ext.tr ((Ext.refl' w6).dr) x7))) (by omega) _ (ownSl o7_0) _ (ownSl o7_1)).mono ?_; rintro e w8 ⟨rfl, x8⟩))
  all_goals
    clear bq eq_0 eq_1 eq_2
    replace x8 := Ext.tr x7 x8
    clear o7_0 o7_1 ap7
    clear ex0_0 ex0_1 ex0_2 ea0_0 ea0_1 ea0_2
    replace ba0 := Lib.hid (ba0.out.ext (Ext.tr ((Ext.refl' w6).dr) x8))
    replace bx0 := Lib.hid (bx0.out.ext (Ext.tr ((Ext.refl' w6).dr) x8))
    have zw8 : w6.heap.size + 0 ≤ w8.heap.size := by have h := x8.size; (try simp at h); omega
    replace x8 := Ext.tr ((Ext.refl' w6).dr) x8
    replace o3_0_0 := own_ext o3_0_0 x8
    replace o4_0 := own_ext o4_0 x8
    replace o4_1 := own_ext o4_1 x8
    replace o5_0_0 := own_ext o5_0_0 x8
    replace xx := xx.tr x8
    replace hs0_0 := hsO0_0.ext xx
    replace hs0_1 := hsO0_1.ext xx
    clear x8
    have ex0_0 : w8.cell? ⟨w4.heap.size, 0, none⟩ = some (.slice B4_0 n0_0 d4_0) := bx0.out.cell 0
    have ex0_1 : w8.cell? ⟨w4.heap.size, 1, none⟩ = some (.int .i64 f0_1) := bx0.out.cell 1
    have ex0_2 : w8.cell? ⟨w4.heap.size, 2, none⟩ = some (.slice B4_1 n0_1 d4_1) := bx0.out.cell 2
    go_wp2_with fail
    refine (markVersions_any _ _ _ _ _ _ _ _ _ _ (1) _ (own_base o4_0 (Nat.zero_le _)) (own_base o4_1 (Nat.zero_le _)) ap4 (by omega) (by omega)).mono ?_
    rintro e w9 ⟨rfl, o9_0, o9_1, cc⟩
    clear ex0_0 ex0_1 ex0_2
    have n_b : Hid (Bx w9 (w.heap.size) 36 #[.slice A0_0 n0_0 c0_0, .int .i64 f0_1, .slice A0_1 n0_1 c0_1]) := Bx.chg (ba0.out) cc (fun qq => by (rcases qq with qq | qq <;> first | (have h2 := r4_0.out _ qq; skip; omega) | (have h2 := r4_1.out _ qq; skip; omega)))
    clear ba0
    have ba0 := n_b
    clear n_b
    have n_b : Hid (Bx w9 (w4.heap.size) 25 #[.slice B4_0 n0_0 d4_0, .int .i64 f0_1, .slice B4_1 n0_1 d4_1]) := Bx.chg (bx0.out) cc (fun qq => by (rcases qq with qq | qq <;> first | (have h2 := r4_0.out _ qq; skip; omega) | (have h2 := r4_1.out _ qq; skip; omega)))
    clear bx0
    have bx0 := n_b
    clear n_b
    have zw9 : w8.heap.size + 0 ≤ w9.heap.size := by have h := cc.size; (try simp at h); omega
    replace o3_0_0 := own_chg o3_0_0 cc (fun g hg qq => by (rcases qq with qq | qq <;> first | (have h2 := r4_0.out _ qq; have h1 := r3_0_0.out g hg; omega) | (have h2 := r4_1.out _ qq; have h1 := r3_0_0.out g hg; omega)))
    replace o5_0_0 := own_chg o5_0_0 cc (fun g hg qq => by (rcases qq with qq | qq <;> first | (have h2 := r4_0.out _ qq; have h1 := r5_0_0.out g hg; omega) | (have h2 := r4_1.out _ qq; have h1 := r5_0_0.out g hg; omega)))
    replace xx := cc.ext xx (fun g qq => by (rcases qq with qq | qq <;> first | (have h2 := r4_0.out _ qq; skip; omega) | (have h2 := r4_1.out _ qq; skip; omega)))
    replace hs0_0 := hsO0_0.ext xx
    replace hs0_1 := hsO0_1.ext xx
    clear cc
    clear o4_0
    have r9_0 := r4_0
    clear o4_1
    have r9_1 := r4_1
    clear o9_0 o9_1
    have hq1 : (0 : Int) ≤ 1 + (n0_0 : Int) + (n0_1 : Int) * 3 := by omega
    go_wp2_with fail
    refine (eqIntS_same _ _ _ _ _ _ _ _ _ (ownSl o5_0_0) (ownSl o3_0_0) (by omega)).mono ?_
    rintro e w10 ⟨rfl, x10⟩
    replace ba0 := Lib.hid (ba0.out.ext (Ext.tr (Ext.refl' w9) x10))
    replace bx0 := Lib.hid (bx0.out.ext (Ext.tr (Ext.refl' w9) x10))
    have zw10 : w9.heap.size + 0 ≤ w10.heap.size := by have h := x10.size; (try simp at h); omega
    replace o3_0_0 := own_ext o3_0_0 x10
    replace o5_0_0 := own_ext o5_0_0 x10
    replace xx := xx.tr x10
    replace hs0_0 := hsO0_0.ext xx
    replace hs0_1 := hsO0_1.ext xx
    clear x10
    go_wp2_with fail
    refine (markIntS_any _ _ _ _ _ (1) _ o5_0_0 (by omega) (by omega)).mono ?_
    rintro e w11 ⟨rfl, o11_0, cc⟩
    have n_b : Hid (Bx w11 (w.heap.size) 36 #[.slice A0_0 n0_0 c0_0, .int .i64 f0_1, .slice A0_1 n0_1 c0_1]) := Bx.chg (ba0.out) cc (fun qq => by have h2 := r5_0_0.out _ qq; skip; omega)
    clear ba0
    have ba0 := n_b
    clear n_b
    have n_b : Hid (Bx w11 (w4.heap.size) 25 #[.slice B4_0 n0_0 d4_0, .int .i64 f0_1, .slice B4_1 n0_1 d4_1]) := Bx.chg (bx0.out) cc (fun qq => by have h2 := r5_0_0.out _ qq; skip; omega)
    clear bx0
    have bx0 := n_b
    clear n_b
    have zw11 : w10.heap.size + 0 ≤ w11.heap.size := by have h := cc.size; (try simp at h); omega
    replace o3_0_0 := own_chg o3_0_0 cc (fun g hg qq => by have h2 := r5_0_0.out _ qq; have h1 := r3_0_0.out g hg; omega)
    replace xx := cc.ext xx (fun g qq => by have h2 := r5_0_0.out _ qq; skip; omega)
    replace hs0_0 := hsO0_0.ext xx
    replace hs0_1 := hsO0_1.ext xx
    clear cc
    clear o5_0_0
    have r11_0 := r5_0_0
    have hq2_0 : (0 : Int) ≤ 1 + (m3_0_0 : Int) := by omega
    have hq3 : ((1 + (m3_0_0 : Int)) != (1 + (m3_0_0 : Int))) = false := by simp
    go_wp2_with fail
    refine (heldIntS_any _ _ _ (1) _ _ (ownSl o11_0) (by omega) (by omega)).mono ?_
    rintro e w12 ⟨rfl, hx12⟩
    have x12 := Ext.of_eq hx12
    clear hx12
    replace ba0 := Lib.hid (ba0.out.ext (Ext.tr (Ext.refl' w11) x12))
    replace bx0 := Lib.hid (bx0.out.ext (Ext.tr (Ext.refl' w11) x12))
    have zw12 : w11.heap.size + 0 ≤ w12.heap.size := by have h := x12.size; (try simp at h); omega
    replace o3_0_0 := own_ext o3_0_0 x12
    replace o11_0 := own_ext o11_0 x12
    replace xx := xx.tr x12
    replace hs0_0 := hsO0_0.ext xx
    replace hs0_1 := hsO0_1.ext xx
    clear x12
    have ea0_0 : w12.cell? ⟨w.heap.size, 0, none⟩ = some (.slice A0_0 n0_0 c0_0) := ba0.out.cell 0
    have ea0_1 : w12.cell? ⟨w.heap.size, 1, none⟩ = some (.int .i64 f0_1) := ba0.out.cell 1
    have ea0_2 : w12.cell? ⟨w.heap.size, 2, none⟩ = some (.slice A0_1 n0_1 c0_1) := ba0.out.cell 2
    go_wp2_with fail
    refine (toVersions_any _ _ _ _ _ _ _ _ _ _ _ hs0_0 hN0_0 _ hs0_1 hN0_1).mono ?_
    rintro e w13 ⟨B13_0, d13_0, B13_1, d13_1, rfl, o13_0, o13_1, ap13, x13⟩
    clear ea0_0 ea0_1 ea0_2
    replace ba0 := Lib.hid (ba0.out.ext (Ext.tr (Ext.refl' w12) x13))
    replace bx0 := Lib.hid (bx0.out.ext (Ext.tr (Ext.refl' w12) x13))
    have zw13 : w12.heap.size + 0 ≤ w13.heap.size := by have h := x13.size; (try simp at h); omega
    replace o3_0_0 := own_ext o3_0_0 x13
    replace o11_0 := own_ext o11_0 x13
    replace xx := xx.tr x13
    replace hs0_0 := hsO0_0.ext xx
    replace hs0_1 := hsO0_1.ext xx
    clear x13
    have r13_0 : Hid (∀ g, (Value.slice B13_0 n0_0 d13_0).ownBlock = some g → w12.heap.size + 0 ≤ g ∧ g < w13.heap.size) := fun g hg => by have h := o13_0.lt g hg; (try simp only [World.heap_alloc_size] at h); omega
    have r13_1 : Hid (∀ g, (Value.slice B13_1 n0_1 d13_1).ownBlock = some g → w12.heap.size + 0 ≤ g ∧ g < w13.heap.size) := fun g hg => by have h := o13_1.lt g hg; (try simp only [World.heap_alloc_size] at h); omega
    go_wp2_with fail
    refine (impl_VersState _ _ _ _ _ _ _ _ _ _ _ _ (ownSl o13_0) hN0_0 _ (ownSl o13_1) hN0_1).mono ?_
    rintro e w14 ⟨B14_0_0, m14_0_0, d14_0_0, rfl, o14_0_0, x14⟩
    replace ba0 := Lib.hid (ba0.out.ext (Ext.tr (Ext.refl' w13) x14))
    replace bx0 := Lib.hid (bx0.out.ext (Ext.tr (Ext.refl' w13) x14))
    have zw14 : w13.heap.size + 0 ≤ w14.heap.size := by have h := x14.size; (try simp at h); omega
    replace o3_0_0 := own_ext o3_0_0 x14
    replace o11_0 := own_ext o11_0 x14
    replace o13_0 := own_ext o13_0 x14
    replace o13_1 := own_ext o13_1 x14
    replace xx := xx.tr x14
    replace hs0_0 := hsO0_0.ext xx
    replace hs0_1 := hsO0_1.ext xx
    clear x14
    have r14_0_0 : Hid (∀ g, (Value.slice B14_0_0 m14_0_0 d14_0_0).ownBlock = some g → w13.heap.size + 0 ≤ g ∧ g < w14.heap.size) := fun g hg => by have h := o14_0_0.lt g hg; (try simp only [World.heap_alloc_size] at h); omega
    clear o13_0 o13_1
    obtain rfl : m3_0_0 = m14_0_0 := by have h1 := o3_0_0.1; have h2 := o14_0_0.1; omega
    go_wp2_with fail
    refine (eqIntS_same _ _ _ _ _ _ _ _ _ (ownSl o14_0_0) (ownSl o3_0_0) (by omega)).mono ?_
    rintro e w15 ⟨rfl, x15⟩
    replace ba0 := Lib.hid (ba0.out.ext (Ext.tr (Ext.refl' w14) x15))
    replace bx0 := Lib.hid (bx0.out.ext (Ext.tr (Ext.refl' w14) x15))
    have zw15 : w14.heap.size + 0 ≤ w15.heap.size := by have h := x15.size; (try simp at h); omega
    replace o3_0_0 := own_ext o3_0_0 x15
    replace o11_0 := own_ext o11_0 x15
    replace o14_0_0 := own_ext o14_0_0 x15
    replace xx := xx.tr x15
    replace hs0_0 := hsO0_0.ext xx
    replace hs0_1 := hsO0_1.ext xx
    clear x15
    go_wp2_with fail
    refine (heldIntS_any _ _ _ (1) _ _ (ownSl o11_0) (by omega) (by omega)).mono ?_
    rintro e w16 ⟨rfl, hx16⟩
    have x16 := Ext.of_eq hx16
    clear hx16
    replace ba0 := Lib.hid (ba0.out.ext (Ext.tr (Ext.refl' w15) x16))
    replace bx0 := Lib.hid (bx0.out.ext (Ext.tr (Ext.refl' w15) x16))
    have zw16 : w15.heap.size + 0 ≤ w16.heap.size := by have h := x16.size; (try simp at h); omega
    replace o3_0_0 := own_ext o3_0_0 x16
    replace o11_0 := own_ext o11_0 x16
    replace o14_0_0 := own_ext o14_0_0 x16
    replace xx := xx.tr x16
    replace hs0_0 := hsO0_0.ext xx
    replace hs0_1 := hsO0_1.ext xx
    clear x16
    go_wp2
    go_ret
    exact ⟨rfl, xx⟩
end Go.Proofs.Ytnhkjgnfjphllaa
