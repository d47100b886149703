/- KidsOf of program and reference; the contract of laws.FnExactKidsOf. No condition. -/
import Derived.Test.YtfkbomcbcjjlbaaTasks
namespace Go.Proofs.Ytfkbomcbcjjlbaa
open Go.RowKit

/-- The children of t among the first k. -/
def kidsTo (zs : List Int) (t : Int) (k : Nat) : List Int := ((List.range k).filter fun i => decide (zs[i]? = some t)).map fun i : Nat => (i : Int)
theorem kids_hit {zs : List Int} {t : Int} {k : Nat} (h : zs[k]? = some t) : kidsTo zs t (k + 1) = kidsTo zs t k ++ [(k : Int)] := by
  simp [kidsTo, List.range_succ, List.filter_append, h]
theorem kids_miss {zs : List Int} {t x : Int} {k : Nat} (h : zs[k]? = some x) (hne : x ≠ t) : kidsTo zs t (k + 1) = kidsTo zs t k := by
  simp [kidsTo, List.range_succ, List.filter_append, h, hne]
theorem kids_len (zs : List Int) (t : Int) (k : Nat) : (kidsTo zs t k).length ≤ k := by
  have := List.length_filter_le (fun i => decide (zs[i]? = some t)) (List.range k)
  simp [kidsTo] at *
  exact this
noncomputable def kids (zs : List Int) (t : Int) : List Int := if tasksOk zs = true ∧ 0 ≤ t then kidsTo zs t zs.length else []

theorem kids_no {zs : List Int} {t : Int} (h : ¬ (tasksOk zs = true ∧ 0 ≤ t)) : kids zs t = [] := if_neg h
theorem kids_yes {zs : List Int} {t : Int} (h1 : tasksOk zs = true) (h2 : 0 ≤ t) : kids zs t = kidsTo zs t zs.length := if_pos ⟨h1, h2⟩

theorem own_empty (w : World) : (w.alloc (.cells #[] 3)).ownsRow w.heap.size 3 1 (.slice (some ⟨w.heap.size, 0, none⟩) 0 0) 0 (ints []) :=
  World.ownsRow_lit w #[] 0 (Nat.le_refl _) (Nat.zero_le _) (by simp)

set_option maxHeartbeats 400000 in
theorem spec_KidsOf (A : Option Addr) (n c : Nat) (zs : List Int) (t : Int) (w : World) (S : Nat → Prop) (hs : Sl w S 1 A n (ints zs)) (hm : n ≤ 1048576) :
    Calls Try.prog 13 #[.slice A n c, .int .i64 t] w fun e w' => ∃ B m d, e = .returned (.slice B m d) ∧ w'.ownsRow w.heap.size 3 1 (.slice B m d) m (ints (kids zs t)) ∧ Ext w w' := by
  have H := Lib.hid hs.len
  have oe := Lib.hid (own_empty w)
  by_cases hok : tasksOk zs = true
  · by_cases ht : t < 0
    · have HN := Lib.hid (kids_no (zs := zs) (t := t) (by omega))
      go_enter Try.func13, Try.ntmps13
      go_wp2_with fail
      refine (spec_TasksOk A n c zs _ S (hs.ext ((Ext.refl' w).al _)) (by omega)).mono ?_
      rintro e w1 ⟨rfl, rfl⟩
      rw [hok]
      go_wp2
      go_ret
      exact ⟨_, _, _, rfl, by rw [HN.out]; exact oe.out, (Ext.refl' w).al _⟩
    · have ht0 : 0 ≤ t := by omega
      go_enter Try.func13, Try.ntmps13
      go_wp2_with fail
      refine (spec_TasksOk A n c zs _ S (hs.ext ((Ext.refl' w).al _)) (by omega)).mono ?_
      rintro e w1 ⟨rfl, rfl⟩
      rw [hok]
      have HOK := Lib.hid hok
      clear hok
      go_wp2
      go_loopw [5, 6] (fun u i wr => ∃ (k m : Nat) (B : Option Addr) (d : Nat), k ≤ n ∧ m ≤ k ∧ i = .int .i64 k ∧ u = .slice B m d ∧ m = (kidsTo zs t k).length ∧ wr.ownsRow w.heap.size 3 1 (.slice B m d) m (ints (kidsTo zs t k)) ∧ Ext w wr) (fun _ i _ => n - (intOf i).toNat)
      case atStart => exact ⟨0, 0, _, _, Nat.zero_le _, Nat.zero_le _, rfl, rfl, rfl, oe.out, (Ext.refl' w).al _⟩
      case round =>
        obtain ⟨k, m, B, d, hk, hmk, rfl, rfl, hml, ho, hx⟩ := hrel
        have HML := Lib.hid hml
        have HX := Lib.hid hx
        clear hml
        by_cases hlt : k < n
        · obtain ⟨b, o, x, rfl, hb, hxk, hc⟩ := (hs.ext hx).int_at hlt
          have HXK := Lib.hid hxk
          clear hxk hx
          by_cases he : x = t
          · have hbe : (x == t) = true := by simp [he]
            have HE := Lib.hid he
            clear he
            have HO := Lib.hid ho
            clear ho
            go_wp2_with (at_builtin; refine wp_push rfl (.tmp 28) (.tmp 30) _ rfl w.heap.size 3 _ _ _ Try.underlying22 Try.infoInt rfl (by omega) B m d _ rfl HO.out [.int .i64 (k : Int)] _ (by simp) rfl rfl (by simp [Value.oneCell']) (by omega) (by unfold maxLen; omega) HX.out.size ?_; intro A' c' w' hown' hchg' hat')
            go_roundw
            case rel =>
              have e1 := kids_hit (by rw [HXK.out, HE.out])
              refine ⟨k + 1, m + 1, A', c', by omega, by omega, by go_num, rfl, by rw [e1, List.length_append, ← HML.out]; rfl, by rw [e1]; simpa [ints] using hown', hchg'.ext HX.out fun g hg => (HO.out.lt g hg).1⟩
            case measure => simp [intOf]; omega
          · have hbe : (x == t) = false := by simp [he]
            have HE := Lib.hid he
            clear he
            have HO := Lib.hid ho
            clear ho
            go_wp2
            go_roundw
            case rel =>
              have e1 := kids_miss HXK.out HE.out
              exact ⟨k + 1, m, B, d, by omega, by omega, by go_num, rfl, by rw [e1]; exact HML.out, by rw [e1]; exact HO.out, HX.out⟩
            case measure => simp [intOf]; omega
        · have HO := Lib.hid ho
          clear ho
          go_wp2
          go_ret
          have e : k = zs.length := by rw [H.out]; omega
          exact ⟨_, _, _, rfl, by rw [kids_yes HOK.out ht0, ← e]; exact HO.out, HX.out⟩
  · have HN := Lib.hid (kids_no (zs := zs) (t := t) (by simp [hok]))
    have hokf : tasksOk zs = false := by simpa using hok
    clear hok
    go_enter Try.func13, Try.ntmps13
    go_wp2_with fail
    refine (spec_TasksOk A n c zs _ S (hs.ext ((Ext.refl' w).al _)) (by omega)).mono ?_
    rintro e w1 ⟨rfl, rfl⟩
    rw [hokf]
    go_wp2
    go_ret
    exact ⟨_, _, _, rfl, by rw [HN.out]; exact oe.out, (Ext.refl' w).al _⟩
set_option maxHeartbeats 400000 in
theorem impl_KidsOf (A : Option Addr) (n c : Nat) (zs : List Int) (t : Int) (w : World) (S : Nat → Prop) (hs : Sl w S 1 A n (ints zs)) (hm : n ≤ 1048576) :
    Calls Try.prog 14 #[.slice A n c, .int .i64 t] w fun e w' => ∃ B m d, e = .returned (.slice B m d) ∧ w'.ownsRow w.heap.size 3 1 (.slice B m d) m (ints (kids zs t)) ∧ Ext w w' := by
  have H := Lib.hid hs.len
  have oe := Lib.hid (own_empty w)
  by_cases ht : t < 0
  · have HN := Lib.hid (kids_no (zs := zs) (t := t) (by omega))
    go_enter Try.func14, Try.ntmps14
    go_wp2
    go_ret
    exact ⟨_, _, _, rfl, by rw [HN.out]; exact World.ownsRow_nil _ _ _ _, Ext.refl' w⟩
  by_cases hok : tasksOk zs = true
  · have ht0 : 0 ≤ t := by omega
    go_enter Try.func14, Try.ntmps14
    go_wp2_with fail
    refine (impl_TasksOk A n c zs _ S hs (by omega)).mono ?_
    rintro e w1 ⟨rfl, rfl⟩
    rw [hok]
    have HOK := Lib.hid hok
    clear hok
    go_wp2
    go_loopw [5, 18] (fun u i wr => ∃ (k m : Nat) (B : Option Addr) (d : Nat), k ≤ n ∧ m ≤ k ∧ i = .int .i64 k ∧ u = .slice B m d ∧ m = (kidsTo zs t k).length ∧ wr.ownsRow w.heap.size 3 1 (.slice B m d) m (ints (kidsTo zs t k)) ∧ Ext w wr) (fun _ i _ => n - (intOf i).toNat)
    case atStart => exact ⟨0, 0, _, _, Nat.zero_le _, Nat.zero_le _, rfl, rfl, rfl, oe.out, (Ext.refl' w).al _⟩
    case round =>
      obtain ⟨k, m, B, d, hk, hmk, rfl, rfl, hml, ho, hx⟩ := hrel
      have HML := Lib.hid hml
      have HX := Lib.hid hx
      clear hml
      by_cases hlt : k < n
      · obtain ⟨b, o, x, rfl, hb, hxk, hc⟩ := (hs.ext hx).int_at hlt
        have HXK := Lib.hid hxk
        clear hxk hx
        by_cases he : x = t
        · have hbe : (x == t) = true := by simp [he]
          have HE := Lib.hid he
          clear he
          have HO := Lib.hid ho
          clear ho
          go_wp2_with (at_builtin; refine wp_push rfl (.tmp 26) (.tmp 28) _ rfl w.heap.size 3 _ _ _ Try.underlying22 Try.infoInt rfl (by omega) B m d _ rfl HO.out [.int .i64 (k : Int)] _ (by simp) rfl rfl (by simp [Value.oneCell']) (by omega) (by unfold maxLen; omega) HX.out.size ?_; intro A' c' w' hown' hchg' hat')
          go_roundw
          case rel =>
            have e1 := kids_hit (by rw [HXK.out, HE.out])
            refine ⟨k + 1, m + 1, A', c', by omega, by omega, by go_num, rfl, by rw [e1, List.length_append, ← HML.out]; rfl, by rw [e1]; simpa [ints] using hown', hchg'.ext HX.out fun g hg => (HO.out.lt g hg).1⟩
          case measure => simp [intOf]; omega
        · have hbe : (x == t) = false := by simp [he]
          have HE := Lib.hid he
          clear he
          have HO := Lib.hid ho
          clear ho
          go_wp2
          go_roundw
          case rel =>
            have e1 := kids_miss HXK.out HE.out
            exact ⟨k + 1, m, B, d, by omega, by omega, by go_num, rfl, by rw [e1]; exact HML.out, by rw [e1]; exact HO.out, HX.out⟩
          case measure => simp [intOf]; omega
      · have HO := Lib.hid ho
        clear ho
        go_wp2
        go_ret
        have e : k = zs.length := by rw [H.out]; omega
        exact ⟨_, _, _, rfl, by rw [kids_yes HOK.out ht0, ← e]; exact HO.out, HX.out⟩
  · have HN := Lib.hid (kids_no (zs := zs) (t := t) (by simp [hok]))
    have hokf : tasksOk zs = false := by simpa using hok
    clear hok
    go_enter Try.func14, Try.ntmps14
    go_wp2_with fail
    refine (impl_TasksOk A n c zs _ S hs (by omega)).mono ?_
    rintro e w1 ⟨rfl, rfl⟩
    rw [hokf]
    go_wp2
    go_ret
    exact ⟨_, _, _, rfl, by rw [HN.out]; exact World.ownsRow_nil _ _ _ _, Ext.refl' w⟩

theorem kids_le (zs : List Int) (t : Int) : (kids zs t).length ≤ zs.length := by
  by_cases hk : tasksOk zs = true ∧ 0 ≤ t
  · rw [kids_yes hk.1 hk.2]; exact kids_len zs t zs.length
  · rw [kids_no hk]; simp

set_option maxHeartbeats 4000000 in
theorem law_KidsOf (A0 : Option Addr) (n0 c0 : Nat) (l0 : List Int) (y1 : Int) (w : World) (hs0 : Sl w (fun _ => True) 1 A0 n0 (ints l0)) (hm0 : n0 ≤ 9007199254740992) :
    Calls Try.prog 4 #[.slice A0 n0 c0, .int .i64 y1] w fun e w' => e = .returned (.bool true) ∧ Ext w w' := by
  by_cases hn0 : n0 ≤ 1048576
  rotate_left
  · go_enter Try.func4, Try.ntmps4
    go_wp2
    go_ret
    exact ⟨rfl, Ext.refl' _⟩
  have hsO0 := hs0
  have hN0 : n0 ≤ 1048576 := by omega
  go_enter Try.func4, Try.ntmps4
  go_wp2_with fail
  refine (toIntS_any _ _ _ _ _ _ hs0 hN0).mono ?_
  rintro e w1 ⟨B1, d1, rfl, o1, x1⟩
  replace hs0 := hs0.ext x1
  have xx := x1
  have z1 : w.heap.size ≤ w1.heap.size := x1.size
  have r1 := Lib.hid o1.lt
  go_wp2_with fail
  refine (spec_KidsOf _ _ _ _ _ _ _ (ownSl o1) hN0).mono ?_
  rintro e w2 ⟨B2_0, m2_0, d2_0, rfl, o2_0, x2⟩
  replace o1 := own_ext o1 x2
  replace hs0 := hs0.ext x2
  replace xx := xx.tr x2
  have z2 : w1.heap.size ≤ w2.heap.size := x2.size
  have r2_0 := Lib.hid o2_0.lt
  have b2_0 : m2_0 ≤ 1048576 := by have h1 := own_len o2_0; have h2 := kids_le l0 y1; have h3 := hsO0.1; rw [ints_length] at h1 h3; omega
  go_wp2_with fail
  refine (toIntS_any _ _ _ _ _ _ hs0 hN0).mono ?_
  rintro e w3 ⟨B3, d3, rfl, o3, x3⟩
  replace o2_0 := own_ext o2_0 x3
  replace hs0 := hs0.ext x3
  replace xx := xx.tr x3
  have z3 : w2.heap.size ≤ w3.heap.size := x3.size
  have r3 := Lib.hid o3.lt
  go_wp2_with fail
  refine (impl_KidsOf _ _ _ _ _ _ _ (ownSl o3) hN0).mono ?_
  rintro e w4 ⟨B4_0, m4_0, d4_0, rfl, o4_0, x4⟩
  replace o2_0 := own_ext o2_0 x4
  replace o3 := own_ext o3 x4
  replace hs0 := hs0.ext x4
  replace xx := xx.tr x4
  have z4 : w3.heap.size ≤ w4.heap.size := x4.size
  have r4_0 := Lib.hid o4_0.lt
  obtain rfl : m2_0 = m4_0 := by rw [← own_len o2_0, ← own_len o4_0]
  go_wp2_with fail
  refine (eqIntS_same _ _ _ _ _ _ _ _ _ (ownSl o4_0) (ownSl o2_0) (by omega)).mono ?_
  rintro e w5 ⟨rfl, x5⟩
  replace o2_0 := own_ext o2_0 x5
  replace o3 := own_ext o3 x5
  replace o4_0 := own_ext o4_0 x5
  replace hs0 := hs0.ext x5
  replace xx := xx.tr x5
  have z5 : w4.heap.size ≤ w5.heap.size := x5.size
  go_wp2_with fail
  refine (toIntS_any _ _ _ _ _ _ hs0 hN0).mono ?_
  rintro e w6 ⟨B6, d6, rfl, o6, x6⟩
  replace o2_0 := own_ext o2_0 x6
  replace o3 := own_ext o3 x6
  replace o4_0 := own_ext o4_0 x6
  replace hs0 := hs0.ext x6
  replace xx := xx.tr x6
  have z6 : w5.heap.size ≤ w6.heap.size := x6.size
  have r6 := Lib.hid o6.lt
  go_wp2_with fail
  refine (eqIntS_same _ _ _ _ _ _ _ _ _ (ownSl o3) (ownSl o6) (by omega)).mono ?_
  rintro e w7 ⟨rfl, x7⟩
  replace o2_0 := own_ext o2_0 x7
  replace o3 := own_ext o3 x7
  replace o4_0 := own_ext o4_0 x7
  replace o6 := own_ext o6 x7
  replace hs0 := hs0.ext x7
  replace xx := xx.tr x7
  have z7 : w6.heap.size ≤ w7.heap.size := x7.size
  go_wp2_with fail
  refine (markIntS_any _ _ _ _ _ 1 _ o3 (by omega) (by omega)).mono ?_
  rintro e w8 ⟨rfl, o8, c8⟩
  have z8 : w7.heap.size ≤ w8.heap.size := c8.size
  replace o2_0 := own_chg o2_0 c8 (fun g hg q => by have h1 := r2_0.out g hg; have h2 := r3.out g q; omega)
  replace o4_0 := own_chg o4_0 c8 (fun g hg q => by have h1 := r4_0.out g hg; have h2 := r3.out g q; omega)
  replace xx : Ext w w8 := c8.ext xx (fun g hg => by have h2 := r3.out g hg; omega)
  replace hs0 : Sl w8 (fun _ => True) 1 A0 n0 (ints l0) := hsO0.ext xx
  clear c8
  clear o8
  have hq1 : (0 : Int) ≤ 1 + (n0 : Int) := by omega
  go_wp2_with fail
  refine (eqIntS_same _ _ _ _ _ _ _ _ _ (ownSl o4_0) (ownSl o2_0) (by omega)).mono ?_
  rintro e w9 ⟨rfl, x9⟩
  replace o2_0 := own_ext o2_0 x9
  replace o4_0 := own_ext o4_0 x9
  replace hs0 := hs0.ext x9
  replace xx := xx.tr x9
  have z9 : w8.heap.size ≤ w9.heap.size := x9.size
  go_wp2_with fail
  refine (markIntS_any _ _ _ _ _ 1 _ o4_0 (by omega) (by omega)).mono ?_
  rintro e w10 ⟨rfl, o10, c10⟩
  have z10 : w9.heap.size ≤ w10.heap.size := c10.size
  replace o2_0 := own_chg o2_0 c10 (fun g hg q => by have h1 := r2_0.out g hg; have h2 := r4_0.out g q; omega)
  replace xx : Ext w w10 := c10.ext xx (fun g hg => by have h2 := r4_0.out g hg; omega)
  replace hs0 : Sl w10 (fun _ => True) 1 A0 n0 (ints l0) := hsO0.ext xx
  clear c10
  have r10 := r4_0
  have hq2_0 : (0 : Int) ≤ 1 + (m2_0 : Int) := by omega
  have hq3 : ((1 + (m2_0 : Int)) != (1 + (m2_0 : Int))) = false := by simp
  go_wp2_with fail
  refine (heldIntS_any _ _ _ (1) _ _ (ownSl o10) (by omega) (by omega)).mono ?_
  rintro e w11 ⟨rfl, rfl⟩
  go_wp2_with fail
  refine (toIntS_any _ _ _ _ _ _ hs0 hN0).mono ?_
  rintro e w11 ⟨B11, d11, rfl, o11, x11⟩
  replace o2_0 := own_ext o2_0 x11
  replace o10 := own_ext o10 x11
  replace hs0 := hs0.ext x11
  replace xx := xx.tr x11
  have z11 : w10.heap.size ≤ w11.heap.size := x11.size
  have r11 := Lib.hid o11.lt
  go_wp2_with fail
  refine (impl_KidsOf _ _ _ _ _ _ _ (ownSl o11) hN0).mono ?_
  rintro e w12 ⟨B12_0, m12_0, d12_0, rfl, o12_0, x12⟩
  replace o2_0 := own_ext o2_0 x12
  replace o10 := own_ext o10 x12
  replace o11 := own_ext o11 x12
  replace hs0 := hs0.ext x12
  replace xx := xx.tr x12
  have z12 : w11.heap.size ≤ w12.heap.size := x12.size
  have r12_0 := Lib.hid o12_0.lt
  obtain rfl : m2_0 = m12_0 := by rw [← own_len o2_0, ← own_len o12_0]
  go_wp2_with fail
  refine (eqIntS_same _ _ _ _ _ _ _ _ _ (ownSl o12_0) (ownSl o2_0) (by omega)).mono ?_
  rintro e w13 ⟨rfl, x13⟩
  replace o2_0 := own_ext o2_0 x13
  replace o10 := own_ext o10 x13
  replace o12_0 := own_ext o12_0 x13
  replace hs0 := hs0.ext x13
  replace xx := xx.tr x13
  have z13 : w12.heap.size ≤ w13.heap.size := x13.size
  go_wp2_with fail
  refine (heldIntS_any _ _ _ (1) _ _ (ownSl o10) (by omega) (by omega)).mono ?_
  rintro e w14 ⟨rfl, rfl⟩
  go_wp2
  go_ret
  exact ⟨rfl, xx⟩
end Go.Proofs.Ytfkbomcbcjjlbaa
