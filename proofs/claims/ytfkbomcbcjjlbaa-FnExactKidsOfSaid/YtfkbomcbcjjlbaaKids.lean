/- KidsOf of program and reference; the contract of laws.FnExactKidsOf. No condition. -/
import Derived.Test.YtfkbomcbcjjlbaaTasks
namespace Go.Proofs.Ytfkbomcbcjjlbaa
open Go.RowKit

/-- The children of t among the first k. -/
def kidsTo (zs : List Int) (t : Int) (k : Nat) : List Int := ((List.range k).filter fun i => decide (zs[i]? = some t)).map fun i : Nat => (i : Int)
theorem kids_hit {zs : List Int} {t : Int} {k : Nat} (h : zs[k]? = some t) : kidsTo zs t (k + 1) = kidsTo zs t k ++ [(k : Int)] := by
  simp [kidsTo, List.range_succ, List.filter_append, h]
theorem kids_miss {zs : List Int} {t x : Int} {k : Nat} (h : zs[k]? = some x) (hne : x ≠ t) : kidsTo zs t (k + 1) = kidsTo zs t k := by
  simp [kidsTo, List.range_succ, List.filter_append, h, hne]
theorem kids_len (zs : List Int) (t : Int) (k : Nat) : (kidsTo zs t k).length ≤ k := by
  have := List.length_filter_le (fun i => decide (zs[i]? = some t)) (List.range k)
  simp [kidsTo] at *
  exact this
noncomputable def kids (zs : List Int) (t : Int) : List Int := if tasksOk zs = true ∧ 0 ≤ t then kidsTo zs t zs.length else []

theorem kids_no {zs : List Int} {t : Int} (h : ¬ (tasksOk zs = true ∧ 0 ≤ t)) : kids zs t = [] := if_neg h
theorem kids_yes {zs : List Int} {t : Int} (h1 : tasksOk zs = true) (h2 : 0 ≤ t) : kids zs t = kidsTo zs t zs.length := if_pos ⟨h1, h2⟩

theorem own_empty (w : World) : (w.alloc (.cells #[] 3)).ownsRow w.heap.size 3 1 (.slice (some ⟨w.heap.size, 0, none⟩) 0 0) 0 (ints []) :=
  World.ownsRow_lit w #[] 0 (Nat.le_refl _) (Nat.zero_le _) (by simp)

set_option maxHeartbeats 400000 in
theorem spec_KidsOf (A : Option Addr) (n c : Nat) (zs : List Int) (t : Int) (w : World) (S : Nat → Prop) (hs : Sl w S 1 A n (ints zs)) (hm : n ≤ 1048576) :
    Calls Try.prog 13 #[.slice A n c, .int .i64 t] w fun e w' => ∃ B m d, e = .returned (.slice B m d) ∧ w'.ownsRow w.heap.size 3 1 (.slice B m d) m (ints (kids zs t)) ∧ Ext w w' := by
  have H := Lib.hid hs.len
  have oe := Lib.hid (own_empty w)
  by_cases hok : tasksOk zs = true
  · by_cases ht : t < 0
    · have HN := Lib.hid (kids_no (zs := zs) (t := t) (by omega))
      go_enter Try.func13, Try.ntmps13
      go_wp2_with fail
      refine (spec_TasksOk A n c zs _ S (hs.ext ((Ext.refl' w).al _)) (by omega)).mono ?_
      rintro e w1 ⟨rfl, rfl⟩
      rw [hok]
      go_wp2
      go_ret
      exact ⟨_, _, _, rfl, by rw [HN.out]; exact oe.out, (Ext.refl' w).al _⟩
    · have ht0 : 0 ≤ t := by omega
      go_enter Try.func13, Try.ntmps13
      go_wp2_with fail
      refine (spec_TasksOk A n c zs _ S (hs.ext ((Ext.refl' w).al _)) (by omega)).mono ?_
      rintro e w1 ⟨rfl, rfl⟩
      rw [hok]
      have HOK := Lib.hid hok
      clear hok
      go_wp2
      go_loopw [5, 6] (fun u i wr => ∃ (k m : Nat) (B : Option Addr) (d : Nat), k ≤ n ∧ m ≤ k ∧ i = .int .i64 k ∧ u = .slice B m d ∧ m = (kidsTo zs t k).length ∧ wr.ownsRow w.heap.size 3 1 (.slice B m d) m (ints (kidsTo zs t k)) ∧ Ext w wr) (fun _ i _ => n - (intOf i).toNat)
      case atStart => exact ⟨0, 0, _, _, Nat.zero_le _, Nat.zero_le _, rfl, rfl, rfl, oe.out, (Ext.refl' w).al _⟩
      case round =>
        obtain ⟨k, m, B, d, hk, hmk, rfl, rfl, hml, ho, hx⟩ := hrel
        have HML := Lib.hid hml
        have HX := Lib.hid hx
        clear hml
        by_cases hlt : k < n
        · obtain ⟨b, o, x, rfl, hb, hxk, hc⟩ := (hs.ext hx).int_at hlt
          have HXK := Lib.hid hxk
          clear hxk hx
          by_cases he : x = t
          · have hbe : (x == t) = true := by simp [he]
            have HE := Lib.hid he
            clear he
            have HO := Lib.hid ho
            clear ho
            go_wp2_with (at_builtin; refine wp_push rfl (.tmp 28) (.tmp 30) _ rfl w.heap.size 3 _ _ _ Try.underlying22 Try.infoInt rfl (by omega) B m d _ rfl HO.out [.int .i64 (k : Int)] rfl rfl (by simp [Value.oneCell']) (by omega) (by unfold maxLen; omega) HX.out.size ?_; intro A' c' w' hown' hchg' hat')
            go_roundw
            case rel =>
              have e1 := kids_hit (by rw [HXK.out, HE.out])
              refine ⟨k + 1, m + 1, A', c', by omega, by omega, by go_num, rfl, by rw [e1, List.length_append, ← HML.out]; rfl, by rw [e1]; simpa [ints] using hown', hchg'.ext HX.out fun g hg => (HO.out.lt g hg).1⟩
            case measure => simp [intOf]; omega
          · have hbe : (x == t) = false := by simp [he]
            have HE := Lib.hid he
            clear he
            have HO := Lib.hid ho
            clear ho
            go_wp2
            go_roundw
            case rel =>
              have e1 := kids_miss HXK.out HE.out
              exact ⟨k + 1, m, B, d, by omega, by omega, by go_num, rfl, by rw [e1]; exact HML.out, by rw [e1]; exact HO.out, HX.out⟩
            case measure => simp [intOf]; omega
        · have HO := Lib.hid ho
          clear ho
          go_wp2
          go_ret
          have e : k = zs.length := by rw [H.out]; omega
          exact ⟨_, _, _, rfl, by rw [kids_yes HOK.out ht0, ← e]; exact HO.out, HX.out⟩
  · have HN := Lib.hid (kids_no (zs := zs) (t := t) (by simp [hok]))
    have hokf : tasksOk zs = false := by simpa using hok
    clear hok
    go_enter Try.func13, Try.ntmps13
    go_wp2_with fail
    refine (spec_TasksOk A n c zs _ S (hs.ext ((Ext.refl' w).al _)) (by omega)).mono ?_
    rintro e w1 ⟨rfl, rfl⟩
    rw [hokf]
    go_wp2
    go_ret
    exact ⟨_, _, _, rfl, by rw [HN.out]; exact oe.out, (Ext.refl' w).al _⟩
set_option maxHeartbeats 400000 in
theorem impl_KidsOf (A : Option Addr) (n c : Nat) (zs : List Int) (t : Int) (w : World) (S : Nat → Prop) (hs : Sl w S 1 A n (ints zs)) (hm : n ≤ 1048576) :
    Calls Try.prog 14 #[.slice A n c, .int .i64 t] w fun e w' => ∃ B m d, e = .returned (.slice B m d) ∧ w'.ownsRow w.heap.size 3 1 (.slice B m d) m (ints (kids zs t)) ∧ Ext w w' := by
  have H := Lib.hid hs.len
  have oe := Lib.hid (own_empty w)
  by_cases ht : t < 0
  · have HN := Lib.hid (kids_no (zs := zs) (t := t) (by omega))
    go_enter Try.func14, Try.ntmps14
    go_wp2
    go_ret
    exact ⟨_, _, _, rfl, by rw [HN.out]; exact World.ownsRow_nil _ _ _ _, Ext.refl' w⟩
  by_cases hok : tasksOk zs = true
  · have ht0 : 0 ≤ t := by omega
    go_enter Try.func14, Try.ntmps14
    go_wp2_with fail
    refine (impl_TasksOk A n c zs _ S hs (by omega)).mono ?_
    rintro e w1 ⟨rfl, rfl⟩
    rw [hok]
    have HOK := Lib.hid hok
    clear hok
    go_wp2
    go_loopw [5, 18] (fun u i wr => ∃ (k m : Nat) (B : Option Addr) (d : Nat), k ≤ n ∧ m ≤ k ∧ i = .int .i64 k ∧ u = .slice B m d ∧ m = (kidsTo zs t k).length ∧ wr.ownsRow w.heap.size 3 1 (.slice B m d) m (ints (kidsTo zs t k)) ∧ Ext w wr) (fun _ i _ => n - (intOf i).toNat)
    case atStart => exact ⟨0, 0, _, _, Nat.zero_le _, Nat.zero_le _, rfl, rfl, rfl, oe.out, (Ext.refl' w).al _⟩
    case round =>
      obtain ⟨k, m, B, d, hk, hmk, rfl, rfl, hml, ho, hx⟩ := hrel
      have HML := Lib.hid hml
      have HX := Lib.hid hx
      clear hml
      by_cases hlt : k < n
      · obtain ⟨b, o, x, rfl, hb, hxk, hc⟩ := (hs.ext hx).int_at hlt
        have HXK := Lib.hid hxk
        clear hxk hx
        by_cases he : x = t
        · have hbe : (x == t) = true := by simp [he]
          have HE := Lib.hid he
          clear he
          have HO := Lib.hid ho
          clear ho
          go_wp2_with (at_builtin; refine wp_push rfl (.tmp 26) (.tmp 28) _ rfl w.heap.size 3 _ _ _ Try.underlying22 Try.infoInt rfl (by omega) B m d _ rfl HO.out [.int .i64 (k : Int)] rfl rfl (by simp [Value.oneCell']) (by omega) (by unfold maxLen; omega) HX.out.size ?_; intro A' c' w' hown' hchg' hat')
          go_roundw
          case rel =>
            have e1 := kids_hit (by rw [HXK.out, HE.out])
            refine ⟨k + 1, m + 1, A', c', by omega, by omega, by go_num, rfl, by rw [e1, List.length_append, ← HML.out]; rfl, by rw [e1]; simpa [ints] using hown', hchg'.ext HX.out fun g hg => (HO.out.lt g hg).1⟩
          case measure => simp [intOf]; omega
        · have hbe : (x == t) = false := by simp [he]
          have HE := Lib.hid he
          clear he
          have HO := Lib.hid ho
          clear ho
          go_wp2
          go_roundw
          case rel =>
            have e1 := kids_miss HXK.out HE.out
            exact ⟨k + 1, m, B, d, by omega, by omega, by go_num, rfl, by rw [e1]; exact HML.out, by rw [e1]; exact HO.out, HX.out⟩
          case measure => simp [intOf]; omega
      · have HO := Lib.hid ho
        clear ho
        go_wp2
        go_ret
        have e : k = zs.length := by rw [H.out]; omega
        exact ⟨_, _, _, rfl, by rw [kids_yes HOK.out ht0, ← e]; exact HO.out, HX.out⟩
  · have HN := Lib.hid (kids_no (zs := zs) (t := t) (by simp [hok]))
    have hokf : tasksOk zs = false := by simpa using hok
    clear hok
    go_enter Try.func14, Try.ntmps14
    go_wp2_with fail
    refine (impl_TasksOk A n c zs _ S hs (by omega)).mono ?_
    rintro e w1 ⟨rfl, rfl⟩
    rw [hokf]
    go_wp2
    go_ret
    exact ⟨_, _, _, rfl, by rw [HN.out]; exact World.ownsRow_nil _ _ _ _, Ext.refl' w⟩

theorem own_blk {w : World} {b : Nat} {e : TypeId} {size n : Nat} {v : Value} {xs : List Value} (h : w.ownsRow b e size v n xs) {g : Nat} (hg : v.ownBlock = some g) : b ≤ g ∧ g < w.heap.size := h.lt g hg

set_option maxHeartbeats 1000000 in
theorem law_KidsOf (A : Option Addr) (n c : Nat) (zs : List Int) (t : Int) (w : World) (hs : Sl w (fun _ => True) 1 A n (ints zs)) (hm : n ≤ 9223372036854775807) :
    Calls Try.prog 4 #[.slice A n c, .int .i64 t] w fun e w' => e = .returned (.bool true) ∧ Ext w w' := by
  by_cases hn : n ≤ 1048576
  · have hkl : (kids zs t).length ≤ 1048576 := by
      by_cases hk : tasksOk zs = true ∧ 0 ≤ t
      · rw [kids_yes hk.1 hk.2]; have := kids_len zs t zs.length; have := hs.len; omega
      · rw [kids_no hk]; simp
    go_enter Try.func4, Try.ntmps4
    go_wp2_with fail
    refine (toIntS_any _ _ _ _ _ _ hs hn).mono ?_
    rintro e w1 ⟨B1, d1, rfl, o1, x1⟩
    have s1 := ownSl o1
    go_wp2_with fail
    refine (spec_KidsOf _ _ _ _ _ _ _ s1 hn).mono ?_
    rintro e w2 ⟨B2, m2, d2, rfl, o2, x2⟩
    have hm2 : m2 ≤ 1048576 := by have := own_len o2; rw [ints_length] at this; omega
    have hs1 := hs.ext (x1.tr x2)
    go_wp2_with fail
    refine (toIntS_any _ _ _ _ _ _ hs1 hn).mono ?_
    rintro e w3 ⟨B3, d3, rfl, o3, x3⟩
    go_wp2_with fail
    refine (impl_KidsOf _ _ _ _ _ _ _ (ownSl o3) hn).mono ?_
    rintro e w4 ⟨B4, m4, d4, rfl, o4, x4⟩
    obtain rfl : m2 = m4 := by rw [← own_len o2, ← own_len o4]
    have o24 := own_ext o2 (x3.tr x4)
    have o34 := own_ext o3 x4
    have hs4 := hs1.ext (x3.tr x4)
    go_wp2_with fail
    refine (eqIntS_same _ _ _ _ _ _ _ _ _ (ownSl o4) (ownSl o24) (by omega)).mono ?_
    rintro e w5 ⟨rfl, x5⟩
    go_wp2_with fail
    refine (toIntS_any _ _ _ _ _ _ (hs4.ext x5) hn).mono ?_
    rintro e w6 ⟨B6, d6, rfl, o6, x6⟩
    go_wp2_with fail
    refine (eqIntS_same _ _ _ _ _ _ _ _ _ (ownSl (own_ext o34 (x5.tr x6))) (ownSl o6) hm).mono ?_
    rintro e w7 ⟨rfl, x7⟩
    have x47 := (x5.tr x6).tr x7
    go_wp2_with fail
    refine (markIntS_any _ _ _ _ _ 1 _ (own_ext o34 x47) (by omega) (by omega)).mono ?_
    rintro e w8 ⟨rfl, o38, c8⟩
    have o48 := own_chg (own_ext o4 x47) c8 (fun g hg q => by have := (own_blk o4 hg).1; have := (own_blk o3 q).2; omega)
    have o28 := own_chg (own_ext o24 x47) c8 (fun g hg q => by have := (own_blk o2 hg).2; have := (own_blk o3 q).1; have := x1.size; omega)
    have x8 : Ext w w8 := c8.ext ((((x1.tr x2).tr x3).tr x4).tr x47) (fun g hg => by have := (own_blk o3 hg).1; have := (x1.tr x2).size; omega)
    have hq1 : (0 : Int) ≤ 1 + n := by omega
    go_wp2_with fail
    refine (eqIntS_same _ _ _ _ _ _ _ _ _ (ownSl o48) (ownSl o28) (by omega)).mono ?_
    rintro e w9 ⟨rfl, x9⟩
    go_wp2_with fail
    refine (markIntS_any _ _ _ _ _ 1 _ (own_ext o48 x9) (by omega) (by omega)).mono ?_
    rintro e w10 ⟨rfl, o4a, c10⟩
    have o210 := own_chg (own_ext o28 x9) c10 (fun g hg q => by have := (own_blk o2 hg).2; have := (own_blk o4 q).1; have := x3.size; omega)
    have x10 : Ext w w10 := c10.ext (x8.tr x9) (fun g hg => by have := (own_blk o4 hg).1; have := ((x1.tr x2).tr x3).size; omega)
    go_wp2_with fail
    refine (heldIntS_any _ _ _ 1 _ _ (ownSl o4a) (by omega) (by omega)).mono ?_
    rintro e w11 ⟨rfl, rfl⟩
    have hq2 : (0 : Int) ≤ 1 + m2 := by omega
    have hq3 : ((1 + (m2 : Int)) != (1 + (m2 : Int))) = false := by simp
    go_wp2_with fail
    refine (toIntS_any _ _ _ _ _ _ (hs.ext x10) hn).mono ?_
    rintro e w11 ⟨B11, d11, rfl, o11, x11⟩
    go_wp2_with fail
    refine (impl_KidsOf _ _ _ _ _ _ _ (ownSl o11) hn).mono ?_
    rintro e w12 ⟨B12, m12, d12, rfl, o12, x12⟩
    obtain rfl : m2 = m12 := by rw [← own_len o2, ← own_len o12]
    go_wp2_with fail
    refine (eqIntS_same _ _ _ _ _ _ _ _ _ (ownSl o12) (ownSl (own_ext o210 (x11.tr x12))) (by omega)).mono ?_
    rintro e w13 ⟨rfl, x13⟩
    go_wp2_with fail
    refine (heldIntS_any _ _ _ 1 _ _ (ownSl (own_ext o4a ((x11.tr x12).tr x13))) (by omega) (by omega)).mono ?_
    rintro e w14 ⟨rfl, rfl⟩
    go_wp2
    go_ret
    exact ⟨rfl, x10.tr ((x11.tr x12).tr x13)⟩
  · go_enter Try.func4, Try.ntmps4
    go_wp2
    go_ret
    exact ⟨rfl, Ext.refl' _⟩
end Go.Proofs.Ytfkbomcbcjjlbaa
