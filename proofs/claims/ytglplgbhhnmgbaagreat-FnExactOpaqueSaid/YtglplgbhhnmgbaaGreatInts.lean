/- Contracts of the laws' helpers on slices of integers: copy, equality, marking. No condition but lengths. -/
import Derived.Test.YtglplgbhhnmgbaaGreatOpen
namespace Go.Proofs.YtglplgbhhnmgbaaGreat
open Go.RowKit

theorem Tryz.infoInt : (Tryz.prog.info? 3).map (fun i => (i.zero, i.size, i.bytes)) = some (some (.int .i64 0), 1, 8) := by kernel_rfl

set_option maxHeartbeats 400000 in
theorem toIntS_any (A : Option Addr) (n c : Nat) (zs : List Int) (w : World) (S : Nat → Prop) (hs : Sl w S 1 A n (ints zs)) (hm : n ≤ 1048576) :
    Calls Tryz.prog 58 #[.slice A n c] w fun e w' => ∃ B d, e = .returned (.slice B n d) ∧ w'.ownsRow w.heap.size 3 1 (.slice B n d) n (ints zs) ∧ Ext w w' := by
  have hl := Lib.hid hs.len
  obtain ⟨w1, cs0, hmk, hown, -, hx1, hlt⟩ := made_row (P := Tryz.prog) w 22 3 _ _ _ Tryz.underlying22 Tryz.infoInt n (by omega) (by unfold maxLen; omega)
  have HO := Lib.hid hown
  have HX := Lib.hid hx1
  clear hown hx1
  go_enter Tryz.func58, Tryz.ntmps58
  go_wp2
  go_loopw [4] (fun i wr => ∃ (k : Nat) (cs : List Value), k ≤ n ∧ i = .int .i64 k ∧ wr.ownsRow w.heap.size 3 1 (.slice (some ⟨w.heap.size, 0, none⟩) n n) n cs ∧ Upto cs (ints zs) k ∧ Ext w wr) (fun i _ => n - (intOf i).toNat)
  case atStart => exact ⟨0, _, Nat.zero_le _, rfl, HO.out, Upto.zero _ _, HX.out⟩
  case round =>
    obtain ⟨k, cs, hk, rfl, ho, hu, hx⟩ := hrel
    by_cases hlt : k < n
    · obtain ⟨b, o, x, rfl, hb, hxk, hc⟩ := (hs.ext hx).int_at hlt
      have hcl := own_len ho
      obtain ⟨g, v0, hA, -, hco, hf0⟩ := own_at ho hlt
      obtain rfl : w.heap.size = g := addr_inj hA
      have HX2 := Lib.hid hxk
      have HO2 := Lib.hid ho
      have HE2 := Lib.hid hx
      have HCL := Lib.hid hcl
      clear hxk ho hx hcl
      go_wp2
      go_roundw
      case rel => 
        have hst := HO2.out.stored k (.int .i64 x)
        exact ⟨k + 1, _, by omega, by go_num, hst.1, hu.set1 (by rw [HCL.out]; exact hlt) (by rw [ints_get, HX2.out]; rfl), HE2.out.sc (p := ⟨w.heap.size, k, none⟩) (Nat.le_refl _) _⟩
      case measure => simp [intOf]; omega
    · go_wp2
      go_ret
      refine ⟨_, _, rfl, ?_, hx⟩
      have : k = n := by omega
      subst this
      rw [← hu.all (by have := ho.1; omega) (by rw [ints_length]; exact hl.out)]
      exact ho

set_option maxHeartbeats 400000 in
theorem eqIntS_same (A B : Option Addr) (n c d : Nat) (zs : List Int) (w : World) (S T : Nat → Prop) (ha : Sl w S 1 A n (ints zs)) (hb : Sl w T 1 B n (ints zs)) (hm : n ≤ 9223372036854775807) :
    Calls Tryz.prog 79 #[.slice A n c, .slice B n d] w fun e w' => e = .returned (.bool true) ∧ Ext w w' := by
  go_enter Tryz.func79, Tryz.ntmps79
  go_wp2
  go_loopw [5] (fun i wr => ∃ (k : Nat), k ≤ n ∧ i = .int .i64 k ∧ Ext w wr) (fun i _ => n - (intOf i).toNat)
  case atStart => exact ⟨0, Nat.zero_le _, rfl, Ext.refl' _⟩
  case round =>
    obtain ⟨k, hk, rfl, hx⟩ := hrel
    by_cases hlt : k < n
    · obtain ⟨b1, o1, x, rfl, hb1, hxk, hc1⟩ := (ha.ext hx).int_at hlt
      obtain ⟨b2, o2, y, rfl, hb2, hyk, hc2⟩ := (hb.ext hx).int_at hlt
      rw [hxk] at hyk
      injection hyk with hyk
      subst hyk
      have HE2 := Lib.hid hx
      clear hxk hx
      go_wp2
      go_quiet (fail)
      go_wp2
      go_roundw
      case rel => exact ⟨k + 1, by omega, by go_num, HE2.out.drN _⟩
      case measure => simp [intOf]; omega
    · go_wp2
      go_ret
      exact ⟨rfl, hx⟩

/-- What markIntS leaves: k, k+1, .. -/
def marks (k : Int) (n : Nat) : List Int := (List.range n).map fun i : Nat => k + (i : Int)
theorem marks_length (k : Int) (n : Nat) : (marks k n).length = n := by simp [marks]
theorem marks_get (k : Int) (n i : Nat) (h : i < n) : (marks k n)[i]? = some (k + (i : Int)) := by simp [marks, h]

end Go.Proofs.YtglplgbhhnmgbaaGreat
