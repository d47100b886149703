/- ConflictFree of program and reference; the contract of laws.FnExactConflictFree. No condition. -/
import Derived.Test.YtheclckjgjaecaaEdgeS
import Derived.Test.YtheclckjgjaecaaTopoS
namespace Go.Proofs.Ytheclckjgjaecaa
open Go.RowKit Go.Deep

noncomputable def cfree (l : List Access) : Bool := accOk l && decide ((topoOf 9 (edges l)).length = 9)
/-- An order of nine is whole or empty. -/
theorem topo_all (l : List Edge) : (topoOf 9 l).length = 9 ∨ (topoOf 9 l).length = 0 := by
  by_cases h : ((0 : Int) ≤ (9 : Nat) ∧ ((9 : Nat) : Int) ≤ 9) ∧ l.length ≤ 81 ∧ AllTo (Edge.ok ((9 : Nat) : Int)) l l.length
  · have h1 := topo_yes (N := 9) h
    rw [show topoOf 9 l = topoOf ((9 : Nat) : Int) l from rfl, h1]
    cases ht : tp l 9 9 with
    | none => right; rfl
    | some out => left; exact tp_len ht
  · right
    rw [show topoOf 9 l = topoOf ((9 : Nat) : Int) l from rfl, topo_no h]
    rfl

set_option maxHeartbeats 4000000 in
theorem impl_ConflictFree (A : Option Addr) (n c : Nat) (l : List Access) (w : World) (S : Nat → Prop) (hs : Sl w S 3 A n (l.flatMap Access.cells)) (hm : n ≤ 1048576) (hcap : n ≤ c) :
    Calls Try.prog 39 #[.slice A n c] w fun e w' => e = .returned (.bool (cfree l)) ∧ Ext w w' := by
  have HS := Lib.hid hs
  have HC := Lib.hid hcap
  clear hs hcap
  go_enter Try.func39, Try.ntmps39
  go_wp2_with fail
  refine (impl_AccessOk A n c l _ S HS.out (by omega)).mono ?_
  rintro e w1 ⟨rfl, x1⟩
  have X1 := Lib.hid x1
  clear x1
  cases hok : accOk l
  · have HN : Hid (cfree l = false) := by show _ = _; unfold cfree; rw [hok]; rfl
    clear hok
    go_wp2
    go_ret
    exact ⟨by rw [HN.out]; try rfl, X1.out⟩
  have HOK := Lib.hid hok
  clear hok
  go_wp2_with fail
  refine (impl_Edges A n c l _ S (HS.out.ext X1.out) hm HC.out).mono ?_
  rintro e w2 ⟨B2, m2, d2, rfl, o2, x2⟩
  have hm2 : m2 ≤ 1048576 := by have h1 := o2.1; rw [flat_length Edge.cells_length] at h1; have h2 := edges_le l; omega
  have O2 := Lib.hid o2
  have X2 := Lib.hid (X1.out.tr x2)
  clear o2 x2
  go_wp2_with fail
  refine (impl_Topo 9 B2 m2 d2 (edges l) _ _ (ownSl O2.out) hm2).mono ?_
  rintro e w3 ⟨B3, m3, d3, rfl, o3, x3⟩
  have X3 := Lib.hid (X2.out.tr x3)
  have hlen : Hid ((topoOf 9 (edges l)).length = m3) := by show _ = _; have h1 := own_len o3; rw [ints_length] at h1; exact h1
  have HL := Lib.hid (topo_all (edges l))
  clear o3 x3
  by_cases h9 : m3 = 9
  · have HY : Hid (cfree l = true) := by show _ = _; unfold cfree; rw [HOK.out, hlen.out, h9]; rfl
    subst h9
    go_wp2
    go_ret
    exact ⟨by rw [HY.out]; try rfl, X3.out⟩
  · have e0 : m3 = 0 := by have a := HL.out; rw [hlen.out] at a; omega
    have HY : Hid (cfree l = false) := by show _ = _; unfold cfree; rw [HOK.out, hlen.out, e0]; rfl
    subst e0
    clear h9
    go_wp2
    go_ret
    exact ⟨by rw [HY.out]; try rfl, X3.out⟩

set_option maxHeartbeats 4000000 in
theorem spec_ConflictFree (A : Option Addr) (n c : Nat) (l : List Access) (w : World) (S : Nat → Prop) (hs : Sl w S 3 A n (l.flatMap Access.cells)) (hm : n ≤ 1048576) (hcap : n ≤ c) :
    Calls Try.prog 38 #[.slice A n c] w fun e w' => e = .returned (.bool (cfree l)) ∧ Ext w w' := by
  have HS := Lib.hid hs
  have HC := Lib.hid hcap
  clear hs hcap
  go_enter Try.func38, Try.ntmps38
  go_wp2_with fail
  refine (spec_AccessOk A n c l _ S HS.out (by omega)).mono ?_
  rintro e w1 ⟨rfl, x1⟩
  have X1 := Lib.hid x1
  clear x1
  cases hok : accOk l
  · have HN : Hid (cfree l = false) := by show _ = _; unfold cfree; rw [hok]; rfl
    clear hok
    go_wp2
    go_ret
    exact ⟨by rw [HN.out]; try rfl, X1.out⟩
  have HOK := Lib.hid hok
  clear hok
  go_wp2_with fail
  refine (spec_Edges A n c l _ S (HS.out.ext X1.out) hm HC.out).mono ?_
  rintro e w2 ⟨B2, m2, d2, rfl, o2, x2⟩
  have hm2 : m2 ≤ 1048576 := by have h1 := o2.1; rw [flat_length Edge.cells_length] at h1; have h2 := edges_le l; omega
  have O2 := Lib.hid o2
  have X2 := Lib.hid (X1.out.tr x2)
  clear o2 x2
  go_wp2_with fail
  refine (spec_Topo 9 B2 m2 d2 (edges l) _ _ (ownSl O2.out) hm2).mono ?_
  rintro e w3 ⟨B3, m3, d3, rfl, o3, x3⟩
  have X3 := Lib.hid (X2.out.tr x3)
  have hlen : Hid ((topoOf 9 (edges l)).length = m3) := by show _ = _; have h1 := own_len o3; rw [ints_length] at h1; exact h1
  have HL := Lib.hid (topo_all (edges l))
  clear o3 x3
  by_cases h9 : m3 = 9
  · have HY : Hid (cfree l = true) := by show _ = _; unfold cfree; rw [HOK.out, hlen.out, h9]; rfl
    subst h9
    go_wp2
    go_ret
    exact ⟨by rw [HY.out]; try rfl, X3.out⟩
  · have e0 : m3 = 0 := by have a := HL.out; rw [hlen.out] at a; omega
    have HY : Hid (cfree l = false) := by show _ = _; unfold cfree; rw [HOK.out, hlen.out, e0]; rfl
    subst e0
    clear h9
    go_wp2
    go_ret
    exact ⟨by rw [HY.out]; try rfl, X3.out⟩

set_option maxHeartbeats 8000000 in
theorem law_ConflictFree (A0 : Option Addr) (n0 c0 : Nat) (l0 : List Access) (w : World) (hs0 : Sl w (fun _ => True) 3 A0 n0 (l0.flatMap Access.cells)) (hm0 : n0 ≤ 9223372036854775807) :
    Calls Try.prog 9 #[.slice A0 n0 c0] w fun e w' => e = .returned (.bool true) ∧ Ext w w' := by
  have hsO0 := hs0
  by_cases hz0 : (n0 : Int) ≤ (1048576 : Int)
  rotate_left
  · go_enter Try.func9, Try.ntmps9
    go_wp2_with fail
    refine (szAccessS_any _ _ _ ((1048576 : Int)) _ (by omega) (by omega) hm0).mono ?_
    rintro e w' ⟨rfl, rfl⟩
    rw [if_neg (by omega)]
    go_wp2
    go_ret
    exact ⟨rfl, (Ext.refl' w)⟩
  have hN0 : n0 ≤ 1048576 := by omega
  go_enter Try.func9, Try.ntmps9
  go_wp2_with fail
  refine (szAccessS_any _ _ _ ((1048576 : Int)) _ (by omega) (by omega) hm0).mono ?_
  rintro e w' ⟨rfl, rfl⟩
  rw [if_pos (by omega)]
  go_wp2_with fail
  refine (toAccessS_any _ _ _ _ _ _ hs0 hN0).mono ?_
  rintro e w1 ⟨B1_0, d1_0, rfl, o1_0, x1⟩
  have zw1 : w.heap.size + 0 ≤ w1.heap.size := by have h := x1.size; (try simp at h); omega
  have xx := x1
  replace hs0 := hsO0.ext xx
  clear x1
  have r1_0 : Hid (∀ g, (Value.slice B1_0 n0 d1_0).ownBlock = some g → w.heap.size + 0 ≤ g ∧ g < w1.heap.size) := fun g hg => by have h := o1_0.lt g hg; (try simp only [World.heap_alloc_size] at h); omega
  go_wp2_with fail
  refine (spec_ConflictFree _ _ _ _ _ _ (ownSl o1_0) hN0 (own_cap o1_0)).mono ?_
  rintro e w2 ⟨rfl, x2⟩
  have zw2 : w1.heap.size + 0 ≤ w2.heap.size := by have h := x2.size; (try simp at h); omega
  replace o1_0 := own_ext o1_0 x2
  replace xx := xx.tr x2
  replace hs0 := hsO0.ext xx
  clear x2
  clear o1_0
  go_wp2_with fail
  refine (toAccessS_any _ _ _ _ _ _ hs0 hN0).mono ?_
  rintro e w3 ⟨B3_0, d3_0, rfl, o3_0, x3⟩
  have zw3 : w2.heap.size + 0 ≤ w3.heap.size := by have h := x3.size; (try simp at h); omega
  replace xx := xx.tr x3
  replace hs0 := hsO0.ext xx
  clear x3
  have r3_0 : Hid (∀ g, (Value.slice B3_0 n0 d3_0).ownBlock = some g → w2.heap.size + 0 ≤ g ∧ g < w3.heap.size) := fun g hg => by have h := o3_0.lt g hg; (try simp only [World.heap_alloc_size] at h); omega
  go_wp2_with fail
  refine (impl_ConflictFree _ _ _ _ _ _ (ownSl o3_0) hN0 (own_cap o3_0)).mono ?_
  rintro e w4 ⟨rfl, x4⟩
  have zw4 : w3.heap.size + 0 ≤ w4.heap.size := by have h := x4.size; (try simp at h); omega
  replace o3_0 := own_ext o3_0 x4
  replace xx := xx.tr x4
  replace hs0 := hsO0.ext xx
  clear x4
  go_wp2_with fail
  refine (toAccessS_any _ _ _ _ _ _ hs0 hN0).mono ?_
  rintro e w5 ⟨B5_0, d5_0, rfl, o5_0, x5⟩
  have zw5 : w4.heap.size + 0 ≤ w5.heap.size := by have h := x5.size; (try simp at h); omega
  replace o3_0 := own_ext o3_0 x5
  replace xx := xx.tr x5
  replace hs0 := hsO0.ext xx
  clear x5
  have r5_0 : Hid (∀ g, (Value.slice B5_0 n0 d5_0).ownBlock = some g → w4.heap.size + 0 ≤ g ∧ g < w5.heap.size) := fun g hg => by have h := o5_0.lt g hg; (try simp only [World.heap_alloc_size] at h); omega
  go_wp2_with fail
  refine (eqAccessS_same _ _ _ _ _ _ _ _ _ (ownSl o3_0) (ownSl o5_0) (by omega)).mono ?_
  rintro e w6 ⟨rfl, x6⟩
  have zw6 : w5.heap.size + 0 ≤ w6.heap.size := by have h := x6.size; (try simp at h); omega
  replace o3_0 := own_ext o3_0 x6
  replace o5_0 := own_ext o5_0 x6
  replace xx := xx.tr x6
  replace hs0 := hsO0.ext xx
  clear x6
  clear o5_0
  go_wp2
  go_ret
  exact ⟨rfl, xx⟩

end Go.Proofs.Ytheclckjgjaecaa
