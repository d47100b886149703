/- slices.SortStableFunc at an owned row of indices, with the comparison of Ranks. No condition but lengths. -/
import Derived.Test.YtfacckjfoajijaaStabQ
import Derived.Test.YtfacckjfoajijaaMineA
import Derived.Test.YtfacckjfoajijaaFlat
import Derived.IntWalk
namespace Go.Proofs.Ytfacckjfoajijaa
open Go.RowKit Go.Deep
set_option linter.unusedSimpArgs false
set_option linter.unusedVariables false

/-- What the comparison gives. -/
noncomputable def Keys.z (K : Keys) (i j : Int) : Int := @ite _ (K.lt i j) (Classical.propDecidable _) (-1) (@ite _ (K.lt j i) (Classical.propDecidable _) 1 0)
theorem Keys.z_yes {K : Keys} {i j : Int} (h : K.lt i j) : decide (K.z i j < 0) = true := by unfold Keys.z; rw [if_pos h]; rfl
theorem Keys.z_no {K : Keys} {i j : Int} (h : ¬ K.lt i j) : decide (K.z i j < 0) = false := by
  unfold Keys.z
  rw [if_neg h]
  split <;> rfl
/-- The comparison may be called wherever the things it looks at stand. -/
abbrev CmpC (b : World) (fr : List Res) (K : Keys) (E : List Int) (gw : Nat) : Prop := ∀ (w : World) (i j : Int), Mine b w fr → i ∈ E → j ∈ E → Calls Try.prog 111 #[.int .i64 i, .int .i64 j, .pointer (some ⟨gw, 0, none⟩)] w fun e w' => e = .returned (.int .i64 (K.z i j)) ∧ Ext w w'
theorem Mine.step_put {P : Program} {ops : Array Oper} {o : Oper} {a : Act} {Q : Exit → Act → World → Prop} {b w : World} {rs : List Res} {K : Act → World → Prop} {E : Prop} (M : Mine b w rs) (hgd : o.guard = none) (ty : TypeId) (x y : Operand) (ho : o.op = .store ty x y) (hd : o.dst = none) (i : Nat) (j : Nat) {g : Nat} {e : TypeId} {size n c : Nat} {xs : List Value} (hi : rs[i]? = some (.row e size (some ⟨g, 0, none⟩) n c xs))
    (hx : a.eval x = .pointer (some ⟨g, j, none⟩)) (u : Value) (hy : a.eval y = u) (hj : j < n * size) (h1 : u.oneCell' = true) (hu : (P.info? ty).map (·.size) = some 1)
    (h : ∀ w', Mine b w' (rs.set i (.row e size (some ⟨g, 0, none⟩) n c (xs.set j u))) → K (a.put o.dst undef) w') : if Region.wanted o (yielded ops a.tmps) = true then Oper.wp P o a w K Q else E := by
  have hw : Region.wanted o (yielded ops a.tmps) = true := by simp [Region.wanted, hgd]
  rw [if_pos hw]
  have := h _ (M.put i hi j u)
  unfold Oper.wp execOp
  simp only [ho, hx, hy, Instr.storeAt, Instr.sureAddr, Sem.run_bind, Sem.run_pure, Result.andThen_ok, run_storeVar_cell w g j ty u (there_row (M.row_at i hi) (by omega)) hu h1]
  exact this
theorem ints_at {D : List Int} {j : Nat} {x : Int} (h : D[j]? = some x) : (ints D)[j]? = some (.int .i64 x) := by rw [ints_get, h]; rfl

set_option maxRecDepth 4000 in
set_option maxHeartbeats 4000000 in
theorem swapRange_m {b w : World} {g n c : Nat} {fr : List Res} {P X Z Y Q : List Int} {cl : Value} (M0 : Mine b w (.row 3 1 (some ⟨g, 0, none⟩) n c (ints (P ++ (X ++ (Z ++ (Y ++ Q))))) :: fr)) (hy : Y.length = X.length) (a d q : Nat) (ha : a = P.length) (hd : d = P.length + X.length + Z.length) (hq : q = X.length) (hn : n ≤ 1048576) :
    Calls Try.prog 131 #[.slice (some ⟨g, 0, none⟩) n c, .int .i64 a, .int .i64 d, .int .i64 q, cl] w fun e w' => e = .returned (.tuple #[]) ∧ Mine b w' (.row 3 1 (some ⟨g, 0, none⟩) n c (ints (P ++ (Y ++ (Z ++ (X ++ Q))))) :: fr) := by
  obtain ⟨D, hD⟩ : ∃ D, D = P ++ (X ++ (Z ++ (Y ++ Q))) := ⟨_, rfl⟩
  rw [← hD] at M0
  have hl : D.length = n := by have h := M0.len1 0 rfl; rw [ints_length] at h; exact h
  have hsum : P.length + X.length + Z.length + Y.length + Q.length = n := by rw [← hl, hD]; simp; omega
  have HS : Hid (a + q ≤ d ∧ d + q ≤ n) := by show _ ∧ _; omega
  have hfin : Hid (∀ D', Swp D a d q D' → D' = P ++ (Y ++ (Z ++ (X ++ Q)))) := by
    intro D' h
    rw [hD, ha, hd, hq] at h
    exact h.parts hy
  have HL := Lib.hid hl
  have M := Lib.hid M0
  have hq1 : q ≤ n := by have := HS.out; omega
  have ha1 : a ≤ n := by have := HS.out; omega
  have hd1 : d ≤ n := by have := HS.out; omega
  clear hD hl hsum ha hd hq hy M0
  go_enter Try.func131, Try.ntmps131
  go_wp2
  go_loopw [10] (fun i wr => ∃ (k : Nat) (D' : List Int), k ≤ q ∧ i = .int .i64 k ∧ Hid (Swp D a d k D') ∧ Hid (Mine b wr (.row 3 1 (some ⟨g, 0, none⟩) n c (ints (D')) :: fr))) (fun i _ => q - (intOf i).toNat)
  case atStart => exact ⟨0, D, Nat.zero_le _, rfl, Swp.zero _ _ _, M⟩
  case round =>
    clear M
    obtain ⟨k, D', hk, rfl, HP, M⟩ := hrel
    by_cases hlt : (k : Int) < (q : Int)
    rotate_left
    · obtain rfl : q = k := by omega
      have e := hfin.out _ HP.out
      have M9 := M.out
      rw [e] at M9
      have M8 := Lib.hid M9
      clear M M9 e
      go_wp2
      first | refine bodyPost_ret (v := .tuple #[]) (by simp [results, Try.results131, go_sem]) rfl ?_ | refine bodyPost_end (v := .tuple #[]) (by simp [results, Try.results131, go_sem]) rfl ?_
      exact ⟨rfl, M8.out⟩
    have HK : Hid (k < q) := by show _ < _; omega
    obtain ⟨u, hu⟩ : ∃ u, D[a + k]? = some u := ⟨_, List.getElem?_eq_getElem (by have := HL.out; have := HS.out; omega)⟩
    obtain ⟨v, hv⟩ : ∃ v, D[d + k]? = some v := ⟨_, List.getElem?_eq_getElem (by have := HL.out; have := HS.out; omega)⟩
    have HU := Lib.hid hu
    have HV := Lib.hid hv
    have hu2 : (ints D')[a + k]? = some (.int .i64 u) := ints_at ((HP.out.2 _).trans (by rw [if_neg (by omega), if_neg (by have := HS.out; have := HK.out; omega)]; exact hu))
    have hv2 : (ints D')[d + k]? = some (.int .i64 v) := ints_at ((HP.out.2 _).trans (by rw [if_neg (by have := HS.out; have := HK.out; omega), if_neg (by omega)]; exact hv))
    have j1 : a + k < n * 1 := by have := HS.out; have := HK.out; omega
    have i1 : (a : Int) + (k : Int) < (n : Int) := by have := HS.out; have := HK.out; omega
    have i2 : (d : Int) + (k : Int) < (n : Int) := by have := HS.out; have := HK.out; omega
    clear hu hv
    have Wapk : IntKind.i64.wrap ((a : Int) + (k : Int)) = (a : Int) + (k : Int) := Go.IntWalk.i64_in _ (by omega)
    have Vapk : 0 ≤ (a : Int) + (k : Int) := by omega
    have Uapk : ((a : Int) + (k : Int)).toNat = a + k := by omega
    have Wdpk : IntKind.i64.wrap ((d : Int) + (k : Int)) = (d : Int) + (k : Int) := Go.IntWalk.i64_in _ (by omega)
    have Vdpk : 0 ≤ (d : Int) + (k : Int) := by omega
    have Udpk : ((d : Int) + (k : Int)).toNat = d + k := by omega
    have q1 : wr.cell? ⟨g, a + k, none⟩ = some _ := ((M.out.row_at 0 rfl).cellAt _ (by have := HS.out; have := HK.out; omega)).trans hu2
    have f1 : wr.frozen? ⟨g, a + k, none⟩ = false := (M.out.row_at 0 rfl).frozenAt _
    have q2 : wr.cell? ⟨g, d + k, none⟩ = some _ := ((M.out.row_at 0 rfl).cellAt _ (by have := HS.out; have := HK.out; omega)).trans hv2
    have f2 : wr.frozen? ⟨g, d + k, none⟩ = false := (M.out.row_at 0 rfl).frozenAt _
    have hne : ¬ a + k = d + k := by have := HS.out; have := HK.out; omega
    go_wp2
    go_region
    all_goals
      have M2 := (M.out.dr.put 0 rfl (a + k) (.int .i64 v)).put 0 rfl (d + k) (.int .i64 u)
      simp only [List.set_cons_zero, ints_set] at M2
      replace M2 := Lib.hid M2
      go_wp2
      go_roundw
      case rel => exact ⟨k + 1, _, HK.out, by go_num, HP.out.next (by have := HS.out; have := HK.out; omega) (by have := HS.out; have := HK.out; have := HL.out; omega) HU.out HV.out, M2⟩
      case measure => have := HK.out; simp [intOf]; omega
theorem swapRange_i {b w : World} {g n c : Nat} {fr : List Res} {P X Z Y Q : List Int} {cl : Value} {a' d' q' : Int} (M0 : Mine b w (.row 3 1 (some ⟨g, 0, none⟩) n c (ints (P ++ (X ++ (Z ++ (Y ++ Q))))) :: fr)) (hy : Y.length = X.length) (ha : a' = P.length) (hd : d' = P.length + X.length + Z.length) (hq : q' = X.length) (hn : n ≤ 1048576) :
    Calls Try.prog 131 #[.slice (some ⟨g, 0, none⟩) n c, .int .i64 a', .int .i64 d', .int .i64 q', cl] w fun e w' => e = .returned (.tuple #[]) ∧ Mine b w' (.row 3 1 (some ⟨g, 0, none⟩) n c (ints (P ++ (Y ++ (Z ++ (X ++ Q))))) :: fr) := by
  have h := swapRange_m (cl := cl) M0 hy P.length (P.length + X.length + Z.length) X.length rfl rfl rfl hn
  have e1 : ((P.length + X.length + Z.length : Nat) : Int) = d' := by omega
  rw [e1, ← ha, ← hq] at h
  exact h
end Go.Proofs.Ytfacckjfoajijaa
