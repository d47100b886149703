/- ReadWrote of the reference; the contract of laws.FnExactReadWrote. No condition. -/
import Derived.Test.YtbclkgjjmpipfaaRw
import Derived.Deep.RegionLaw
namespace Go.Proofs.Ytbclkgjjmpipfaa
open Go.RowKit Go.Deep

/-- What is behind two or three numbers. -/
theorem vars_three {L : List UInt8} {xs : List Int} {p : Nat} (h : vars L 0 3 = some (xs, p)) : ∃ a b c : Nat, xs = [(a : Int), (b : Int), (c : Int)] ∧ a ≤ 562949953421311 ∧ b ≤ 562949953421311 ∧ c ≤ 562949953421311 ∧ p ≤ L.length := by
  by_cases h1 : rvK L = 0
  · rw [head_no (.inl h1)] at h; cases h
  by_cases h2 : rvK (L.drop (rvK L)) = 0
  · rw [head_no (.inr (.inl h2))] at h; cases h
  by_cases h3 : rvK (L.drop (rvK L + rvK (L.drop (rvK L)))) = 0
  · rw [head_no (.inr (.inr h3))] at h; cases h
  rw [head_yes h1 h2 h3] at h
  injection h with h
  injection h with ha hb
  refine ⟨_, _, _, ha.symm, rvN_le _, rvN_le _, rvN_le _, ?_⟩
  have e1 := rvK_le L
  have e2 := rvK_le (L.drop (rvK L))
  have e3 := rvK_le (L.drop (rvK L + rvK (L.drop (rvK L))))
  rw [List.length_drop] at e2 e3
  omega
theorem vars_two {L : List UInt8} {xs : List Int} {q p : Nat} (hq : q ≤ L.length) (h : vars L q 2 = some (xs, p)) : ∃ a b : Nat, xs = [(a : Int), (b : Int)] ∧ p ≤ L.length := by
  by_cases h1 : rvK (L.drop q) = 0
  · rw [two_no (.inl h1)] at h; cases h
  by_cases h2 : rvK (L.drop (q + rvK (L.drop q))) = 0
  · rw [two_no (.inr h2)] at h; cases h
  rw [two_yes h1 h2] at h
  injection h with h
  injection h with ha hb
  refine ⟨_, _, ha.symm, ?_⟩
  have e2 := rvK_le (L.drop q)
  have e3 := rvK_le (L.drop (q + rvK (L.drop q)))
  rw [List.length_drop] at e2 e3
  omega
theorem varsL_some {L : List UInt8} {p m q : Nat} {xs : List Int} (h : vars L p m = some (xs, q)) : varsL L p m = xs ∧ varsP L p m = (q : Int) := by unfold varsL varsP; rw [h]; exact ⟨rfl, rfl⟩
theorem varsP_none {L : List UInt8} {p m : Nat} (h : vars L p m = none) : varsP L p m = -1 := by unfold varsP; rw [h]; rfl
/-- A row of the call's own that is not empty. -/
theorem own_block {w : World} {base n c : Nat} {e : TypeId} {A : Option Addr} {xs : List Value} (h : w.ownsRow base e 1 (.slice A n c) n xs) (hn : 0 < n) : ∃ g, A = some ⟨g, 0, none⟩ ∧ base ≤ g ∧ g < w.heap.size ∧ ∀ k v, xs[k]? = some v → k < n → w.cell? ⟨g, k, none⟩ = some v := by
  obtain ⟨g, v, rfl, hg, _, _⟩ := own_at h hn
  exact ⟨g, rfl, hg, (h.lt g rfl).2, fun k v hv hk => by rw [h.cellAt k (by omega), hv]⟩

set_option maxHeartbeats 8000000 in
theorem spec_ReadWrote (s : ByteArray) (hs : s.size ≤ 1099511627776) (w : World) :
    Calls Try.prog 19 #[.string s] w fun e w' => ∃ B m d, e = .returned (.tuple #[.agg #[.int .i64 (rwA s), .int .i64 (rwB s), .slice B m d], .bool (rwOk s)]) ∧ w'.ownsRow w.heap.size 62 2 (.slice B m d) m ((rwR s).flatMap Row.cells) ∧ Hid True ∧ Ext w w' := by
  have HS := Lib.hid hs
  have HSL : Hid (s.data.toList.length = s.size) := by show _ = _; simp
  have HX0 := Lib.hid ((Ext.refl' w).al (.cells #[.int .i64 0, .int .i64 0, .slice none 0 0] 33))
  have HB0 : Hid (Bx (w.alloc (.cells #[.int .i64 0, .int .i64 0, .slice none 0 0] 33)) w.heap.size 33 #[.int .i64 0, .int .i64 0, .slice none 0 0]) := Bx.new' _ _ _ rfl
  clear hs
  go_enter Try.func19, Try.ntmps19
  go_wp2_with fail
  refine (l24Vars_any s HS.out 0 3 (Nat.zero_le _) (.inr rfl) _).mono ?_
  rintro e w1 ⟨B1, d1, rfl, own1, x1⟩
  have X1 := Lib.hid (HX0.out.tr x1)
  have Z1 : Hid (Bx w1 w.heap.size 33 #[.int .i64 0, .int .i64 0, .slice none 0 0]) := HB0.out.ext x1
  have z1 : w.heap.size < w1.heap.size := Z1.out.lt
  clear x1
  cases hv : vars s.data.toList 0 3 with
  | none =>
    have HN := Lib.hid (rw_no (read_no1 hv))
    rw [varsP_none hv]
    clear hv
    have zc0 : w1.cell? ⟨w.heap.size, 0, none⟩ = some (.int .i64 0) := Z1.out.cell 0
    have zf0 : w1.frozen? ⟨w.heap.size, 0, none⟩ = false := Z1.out.frozen 0
    have zc1 : w1.cell? ⟨w.heap.size, 1, none⟩ = some (.int .i64 0) := Z1.out.cell 1
    have zf1 : w1.frozen? ⟨w.heap.size, 1, none⟩ = false := Z1.out.frozen 1
    have zc2 : w1.cell? ⟨w.heap.size, 2, none⟩ = some (.slice none 0 0) := Z1.out.cell 2
    have zf2 : w1.frozen? ⟨w.heap.size, 2, none⟩ = false := Z1.out.frozen 2
    go_wp2
    refine bodyPost_ret (v := .tuple #[.agg #[.int .i64 0, .int .i64 0, .slice none 0 0], .bool false]) (by simp [results, Try.results19, go_sem, zc0, zc1, zc2]) rfl ?_
    exact ⟨none, 0, 0, by rw [HN.out.1, HN.out.2.1, HN.out.2.2.2], by rw [HN.out.2.2.1]; exact World.ownsRow_nil _ _ _ _, trivial, by first | exact ((X1.out.sc (Nat.le_refl _) _).sc (Nat.le_refl _) _).sc (Nat.le_refl _) _ | exact X1.out⟩
  | some r =>
  obtain ⟨xs, p⟩ := r
  obtain ⟨N1, N2, N3, rfl, b1, b2, b3, hp⟩ := vars_three hv
  have HV := Lib.hid hv
  have HPL : Hid (p ≤ s.data.toList.length) := hp
  rw [(varsL_some hv).1] at own1
  rw [(varsL_some hv).2]
  clear hv hp
  obtain ⟨gh, rfl, hgh, hgh2, hcell⟩ := own_block own1 (by omega)
  have c0 := hcell 0 _ rfl (by omega)
  have c1 := hcell 1 _ rfl (by omega)
  have c2 := hcell 2 _ rfl (by omega)
  clear hcell own1
  by_cases h8 : (N3 : Int) ≤ 8
  rotate_left
  · have HN := Lib.hid (rw_no (read_no2 HV.out h8))
    have zc0 : w1.cell? ⟨w.heap.size, 0, none⟩ = some (.int .i64 0) := Z1.out.cell 0
    have zf0 : w1.frozen? ⟨w.heap.size, 0, none⟩ = false := Z1.out.frozen 0
    have zc1 : w1.cell? ⟨w.heap.size, 1, none⟩ = some (.int .i64 0) := Z1.out.cell 1
    have zf1 : w1.frozen? ⟨w.heap.size, 1, none⟩ = false := Z1.out.frozen 1
    have zc2 : w1.cell? ⟨w.heap.size, 2, none⟩ = some (.slice none 0 0) := Z1.out.cell 2
    have zf2 : w1.frozen? ⟨w.heap.size, 2, none⟩ = false := Z1.out.frozen 2
    go_wp2
    refine bodyPost_ret (v := .tuple #[.agg #[.int .i64 0, .int .i64 0, .slice none 0 0], .bool false]) (by simp [results, Try.results19, go_sem, zc0, zc1, zc2]) rfl ?_
    exact ⟨none, 0, 0, by rw [HN.out.1, HN.out.2.1, HN.out.2.2.2], by rw [HN.out.2.2.1]; exact World.ownsRow_nil _ _ _ _, trivial, by first | exact ((X1.out.sc (Nat.le_refl _) _).sc (Nat.le_refl _) _).sc (Nat.le_refl _) _ | exact X1.out⟩
  have H8 : Hid (N3 ≤ 8) := by show N3 ≤ 8; omega
  have KS : Hid (∀ w', Ext w1 w' → Ext w1 w' ∧ w'.cell? ⟨gh, 0, none⟩ = some (.int .i64 (N1 : Int)) ∧ w'.cell? ⟨gh, 1, none⟩ = some (.int .i64 (N2 : Int))) := fun w' x => ⟨x, x.co c0, x.co c1⟩
  go_wp2
  go_region_held3 (fun w' => Ext w1 w' ∧ w'.cell? ⟨gh, 0, none⟩ = some (.int .i64 (N1 : Int)) ∧ w'.cell? ⟨gh, 1, none⟩ = some (.int .i64 (N2 : Int))) (first | exact KS.out _ ((Ext.refl' _).dr) | exact KS.out _ (((Ext.refl' _).dr).al _) | exact KS.out _ (Ext.al ‹Ext w1 _ ∧ _›.1 _) | exact KS.out _ (Ext.sc ‹Ext w1 _ ∧ _›.1 (Nat.le_refl _) _) | exact KS.out _ (Ext.sc (Ext.sc (Ext.sc ‹Ext w1 _ ∧ _›.1 (Nat.le_refl _) _) (Nat.le_refl _) _) (Nat.le_refl _) _)) (fail)
  have hbG : Hid (Bx (w1.alloc (.cells #[.int .i64 (N1 : Int), .int .i64 (N2 : Int), .slice none 0 0] 33)).drew w1.heap.size 33 #[.int .i64 (N1 : Int), .int .i64 (N2 : Int), .slice none 0 0]) := (Bx.new' _ _ _ rfl).dr
  have XA : Hid (Ext w1 (w1.alloc (.cells #[.int .i64 (N1 : Int), .int .i64 (N2 : Int), .slice none 0 0] 33)).drew) := ((Ext.refl' _).al _).dr
  have hp0 : (0 : Int) ≤ (p : Int) := by omega
  clear KS
  go_wp2
  clear hp0
  go_loopw [5, 7] (fun a i wr => ∃ (k q : Nat) (rs : List Row) (B : Option Addr) (d : Nat), k ≤ N3 ∧ i = .int .i64 k ∧ a = .int .i64 q ∧ q ≤ s.data.toList.length ∧ rowsAt s.data.toList p k = some (rs, q) ∧ Hid (wr.ownsRow (w1.heap.size + 1) 62 2 (.slice B k d) k (rs.flatMap Row.cells)) ∧ Ext w1 wr ∧ Hid (Bx wr w1.heap.size 33 #[.int .i64 (N1 : Int), .int .i64 (N2 : Int), .slice B k d])) (fun _ i _ => N3 - (intOf i).toNat)
  case atStart => exact ⟨0, p, [], none, 0, Nat.zero_le _, rfl, rfl, HPL.out, rfl, World.ownsRow_nil _ _ _ _, XA.out, hbG⟩
  case round =>
    obtain ⟨k, q, rs, B, d, hk, rfl, rfl, hq, hr, HO, hx, HG⟩ := hrel
    have HQ : Hid (q ≤ s.size) := by have h := HSL.out; show q ≤ s.size; omega
    have HQL := Lib.hid hq
    have HR := Lib.hid hr
    have HX := Lib.hid hx
    have zg : w1.heap.size < wr.heap.size := HG.out.lt
    have y2 := HX.out.co c2
    have HZ : Hid (Bx wr w.heap.size 33 #[.int .i64 0, .int .i64 0, .slice none 0 0]) := Z1.out.ext hx
    clear hr hx hq
    by_cases hlt : (k : Int) < (N3 : Int)
    rotate_left
    · obtain rfl : k = N3 := by omega
      have gc0 : wr.cell? ⟨w1.heap.size, 0, none⟩ = some (.int .i64 (N1 : Int)) := HG.out.cell 0
      have gf0 : wr.frozen? ⟨w1.heap.size, 0, none⟩ = false := HG.out.frozen 0
      have gc1 : wr.cell? ⟨w1.heap.size, 1, none⟩ = some (.int .i64 (N2 : Int)) := HG.out.cell 1
      have gf1 : wr.frozen? ⟨w1.heap.size, 1, none⟩ = false := HG.out.frozen 1
      have gc2 : wr.cell? ⟨w1.heap.size, 2, none⟩ = some (.slice B k d) := HG.out.cell 2
      have gf2 : wr.frozen? ⟨w1.heap.size, 2, none⟩ = false := HG.out.frozen 2
      have hlt' : ¬ (k : Int) < (k : Int) := hlt
      clear hlt
      go_wp2_with fail
      refine (spec_ShowWrote _ _ _ _ _ rs _ _ (ownSl HO.out) (by have := H8.out; omega)).mono ?_
      rintro e w4 ⟨rfl, x4⟩
      have X4 := Lib.hid (X1.out.tr (HX.out.tr x4))
      have G4 : Hid (Bx w4 w1.heap.size 33 #[.int .i64 (N1 : Int), .int .i64 (N2 : Int), .slice B k d]) := HG.out.ext x4
      have Z4 : Hid (Bx w4 w.heap.size 33 #[.int .i64 0, .int .i64 0, .slice none 0 0]) := HZ.out.ext x4
      have O4 := Lib.hid (own_ext HO.out x4)
      clear x4 gc0 gf0 gc1 gf1 gc2 gf2
      have z4 : w1.heap.size < w4.heap.size := G4.out.lt
      by_cases hsh : showOf (N1 : Int) (N2 : Int) rs = s
      rotate_left
      · have HN := Lib.hid (rw_no (read_no4 HV.out HR.out hsh))
        have qe : ((showOf (N1 : Int) (N2 : Int) rs).toList == s.toList) = false := str_other hsh
        clear hsh
        have zc0 : w4.cell? ⟨w.heap.size, 0, none⟩ = some (.int .i64 0) := Z4.out.cell 0
        have zf0 : w4.frozen? ⟨w.heap.size, 0, none⟩ = false := Z4.out.frozen 0
        have zc1 : w4.cell? ⟨w.heap.size, 1, none⟩ = some (.int .i64 0) := Z4.out.cell 1
        have zf1 : w4.frozen? ⟨w.heap.size, 1, none⟩ = false := Z4.out.frozen 1
        have zc2 : w4.cell? ⟨w.heap.size, 2, none⟩ = some (.slice none 0 0) := Z4.out.cell 2
        have zf2 : w4.frozen? ⟨w.heap.size, 2, none⟩ = false := Z4.out.frozen 2
        go_wp2
        refine bodyPost_ret (v := .tuple #[.agg #[.int .i64 0, .int .i64 0, .slice none 0 0], .bool false]) (by simp [results, Try.results19, go_sem, zc0, zc1, zc2]) rfl ?_
        exact ⟨none, 0, 0, by rw [HN.out.1, HN.out.2.1, HN.out.2.2.2], by rw [HN.out.2.2.1]; exact World.ownsRow_nil _ _ _ _, trivial, by first | exact ((X4.out.sc (Nat.le_refl _) _).sc (Nat.le_refl _) _).sc (Nat.le_refl _) _ | exact X4.out⟩
      have HY := Lib.hid (rw_yes (read_yes HV.out (by have := H8.out; show (k : Int) ≤ 8; omega) HR.out hsh))
      have qe : ((showOf (N1 : Int) (N2 : Int) rs).toList == s.toList) = true := by rw [hsh]; exact str_same _
      clear hsh
      have gc0 : w4.cell? ⟨w1.heap.size, 0, none⟩ = some (.int .i64 (N1 : Int)) := G4.out.cell 0
      have gf0 : w4.frozen? ⟨w1.heap.size, 0, none⟩ = false := G4.out.frozen 0
      have gc1 : w4.cell? ⟨w1.heap.size, 1, none⟩ = some (.int .i64 (N2 : Int)) := G4.out.cell 1
      have gf1 : w4.frozen? ⟨w1.heap.size, 1, none⟩ = false := G4.out.frozen 1
      have gc2 : w4.cell? ⟨w1.heap.size, 2, none⟩ = some (.slice B k d) := G4.out.cell 2
      have gf2 : w4.frozen? ⟨w1.heap.size, 2, none⟩ = false := G4.out.frozen 2
      have zc0 : w4.cell? ⟨w.heap.size, 0, none⟩ = some (.int .i64 0) := Z4.out.cell 0
      have zf0 : w4.frozen? ⟨w.heap.size, 0, none⟩ = false := Z4.out.frozen 0
      have zc1 : w4.cell? ⟨w.heap.size, 1, none⟩ = some (.int .i64 0) := Z4.out.cell 1
      have zf1 : w4.frozen? ⟨w.heap.size, 1, none⟩ = false := Z4.out.frozen 1
      have zc2 : w4.cell? ⟨w.heap.size, 2, none⟩ = some (.slice none 0 0) := Z4.out.cell 2
      have zf2 : w4.frozen? ⟨w.heap.size, 2, none⟩ = false := Z4.out.frozen 2
      go_wp2
      refine bodyPost_ret (v := .tuple #[.agg #[.int .i64 (N1 : Int), .int .i64 (N2 : Int), .slice B k d], .bool true]) (by simp [results, Try.results19, go_sem, zc0, zc1, zc2]) rfl ?_
      refine ⟨B, k, d, by rw [HY.out.1, HY.out.2.1, HY.out.2.2.2]; rfl, ?_, trivial, (((X4.out).sc (Nat.le_refl _) _).sc (Nat.le_refl _) _).sc (Nat.le_refl _) _⟩
      rw [HY.out.2.2.1]
      exact own_base (own_chg O4.out ((((Chg.refl (fun g => g = w.heap.size) _).sc rfl _).sc rfl _).sc rfl _) (fun g hg q => by have h1 := (O4.out.lt g hg).1; have q2 : g = w.heap.size := q; omega)) (by omega)
    go_wp2_with fail
    refine (l24Vars_any s HS.out q 2 HQ.out (.inl rfl) _).mono ?_
    rintro e w5 ⟨B5, d5, rfl, own5, x5⟩
    have X5 := Lib.hid (HX.out.tr x5)
    have X5w := Lib.hid (X1.out.tr X5.out)
    have G5 : Hid (Bx w5 w1.heap.size 33 #[.int .i64 (N1 : Int), .int .i64 (N2 : Int), .slice B k d]) := HG.out.ext x5
    have Z5 : Hid (Bx w5 w.heap.size 33 #[.int .i64 0, .int .i64 0, .slice none 0 0]) := HZ.out.ext x5
    have O5 := Lib.hid (own_ext HO.out x5)
    have z5 : w1.heap.size < w5.heap.size := G5.out.lt
    clear x5
    cases hv2 : vars s.data.toList q 2 with
    | none =>
      have HN := Lib.hid (rw_no (read_no3 HV.out (rowsAt_none (rowsAt_fail HR.out hv2) _ (by show k + 1 ≤ ((N3 : Nat) : Int).toNat; omega))))
      rw [varsP_none hv2]
      clear hv2 own5
      have zc0 : w5.cell? ⟨w.heap.size, 0, none⟩ = some (.int .i64 0) := Z5.out.cell 0
      have zf0 : w5.frozen? ⟨w.heap.size, 0, none⟩ = false := Z5.out.frozen 0
      have zc1 : w5.cell? ⟨w.heap.size, 1, none⟩ = some (.int .i64 0) := Z5.out.cell 1
      have zf1 : w5.frozen? ⟨w.heap.size, 1, none⟩ = false := Z5.out.frozen 1
      have zc2 : w5.cell? ⟨w.heap.size, 2, none⟩ = some (.slice none 0 0) := Z5.out.cell 2
      have zf2 : w5.frozen? ⟨w.heap.size, 2, none⟩ = false := Z5.out.frozen 2
      go_wp2
      refine bodyPost_ret (v := .tuple #[.agg #[.int .i64 0, .int .i64 0, .slice none 0 0], .bool false]) (by simp [results, Try.results19, go_sem, zc0, zc1, zc2]) rfl ?_
      exact ⟨none, 0, 0, by rw [HN.out.1, HN.out.2.1, HN.out.2.2.2], by rw [HN.out.2.2.1]; exact World.ownsRow_nil _ _ _ _, trivial, by first | exact ((X5w.out.sc (Nat.le_refl _) _).sc (Nat.le_refl _) _).sc (Nat.le_refl _) _ | exact X5w.out⟩
    | some r2 =>
    obtain ⟨ys, q2⟩ := r2
    obtain ⟨M1, M2, rfl, hq2⟩ := vars_two HQL.out hv2
    have HQ2 := Lib.hid hq2
    have HRS := Lib.hid (rowsAt_step HR.out hv2)
    rw [(varsL_some hv2).1] at own5
    rw [(varsL_some hv2).2]
    clear hv2 hq2
    obtain ⟨gr, rfl, hgr, hgr2, hcell⟩ := own_block own5 (by omega)
    have r0 := hcell 0 _ rfl (by omega)
    have r1 := hcell 1 _ rfl (by omega)
    clear hcell own5
    have HLT := Lib.hid (show k < N3 by omega)
    have hk8 : k ≤ 8 := by have := H8.out; omega
    have hq0 : (0 : Int) ≤ (q2 : Int) := by omega
    have O5d : Hid (w5.drew.ownsRow (w1.heap.size + 1) 62 2 (.slice B k d) k (rs.flatMap Row.cells)) := own_ext O5.out ((Ext.refl' _).dr)
    have hbz : Hid (w1.heap.size + 1 ≤ w5.drew.heap.size) := z5
    clear hlt hk
    have gc0 : w5.cell? ⟨w1.heap.size, 0, none⟩ = some (.int .i64 (N1 : Int)) := G5.out.cell 0
    have gf0 : w5.frozen? ⟨w1.heap.size, 0, none⟩ = false := G5.out.frozen 0
    have gc1 : w5.cell? ⟨w1.heap.size, 1, none⟩ = some (.int .i64 (N2 : Int)) := G5.out.cell 1
    have gf1 : w5.frozen? ⟨w1.heap.size, 1, none⟩ = false := G5.out.frozen 1
    have gc2 : w5.cell? ⟨w1.heap.size, 2, none⟩ = some (.slice B k d) := G5.out.cell 2
    have gf2 : w5.frozen? ⟨w1.heap.size, 2, none⟩ = false := G5.out.frozen 2
    go_wp2
    go_region_law ((refine step_push (by rfl) (.tmp 48) (.tmp 56) _ (by rfl) (w1.heap.size + 1) 62 _ _ _ Try.underlying31 Try.infoRow rfl (by omega) B k d _ (by rfl) O5d.out [.int .i64 (M1 : Int), .int .i64 (M2 : Int)] w5.heap.size rfl (by rfl) rfl (by simp [Value.oneCell']) (by omega) (by unfold maxLen; omega) hbz.out ?_; intro A' c' w' hown' hchg'; have G6 : Hid (Bx w' w1.heap.size 33 #[.int .i64 (N1 : Int), .int .i64 (N2 : Int), .slice B k d]) := (G5.out.dr).chg hchg' (fun hg => by have := (O5d.out.lt _ hg).1; omega); have y6 := G6.out.cell 2; have yf := G6.out.frozen 2; have X6 := Lib.hid (hchg'.ext (X5.out.dr) (fun g hg => by have := (O5d.out.lt g hg).1; omega)); have O6 := Lib.hid hown'))
    all_goals
      go_wp2
      go_roundw
      case rel => exact ⟨k + 1, q2, rs ++ [⟨(M1 : Int), (M2 : Int)⟩], A', c', by have := HLT.out; omega, by go_num, rfl, HQ2.out, HRS.out, own_chg (by rw [List.flatMap_append]; exact O6.out) ((Chg.refl (fun g => g = w1.heap.size) _).sc rfl _) (fun g hg q => by have h1 := (O6.out.lt g hg).1; have q2 : g = w1.heap.size := q; omega), X6.out.sc (Nat.le_refl _) _, (G6.out.set_ 2 _).cast rfl⟩
      case measure => have := HLT.out; simp [intOf]; omega

end Go.Proofs.Ytbclkgjjmpipfaa
