/- ReadWrote of program and reference; the contract of laws.FnExactReadWrote. No condition. -/
import Derived.Test.YtbclkgjjmpipfaaRwP
namespace Go.Proofs.Ytbclkgjjmpipfaa
open Go.RowKit Go.Deep

theorem head_no {L : List UInt8} (h : rvK L = 0 ∨ rvK (L.drop (rvK L)) = 0 ∨ rvK (L.drop (rvK L + rvK (L.drop (rvK L)))) = 0) : vars L 0 3 = none := by
  by_cases h1 : rvK L = 0
  · simp [vars, h1]
  · by_cases h2 : rvK (L.drop (rvK L)) = 0
    · simp [vars, h1, h2]
    · have h3 : rvK (L.drop (rvK L + rvK (L.drop (rvK L)))) = 0 := by
        rcases h with h | h | h
        · exact (h1 h).elim
        · exact (h2 h).elim
        · exact h
      simp [vars, h1, h2, h3]
theorem head_yes {L : List UInt8} (h1 : ¬ rvK L = 0) (h2 : ¬ rvK (L.drop (rvK L)) = 0) (h3 : ¬ rvK (L.drop (rvK L + rvK (L.drop (rvK L)))) = 0) :
    vars L 0 3 = some ([((rvN L : Nat) : Int), ((rvN (L.drop (rvK L)) : Nat) : Int), ((rvN (L.drop (rvK L + rvK (L.drop (rvK L)))) : Nat) : Int)], rvK L + rvK (L.drop (rvK L)) + rvK (L.drop (rvK L + rvK (L.drop (rvK L))))) := by
  simp [vars, h1, h2, h3]
theorem two_no {L : List UInt8} {q : Nat} (h : rvK (L.drop q) = 0 ∨ rvK (L.drop (q + rvK (L.drop q))) = 0) : vars L q 2 = none := by
  by_cases h1 : rvK (L.drop q) = 0
  · simp [vars, h1]
  · have h2 := h.resolve_left h1
    simp [vars, h1, h2]
theorem two_yes {L : List UInt8} {q : Nat} (h1 : ¬ rvK (L.drop q) = 0) (h2 : ¬ rvK (L.drop (q + rvK (L.drop q))) = 0) :
    vars L q 2 = some ([((rvN (L.drop q) : Nat) : Int), ((rvN (L.drop (q + rvK (L.drop q))) : Nat) : Int)], q + rvK (L.drop q) + rvK (L.drop (q + rvK (L.drop q)))) := by
  simp [vars, h1, h2]
theorem nil_toList : (⟨#[]⟩ : ByteArray).toList = [] := by rw [ByteArray.toList_eq]
theorem next_list {t : ByteArray} {L : List UInt8} {q k : Nat} (h : t.data.toList = L.drop q) : (t.extract k t.size).data.toList = L.drop (q + k) := by
  rw [ext_drop, h, List.drop_drop]
theorem size_list {t : ByteArray} {L : List UInt8} {q : Nat} (h : t.data.toList = L.drop q) : t.size ≤ L.length := by
  have e := congrArg List.length h
  rw [List.length_drop] at e
  have e2 : t.data.toList.length = t.size := by simp
  omega

set_option maxHeartbeats 8000000 in
theorem impl_ReadWrote (s : ByteArray) (hs : s.size ≤ 1099511627776) (w : World) :
    Calls Try.prog 20 #[.string s] w fun e w' => ∃ B m d, e = .returned (.tuple #[.agg #[.int .i64 (rwA s), .int .i64 (rwB s), .slice B m d], .bool (rwOk s)]) ∧ w'.ownsRow w.heap.size 62 2 (.slice B m d) m ((rwR s).flatMap Row.cells) ∧ Hid True ∧ Ext w w' := by
  have HS := Lib.hid hs
  have HSL : Hid (s.data.toList.length = s.size) := by show _ = _; simp
  have HX0 := Lib.hid ((Ext.refl' w).al (.cells #[.int .i64 0, .int .i64 0, .slice none 0 0] 33))
  have HB0 : Hid (Bx (w.alloc (.cells #[.int .i64 0, .int .i64 0, .slice none 0 0] 33)) w.heap.size 33 #[.int .i64 0, .int .i64 0, .slice none 0 0]) := Bx.new' _ _ _ rfl
  clear hs
  go_enter Try.func20, Try.ntmps20
  go_wp2_with fail
  refine (taken_any s HS.out _).mono ?_
  rintro e w1 ⟨rfl, x1⟩
  have E1 := Lib.hid (ext_drop s (rvK s.data.toList))
  have L1 : Hid ((s.extract (rvK s.data.toList) s.size).size ≤ 1099511627776) := by have h := size_list E1.out; rw [HSL.out] at h; exact Nat.le_trans h HS.out
  generalize s.extract (rvK s.data.toList) s.size = t1 at E1 L1
  go_wp2_with fail
  refine (taken_any t1 L1.out _).mono ?_
  rintro e w2 ⟨rfl, x2⟩
  have E2 := Lib.hid (next_list (k := rvK t1.data.toList) E1.out)
  have L2 : Hid ((t1.extract (rvK t1.data.toList) t1.size).size ≤ 1099511627776) := by have h := size_list E2.out; rw [HSL.out] at h; exact Nat.le_trans h HS.out
  generalize t1.extract (rvK t1.data.toList) t1.size = t2 at E2 L2
  go_wp2_with fail
  refine (taken_any t2 L2.out _).mono ?_
  rintro e w3 ⟨rfl, x3⟩
  have E3 := Lib.hid (next_list (k := rvK t2.data.toList) E2.out)
  have L3 : Hid ((t2.extract (rvK t2.data.toList) t2.size).size ≤ 1099511627776) := by have h := size_list E3.out; rw [HSL.out] at h; exact Nat.le_trans h HS.out
  generalize t2.extract (rvK t2.data.toList) t2.size = t3 at E3 L3
  rw [E2.out, E1.out]
  rw [E2.out, E1.out] at E3
  have X3 := Lib.hid (HX0.out.tr (x1.tr (x2.tr x3)))
  have B3 : Hid (Bx w3 w.heap.size 33 #[.int .i64 0, .int .i64 0, .slice none 0 0]) := HB0.out.ext (x1.tr (x2.tr x3))
  have z3 : w.heap.size < w3.heap.size := B3.out.lt
  clear x1 x2 x3
  have HH := Lib.hid (head_no (L := s.data.toList))
  have HHY := Lib.hid (head_yes (L := s.data.toList))
  have n8 := Lib.hid (rvN_le (s.data.toList.drop (rvK s.data.toList + rvK (s.data.toList.drop (rvK s.data.toList)))))
  generalize hp2 : rvK s.data.toList + rvK (s.data.toList.drop (rvK s.data.toList)) = p2 at HH HHY n8 E3
  generalize rvK (s.data.toList.drop p2) = k3 at HH HHY E3
  generalize rvN (s.data.toList.drop p2) = N3 at HHY n8
  generalize rvK (s.data.toList.drop (rvK s.data.toList)) = k2 at HH HHY hp2
  generalize rvN (s.data.toList.drop (rvK s.data.toList)) = N2 at HHY
  have HSE : Hid (¬ rvK s.data.toList = 0 → ¬ s = ⟨#[]⟩) := fun h e => h (by have h2 := rvK_le s.data.toList; rw [e] at h2 ⊢; simpa using h2)
  generalize rvK s.data.toList = k1 at HH HHY hp2 HSE
  generalize rvN s.data.toList = N1 at HHY
  have HP2 := Lib.hid hp2
  clear hp2
  by_cases h1 : k1 = 0
  · have HN := Lib.hid (rw_no (read_no1 (HH.out (.inl h1))))
    subst h1
    have zc0 : w3.cell? ⟨w.heap.size, 0, none⟩ = some (.int .i64 0) := B3.out.cell 0
    have zf0 : w3.frozen? ⟨w.heap.size, 0, none⟩ = false := B3.out.frozen 0
    have zc1 : w3.cell? ⟨w.heap.size, 1, none⟩ = some (.int .i64 0) := B3.out.cell 1
    have zf1 : w3.frozen? ⟨w.heap.size, 1, none⟩ = false := B3.out.frozen 1
    have zc2 : w3.cell? ⟨w.heap.size, 2, none⟩ = some (.slice none 0 0) := B3.out.cell 2
    have zf2 : w3.frozen? ⟨w.heap.size, 2, none⟩ = false := B3.out.frozen 2
    go_wp2
    refine bodyPost_ret (v := .tuple #[.agg #[.int .i64 0, .int .i64 0, .slice none 0 0], .bool false]) (by simp [results, Try.results20, go_sem, zc0, zc1, zc2]) rfl ?_
    exact ⟨none, 0, 0, by rw [HN.out.1, HN.out.2.1, HN.out.2.2.2], by rw [HN.out.2.2.1]; exact World.ownsRow_nil _ _ _ _, trivial, by first | exact ((X3.out.sc (Nat.le_refl _) _).sc (Nat.le_refl _) _).sc (Nat.le_refl _) _ | exact X3.out⟩
  by_cases h2 : k2 = 0
  · have HN := Lib.hid (rw_no (read_no1 (HH.out (.inr (.inl h2)))))
    have d1 : 0 < k1 := by omega
    subst h2
    clear h1
    have zc0 : w3.cell? ⟨w.heap.size, 0, none⟩ = some (.int .i64 0) := B3.out.cell 0
    have zf0 : w3.frozen? ⟨w.heap.size, 0, none⟩ = false := B3.out.frozen 0
    have zc1 : w3.cell? ⟨w.heap.size, 1, none⟩ = some (.int .i64 0) := B3.out.cell 1
    have zf1 : w3.frozen? ⟨w.heap.size, 1, none⟩ = false := B3.out.frozen 1
    have zc2 : w3.cell? ⟨w.heap.size, 2, none⟩ = some (.slice none 0 0) := B3.out.cell 2
    have zf2 : w3.frozen? ⟨w.heap.size, 2, none⟩ = false := B3.out.frozen 2
    go_wp2
    refine bodyPost_ret (v := .tuple #[.agg #[.int .i64 0, .int .i64 0, .slice none 0 0], .bool false]) (by simp [results, Try.results20, go_sem, zc0, zc1, zc2]) rfl ?_
    exact ⟨none, 0, 0, by rw [HN.out.1, HN.out.2.1, HN.out.2.2.2], by rw [HN.out.2.2.1]; exact World.ownsRow_nil _ _ _ _, trivial, by first | exact ((X3.out.sc (Nat.le_refl _) _).sc (Nat.le_refl _) _).sc (Nat.le_refl _) _ | exact X3.out⟩
  by_cases h3 : k3 = 0
  · have HN := Lib.hid (rw_no (read_no1 (HH.out (.inr (.inr h3)))))
    have d1 : 0 < k1 := by omega
    have d2 : 0 < k2 := by omega
    subst h3
    clear h1 h2
    have zc0 : w3.cell? ⟨w.heap.size, 0, none⟩ = some (.int .i64 0) := B3.out.cell 0
    have zf0 : w3.frozen? ⟨w.heap.size, 0, none⟩ = false := B3.out.frozen 0
    have zc1 : w3.cell? ⟨w.heap.size, 1, none⟩ = some (.int .i64 0) := B3.out.cell 1
    have zf1 : w3.frozen? ⟨w.heap.size, 1, none⟩ = false := B3.out.frozen 1
    have zc2 : w3.cell? ⟨w.heap.size, 2, none⟩ = some (.slice none 0 0) := B3.out.cell 2
    have zf2 : w3.frozen? ⟨w.heap.size, 2, none⟩ = false := B3.out.frozen 2
    go_wp2
    refine bodyPost_ret (v := .tuple #[.agg #[.int .i64 0, .int .i64 0, .slice none 0 0], .bool false]) (by simp [results, Try.results20, go_sem, zc0, zc1, zc2]) rfl ?_
    exact ⟨none, 0, 0, by rw [HN.out.1, HN.out.2.1, HN.out.2.2.2], by rw [HN.out.2.2.1]; exact World.ownsRow_nil _ _ _ _, trivial, by first | exact ((X3.out.sc (Nat.le_refl _) _).sc (Nat.le_refl _) _).sc (Nat.le_refl _) _ | exact X3.out⟩
  have HV := Lib.hid (HHY.out h1 h2 h3)
  have HNE := Lib.hid (HSE.out h1)
  have d1 : 0 < k1 := by omega
  have d2 : 0 < k2 := by omega
  have d3 : 0 < k3 := by omega
  clear h1 h2 h3
  by_cases h8 : (N3 : Int) ≤ 8
  rotate_left
  · have HN := Lib.hid (rw_no (read_no2 HV.out h8))
    have zc0 : w3.cell? ⟨w.heap.size, 0, none⟩ = some (.int .i64 0) := B3.out.cell 0
    have zf0 : w3.frozen? ⟨w.heap.size, 0, none⟩ = false := B3.out.frozen 0
    have zc1 : w3.cell? ⟨w.heap.size, 1, none⟩ = some (.int .i64 0) := B3.out.cell 1
    have zf1 : w3.frozen? ⟨w.heap.size, 1, none⟩ = false := B3.out.frozen 1
    have zc2 : w3.cell? ⟨w.heap.size, 2, none⟩ = some (.slice none 0 0) := B3.out.cell 2
    have zf2 : w3.frozen? ⟨w.heap.size, 2, none⟩ = false := B3.out.frozen 2
    go_wp2
    refine bodyPost_ret (v := .tuple #[.agg #[.int .i64 0, .int .i64 0, .slice none 0 0], .bool false]) (by simp [results, Try.results20, go_sem, zc0, zc1, zc2]) rfl ?_
    exact ⟨none, 0, 0, by rw [HN.out.1, HN.out.2.1, HN.out.2.2.2], by rw [HN.out.2.2.1]; exact World.ownsRow_nil _ _ _ _, trivial, by first | exact ((X3.out.sc (Nat.le_refl _) _).sc (Nat.le_refl _) _).sc (Nat.le_refl _) _ | exact X3.out⟩
  have H8 : Hid (N3 ≤ 8) := by show N3 ≤ 8; omega
  have hb0 : Hid (Bx (w3.alloc (.cells #[.int .i64 (N1 : Int), .int .i64 (N2 : Int), .slice none 0 0] 33)) w.heap.size 33 #[.int .i64 0, .int .i64 0, .slice none 0 0]) := B3.out.al _
  have hbG : Hid (Bx (w3.alloc (.cells #[.int .i64 (N1 : Int), .int .i64 (N2 : Int), .slice none 0 0] 33)) w3.heap.size 33 #[.int .i64 (N1 : Int), .int .i64 (N2 : Int), .slice none 0 0]) := Bx.new' _ _ _ rfl
  go_wp2
  clear d1 d2 d3
  go_loopw [5, 55] (fun u i wr => ∃ (k q : Nat) (t : ByteArray) (rs : List Row) (B : Option Addr) (d : Nat), k ≤ N3 ∧ i = .int .i64 k ∧ u = .string t ∧ t.data.toList = s.data.toList.drop q ∧ rowsAt s.data.toList (p2 + k3) k = some (rs, q) ∧ Hid (wr.ownsRow (w3.heap.size + 1) 62 2 (.slice B k d) k (rs.flatMap Row.cells)) ∧ Ext w wr ∧ Hid (Bx wr w3.heap.size 33 #[.int .i64 (N1 : Int), .int .i64 (N2 : Int), .slice B k d]) ∧ Hid (Bx wr w.heap.size 33 #[.int .i64 0, .int .i64 0, .slice none 0 0])) (fun _ i _ => N3 - (intOf i).toNat)
  case atStart => exact ⟨0, p2 + k3, t3, [], none, 0, Nat.zero_le _, rfl, rfl, E3.out, rfl, World.ownsRow_nil _ _ _ _, X3.out.al _, hbG, hb0⟩
  case round =>
    obtain ⟨k, q, t, rs, B, d, hk, rfl, rfl, ht, hr, HO, hx, HG, HZ⟩ := hrel
    have HT := Lib.hid ht
    have HR := Lib.hid hr
    have HX := Lib.hid hx
    have zg : w3.heap.size < wr.heap.size := HG.out.lt
    clear ht hr hx
    by_cases hlt : (k : Int) < (N3 : Int)
    rotate_left
    · obtain rfl : k = N3 := by omega
      have qs : (s.toList == (⟨#[]⟩ : ByteArray).toList) = false := str_other HNE.out
      have qs2 : (s.toList == []) = false := by have h := qs; rw [nil_toList] at h; exact h
      have qs3 : s.toList.isEmpty = false := by have h := qs2; cases hh : s.toList with
        | nil => rw [hh] at h; simp at h
        | cons a l => rfl
      have gc0 : wr.cell? ⟨w3.heap.size, 0, none⟩ = some (.int .i64 (N1 : Int)) := HG.out.cell 0
      have gf0 : wr.frozen? ⟨w3.heap.size, 0, none⟩ = false := HG.out.frozen 0
      have gc1 : wr.cell? ⟨w3.heap.size, 1, none⟩ = some (.int .i64 (N2 : Int)) := HG.out.cell 1
      have gf1 : wr.frozen? ⟨w3.heap.size, 1, none⟩ = false := HG.out.frozen 1
      have gc2 : wr.cell? ⟨w3.heap.size, 2, none⟩ = some (.slice B k d) := HG.out.cell 2
      have gf2 : wr.frozen? ⟨w3.heap.size, 2, none⟩ = false := HG.out.frozen 2
      have hlt' : ¬ (k : Int) < (k : Int) := hlt
      clear hlt
      go_wp2_with fail
      refine (impl_ShowWrote _ _ _ _ _ rs _ _ (ownSl HO.out) (by have := H8.out; omega)).mono ?_
      rintro e w4 ⟨rfl, x4⟩
      have X4 := Lib.hid (HX.out.tr x4)
      have G4 : Hid (Bx w4 w3.heap.size 33 #[.int .i64 (N1 : Int), .int .i64 (N2 : Int), .slice B k d]) := HG.out.ext x4
      have Z4 : Hid (Bx w4 w.heap.size 33 #[.int .i64 0, .int .i64 0, .slice none 0 0]) := HZ.out.ext x4
      have O4 := Lib.hid (own_ext HO.out x4)
      clear x4 gc0 gf0 gc1 gf1 gc2 gf2 qs qs2 qs3
      have z4 : w3.heap.size < w4.heap.size := G4.out.lt
      by_cases hsh : showOf (N1 : Int) (N2 : Int) rs = s
      rotate_left
      · have HN := Lib.hid (rw_no (read_no4 HV.out HR.out hsh))
        have qe : ((showOf (N1 : Int) (N2 : Int) rs).toList == s.toList) = false := str_other hsh
        clear hsh
        have zc0 : w4.cell? ⟨w.heap.size, 0, none⟩ = some (.int .i64 0) := Z4.out.cell 0
        have zf0 : w4.frozen? ⟨w.heap.size, 0, none⟩ = false := Z4.out.frozen 0
        have zc1 : w4.cell? ⟨w.heap.size, 1, none⟩ = some (.int .i64 0) := Z4.out.cell 1
        have zf1 : w4.frozen? ⟨w.heap.size, 1, none⟩ = false := Z4.out.frozen 1
        have zc2 : w4.cell? ⟨w.heap.size, 2, none⟩ = some (.slice none 0 0) := Z4.out.cell 2
        have zf2 : w4.frozen? ⟨w.heap.size, 2, none⟩ = false := Z4.out.frozen 2
        go_wp2
        refine bodyPost_ret (v := .tuple #[.agg #[.int .i64 0, .int .i64 0, .slice none 0 0], .bool false]) (by simp [results, Try.results20, go_sem, zc0, zc1, zc2]) rfl ?_
        exact ⟨none, 0, 0, by rw [HN.out.1, HN.out.2.1, HN.out.2.2.2], by rw [HN.out.2.2.1]; exact World.ownsRow_nil _ _ _ _, trivial, by first | exact ((X4.out.sc (Nat.le_refl _) _).sc (Nat.le_refl _) _).sc (Nat.le_refl _) _ | exact X4.out⟩
      have HY := Lib.hid (rw_yes (read_yes HV.out (by have := H8.out; show (k : Int) ≤ 8; omega) HR.out hsh))
      have qe : ((showOf (N1 : Int) (N2 : Int) rs).toList == s.toList) = true := by rw [hsh]; exact str_same _
      clear hsh
      have gc0 : w4.cell? ⟨w3.heap.size, 0, none⟩ = some (.int .i64 (N1 : Int)) := G4.out.cell 0
      have gf0 : w4.frozen? ⟨w3.heap.size, 0, none⟩ = false := G4.out.frozen 0
      have gc1 : w4.cell? ⟨w3.heap.size, 1, none⟩ = some (.int .i64 (N2 : Int)) := G4.out.cell 1
      have gf1 : w4.frozen? ⟨w3.heap.size, 1, none⟩ = false := G4.out.frozen 1
      have gc2 : w4.cell? ⟨w3.heap.size, 2, none⟩ = some (.slice B k d) := G4.out.cell 2
      have gf2 : w4.frozen? ⟨w3.heap.size, 2, none⟩ = false := G4.out.frozen 2
      have zc0 : w4.cell? ⟨w.heap.size, 0, none⟩ = some (.int .i64 0) := Z4.out.cell 0
      have zf0 : w4.frozen? ⟨w.heap.size, 0, none⟩ = false := Z4.out.frozen 0
      have zc1 : w4.cell? ⟨w.heap.size, 1, none⟩ = some (.int .i64 0) := Z4.out.cell 1
      have zf1 : w4.frozen? ⟨w.heap.size, 1, none⟩ = false := Z4.out.frozen 1
      have zc2 : w4.cell? ⟨w.heap.size, 2, none⟩ = some (.slice none 0 0) := Z4.out.cell 2
      have zf2 : w4.frozen? ⟨w.heap.size, 2, none⟩ = false := Z4.out.frozen 2
      go_wp2
      refine bodyPost_ret (v := .tuple #[.agg #[.int .i64 (N1 : Int), .int .i64 (N2 : Int), .slice B k d], .bool true]) (by simp [results, Try.results20, go_sem, zc0, zc1, zc2]) rfl ?_
      refine ⟨B, k, d, by rw [HY.out.1, HY.out.2.1, HY.out.2.2.2]; rfl, ?_, trivial, (((X4.out).sc (Nat.le_refl _) _).sc (Nat.le_refl _) _).sc (Nat.le_refl _) _⟩
      rw [HY.out.2.2.1]
      exact own_base (own_chg O4.out ((((Chg.refl (fun g => g = w.heap.size) _).sc rfl _).sc rfl _).sc rfl _) (fun g hg q => by have h1 := (O4.out.lt g hg).1; have q2 : g = w.heap.size := q; omega)) (by omega)
    have LT : Hid (t.size ≤ 1099511627776) := by have h := size_list HT.out; rw [HSL.out] at h; exact Nat.le_trans h HS.out
    go_wp2_with fail
    refine (taken_any t LT.out _).mono ?_
    rintro e w4 ⟨rfl, x4⟩
    have E4 := Lib.hid (next_list (k := rvK t.data.toList) HT.out)
    have L4 : Hid ((t.extract (rvK t.data.toList) t.size).size ≤ 1099511627776) := by have h := size_list E4.out; rw [HSL.out] at h; exact Nat.le_trans h HS.out
    generalize t.extract (rvK t.data.toList) t.size = t4 at E4 L4
    go_wp2_with fail
    refine (taken_any t4 L4.out _).mono ?_
    rintro e w5 ⟨rfl, x5⟩
    have E5 := Lib.hid (next_list (k := rvK t4.data.toList) E4.out)
    generalize t4.extract (rvK t4.data.toList) t4.size = t5 at E5
    rw [E4.out, HT.out]
    rw [E4.out, HT.out] at E5
    replace x5 := x4.tr x5
    have X5 := Lib.hid (HX.out.tr x5)
    have G5 : Hid (Bx w5 w3.heap.size 33 #[.int .i64 (N1 : Int), .int .i64 (N2 : Int), .slice B k d]) := HG.out.ext x5
    have Z5 : Hid (Bx w5 w.heap.size 33 #[.int .i64 0, .int .i64 0, .slice none 0 0]) := HZ.out.ext x5
    have O5 := Lib.hid (own_ext HO.out x5)
    have z5 : w3.heap.size < w5.heap.size := G5.out.lt
    clear x4 x5 zg
    have HNO := Lib.hid (two_no (L := s.data.toList) (q := q))
    have HYE := Lib.hid (two_yes (L := s.data.toList) (q := q))
    generalize rvK (s.data.toList.drop (q + rvK (s.data.toList.drop q))) = k5 at HNO HYE E5
    generalize rvN (s.data.toList.drop (q + rvK (s.data.toList.drop q))) = M2 at HYE
    generalize rvK (s.data.toList.drop q) = k4 at HNO HYE E5
    generalize rvN (s.data.toList.drop q) = M1 at HYE
    by_cases h4 : k4 = 0
    · have HN := Lib.hid (rw_no (read_no3 HV.out (rowsAt_none (rowsAt_fail HR.out (HNO.out (.inl h4))) _ (by show k + 1 ≤ ((N3 : Nat) : Int).toNat; omega))))
      subst h4
      have zc0 : w5.cell? ⟨w.heap.size, 0, none⟩ = some (.int .i64 0) := Z5.out.cell 0
      have zf0 : w5.frozen? ⟨w.heap.size, 0, none⟩ = false := Z5.out.frozen 0
      have zc1 : w5.cell? ⟨w.heap.size, 1, none⟩ = some (.int .i64 0) := Z5.out.cell 1
      have zf1 : w5.frozen? ⟨w.heap.size, 1, none⟩ = false := Z5.out.frozen 1
      have zc2 : w5.cell? ⟨w.heap.size, 2, none⟩ = some (.slice none 0 0) := Z5.out.cell 2
      have zf2 : w5.frozen? ⟨w.heap.size, 2, none⟩ = false := Z5.out.frozen 2
      go_wp2
      refine bodyPost_ret (v := .tuple #[.agg #[.int .i64 0, .int .i64 0, .slice none 0 0], .bool false]) (by simp [results, Try.results20, go_sem, zc0, zc1, zc2]) rfl ?_
      exact ⟨none, 0, 0, by rw [HN.out.1, HN.out.2.1, HN.out.2.2.2], by rw [HN.out.2.2.1]; exact World.ownsRow_nil _ _ _ _, trivial, by first | exact ((X5.out.sc (Nat.le_refl _) _).sc (Nat.le_refl _) _).sc (Nat.le_refl _) _ | exact X5.out⟩
    by_cases h5 : k5 = 0
    · have HN := Lib.hid (rw_no (read_no3 HV.out (rowsAt_none (rowsAt_fail HR.out (HNO.out (.inr h5))) _ (by show k + 1 ≤ ((N3 : Nat) : Int).toNat; omega))))
      have d4 : 0 < k4 := by omega
      subst h5
      clear h4
      have zc0 : w5.cell? ⟨w.heap.size, 0, none⟩ = some (.int .i64 0) := Z5.out.cell 0
      have zf0 : w5.frozen? ⟨w.heap.size, 0, none⟩ = false := Z5.out.frozen 0
      have zc1 : w5.cell? ⟨w.heap.size, 1, none⟩ = some (.int .i64 0) := Z5.out.cell 1
      have zf1 : w5.frozen? ⟨w.heap.size, 1, none⟩ = false := Z5.out.frozen 1
      have zc2 : w5.cell? ⟨w.heap.size, 2, none⟩ = some (.slice none 0 0) := Z5.out.cell 2
      have zf2 : w5.frozen? ⟨w.heap.size, 2, none⟩ = false := Z5.out.frozen 2
      go_wp2
      refine bodyPost_ret (v := .tuple #[.agg #[.int .i64 0, .int .i64 0, .slice none 0 0], .bool false]) (by simp [results, Try.results20, go_sem, zc0, zc1, zc2]) rfl ?_
      exact ⟨none, 0, 0, by rw [HN.out.1, HN.out.2.1, HN.out.2.2.2], by rw [HN.out.2.2.1]; exact World.ownsRow_nil _ _ _ _, trivial, by first | exact ((X5.out.sc (Nat.le_refl _) _).sc (Nat.le_refl _) _).sc (Nat.le_refl _) _ | exact X5.out⟩
    have HRS := Lib.hid (rowsAt_step HR.out (HYE.out h4 h5))
    have d4 : 0 < k4 := by omega
    have d5 : 0 < k5 := by omega
    have HLT := Lib.hid (show k < N3 by omega)
    have hk8 : k ≤ 8 := by have := H8.out; omega
    clear h4 h5 hlt hk
    have gc0 : w5.cell? ⟨w3.heap.size, 0, none⟩ = some (.int .i64 (N1 : Int)) := G5.out.cell 0
    have gf0 : w5.frozen? ⟨w3.heap.size, 0, none⟩ = false := G5.out.frozen 0
    have gc1 : w5.cell? ⟨w3.heap.size, 1, none⟩ = some (.int .i64 (N2 : Int)) := G5.out.cell 1
    have gf1 : w5.frozen? ⟨w3.heap.size, 1, none⟩ = false := G5.out.frozen 1
    have gc2 : w5.cell? ⟨w3.heap.size, 2, none⟩ = some (.slice B k d) := G5.out.cell 2
    have gf2 : w5.frozen? ⟨w3.heap.size, 2, none⟩ = false := G5.out.frozen 2
    go_wp2_with (at_builtin; refine wp_push rfl (.tmp 77) (.tmp 81) _ rfl (w3.heap.size + 1) 62 _ _ _ Try.underlying31 Try.infoRow rfl (by omega) B k d _ rfl O5.out [.int .i64 (M1 : Int), .int .i64 (M2 : Int)] _ (by simp) rfl rfl (by simp [Value.oneCell']) (by omega) (by unfold maxLen; omega) (by omega) ?_; intro A' c' w' hown' hchg' hat'; have G6 : Hid (Bx w' w3.heap.size 33 #[.int .i64 (N1 : Int), .int .i64 (N2 : Int), .slice B k d]) := G5.out.chg hchg' (fun hg => by have := (O5.out.lt _ hg).1; omega); have y2 := G6.out.cell 2; have yf := G6.out.frozen 2; have Z6 : Hid (Bx w' w.heap.size 33 #[.int .i64 0, .int .i64 0, .slice none 0 0]) := Z5.out.chg hchg' (fun hg => by have := (O5.out.lt _ hg).1; omega); have X6 := Lib.hid (hchg'.ext X5.out (fun g hg => by have := (O5.out.lt g hg).1; omega)); have O6 := Lib.hid hown')
    go_roundw
    case rel => exact ⟨k + 1, q + k4 + k5, t5, rs ++ [⟨(M1 : Int), (M2 : Int)⟩], A', c', by have := HLT.out; omega, by go_num, rfl, E5.out, HRS.out, own_chg (by rw [List.flatMap_append]; exact O6.out) ((Chg.refl (fun g => g = w3.heap.size) _).sc rfl _) (fun g hg q => by have h1 := (O6.out.lt g hg).1; have q2 : g = w3.heap.size := q; omega), X6.out.sc (by show w.heap.size ≤ w3.heap.size; omega) _, (G6.out.set_ 2 _).cast rfl, Z6.out.far (by show w.heap.size ≠ w3.heap.size; omega) _⟩
    case measure => have := HLT.out; simp [intOf]; omega

end Go.Proofs.Ytbclkgjjmpipfaa
