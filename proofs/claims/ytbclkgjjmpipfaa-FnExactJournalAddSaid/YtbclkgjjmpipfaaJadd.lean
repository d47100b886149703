/- JournalAdd of program and reference; the contract of laws.FnExactJournalAdd. No condition. -/
import Derived.Test.YtbclkgjjmpipfaaJst
import Derived.Test.YtbclkgjjmpipfaaQC
namespace Go.Proofs.Ytbclkgjjmpipfaa
open Go.RowKit Go.Deep

def AddBad (s : ByteArray) (f0 f1 : Int) (rs : List Row) : Prop := showOf f0 f1 rs = ⟨#[]⟩ ∨ (jTo s 200).1.length = 200 ∨ ((jTo s 200).1 ≠ [] ∧ f0 ≤ lastA (jTo s 200).1)
noncomputable def addS (s : ByteArray) (f0 f1 : Int) (rs : List Row) : ByteArray := if dec (AddBad s f0 f1 rs) = true then s else s.extract 0 (jTo s 200).2 ++ frameOf (showOf f0 f1 rs)
noncomputable def addOk (s : ByteArray) (f0 f1 : Int) (rs : List Row) : Bool := !dec (AddBad s f0 f1 rs)
theorem add_no {s : ByteArray} {f0 f1 : Int} {rs : List Row} (h : AddBad s f0 f1 rs) : addS s f0 f1 rs = s ∧ addOk s f0 f1 rs = false := by
  unfold addS addOk
  rw [dec_yes h]
  exact ⟨rfl, rfl⟩
theorem add_yes {s : ByteArray} {f0 f1 : Int} {rs : List Row} (h : ¬ AddBad s f0 f1 rs) : addS s f0 f1 rs = s.extract 0 (jTo s 200).2 ++ frameOf (showOf f0 f1 rs) ∧ addOk s f0 f1 rs = true := by
  unfold addS addOk
  rw [dec_no h]
  exact ⟨rfl, rfl⟩
theorem jTo_at (s : ByteArray) (m : Nat) : (jTo s m).2 ≤ s.size := by
  induction m with
  | zero => exact Nat.zero_le _
  | succ m ih =>
    unfold jTo
    split
    · exact ih
    · have h := unfN_le (s.extract (jTo s m).2 s.size)
      rw [ByteArray.size_extract] at h
      show (jTo s m).2 + _ ≤ _
      omega
theorem frameOf_size (s : ByteArray) : (frameOf s).size ≤ 140 := by
  unfold frameOf
  split
  · have h := varOf_size (s.size : Int)
    rw [size_append, fixed4_size, frameBody, size_append]
    omega
  · exact Nat.zero_le _
theorem not_empty {s : ByteArray} (h : ¬ s = ⟨#[]⟩) : (s.toList == (⟨#[]⟩ : ByteArray).toList) = false ∧ (s.toList == []) = false ∧ s.toList.isEmpty = false := by
  have h1 := str_other h
  have h2 : (s.toList == []) = false := by have h := h1; rw [nil_toList] at h; exact h
  refine ⟨h1, h2, ?_⟩
  cases hh : s.toList with
  | nil => rw [hh] at h2; simp at h2
  | cons a l => rfl

set_option maxHeartbeats 8000000 in
theorem impl_JournalAdd (s : ByteArray) (hss : s.size ≤ 1099511627776) (f0 f1 : Int) (A : Option Addr) (n c : Nat) (l : List Row) (w : World) (S : Nat → Prop) (hs : Sl w S 2 A n (l.flatMap Row.cells)) (hm : n ≤ 1048576) :
    Calls Try.prog 29 #[.string s, .agg #[.int .i64 f0, .int .i64 f1, .slice A n c]] w fun e w' => e = .returned (.tuple #[.string (addS s f0 f1 l), .bool (addOk s f0 f1 l)]) ∧ Ext w w' := by
  have HX0 := Lib.hid ((Ext.refl' w).al (.cells #[.int .i64 f0, .int .i64 f1, .slice A n c] 33))
  have HB0 : Hid (Bx (w.alloc (.cells #[.int .i64 f0, .int .i64 f1, .slice A n c] 33)) w.heap.size 33 #[.int .i64 f0, .int .i64 f1, .slice A n c]) := Bx.new' _ _ _ rfl
  go_enter Try.func29, Try.ntmps29
  go_wp2_with fail
  refine (impl_ShowWrote _ _ _ _ _ l _ S (hs.ext HX0.out) hm).mono ?_
  rintro e w1 ⟨rfl, x1⟩
  have X1 := Lib.hid (HX0.out.tr x1)
  have B1 := Lib.hid (HB0.out.ext x1)
  clear x1 hs
  go_wp2_with fail
  refine (impl_JournalRead s hss _).mono ?_
  rintro e w3 ⟨B, K, d, es, at_, rfl, hes, hat, own3, -, x3⟩
  have X3 := Lib.hid (X1.out.tr x3)
  have B3 := Lib.hid (B1.out.ext x3)
  clear x3
  have p0 : w3.cell? ⟨w.heap.size, 0, none⟩ = some (.int .i64 f0) := B3.out.cell 0
  have p1 : w3.cell? ⟨w.heap.size, 1, none⟩ = some (.int .i64 f1) := B3.out.cell 1
  have p2 : w3.cell? ⟨w.heap.size, 2, none⟩ = some (.slice A n c) := B3.out.cell 2
  have hlen : Hid ((jTo s 200).1.length = K) := by show _ = _; rw [← hes, List.length_map]; exact es_len own3
  have HES := Lib.hid hes
  have HAT := Lib.hid hat
  have O3 := Lib.hid own3
  have hK := jTo_len s 200
  rw [hlen.out] at hK
  have hat2 := jTo_at s 200
  rw [← hat] at hat2
  have hA0 : (0 : Int) ≤ (at_ : Int) := by omega
  have hA1 : (at_ : Int) ≤ (s.size : Int) := by omega
  have hadd : ∀ w : World, (Op.stringOp .add (s.extract 0 at_) (frameOf (showOf f0 f1 l))).run Try.prog w = .ok (.string (s.extract 0 at_ ++ frameOf (showOf f0 f1 l))) w := fun w => run_string_add_sum w _ _ (by have h := frameOf_size (showOf f0 f1 l); rw [ByteArray.size_extract]; omega)
  clear hes hat own3 hat2
  by_cases hS : showOf f0 f1 l = ⟨#[]⟩
  · have HN := Lib.hid (add_no (s := s) (f0 := f0) (f1 := f1) (rs := l) (.inl hS))
    rw [hS] at hadd
    clear hadd
    rw [hS]
    go_wp2
    go_quiet (fail)
    go_wp2
    go_ret2
    exact ⟨by rw [HN.out.1, HN.out.2]; rfl, X3.out.drN _⟩
  have HSE := Lib.hid hS
  obtain ⟨e1, e2, e3⟩ := not_empty hS
  clear hS
  by_cases h200 : K = 200
  · have HN := Lib.hid (add_no (s := s) (f0 := f0) (f1 := f1) (rs := l) (.inr (.inl (by rw [hlen.out]; exact h200))))
    subst h200
    go_wp2
    go_quiet (fail)
    go_wp2
    go_ret2
    exact ⟨by rw [HN.out.1, HN.out.2]; rfl, X3.out.drN _⟩
  have hk : ((K : Int) == 200) = false := by simp; omega
  by_cases hK0 : K = 0
  · subst hK0
    have hnil : (jTo s 200).1 = [] := List.eq_nil_of_length_eq_zero hlen.out
    have HN := Lib.hid (add_yes (s := s) (f0 := f0) (f1 := f1) (rs := l) (by
      rintro (h | h | h)
      · exact HSE.out h
      · rw [hlen.out] at h; omega
      · exact h.1 hnil))
    clear hnil h200 hK
    go_wp2
    go_quiet (fail)
    go_wp2
    go_region_held3 (fun w' => Ext w w') (first | exact (X3.out.drN _).dr | exact Ext.tr ‹Ext w _› xf) (first | (go_at_call 11; refine (impl_Frame _ _).mono ?_; rintro e wv ⟨rfl, xf⟩))
    all_goals
      have XF : Hid (Ext w _) := ‹Ext w _›
      go_wp2
      go_ret2
      exact ⟨by rw [HN.out.1, HN.out.2, ← HAT.out]; rfl, XF.out⟩
  obtain ⟨j, hjk⟩ : ∃ j, K = j + 1 := ⟨K - 1, by omega⟩
  have HJK := Lib.hid hjk
  obtain ⟨x, hxj, hxa⟩ := last_at HES.out (hlen.out.trans hjk)
  have hne : ¬ (jTo s 200).1 = [] := fun h => by have h2 := hlen.out; rw [h] at h2; exact hK0 h2.symm
  obtain ⟨g, rfl⟩ : ∃ g, B = some ⟨g, 0, none⟩ := by
    rcases O3.out.2 with ⟨_, h0⟩ | ⟨g, cap, cur, hv, _⟩
    · omega
    · injection hv with h1; exact ⟨g, h1⟩
  have hcl := (entry_at O3.out hxj (by omega)).1
  rw [hxa] at hcl
  have ws1 : IntKind.i64.wrap ((K : Int) - 1) = (j : Int) := by rw [IntWalk.i64_in _ (by omega)]; omega
  have ws4 : IntKind.i64.wrap (j : Int) = (j : Int) := by rw [IntWalk.i64_in _ (by omega)]
  have ws3 : (K : Int) - 1 = (j : Int) := by omega
  have hj0 : (0 : Int) ≤ (j : Int) := by omega
  have hj1 : (j : Int) < (K : Int) := by omega
  have hgt : (0 : Int) < (K : Int) := by omega
  have hgd : decide (0 < K) = true := by simp; omega
  have HNE := Lib.hid hne
  have H200 := Lib.hid h200
  clear hxj hxa hne h200 hK hjk hK0
  by_cases hle : f0 ≤ lastA (jTo s 200).1
  · have HN := Lib.hid (add_no (s := s) (f0 := f0) (f1 := f1) (rs := l) (.inr (.inr ⟨HNE.out, hle⟩)))
    have hd : decide (f0 ≤ lastA (jTo s 200).1) = true := by simpa using hle
    go_wp2
    go_quiet (fail)
    go_wp2
    go_ret2
    exact ⟨by rw [HN.out.1, HN.out.2]; rfl, X3.out.drN _⟩
  have HN := Lib.hid (add_yes (s := s) (f0 := f0) (f1 := f1) (rs := l) (by
    rintro (h | h | h)
    · exact HSE.out h
    · rw [hlen.out] at h; exact H200.out h
    · exact hle h.2))
  have hd : decide (f0 ≤ lastA (jTo s 200).1) = false := by simpa using hle
  clear hle
  go_wp2
  go_quiet (fail)
  go_wp2
  go_region_held3 (fun w' => Ext w w') (first | exact (X3.out.drN _).dr | exact Ext.tr ‹Ext w _› xf) (first | (go_at_call 11; refine (impl_Frame _ _).mono ?_; rintro e wv ⟨rfl, xf⟩))
  all_goals
    have XF : Hid (Ext w _) := ‹Ext w _›
    go_wp2
    go_ret2
    exact ⟨by rw [HN.out.1, HN.out.2, ← HAT.out]; rfl, XF.out⟩


set_option maxHeartbeats 8000000 in
theorem spec_JournalAdd (s : ByteArray) (hss : s.size ≤ 1099511627776) (f0 f1 : Int) (A : Option Addr) (n c : Nat) (l : List Row) (w : World) (S : Nat → Prop) (hs : Sl w S 2 A n (l.flatMap Row.cells)) (hm : n ≤ 1048576) :
    Calls Try.prog 28 #[.string s, .agg #[.int .i64 f0, .int .i64 f1, .slice A n c]] w fun e w' => e = .returned (.tuple #[.string (addS s f0 f1 l), .bool (addOk s f0 f1 l)]) ∧ Ext w w' := by
  have HX0 := Lib.hid ((Ext.refl' w).al (.cells #[.int .i64 f0, .int .i64 f1, .slice A n c] 33))
  have HB0 : Hid (Bx (w.alloc (.cells #[.int .i64 f0, .int .i64 f1, .slice A n c] 33)) w.heap.size 33 #[.int .i64 f0, .int .i64 f1, .slice A n c]) := Bx.new' _ _ _ rfl
  go_enter Try.func28, Try.ntmps28
  go_wp2_with fail
  refine (spec_JournalRead s hss _).mono ?_
  rintro e w1 ⟨B, K, d, es, at_, rfl, hes, hat, own1, -, x1⟩
  have HES1 := Lib.hid hes
  have HAT1 := Lib.hid hat
  clear hes hat
  have X1 := Lib.hid (HX0.out.tr x1)
  have B1 := Lib.hid (HB0.out.ext x1)
  have SL := Lib.hid (hs.ext X1.out)
  have p0 : w1.cell? ⟨w.heap.size, 0, none⟩ = some (.int .i64 f0) := B1.out.cell 0
  have p1 : w1.cell? ⟨w.heap.size, 1, none⟩ = some (.int .i64 f1) := B1.out.cell 1
  have p2 : w1.cell? ⟨w.heap.size, 2, none⟩ = some (.slice A n c) := B1.out.cell 2
  clear x1 hs
  go_wp2_with fail
  refine (spec_ShowWrote _ _ _ _ _ l _ S SL.out hm).mono ?_
  rintro e w2 ⟨rfl, x2⟩
  clear p0 p1 p2
  go_wp2_with fail
  refine (spec_Frame _ _).mono ?_
  rintro e w3 ⟨rfl, x23⟩
  have own3 := own_ext own1 (x2.tr x23)
  have X3 := Lib.hid (X1.out.tr (x2.tr x23))
  have B3 := Lib.hid (B1.out.ext (x2.tr x23))
  have SL3 := Lib.hid (SL.out.ext (x2.tr x23))
  clear x2 x23 own1
  have hes := HES1.out
  have hat := HAT1.out
  have p0 : w3.cell? ⟨w.heap.size, 0, none⟩ = some (.int .i64 f0) := B3.out.cell 0
  have p1 : w3.cell? ⟨w.heap.size, 1, none⟩ = some (.int .i64 f1) := B3.out.cell 1
  have p2 : w3.cell? ⟨w.heap.size, 2, none⟩ = some (.slice A n c) := B3.out.cell 2
  have hlen : Hid ((jTo s 200).1.length = K) := by show _ = _; rw [← hes, List.length_map]; exact es_len own3
  have HES := Lib.hid hes
  have HAT := Lib.hid hat
  have O3 := Lib.hid own3
  have hK := jTo_len s 200
  rw [hlen.out] at hK
  have hat2 := jTo_at s 200
  rw [← hat] at hat2
  have hA0 : (0 : Int) ≤ (at_ : Int) := by omega
  have hA1 : (at_ : Int) ≤ (s.size : Int) := by omega
  have hadd : ∀ w : World, (Op.stringOp .add (s.extract 0 at_) (frameOf (showOf f0 f1 l))).run Try.prog w = .ok (.string (s.extract 0 at_ ++ frameOf (showOf f0 f1 l))) w := fun w => run_string_add_sum w _ _ (by have h := frameOf_size (showOf f0 f1 l); rw [ByteArray.size_extract]; omega)
  clear hes hat own3 hat2
  by_cases hS : showOf f0 f1 l = ⟨#[]⟩
  · have HN := Lib.hid (add_no (s := s) (f0 := f0) (f1 := f1) (rs := l) (.inl hS))
    rw [hS] at hadd
    clear hadd
    have SC : Hid (∀ w', Ext w3 w' → Calls Try.prog 15 #[.agg #[.int .i64 f0, .int .i64 f1, .slice A n c]] w' fun e w'' => e = .returned (.string ⟨#[]⟩) ∧ Ext w' w'') := fun w' x => (spec_ShowWrote _ _ _ _ _ l _ S (SL3.out.ext x) hm).mono fun e w'' h => ⟨by rw [h.1, hS], h.2⟩
    clear hS
    have KS : Hid (∀ w', Ext w3 w' → Ext w3 w' ∧ w'.cell? ⟨w.heap.size, 0, none⟩ = some (.int .i64 f0) ∧ w'.cell? ⟨w.heap.size, 1, none⟩ = some (.int .i64 f1) ∧ w'.cell? ⟨w.heap.size, 2, none⟩ = some (.slice A n c)) := fun w' x => ⟨x, x.co p0, x.co p1, x.co p2⟩
    go_wp2
    refine region_class (fun w' => Ext w3 w' ∧ w'.cell? ⟨w.heap.size, 0, none⟩ = some (.int .i64 f0) ∧ w'.cell? ⟨w.heap.size, 1, none⟩ = some (.int .i64 f1) ∧ w'.cell? ⟨w.heap.size, 2, none⟩ = some (.slice A n c)) (by kernel_rfl) (by kernel_rfl) (KS.out _ ((Ext.refl' _).dr)) ?_
    repeat (first | go_big_quiet_skip | (go_big_quiet_want; unfold Oper.quiet; apply Exists.intro; refine ⟨fun wq hq => ?_, ?_⟩; (obtain ⟨qx , q1 , q2 , q3⟩ := hq; go_simp; first | done | rfl | (go_at_call 15; exact (SC.out _ qx).mono fun e w2 h2 => ⟨h2.1, KS.out _ (qx.tr h2.2)⟩)); (try simp only [Act.put, List.setIfInBounds_toArray, List.set_cons_zero, List.set_cons_succ]); go_big_quiet_on))
    refine wpQuiet_nil ?_
    intro wq hq
    obtain ⟨qxe , qe1 , qe2 , qe3⟩ := hq
    have XE := Lib.hid qxe
    go_wp2
    go_ret2
    exact ⟨by rw [HN.out.1, HN.out.2]; rfl, X3.out.tr XE.out⟩
  have HSE := Lib.hid hS
  obtain ⟨e1, e2, e3⟩ := not_empty hS
  clear hS
  have SC : Hid (∀ w', Ext w3 w' → Calls Try.prog 15 #[.agg #[.int .i64 f0, .int .i64 f1, .slice A n c]] w' fun e w'' => e = .returned (.string (showOf f0 f1 l)) ∧ Ext w' w'') := fun w' x => (spec_ShowWrote _ _ _ _ _ l _ S (SL3.out.ext x) hm).mono fun e w'' h => ⟨by rw [h.1], h.2⟩
  by_cases h200 : K = 200
  · have HN := Lib.hid (add_no (s := s) (f0 := f0) (f1 := f1) (rs := l) (.inr (.inl (by rw [hlen.out]; exact h200))))
    subst h200
    have KS : Hid (∀ w', Ext w3 w' → Ext w3 w' ∧ w'.cell? ⟨w.heap.size, 0, none⟩ = some (.int .i64 f0) ∧ w'.cell? ⟨w.heap.size, 1, none⟩ = some (.int .i64 f1) ∧ w'.cell? ⟨w.heap.size, 2, none⟩ = some (.slice A n c)) := fun w' x => ⟨x, x.co p0, x.co p1, x.co p2⟩
    go_wp2
    refine region_class (fun w' => Ext w3 w' ∧ w'.cell? ⟨w.heap.size, 0, none⟩ = some (.int .i64 f0) ∧ w'.cell? ⟨w.heap.size, 1, none⟩ = some (.int .i64 f1) ∧ w'.cell? ⟨w.heap.size, 2, none⟩ = some (.slice A n c)) (by kernel_rfl) (by kernel_rfl) (KS.out _ ((Ext.refl' _).dr)) ?_
    repeat (first | go_big_quiet_skip | (go_big_quiet_want; unfold Oper.quiet; apply Exists.intro; refine ⟨fun wq hq => ?_, ?_⟩; (obtain ⟨qx , q1 , q2 , q3⟩ := hq; go_simp; first | done | rfl | (go_at_call 15; exact (SC.out _ qx).mono fun e w2 h2 => ⟨h2.1, KS.out _ (qx.tr h2.2)⟩)); (try simp only [Act.put, List.setIfInBounds_toArray, List.set_cons_zero, List.set_cons_succ]); go_big_quiet_on))
    refine wpQuiet_nil ?_
    intro wq hq
    obtain ⟨qxe , qe1 , qe2 , qe3⟩ := hq
    have XE := Lib.hid qxe
    go_wp2
    go_ret2
    exact ⟨by rw [HN.out.1, HN.out.2]; rfl, X3.out.tr XE.out⟩
  have hk : (decide ((200 : Int) ≤ (K : Int))) = false := by simp; omega
  by_cases hK0 : K = 0
  · subst hK0
    have hnil : (jTo s 200).1 = [] := List.eq_nil_of_length_eq_zero hlen.out
    have HN := Lib.hid (add_yes (s := s) (f0 := f0) (f1 := f1) (rs := l) (by
      rintro (h | h | h)
      · exact HSE.out h
      · rw [hlen.out] at h; omega
      · exact h.1 hnil))
    clear hnil h200 hK
    have KS : Hid (∀ w', Ext w3 w' → Ext w3 w' ∧ w'.cell? ⟨w.heap.size, 0, none⟩ = some (.int .i64 f0) ∧ w'.cell? ⟨w.heap.size, 1, none⟩ = some (.int .i64 f1) ∧ w'.cell? ⟨w.heap.size, 2, none⟩ = some (.slice A n c)) := fun w' x => ⟨x, x.co p0, x.co p1, x.co p2⟩
    go_wp2
    refine region_class (fun w' => Ext w3 w' ∧ w'.cell? ⟨w.heap.size, 0, none⟩ = some (.int .i64 f0) ∧ w'.cell? ⟨w.heap.size, 1, none⟩ = some (.int .i64 f1) ∧ w'.cell? ⟨w.heap.size, 2, none⟩ = some (.slice A n c)) (by kernel_rfl) (by kernel_rfl) (KS.out _ ((Ext.refl' _).dr)) ?_
    repeat (first | go_big_quiet_skip | (go_big_quiet_want; unfold Oper.quiet; apply Exists.intro; refine ⟨fun wq hq => ?_, ?_⟩; (obtain ⟨qx , q1 , q2 , q3⟩ := hq; go_simp; first | done | rfl | (go_at_call 15; exact (SC.out _ qx).mono fun e w2 h2 => ⟨h2.1, KS.out _ (qx.tr h2.2)⟩)); (try simp only [Act.put, List.setIfInBounds_toArray, List.set_cons_zero, List.set_cons_succ]); go_big_quiet_on))
    refine wpQuiet_nil ?_
    intro wq hq
    obtain ⟨qxe , qe1 , qe2 , qe3⟩ := hq
    have XE := Lib.hid qxe
    go_wp2
    go_ret2
    exact ⟨by rw [HN.out.1, HN.out.2, ← HAT.out]; rfl, X3.out.tr XE.out⟩
  obtain ⟨j, hjk⟩ : ∃ j, K = j + 1 := ⟨K - 1, by omega⟩
  have HJK := Lib.hid hjk
  obtain ⟨x, hxj, hxa⟩ := last_at HES.out (hlen.out.trans hjk)
  have hne : ¬ (jTo s 200).1 = [] := fun h => by have h2 := hlen.out; rw [h] at h2; exact hK0 h2.symm
  obtain ⟨g, rfl⟩ : ∃ g, B = some ⟨g, 0, none⟩ := by
    rcases O3.out.2 with ⟨_, h0⟩ | ⟨g, cap, cur, hv, _⟩
    · omega
    · injection hv with h1; exact ⟨g, h1⟩
  have hcl := (entry_at O3.out hxj (by omega)).1
  rw [hxa] at hcl
  have ws1 : IntKind.i64.wrap ((K : Int) - 1) = (j : Int) := by rw [IntWalk.i64_in _ (by omega)]; omega
  have ws4 : IntKind.i64.wrap (j : Int) = (j : Int) := by rw [IntWalk.i64_in _ (by omega)]
  have ws3 : (K : Int) - 1 = (j : Int) := by omega
  have hj0 : (0 : Int) ≤ (j : Int) := by omega
  have hj1 : (j : Int) < (K : Int) := by omega
  have hgt : (0 : Int) < (K : Int) := by omega
  have hgd : decide (0 < K) = true := by simp; omega
  have HNE := Lib.hid hne
  have H200 := Lib.hid h200
  clear hxj hxa hne h200 hK hjk hK0
  by_cases hle : f0 ≤ lastA (jTo s 200).1
  · have HN := Lib.hid (add_no (s := s) (f0 := f0) (f1 := f1) (rs := l) (.inr (.inr ⟨HNE.out, hle⟩)))
    have hd : decide (f0 ≤ lastA (jTo s 200).1) = true := by simpa using hle
    have KS : Hid (∀ w', Ext w3 w' → Ext w3 w' ∧ w'.cell? ⟨w.heap.size, 0, none⟩ = some (.int .i64 f0) ∧ w'.cell? ⟨w.heap.size, 1, none⟩ = some (.int .i64 f1) ∧ w'.cell? ⟨w.heap.size, 2, none⟩ = some (.slice A n c) ∧ w'.cell? ⟨g, j * 3, none⟩ = some (.int .i64 (lastA (jTo s 200).1))) := fun w' x => ⟨x, x.co p0, x.co p1, x.co p2, x.co hcl⟩
    go_wp2
    refine region_class (fun w' => Ext w3 w' ∧ w'.cell? ⟨w.heap.size, 0, none⟩ = some (.int .i64 f0) ∧ w'.cell? ⟨w.heap.size, 1, none⟩ = some (.int .i64 f1) ∧ w'.cell? ⟨w.heap.size, 2, none⟩ = some (.slice A n c) ∧ w'.cell? ⟨g, j * 3, none⟩ = some (.int .i64 (lastA (jTo s 200).1))) (by kernel_rfl) (by kernel_rfl) (KS.out _ ((Ext.refl' _).dr)) ?_
    repeat (first | go_big_quiet_skip | (go_big_quiet_want; unfold Oper.quiet; apply Exists.intro; refine ⟨fun wq hq => ?_, ?_⟩; (obtain ⟨qx , q1 , q2 , q3 , q4⟩ := hq; go_simp; first | done | rfl | (go_at_call 15; exact (SC.out _ qx).mono fun e w2 h2 => ⟨h2.1, KS.out _ (qx.tr h2.2)⟩)); (try simp only [Act.put, List.setIfInBounds_toArray, List.set_cons_zero, List.set_cons_succ]); go_big_quiet_on))
    refine wpQuiet_nil ?_
    intro wq hq
    obtain ⟨qxe , qe1 , qe2 , qe3 , qe4⟩ := hq
    have XE := Lib.hid qxe
    go_wp2
    go_ret2
    exact ⟨by rw [HN.out.1, HN.out.2]; rfl, X3.out.tr XE.out⟩
  have HN := Lib.hid (add_yes (s := s) (f0 := f0) (f1 := f1) (rs := l) (by
    rintro (h | h | h)
    · exact HSE.out h
    · rw [hlen.out] at h; exact H200.out h
    · exact hle h.2))
  have hd : decide (f0 ≤ lastA (jTo s 200).1) = false := by simpa using hle
  clear hle
  have KS : Hid (∀ w', Ext w3 w' → Ext w3 w' ∧ w'.cell? ⟨w.heap.size, 0, none⟩ = some (.int .i64 f0) ∧ w'.cell? ⟨w.heap.size, 1, none⟩ = some (.int .i64 f1) ∧ w'.cell? ⟨w.heap.size, 2, none⟩ = some (.slice A n c) ∧ w'.cell? ⟨g, j * 3, none⟩ = some (.int .i64 (lastA (jTo s 200).1))) := fun w' x => ⟨x, x.co p0, x.co p1, x.co p2, x.co hcl⟩
  go_wp2
  refine region_class (fun w' => Ext w3 w' ∧ w'.cell? ⟨w.heap.size, 0, none⟩ = some (.int .i64 f0) ∧ w'.cell? ⟨w.heap.size, 1, none⟩ = some (.int .i64 f1) ∧ w'.cell? ⟨w.heap.size, 2, none⟩ = some (.slice A n c) ∧ w'.cell? ⟨g, j * 3, none⟩ = some (.int .i64 (lastA (jTo s 200).1))) (by kernel_rfl) (by kernel_rfl) (KS.out _ ((Ext.refl' _).dr)) ?_
  repeat (first | go_big_quiet_skip | (go_big_quiet_want; unfold Oper.quiet; apply Exists.intro; refine ⟨fun wq hq => ?_, ?_⟩; (obtain ⟨qx , q1 , q2 , q3 , q4⟩ := hq; go_simp; first | done | rfl | (go_at_call 15; exact (SC.out _ qx).mono fun e w2 h2 => ⟨h2.1, KS.out _ (qx.tr h2.2)⟩)); (try simp only [Act.put, List.setIfInBounds_toArray, List.set_cons_zero, List.set_cons_succ]); go_big_quiet_on))
  refine wpQuiet_nil ?_
  intro wq hq
  obtain ⟨qxe , qe1 , qe2 , qe3 , qe4⟩ := hq
  have XE := Lib.hid qxe
  go_wp2
  go_ret2
  exact ⟨by rw [HN.out.1, HN.out.2, ← HAT.out]; rfl, X3.out.tr XE.out⟩

set_option maxHeartbeats 8000000 in
theorem law_JournalAdd (s0 : ByteArray) (f1_0 : Int) (f1_1 : Int) (A1_0 : Option Addr) (n1_0 c1_0 : Nat) (l1_0 : List Row) (w : World) (hs1_0 : Sl w (fun _ => True) 2 A1_0 n1_0 (l1_0.flatMap Row.cells)) (hm1_0 : n1_0 ≤ 9223372036854775807) :
    Calls Try.prog 8 #[.string s0, .agg #[.int .i64 f1_0, .int .i64 f1_1, .slice A1_0 n1_0 c1_0]] w fun e w' => e = .returned (.bool true) ∧ Ext w w' := by
  have hsO1_0 := hs1_0
  by_cases hn0 : (s0.size : Int) ≤ 1048576
  rotate_left
  · go_enter Try.func8, Try.ntmps8
    go_wp2
    go_ret
    exact ⟨rfl, ((Ext.refl' w).al _)⟩
  have hSS0 := Lib.hid (show s0.size ≤ 1099511627776 by omega)
  by_cases hz0 : (n1_0 : Int) ≤ (1048576 : Int)
  rotate_left
  · go_enter Try.func8, Try.ntmps8
    go_wp2_with fail
    refine (szWrote_no _ _ _ _ _ ((1048576 : Int)) _ hm1_0 (by omega) (by omega) (by omega)).mono ?_
    rintro e w1 ⟨rfl, xw1⟩
    have ba1 : Hid (Bx w1 (w.heap.size) 28 #[.int .i64 f1_0, .int .i64 f1_1, .slice A1_0 n1_0 c1_0]) := Bx.ext (Bx.new' _ _ _ rfl) xw1
    have zw1 : w.heap.size + 1 ≤ w1.heap.size := by have h := xw1.size; (try simp at h); omega
    replace xw1 := Ext.tr ((Ext.refl' w).al _) xw1
    have xx := xw1
    replace hs1_0 := hsO1_0.ext xx
    clear xw1
    go_wp2
    go_ret
    exact ⟨rfl, xx⟩
  have hN1_0 : n1_0 ≤ 1048576 := by omega
  go_enter Try.func8, Try.ntmps8
  go_wp2_with fail
  refine (szWrote_yes _ _ _ _ _ ((1048576 : Int)) _ hm1_0 (by omega) (by omega) (by omega)).mono ?_
  rintro e w1 ⟨rfl, xw1⟩
  have ba1 : Hid (Bx w1 (w.heap.size) 28 #[.int .i64 f1_0, .int .i64 f1_1, .slice A1_0 n1_0 c1_0]) := Bx.ext (Bx.new' _ _ _ rfl) xw1
  have zw1 : w.heap.size + 1 ≤ w1.heap.size := by have h := xw1.size; (try simp at h); omega
  replace xw1 := Ext.tr ((Ext.refl' w).al _) xw1
  have xx := xw1
  replace hs1_0 := hsO1_0.ext xx
  clear xw1
  have ea1_0 : w1.cell? ⟨w.heap.size, 0, none⟩ = some (.int .i64 f1_0) := ba1.out.cell 0
  have ea1_1 : w1.cell? ⟨w.heap.size, 1, none⟩ = some (.int .i64 f1_1) := ba1.out.cell 1
  have ea1_2 : w1.cell? ⟨w.heap.size, 2, none⟩ = some (.slice A1_0 n1_0 c1_0) := ba1.out.cell 2
  go_wp2_with fail
  refine (toWrote_any _ _ _ _ _ _ _ _ hs1_0 hN1_0).mono ?_
  rintro e w2 ⟨B2_0, d2_0, rfl, o2_0, ap2, x2⟩
  clear ea1_0 ea1_1 ea1_2
  replace ba1 := Lib.hid (ba1.out.ext (Ext.tr (Ext.refl' w1) x2))
  have zw2 : w1.heap.size + 0 ≤ w2.heap.size := by have h := x2.size; (try simp at h); omega
  replace xx := xx.tr x2
  replace hs1_0 := hsO1_0.ext xx
  clear x2
  have r2_0 : Hid (∀ g, (Value.slice B2_0 n1_0 d2_0).ownBlock = some g → w1.heap.size + 0 ≤ g ∧ g < w2.heap.size) := fun g hg => by have h := o2_0.lt g hg; (try simp only [World.heap_alloc_size] at h); omega
  go_wp2_with fail
  refine (spec_JournalAdd _ hSS0.out _ _ _ _ _ _ _ _ (ownSl o2_0) hN1_0).mono ?_
  rintro e w3 ⟨rfl, x3⟩
  replace ba1 := Lib.hid (ba1.out.ext (Ext.tr (Ext.refl' w2) x3))
  have zw3 : w2.heap.size + 0 ≤ w3.heap.size := by have h := x3.size; (try simp at h); omega
  replace o2_0 := own_ext o2_0 x3
  replace xx := xx.tr x3
  replace hs1_0 := hsO1_0.ext xx
  clear x3
  clear o2_0
  have ea1_0 : w3.cell? ⟨w.heap.size, 0, none⟩ = some (.int .i64 f1_0) := ba1.out.cell 0
  have ea1_1 : w3.cell? ⟨w.heap.size, 1, none⟩ = some (.int .i64 f1_1) := ba1.out.cell 1
  have ea1_2 : w3.cell? ⟨w.heap.size, 2, none⟩ = some (.slice A1_0 n1_0 c1_0) := ba1.out.cell 2
  go_wp2_with fail
  refine (toWrote_any _ _ _ _ _ _ _ _ hs1_0 hN1_0).mono ?_
  rintro e w4 ⟨B4_0, d4_0, rfl, o4_0, ap4, x4⟩
  clear ea1_0 ea1_1 ea1_2
  replace ba1 := Lib.hid (ba1.out.ext (Ext.tr (Ext.refl' w3) x4))
  have zw4 : w3.heap.size + 0 ≤ w4.heap.size := by have h := x4.size; (try simp at h); omega
  replace xx := xx.tr x4
  replace hs1_0 := hsO1_0.ext xx
  clear x4
  have r4_0 : Hid (∀ g, (Value.slice B4_0 n1_0 d4_0).ownBlock = some g → w3.heap.size + 0 ≤ g ∧ g < w4.heap.size) := fun g hg => by have h := o4_0.lt g hg; (try simp only [World.heap_alloc_size] at h); omega
  go_wp2_with fail
  refine (impl_JournalAdd _ hSS0.out _ _ _ _ _ _ _ _ (ownSl (own_ext o4_0 ((Ext.refl' w4).al _))) hN1_0).mono ?_
  rintro e w5 ⟨rfl, x5⟩
  replace ba1 := Lib.hid (ba1.out.ext (Ext.tr ((Ext.refl' w4).al _) x5))
  have bx1 : Hid (Bx w5 (w4.heap.size) 33 #[.int .i64 f1_0, .int .i64 f1_1, .slice B4_0 n1_0 d4_0]) := Bx.ext (Bx.new' _ _ _ rfl) x5
  have zw5 : w4.heap.size + 1 ≤ w5.heap.size := by have h := x5.size; (try simp at h); omega
  replace x5 := Ext.tr ((Ext.refl' w4).al _) x5
  replace o4_0 := own_ext o4_0 x5
  replace xx := xx.tr x5
  replace hs1_0 := hsO1_0.ext xx
  clear x5
  have ex1_0 : w5.cell? ⟨w4.heap.size, 0, none⟩ = some (.int .i64 f1_0) := bx1.out.cell 0
  have ex1_1 : w5.cell? ⟨w4.heap.size, 1, none⟩ = some (.int .i64 f1_1) := bx1.out.cell 1
  have ex1_2 : w5.cell? ⟨w4.heap.size, 2, none⟩ = some (.slice B4_0 n1_0 d4_0) := bx1.out.cell 2
  have ea1_0 : w5.cell? ⟨w.heap.size, 0, none⟩ = some (.int .i64 f1_0) := ba1.out.cell 0
  have ea1_1 : w5.cell? ⟨w.heap.size, 1, none⟩ = some (.int .i64 f1_1) := ba1.out.cell 1
  have ea1_2 : w5.cell? ⟨w.heap.size, 2, none⟩ = some (.slice A1_0 n1_0 c1_0) := ba1.out.cell 2
  go_wp2_with fail
  go_region_with (first | (go_at_call 16; refine (toWrote_any _ _ _ _ _ _ _ _ (hs1_0.ext ((Ext.refl' w5).dr)) hN1_0).mono ?_; rintro e w6 ⟨B6_0, d6_0, rfl, o6_0, ap6, x6⟩; have bq : Hid (Bx w6 (w4.heap.size) 33 #[.int .i64 f1_0, .int .i64 f1_1, .slice B4_0 n1_0 d4_0]) := Bx.ext ((bx1.out.ext ((Ext.refl' w5).dr))) x6; have eq_0 : w6.cell? ⟨w4.heap.size, 0, none⟩ = some (.int .i64 f1_0) := bq.out.cell 0; have eq_1 : w6.cell? ⟨w4.heap.size, 1, none⟩ = some (.int .i64 f1_1) := bq.out.cell 1; have eq_2 : w6.cell? ⟨w4.heap.size, 2, none⟩ = some (.slice B4_0 n1_0 d4_0) := bq.out.cell 2) | (go_at_call 18; refine (eqWrote_same _ _ _ _ _ _ _ _ _ _ (ownSl (own_ext o4_0 (Ext.tr ((Ext.refl' w5).dr) x6))) (by omega) _ (ownSl o6_0)).mono ?_; rintro e w7 ⟨rfl, x7⟩))
  all_goals
    clear bq eq_0 eq_1 eq_2
    replace x7 := Ext.tr x6 x7
    clear o6_0 ap6
    clear ex1_0 ex1_1 ex1_2 ea1_0 ea1_1 ea1_2
    replace ba1 := Lib.hid (ba1.out.ext (Ext.tr ((Ext.refl' w5).dr) x7))
    replace bx1 := Lib.hid (bx1.out.ext (Ext.tr ((Ext.refl' w5).dr) x7))
    have zw7 : w5.heap.size + 0 ≤ w7.heap.size := by have h := x7.size; (try simp at h); omega
    replace x7 := Ext.tr ((Ext.refl' w5).dr) x7
    replace o4_0 := own_ext o4_0 x7
    replace xx := xx.tr x7
    replace hs1_0 := hsO1_0.ext xx
    clear x7
    go_wp2
    go_ret
    exact ⟨rfl, xx⟩
end Go.Proofs.Ytbclkgjjmpipfaa
