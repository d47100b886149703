/- JournalRead of the reference. No condition but the length. -/
import Derived.Test.YtbclkgjjmpipfaaJrT
namespace Go.Proofs.Ytbclkgjjmpipfaa
open Go.RowKit Go.Deep

set_option maxHeartbeats 8000000 in
theorem spec_JournalRead (s : ByteArray) (hs : s.size ≤ 1099511627776) (w : World) :
    Calls Try.prog 23 #[.string s] w fun e w' => ∃ (B : Option Addr) (k d : Nat) (es : List JE) (at_ : Nat), e = .returned (.tuple #[.slice B k d, .int .i64 (at_ : Int)]) ∧ es.map JE.val = (jTo s 200).1 ∧ at_ = (jTo s 200).2 ∧
      w'.ownsRow w.heap.size 33 3 (.slice B k d) k (es.flatMap JE.cells) ∧ Inner w' w.heap.size es ∧ Ext w w' := by
  have HS := Lib.hid hs
  have oe := Lib.hid (own_empty40 w)
  clear hs
  go_enter Try.func23, Try.ntmps23
  go_wp2
  go_loopw [4, 5] (fun u av wr => ∃ (k at_ : Nat) (B : Option Addr) (d : Nat) (es : List JE) (l : List (Int × Int × List Row)), k ≤ 200 ∧ jTo s k = (l, at_) ∧ l.length = k ∧ es.map JE.val = l ∧ u = .slice B k d ∧ av = .int .i64 (at_ : Int) ∧ at_ ≤ s.size ∧ Hid (wr.ownsRow w.heap.size 33 3 (.slice B k d) k (es.flatMap JE.cells)) ∧ Hid (Inner wr w.heap.size es) ∧ Ext w wr) (fun u _ _ => 200 - lenOfV u)
  case atStart => exact ⟨0, 0, _, _, [], [], by omega, rfl, rfl, rfl, rfl, rfl, Nat.zero_le _, oe.out, fun x hx => (by cases hx), (Ext.refl' w).al _⟩
  case round =>
    obtain ⟨k, at_, B, d, es, l, hk, hj, hl, hm, rfl, rfl, hat, HO, HI, hx⟩ := hrel
    have HJK := Lib.hid hj
    have HM := Lib.hid hm
    have HL := Lib.hid hl
    have HX := Lib.hid hx
    have HAT := Lib.hid hat
    have zx : w.heap.size ≤ wr.heap.size := hx.size
    clear hj hm hl hx
    by_cases hlt : (k : Int) < 200
    rotate_left
    · obtain rfl : k = 200 := by omega
      go_wp2
      go_ret2
      exact ⟨B, 200, d, es, at_, rfl, by rw [HJK.out]; exact HM.out, by rw [HJK.out], HO.out, HI.out, HX.out⟩
    have ha0 : (0 : Int) ≤ (at_ : Int) := by omega
    have ha1 : (at_ : Int) ≤ (s.size : Int) := by omega
    have HT : Hid ((s.extract at_ s.size).size ≤ 1099511627776) := Nat.le_trans (ext_size_le s at_) HS.out
    have HTA : Hid (at_ + (s.extract at_ s.size).size ≤ s.size) := by show _ ≤ _; rw [ByteArray.size_extract]; omega
    go_wp2_with fail
    refine (spec_Unframe _ HT.out _).mono ?_
    rintro e w4 ⟨rfl, x4⟩
    have HU : Hid ((unfS (s.extract at_ s.size)).size ≤ 1099511627776) := Nat.le_trans (unfS_size _) HT.out
    have HNL := Lib.hid (unfN_le (s.extract at_ s.size))
    have HST : Hid (JStop (s.extract at_ s.size) l ↔ (unfN (s.extract at_ s.size) = 0 ∨ rwOk (unfS (s.extract at_ s.size)) = false ∨ rwA (unfS (s.extract at_ s.size)) ≤ lastA l)) := Iff.rfl
    have HNX := Lib.hid (jTo_next HJK.out)
    go_wp2_with fail
    refine (spec_ReadWrote _ HU.out _).mono ?_
    rintro e w6 ⟨B6, m6, d6, rfl, o6, _, x6⟩
    have z4 : wr.heap.size ≤ w4.heap.size := x4.size
    have X46 := Lib.hid (x4.tr x6)
    have X6 := Lib.hid (HX.out.tr X46.out)
    have O6 := Lib.hid (own_ext HO.out X46.out)
    have HI6 := Lib.hid (HI.out.ext X46.out)
    have N6 := Lib.hid (own_base (b' := w.heap.size) o6 (by omega))
    have z6 : w.heap.size ≤ w6.heap.size := X6.out.size
    have HP := Lib.hid (rw_pos (u := unfS (s.extract at_ s.size)))
    clear x4 x6 o6 ha0 ha1 zx z4
    generalize unfN (s.extract at_ s.size) = N at HST HNX HNL
    generalize unfS (s.extract at_ s.size) = u at HST HNX HP N6
    by_cases h0 : N = 0
    · have HJ := Lib.hid (jTo_stop HJK.out (HST.out.2 (.inl h0)) 200 hk)
      subst h0
      go_wp2
      go_quiet (fail)
      go_wp2
      go_ret2
      exact ⟨_, _, d, es, at_, rfl, by rw [HJ.out]; exact HM.out, by rw [HJ.out], own_ext O6.out (((Ext.refl' _).al _).drN _), HI6.out.ext (((Ext.refl' _).al _).drN _), X6.out.tr (((Ext.refl' _).al _).drN _)⟩
    have hn0 : ((N : Int) == 0) = false := by simp; omega
    cases hok : rwOk u
    · have HJ := Lib.hid (jTo_stop HJK.out (HST.out.2 (.inr (.inl hok))) 200 hk)
      clear h0 hok
      go_wp2
      go_quiet (fail)
      go_wp2
      go_ret2
      exact ⟨_, _, d, es, at_, rfl, by rw [HJ.out]; exact HM.out, by rw [HJ.out], own_ext O6.out (((Ext.refl' _).al _).drN _), HI6.out.ext (((Ext.refl' _).al _).drN _), X6.out.tr (((Ext.refl' _).al _).drN _)⟩
    have HOK := Lib.hid (HP.out hok)
    have HN0 := Lib.hid h0
    have HOT := Lib.hid hok
    clear h0 hok
    rcases k with _ | j
    · have hl0 : l = [] := List.eq_nil_of_length_eq_zero HL.out
      have HLE : Hid (¬ rwA u ≤ lastA l) := by rw [hl0]; show ¬ rwA u ≤ (0 : Int); have := HOK.out; omega
      clear hl0
      have HNX2 := Lib.hid (HNX.out fun h => by rcases HST.out.1 h with h | h | h; exact HN0.out h; (rw [HOT.out] at h; cases h); exact HLE.out h)
      have HKL := Lib.hid (show 0 < 200 by omega)
      have hk200 : 0 ≤ 200 := hk
      clear hlt
      have hsum : (at_ : Int) + (N : Int) ≤ 1099511627776 := by have h1 := HNL.out; have h2 := HTA.out; have h3 := HS.out; omega
      have OA : ∀ nq : Nat, Hid (((w6.alloc (.cells #[.int .i64 (rwA u), .int .i64 (rwB u), .slice B6 m6 d6] 33)).drewN nq).ownsRow w.heap.size 33 3 (.slice B 0 d) 0 (es.flatMap JE.cells)) := fun nq => own_ext O6.out (((Ext.refl' _).al _).drN _)
      have hbz : ∀ nq : Nat, Hid (w.heap.size ≤ ((w6.alloc (.cells #[.int .i64 (rwA u), .int .i64 (rwB u), .slice B6 m6 d6] 33)).drewN nq).heap.size) := fun nq => Nat.le_trans z6 (by first | (simp; done) | (simp [World.drewN]; done) | (show w6.heap.size ≤ (w6.alloc _).heap.size; simp))
      go_wp2
      go_quiet (fail)
      go_wp2_with (at_builtin; refine wp_push rfl (.tmp 49) (.tmp 51) _ rfl w.heap.size 33 _ _ _ Try.underWroteJ Try.infoWroteJ rfl (by omega) B 0 d _ rfl (OA _).out [.int .i64 (rwA u), .int .i64 (rwB u), .slice B6 m6 d6] _ (by simp) rfl rfl (by simp [Value.oneCell']) (by omega) (by unfold maxLen; omega) (hbz _).out ?_; intro A' c' w' hown' hchg' hat')
      go_roundw
      case rel => exact ⟨0 + 1, at_ + N, A', c', es ++ [⟨rwA u, rwB u, B6, m6, d6, rwR u⟩], l ++ [(rwA u, rwB u, rwR u)], by have := HKL.out; omega, HNX2.out, by rw [List.length_append, HL.out]; rfl, by rw [List.map_append, HM.out]; rfl, rfl, by go_num,  by have h1 := HNL.out; have h2 := HTA.out; omega, by show World.ownsRow _ _ _ _ _ _ _; rw [List.flatMap_append]; exact hown', Lib.hid (((HI6.out.ext (((Ext.refl' _).al _).drN _)).snoc (x := ⟨rwA u, rwB u, B6, m6, d6, rwR u⟩) (own_ext N6.out (((Ext.refl' _).al _).drN _))).chg (OA _).out hchg' (fun g hg => hg)), hchg'.ext (X6.out.tr (((Ext.refl' _).al _).drN _)) (fun g hg => by have := (O6.out.lt g hg).1; omega)⟩
      case measure => have := HKL.out; simp [lenOfV]; try omega
    obtain ⟨x, hxj, hxa⟩ := last_at HM.out HL.out
    obtain ⟨g, rfl⟩ : ∃ g, B = some ⟨g, 0, none⟩ := by
      rcases O6.out.2 with ⟨_, h0⟩ | ⟨g, cap, cur, hv, _⟩
      · omega
      · injection hv with h1; exact ⟨g, h1⟩
    have hg6 := (O6.out.lt g rfl).2
    have hcl : w6.cell? ⟨g, j * 3, none⟩ = some (.int .i64 (lastA l)) := by
      have hlen : es.length = j + 1 := by have h := congrArg List.length HM.out; rw [List.length_map, HL.out] at h; exact h
      rw [O6.out.cellAt (j * 3) (by omega), ← hxa]
      exact (flat_get JE.cells_length es j 0 x hxj (by omega)).trans rfl
    have ws1 : IntKind.i64.wrap (((j + 1 : Nat) : Int) - 1) = (j : Int) := by rw [IntWalk.i64_in _ (by omega)]; omega
    have ws2 : IntKind.i64.wrap ((j : Int) + 1 - 1) = (j : Int) := by rw [IntWalk.i64_in _ (by omega)]; omega
    have ws3 : (j : Int) + 1 - 1 = (j : Int) := by omega
    have hj0 : (0 : Int) ≤ (j : Int) := by omega
    have hj1 : (j : Int) < ((j + 1 : Nat) : Int) := by omega
    have hgt : (0 : Int) < ((j + 1 : Nat) : Int) := by omega
    clear hxj hxa
    by_cases hle : rwA u ≤ lastA l
    · have hd : decide (rwA u ≤ lastA l) = true := by simpa using hle
      have HJ := Lib.hid (jTo_stop HJK.out (HST.out.2 (.inr (.inr hle))) 200 hk)
      go_wp2
      go_quiet (fail)
      go_wp2
      go_ret2
      exact ⟨_, _, d, es, at_, rfl, by rw [HJ.out]; exact HM.out, by rw [HJ.out], own_ext O6.out (((Ext.refl' _).al _).drN _), HI6.out.ext (((Ext.refl' _).al _).drN _), X6.out.tr (((Ext.refl' _).al _).drN _)⟩
    have HLE := Lib.hid hle
    have hd : decide (rwA u ≤ lastA l) = false := by simpa using hle
    clear hle
    have HNX2 := Lib.hid (HNX.out fun h => by rcases HST.out.1 h with h | h | h; exact HN0.out h; (rw [HOT.out] at h; cases h); exact HLE.out h)
    have HKL := Lib.hid (show (j + 1) < 200 by omega)
    have hk200 : (j + 1) ≤ 200 := hk
    clear hlt
    have hsum : (at_ : Int) + (N : Int) ≤ 1099511627776 := by have h1 := HNL.out; have h2 := HTA.out; have h3 := HS.out; omega
    have OA : ∀ nq : Nat, Hid (((w6.alloc (.cells #[.int .i64 (rwA u), .int .i64 (rwB u), .slice B6 m6 d6] 33)).drewN nq).ownsRow w.heap.size 33 3 (.slice (some ⟨g, 0, none⟩) (j + 1) d) (j + 1) (es.flatMap JE.cells)) := fun nq => own_ext O6.out (((Ext.refl' _).al _).drN _)
    have hbz : ∀ nq : Nat, Hid (w.heap.size ≤ ((w6.alloc (.cells #[.int .i64 (rwA u), .int .i64 (rwB u), .slice B6 m6 d6] 33)).drewN nq).heap.size) := fun nq => Nat.le_trans z6 (by first | (simp; done) | (simp [World.drewN]; done) | (show w6.heap.size ≤ (w6.alloc _).heap.size; simp))
    go_wp2
    go_quiet (fail)
    go_wp2_with (at_builtin; refine wp_push rfl (.tmp 49) (.tmp 51) _ rfl w.heap.size 33 _ _ _ Try.underWroteJ Try.infoWroteJ rfl (by omega) (some ⟨g, 0, none⟩) (j + 1) d _ rfl (OA _).out [.int .i64 (rwA u), .int .i64 (rwB u), .slice B6 m6 d6] _ (by simp) rfl rfl (by simp [Value.oneCell']) (by omega) (by unfold maxLen; omega) (hbz _).out ?_; intro A' c' w' hown' hchg' hat')
    go_roundw
    case rel => exact ⟨(j + 1) + 1, at_ + N, A', c', es ++ [⟨rwA u, rwB u, B6, m6, d6, rwR u⟩], l ++ [(rwA u, rwB u, rwR u)], by have := HKL.out; omega, HNX2.out, by rw [List.length_append, HL.out]; rfl, by rw [List.map_append, HM.out]; rfl, rfl, by go_num,  by have h1 := HNL.out; have h2 := HTA.out; omega, by show World.ownsRow _ _ _ _ _ _ _; rw [List.flatMap_append]; exact hown', Lib.hid (((HI6.out.ext (((Ext.refl' _).al _).drN _)).snoc (x := ⟨rwA u, rwB u, B6, m6, d6, rwR u⟩) (own_ext N6.out (((Ext.refl' _).al _).drN _))).chg (OA _).out hchg' (fun g hg => hg)), hchg'.ext (X6.out.tr (((Ext.refl' _).al _).drN _)) (fun g hg => by have := (O6.out.lt g hg).1; omega)⟩
    case measure => have := HKL.out; simp [lenOfV]; try omega
end Go.Proofs.Ytbclkgjjmpipfaa
