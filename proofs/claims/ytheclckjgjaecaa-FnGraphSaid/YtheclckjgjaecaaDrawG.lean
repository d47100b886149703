/- DrawConflictFree: some accesses. No condition but the code's length. -/
import Derived.Test.YtheclckjgjaecaaDrawTopo
import Derived.Test.YtheclckjgjaecaaInOrd
namespace Go.Proofs.Ytheclckjgjaecaa
open Go.RowKit Go.Deep

theorem Chg.on {S T : Nat → Prop} {a b c : World} (h : Chg S a b) (k : Chg T b c) (hT : ∀ i, T i → S i ∨ a.heap.size ≤ i) : Chg S a c :=
  ⟨k.os.trans h.os, k.tape.trans h.tape, k.output.trans h.output, Nat.le_trans h.size k.size, fun i hi hn => (k.block i (Nat.lt_of_lt_of_le hi h.size) (fun q => by rcases hT i q with r | r; exact hn r; omega)).trans (h.block i hi hn)⟩

set_option maxHeartbeats 4000000 in
theorem l19List_any (g : Nat) (S : Nat → Prop) (A : Option Addr) (n c : Nat) (bs : List UInt8) (i h : Int) (w : World) (k : Cur w g S A n c bs i h) (hn : n ≤ 1048576) (hS : ∀ j, S j → j < w.heap.size) :
    Calls Try.prog 64 #[.pointer (some ⟨g, 0, none⟩)] w fun e w' => ∃ (B : Option Addr) (m d : Nat) (es : List Access) (i' h' : Int), e = .returned (.slice B m d) ∧ m ≤ 13 ∧ w'.ownsRow w.heap.size 54 3 (.slice B m d) m (es.flatMap Access.cells) ∧ Cur w' g S A n c bs i' h' ∧ Chg (fun j => j = g) w w' := by
  have OE := Lib.hid (own_emptyA w)
  have K0 := Lib.hid (k.ext ((Ext.refl' _).al (.cells #[] 54)))
  have C0 := Lib.hid ((Chg.refl (fun j => j = g) w).al (.cells #[] 54))
  have hgl : g < w.heap.size := k.bx.lt
  have HSS := Lib.hid hS
  clear k hS
  go_enter Try.func64, Try.ntmps64
  go_wp2_with fail
  refine (l1Below_any g S A n c bs _ _ 3 _ K0.out hn (by omega)).mono ?_
  rintro e w1 ⟨a, i1, h1, rfl, ha, k1, c1⟩
  have C1 := Lib.hid (C0.out.trans c1)
  have O1 := Lib.hid (own_chg OE.out c1 (fun q hq e => own_bx OE.out K0.out.bx (by decide) (by rw [← show q = g from e]; exact hq)))
  have K1 := Lib.hid k1
  clear k1 c1
  go_wp2_with fail
  refine (l1Below_any g S A n c bs _ _ 14 _ K1.out hn (by omega)).mono ?_
  rintro e w2 ⟨b, i2, h2, rfl, hb, k2, c2⟩
  have C2 := Lib.hid (C1.out.trans c2)
  have O2 := Lib.hid (own_chg O1.out c2 (fun q hq e => own_bx O1.out K1.out.bx (by decide) (by rw [← show q = g from e]; exact hq)))
  have K2 := Lib.hid k2
  have ha3 : 0 ≤ a ∧ a ≤ 2 := by omega
  clear k2 c2 ha
  go_wp2
  go_loopw [3, 5] (fun u kv wr => ∃ (j : Int) (m : Nat) (B : Option Addr) (d : Nat) (es : List Access) (i h : Int), 0 ≤ j ∧ (m : Int) + j ≤ 13 ∧ kv = .int .i64 j ∧ u = .slice B m d ∧ Hid (wr.ownsRow w.heap.size 54 3 (.slice B m d) m (es.flatMap Access.cells)) ∧ Hid (Cur wr g S A n c bs i h) ∧ Chg (fun j => j = g) w wr) (fun _ kv _ => (intOf kv).toNat)
  case atStart => exact ⟨b, 0, _, _, [], i2, h2, hb.1, by omega, rfl, rfl, O2.out, K2.out, C2.out⟩
  case round =>
    obtain ⟨j, m, B, d, es, i, h, hj0, hjm, rfl, rfl, HO, HC, hx⟩ := hrel
    have HX := Lib.hid hx
    clear hx
    by_cases hj : (0 : Int) < j
    · go_wp2_with fail
      refine (l1Below_any g S A n c bs _ _ (2 + a) wr HC.out hn (by omega)).mono ?_
      rintro e w5 ⟨f, i5, h5, rfl, hf, k5, c5⟩
      have X5 := Lib.hid (HX.out.trans c5)
      have O5 := Lib.hid (own_chg HO.out c5 (fun q hq e => own_bx HO.out HC.out.bx (by decide) (by rw [← show q = g from e]; exact hq)))
      have K5 := Lib.hid k5
      clear k5 c5 hf
      go_wp2_with fail
      refine (l1Below_any g S A n c bs _ _ 3 w5 K5.out hn (by omega)).mono ?_
      rintro e w6 ⟨t, i6, h6, rfl, ht, k6, c6⟩
      have X6 := Lib.hid (X5.out.trans c6)
      have O6 := Lib.hid (own_chg O5.out c6 (fun q hq e => own_bx O5.out K5.out.bx (by decide) (by rw [← show q = g from e]; exact hq)))
      have K6 := Lib.hid k6
      clear k6 c6 ht
      go_wp2_with fail
      refine (l1Once_any g S A n c bs _ _ 2 w6 K6.out hn (by omega)).mono ?_
      rintro e w7 ⟨up, i7, h7, rfl, k7, c7⟩
      have X7 := Lib.hid (X6.out.trans c7)
      have O7 := Lib.hid (own_chg O6.out c7 (fun q hq e => own_bx O6.out K6.out.bx (by decide) (by rw [← show q = g from e]; exact hq)))
      have K7 := Lib.hid k7
      have zb : w.heap.size ≤ w7.heap.size := X7.out.size
      clear k7 c7
      go_wp2_with (at_builtin; refine wp_push rfl (.tmp 16) (.tmp 25) _ rfl w.heap.size 54 _ _ _ Try.underlying25 Try.infoAccess rfl (by omega) B m d _ rfl O7.out [.int .i64 f, .int .i64 t, .bool up] _ rfl rfl rfl (by simp [Value.oneCell']) (by omega) (by unfold maxLen; omega) zb ?_; intro A' c' w' hown' hchg' hat')
      go_roundw
      case rel => exact ⟨j - 1, m + 1, A', c', es ++ [⟨f, t, up⟩], i7, h7, by omega, by omega, by go_num, rfl, by show World.ownsRow _ _ _ _ _ _ _; rw [List.flatMap_append]; exact hown', K7.out.chg hchg' (fun hg => own_bx O7.out K7.out.bx (by decide) hg) (fun q hq hs => by have h1 := (O7.out.lt q hs).1; have h2 := HSS.out q hq; omega), X7.out.on hchg' (fun q hq => .inr (O7.out.lt q hq).1)⟩
      case measure => simp [intOf]; omega
    · go_wp2
      go_ret
      exact ⟨B, m, d, rfl, by omega, ⟨es, HO.out⟩, ⟨i, h, HC.out⟩, HX.out⟩

set_option maxHeartbeats 4000000 in
theorem l19Any_any (g : Nat) (S : Nat → Prop) (A : Option Addr) (n c : Nat) (bs : List UInt8) (i h : Int) (w : World) (k : Cur w g S A n c bs i h) (hn : n ≤ 1048576) (hS : ∀ j, S j → j < w.heap.size) :
    Calls Try.prog 60 #[.pointer (some ⟨g, 0, none⟩)] w fun e w' => ∃ (B : Option Addr) (m d : Nat) (es : List Access), e = .returned (.slice B m d) ∧ m ≤ 100 ∧ w'.ownsRow w.heap.size 54 3 (.slice B m d) m (es.flatMap Access.cells) ∧ Chg (fun j => j = g) w w' := by
  have K0 := Lib.hid k
  have HSS := Lib.hid hS
  have hgl : g < w.heap.size := k.bx.lt
  clear k hS
  go_enter Try.func60, Try.ntmps60
  go_wp2_with fail
  refine (l19List_any g S A n c bs _ _ _ K0.out hn HSS.out).mono ?_
  rintro e w1 ⟨B, m, d, es, i1, h1, rfl, hm, own1, k1, c1⟩
  have X1 := Lib.hid c1
  have O1 := Lib.hid own1
  have K1 := Lib.hid k1
  clear k1 c1 own1
  go_wp2_with fail
  refine (l1Below_any g S A n c bs _ _ 24 _ K1.out hn (by omega)).mono ?_
  rintro e w2 ⟨x, i2, h2, rfl, hx, k2, c2⟩
  have X2 := Lib.hid (X1.out.trans c2)
  have O2 := Lib.hid (own_chg O1.out c2 (fun q hq e => own_bx O1.out K1.out.bx (by decide) (by rw [← show q = g from e]; exact hq)))
  have K2 := Lib.hid k2
  have z2 : w.heap.size ≤ w2.heap.size := X2.out.size
  clear k2 c2
  by_cases x0 : x = 0
  · subst x0
    go_wp2_with (at_builtin; refine wp_push rfl (.tmp 10) (.tmp 12) _ rfl w.heap.size 54 _ _ _ Try.underlying25 Try.infoAccess rfl (by omega) B m d _ rfl O2.out [.int .i64 9, .int .i64 0, .bool false] _ rfl rfl rfl (by simp [Value.oneCell']) (by omega) (by unfold maxLen; omega) z2 ?_; intro A' c' w' hown' hchg' hat')
    go_ret
    exact ⟨A', m + 1, c', es ++ [⟨9, 0, false⟩], rfl, by omega, by rw [List.flatMap_append]; exact hown', X2.out.on hchg' (fun q hq => .inr (O2.out.lt q hq).1)⟩
  have b0 : (x == 0) = false := by simpa using x0
  by_cases x1 : x = 1
  · subst x1
    go_wp2_with (at_builtin; refine wp_push rfl (.tmp 16) (.tmp 18) _ rfl w.heap.size 54 _ _ _ Try.underlying25 Try.infoAccess rfl (by omega) B m d _ rfl O2.out [.int .i64 0, .int .i64 8, .bool false] _ rfl rfl rfl (by simp [Value.oneCell']) (by omega) (by unfold maxLen; omega) z2 ?_; intro A' c' w' hown' hchg' hat')
    go_ret
    exact ⟨A', m + 1, c', es ++ [⟨0, 8, false⟩], rfl, by omega, by rw [List.flatMap_append]; exact hown', X2.out.on hchg' (fun q hq => .inr (O2.out.lt q hq).1)⟩
  have b1 : (x == 1) = false := by simpa using x1
  by_cases x2 : x = 2
  rotate_left
  · have b2 : (x == 2) = false := by simpa using x2
    go_wp2
    go_ret
    exact ⟨B, m, d, es, rfl, by omega, O2.out, X2.out⟩
  subst x2
  go_wp2
  go_loopw [3] (fun u wr => ∃ (m : Nat) (B : Option Addr) (d : Nat) (es : List Access) (i h : Int), m ≤ 61 ∧ u = .slice B m d ∧ Hid (wr.ownsRow w.heap.size 54 3 (.slice B m d) m (es.flatMap Access.cells)) ∧ Hid (Cur wr g S A n c bs i h) ∧ Chg (fun j => j = g) w wr) (fun u _ => 61 - lenOfD u)
  case atStart => exact ⟨m, B, d, es, i2, h2, by omega, rfl, O2.out, K2.out, X2.out⟩
  case round =>
    obtain ⟨m, B, d, es, i, h, hm, rfl, HO, HC, hx⟩ := hrel
    have HX := Lib.hid hx
    clear hx
    go_wp2_with fail
    refine (l1Below_any g S A n c bs _ _ 2 _ HC.out hn (by omega)).mono ?_
    rintro e w5 ⟨y, i5, h5, rfl, hy, k5, c5⟩
    have X5 := Lib.hid (HX.out.trans c5)
    have O5 := Lib.hid (own_chg HO.out c5 (fun q hq e => own_bx HO.out HC.out.bx (by decide) (by rw [← show q = g from e]; exact hq)))
    have K5 := Lib.hid k5
    have z5 : w.heap.size ≤ w5.heap.size := X5.out.size
    clear k5 c5
    by_cases h61 : (m : Int) < 60 + y
    rotate_left
    · go_wp2
      go_ret
      first | exact ⟨B, m, d, es, rfl, by omega, O5.out, X5.out⟩ | exact ⟨B, m, d, rfl, by omega, ⟨es, O5.out⟩, X5.out⟩
    have H61 : Hid (m < 61) := by show m < 61; omega
    go_wp2_with (at_builtin; refine wp_push rfl (.tmp 28) (.tmp 30) _ rfl w.heap.size 54 _ _ _ Try.underlying25 Try.infoAccess rfl (by omega) B m d _ rfl O5.out [.int .i64 8, .int .i64 0, .bool true] _ rfl rfl rfl (by simp [Value.oneCell']) (by omega) (by unfold maxLen; omega) z5 ?_; intro A' c' w' hown' hchg' hat')
    go_roundw
    case rel => exact ⟨m + 1, A', c', es ++ [⟨8, 0, true⟩], i5, h5, H61.out, rfl, by show World.ownsRow _ _ _ _ _ _ _; rw [List.flatMap_append]; exact hown', K5.out.chg hchg' (fun hg => own_bx O5.out K5.out.bx (by decide) hg) (fun q hq hs => by have h1 := (O5.out.lt q hs).1; have h2 := HSS.out q hq; omega), X5.out.on hchg' (fun q hq => .inr (O5.out.lt q hq).1)⟩
    case measure => have := H61.out; simp [lenOfD]; omega

set_option maxHeartbeats 4000000 in
theorem DrawG_any (A : Option Addr) (n c : Nat) (bs : List UInt8) (w : World) (S : Nat → Prop) (hs : Sl w S 1 A n (charsD bs)) (hn : n ≤ 1048576) (hS : ∀ j, S j → j < w.heap.size) :
    Calls Try.prog 42 #[.slice A n c] w fun e w' => ∃ (B : Option Addr) (m d : Nat) (es : List Access), e = .returned (.slice B m d) ∧ m ≤ 100 ∧ w'.ownsRow w.heap.size 54 3 (.slice B m d) m (es.flatMap Access.cells) ∧ Ext w w' := by
  go_enter Try.func42, Try.ntmps42
  go_wp2_with fail
  refine (l1New_any _ _ _ bs _ S hs hn hS).mono ?_
  rintro e w1 ⟨g, rfl, hg, ⟨h0, k1⟩, x1⟩
  have K1 := Lib.hid k1
  have X1 := Lib.hid x1
  have HSS : Hid (∀ j, S j → j < w1.heap.size) := fun j hj => Nat.lt_of_lt_of_le (hS j hj) x1.size
  clear k1 x1 hs hS
  go_wp2_with fail
  refine (l19Any_any g S A n c bs _ _ w1 K1.out hn HSS.out).mono ?_
  rintro e w2 ⟨B, m, d, es, rfl, hm, own2, c2⟩
  have X2 := Lib.hid (c2.ext X1.out (fun j hj => by have e : j = g := hj; omega))
  have O2 := Lib.hid (own_base (b' := w.heap.size) own2 X1.out.size)
  clear c2 own2
  go_wp2
  go_ret
  exact ⟨B, m, d, es, rfl, hm, O2.out, X2.out⟩
end Go.Proofs.Ytheclckjgjaecaa
