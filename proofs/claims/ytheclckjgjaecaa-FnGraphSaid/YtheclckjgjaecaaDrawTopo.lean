/- DrawTopo: some number and some edges. No condition but the code's length. -/
import Derived.Test.YtheclckjgjaecaaDraw
import Derived.Test.YtheclckjgjaecaaTopoP
namespace Go.Proofs.Ytheclckjgjaecaa
open Go.RowKit Go.Deep

def lenOfD : Value → Nat
  | .slice _ n _ => n
  | _ => 0
theorem Cur.ext {w w' : World} {g : Nat} {S : Nat → Prop} {A : Option Addr} {n c : Nat} {bs : List UInt8} {i h : Int} (k : Cur w g S A n c bs i h) (x : Ext w w') : Cur w' g S A n c bs i h :=
  ⟨k.bx.ext x, k.i0, k.i1, k.sl.ext x, k.ap⟩
theorem Cur.chg {w w' : World} {g : Nat} {S T : Nat → Prop} {A : Option Addr} {n c : Nat} {bs : List UInt8} {i h : Int} (k : Cur w g S A n c bs i h) (x : Chg T w w') (hg : ¬ T g) (hs : ∀ j, S j → ¬ T j) : Cur w' g S A n c bs i h :=
  ⟨k.bx.chg x hg, k.i0, k.i1, k.sl.chg x hs, k.ap⟩

set_option maxHeartbeats 2000000 in
theorem l1PickInt_any (g : Nat) (S : Nat → Prop) (A : Option Addr) (n c : Nat) (bs : List UInt8) (i h : Int) (B : Option Addr) (m d : Nat) (zs : List Int) (T : Nat → Prop) (w : World) (k : Cur w g S A n c bs i h) (hn : n ≤ 1048576) (hz : Sl w T 1 B m (ints zs)) (hT : ∀ j, T j → j ≠ g) (hm : 0 < m) (hm2 : m ≤ 256) :
    Calls Try.prog 59 #[.pointer (some ⟨g, 0, none⟩), .slice B m d] w fun e w' => ∃ x i' h' : Int, e = .returned (.int .i64 x) ∧ x ∈ zs ∧ Cur w' g S A n c bs i' h' ∧ Chg (fun j => j = g) w w' := by
  have K := Lib.hid k
  have HZ := Lib.hid hz
  clear k hz
  go_enter Try.func59, Try.ntmps59
  go_wp2_with fail
  refine (l1Below_any g S A n c bs i h (m : Int) w K.out hn (by omega)).mono ?_
  rintro e w1 ⟨x, i1, h1, rfl, hx, k1, c1⟩
  obtain ⟨j, rfl⟩ : ∃ j : Nat, x = (j : Int) := ⟨x.toNat, by omega⟩
  have hj : j < m := by omega
  have HZ1 := Lib.hid (HZ.out.chg c1 (fun q hq => hT q hq))
  have K1 := Lib.hid k1
  have C1 := Lib.hid c1
  obtain ⟨b, o, z, rfl, hb, hzj, hc⟩ := HZ1.out.int_at hj
  have hj1 : (j : Int) < (m : Int) := by omega
  have hmem : Hid (z ∈ zs) := List.mem_iff_getElem?.2 ⟨j, hzj⟩
  clear k1 c1 hx hzj hj
  go_wp2
  go_ret
  exact ⟨z, i1, h1, rfl, hmem.out, K1.out, C1.out⟩

theorem own_emptyE (w : World) : (w.alloc (.cells #[] 51)).ownsRow w.heap.size 51 2 (.slice (some ⟨w.heap.size, 0, none⟩) 0 0) 0 (([] : List Edge).flatMap Edge.cells) :=
  World.ownsRow_lit w #[] 0 (Nat.le_refl _) (Nat.zero_le _) (by simp)

set_option maxHeartbeats 8000000 in
theorem DrawTopo_any (A : Option Addr) (n c : Nat) (bs : List UInt8) (w : World) (S : Nat → Prop) (hs : Sl w S 1 A n (charsD bs)) (hn : n ≤ 1048576) (hS : ∀ j, S j → j < w.heap.size) :
    Calls Try.prog 41 #[.slice A n c] w fun e w' => ∃ (N : Int) (B : Option Addr) (m d : Nat) (es : List Edge), e = .returned (.tuple #[.int .i64 N, .slice B m d]) ∧ (-1 ≤ N ∧ N ≤ 10) ∧ m ≤ 100 ∧ w'.ownsRow w.heap.size 51 2 (.slice B m d) m (es.flatMap Edge.cells) ∧ Ext w w' := by
  go_enter Try.func41, Try.ntmps41
  go_wp2_with fail
  refine (l1New_any _ _ _ bs _ S hs hn hS).mono ?_
  rintro e w1 ⟨g, rfl, hg, ⟨h0, k1⟩, x1⟩
  have K1 := Lib.hid k1
  have X1 := Lib.hid x1
  have HSS := Lib.hid hS
  clear k1 x1 hs hS
  go_wp2_with fail
  refine (l1Below_any g S A n c bs _ _ 6 w1 K1.out hn (by omega)).mono ?_
  rintro e w2 ⟨a, i2, h2, rfl, ha, k2, c2⟩
  have X2 := Lib.hid (c2.ext X1.out (fun j hj => by have e : j = g := hj; omega))
  have K2 := Lib.hid (k2.ext ((Ext.refl' _).al (.cells #[] 51)))
  have HA := Lib.hid ha
  have hgl : g < w2.heap.size := k2.bx.lt
  have OE := Lib.hid (own_emptyE w2)
  have hN0 : (1 : Int) ≤ 1 + a ∧ 1 + a ≤ 6 := by omega
  obtain ⟨N, hN⟩ : ∃ N : Int, N = 1 + a := ⟨_, rfl⟩
  have ha2 : a ≤ 5 := by omega
  have ha1 : 0 ≤ a := ha.1
  clear ha k2 c2
  go_wp2_with fail
  refine (l1Once_any g S A n c bs _ _ 2 _ K2.out hn (by omega)).mono ?_
  rintro e w3 ⟨up, i3, h3, rfl, k3, c3⟩
  have X3 := Lib.hid (c3.ext (X2.out.al _) (fun j hj => by have e : j = g := hj; omega))
  have K3 := Lib.hid k3
  have O3 := Lib.hid (own_chg OE.out c3 (fun q hq e => own_bx OE.out K2.out.bx (by decide) (by rw [← show q = g from e]; exact hq)))
  have zw2 : w.heap.size ≤ w2.heap.size := X2.out.size
  have hg3 : g < w3.heap.size := k3.bx.lt
  clear k3 c3
  go_wp2_with fail
  refine (l1Below_any g S A n c bs _ _ 9 w3 K3.out hn (by omega)).mono ?_
  rintro e w4 ⟨kk, i4, h4, rfl, hkk, k4, c4⟩
  have X4 := Lib.hid (c4.ext X3.out (fun j hj => by have e : j = g := hj; omega))
  have K4 := Lib.hid k4
  have O4 := Lib.hid (own_base (b' := w.heap.size) (own_chg O3.out c4 (fun q hq e => own_bx O3.out K3.out.bx (by decide) (by rw [← show q = g from e]; exact hq))) zw2)
  clear k4 c4
  go_wp2
  go_loopw [6, 8] (fun u kv wr => ∃ (j : Int) (m : Nat) (B : Option Addr) (d : Nat) (es : List Edge) (i h : Int), 0 ≤ j ∧ (m : Int) + j ≤ 9 ∧ kv = .int .i64 j ∧ u = .slice B m d ∧ Hid (wr.ownsRow w.heap.size 51 2 (.slice B m d) m (es.flatMap Edge.cells)) ∧ Hid (Cur wr g S A n c bs i h) ∧ Ext w wr) (fun _ kv _ => (intOf kv).toNat)
  case atStart => exact ⟨kk, 0, _, _, [], i4, h4, hkk.1, by omega, rfl, rfl, O4.out, K4.out, X4.out⟩
  case round =>
    obtain ⟨j, m, B, d, es, i, h, hj0, hjm, rfl, rfl, HO, HC, hx⟩ := hrel
    have HX := Lib.hid hx
    clear hx
    by_cases hj : (0 : Int) < j
    · go_wp2_with fail
      refine (l1Below_any g S A n c bs _ _ (1 + a) wr HC.out hn (by omega)).mono ?_
      rintro e w5 ⟨f, i5, h5, rfl, hf, k5, c5⟩
      have X5 := Lib.hid (c5.ext HX.out (fun j hj => by have e : j = g := hj; omega))
      have O5 := Lib.hid (own_chg HO.out c5 (fun q hq e => own_bx HO.out HC.out.bx (by decide) (by rw [← show q = g from e]; exact hq)))
      have K5 := Lib.hid k5
      have HF := Lib.hid hf
      clear k5 c5 hf
      go_wp2_with fail
      refine (l1Below_any g S A n c bs _ _ (1 + a) w5 K5.out hn (by omega)).mono ?_
      rintro e w6 ⟨t, i6, h6, rfl, ht, k6, c6⟩
      have X6 := Lib.hid (c6.ext X5.out (fun j hj => by have e : j = g := hj; omega))
      have O6 := Lib.hid (own_chg O5.out c6 (fun q hq e => own_bx O5.out K5.out.bx (by decide) (by rw [← show q = g from e]; exact hq)))
      have K6 := Lib.hid k6
      have z6 : w.heap.size ≤ w6.heap.size := X6.out.size
      have O7 := Lib.hid (own_ext O6.out ((Ext.refl' _).al (.cells #[.int .i64 f, .int .i64 t] 51)))
      have hm9 : m ≤ 9 := by omega
      clear k6 c6 ht
      have hskip : up = false ∨ f < t ∨ (up = true ∧ t ≤ f) := by
        cases up
        · exact .inl rfl
        · by_cases hft : f < t
          · exact .inr (.inl hft)
          · exact .inr (.inr ⟨rfl, by omega⟩)
      by_cases hadd : up = true ∧ t ≤ f
      · obtain ⟨rfl, htf⟩ := hadd
        clear hskip
        go_wp2
        go_roundw
        case rel => exact ⟨j - 1, m, B, d, es, i6, h6, by omega, by omega, by go_num, rfl, O7.out, K6.out.ext ((Ext.refl' _).al _), X6.out.al _⟩
        case measure => simp [intOf]; omega
      have hcase : up = false ∨ (up = true ∧ ¬ t ≤ f) := by
        cases up
        · exact .inl rfl
        · exact .inr ⟨rfl, fun h => hadd ⟨rfl, h⟩⟩
      clear hskip hadd
      have zb : w.heap.size ≤ (w6.alloc (.cells #[.int .i64 f, .int .i64 t] 51)).heap.size := by simp; omega
      have ZB := Lib.hid zb
      clear zb
      rcases hcase with rfl | ⟨rfl, hft⟩
      all_goals
        go_wp2_with (at_builtin; refine wp_push rfl (.tmp 39) (.tmp 41) _ rfl w.heap.size 51 _ _ _ Try.underlying29 Try.infoEdge rfl (by omega) B m d _ rfl O7.out [.int .i64 f, .int .i64 t] _ (by simp) rfl rfl (by simp [Value.oneCell']) (by omega) (by unfold maxLen; omega) ZB.out ?_; intro A' c' w' hown' hchg' hat')
        go_roundw
        case rel => exact ⟨j - 1, m + 1, A', c', es ++ [⟨f, t⟩], i6, h6, by omega, by omega, by go_num, rfl, by show World.ownsRow _ _ _ _ _ _ _; rw [List.flatMap_append]; exact hown', (K6.out.ext ((Ext.refl' _).al _)).chg hchg' (fun hg => own_bx O7.out (K6.out.ext ((Ext.refl' _).al _)).bx (by decide) hg) (fun q hq hs => by have h1 := (O7.out.lt q hs).1; have h2 := HSS.out q hq; omega), hchg'.ext (X6.out.al _) (fun q hq => (O7.out.lt q hq).1)⟩
        case measure => simp [intOf]; omega
    · have hm9 : m ≤ 9 := by omega
      go_wp2_with fail
      refine (l1Below_any g S A n c bs _ _ 20 wr HC.out hn (by omega)).mono ?_
      rintro e w5 ⟨x, i5, h5, rfl, hx, k5, c5⟩
      have X5 := Lib.hid (c5.ext HX.out (fun j hj => by have e : j = g := hj; omega))
      have O5 := Lib.hid (own_chg HO.out c5 (fun q hq e => own_bx HO.out HC.out.bx (by decide) (by rw [← show q = g from e]; exact hq)))
      have K5 := Lib.hid k5
      have z5 : w.heap.size ≤ w5.heap.size := X5.out.size
      have hg5 : g < w5.heap.size := k5.bx.lt
      clear k5 c5 hx
      by_cases x0 : x = 0
      · subst x0
        have SL : Hid (Sl (w5.alloc (.cells #[.int .i64 (-1), .int .i64 10, .int .i64 9] 3)) (fun q => q = w5.heap.size) 1 (some ⟨w5.heap.size, 0, none⟩) 3 (ints [-1, 10, 9])) := by
          have h := Sl.of_own (World.ownsRow_lit (size := 1) (e := 3) w5 #[.int .i64 (-1), .int .i64 10, .int .i64 9] 3 (Nat.le_refl _) (by unfold maxLen; omega) (by simp) : (w5.alloc (.cells #[.int .i64 (-1), .int .i64 10, .int .i64 9] 3)).ownsRow w5.heap.size 3 1 (.slice (some ⟨w5.heap.size, 0, none⟩) 3 3) 3 (ints [-1, 10, 9]))
          exact h.mono fun q hq => by have h1 := hq.2; simp at h1; omega
        go_wp2_with fail
        refine (l1PickInt_any g S A n c bs _ _ _ 3 3 [-1, 10, 9] (fun q => q = w5.heap.size) _ (K5.out.ext ((Ext.refl' _).al _)) hn SL.out (fun q hq => by omega) (by omega) (by omega)).mono ?_
        rintro e w6 ⟨y, i6, h6, rfl, hy, k6, c6⟩
        have X6 := Lib.hid (c6.ext (X5.out.al _) (fun j hj => by have e : j = g := hj; omega))
        have O6 := Lib.hid (own_chg (own_ext O5.out ((Ext.refl' _).al _)) c6 (fun q hq e => own_bx O5.out K5.out.bx (by decide) (by rw [← show q = g from e]; exact hq)))
        have HY : Hid (-1 ≤ y ∧ y ≤ 10) := by
          simp only [List.mem_cons, List.not_mem_nil, or_false] at hy
          show _ ∧ _
          omega
        clear hy k6 c6
        go_wp2
        go_ret2
        exact ⟨y, _, m, d, es, rfl, HY.out, by omega, O6.out, X6.out⟩
      have b0 : (x == 0) = false := by simpa using x0
      by_cases x1 : x = 1
      · subst x1
        go_wp2_with (at_builtin; refine wp_push rfl (.tmp 52) (.tmp 55) _ rfl w.heap.size 51 _ _ _ Try.underlying29 Try.infoEdge rfl (by omega) B m d _ rfl O5.out [.int .i64 (1 + a), .int .i64 0] _ (by simp) rfl rfl (by simp [Value.oneCell']) (by omega) (by unfold maxLen; omega) z5 ?_; intro A' c' w' hown' hchg' hat')
        go_ret2
        exact ⟨1 + a, A', m + 1, c', es ++ [⟨1 + a, 0⟩], rfl, by omega, by omega, by rw [List.flatMap_append]; exact hown', hchg'.ext X5.out (fun q hq => (O5.out.lt q hq).1)⟩
      have b1 : (x == 1) = false := by simpa using x1
      by_cases x2 : x = 2
      rotate_left
      · have b2 : (x == 2) = false := by simpa using x2
        go_wp2
        go_ret2
        exact ⟨1 + a, B, m, d, es, rfl, by omega, by omega, O5.out, X5.out⟩
      subst x2
      go_wp2
      go_loopw [6] (fun u wr => ∃ (m : Nat) (B : Option Addr) (d : Nat) (es : List Edge), m ≤ 82 ∧ u = .slice B m d ∧ Hid (wr.ownsRow w.heap.size 51 2 (.slice B m d) m (es.flatMap Edge.cells)) ∧ Ext w wr) (fun u _ => 82 - lenOfD u)
      case atStart => exact ⟨m, B, d, es, by omega, rfl, O5.out, X5.out⟩
      case round =>
        obtain ⟨m, B, d, es, hm, rfl, HO, hx⟩ := hrel
        have HX := Lib.hid hx
        have zx : w.heap.size ≤ wr.heap.size := hx.size
        clear hx
        by_cases h82 : (m : Int) < 82
        rotate_left
        · go_wp2
          go_ret2
          first | exact ⟨1 + a, B, m, d, es, rfl, by omega, by omega, HO.out, HX.out⟩ | exact ⟨1 + a, B, m, d, rfl, by omega, by omega, ⟨es, HO.out⟩, HX.out⟩
        have H82 : Hid (m < 82) := by show m < 82; omega
        go_wp2_with (at_builtin; refine wp_push rfl (.tmp 62) (.tmp 66) _ rfl w.heap.size 51 _ _ _ Try.underlying29 Try.infoEdge rfl (by omega) B m d _ rfl HO.out [.int .i64 0, .int .i64 (1 + a - 1)] _ (by simp) rfl rfl (by simp [Value.oneCell']) (by omega) (by unfold maxLen; omega) zx ?_; intro A' c' w' hown' hchg' hat')
        go_roundw
        case rel => exact ⟨m + 1, A', c', es ++ [⟨0, 1 + a - 1⟩], H82.out, rfl, by show World.ownsRow _ _ _ _ _ _ _; rw [List.flatMap_append]; exact hown', hchg'.ext HX.out (fun q hq => (HO.out.lt q hq).1)⟩
        case measure => have := H82.out; simp [lenOfD]; omega
end Go.Proofs.Ytheclckjgjaecaa
