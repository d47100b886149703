/- Edges of the reference. No condition but the length. -/
import Derived.Test.YtheclckjgjaecaaEdgeI
namespace Go.Proofs.Ytheclckjgjaecaa
open Go.RowKit Go.Deep

theorem edgeOf_no1 {x y : Access} {a b : Int} (h : a = b) : dec (EdgeOf x y a b) = false := dec_no fun z => z.1 h
theorem edgeOf_no2 {x y : Access} {a b : Int} (h : ¬ x.who = a) : dec (EdgeOf x y a b) = false := dec_no fun z => h z.2.1
theorem edgeOf_no3 {x y : Access} {a b : Int} (h : ¬ y.who = b) : dec (EdgeOf x y a b) = false := dec_no fun z => h z.2.2.1
theorem edgeOf_no4 {x y : Access} {a b : Int} (h : ¬ x.cell = y.cell) : dec (EdgeOf x y a b) = false := dec_no fun z => h z.2.2.2.1
theorem edgeOf_w {x y : Access} {a b : Int} (h0 : ¬ a = b) (h1 : x.who = a) (h2 : y.who = b) (h3 : x.cell = y.cell) : dec (EdgeOf x y a b) = (x.write || y.write) := by
  cases hx : x.write
  · cases hy : y.write
    · exact dec_no fun z => by rcases z.2.2.2.2 with h | h; (rw [hx] at h; cases h); (rw [hy] at h; cases h)
    · exact dec_yes ⟨h0, h1, h2, h3, .inr hy⟩
  · exact dec_yes ⟨h0, h1, h2, h3, .inl hx⟩

set_option maxRecDepth 4000 in
set_option maxHeartbeats 8000000 in
theorem spec_Edges (A : Option Addr) (n c : Nat) (l : List Access) (w : World) (S : Nat → Prop) (hs : Sl w S 3 A n (l.flatMap Access.cells)) (hm : n ≤ 1048576) (_hcap : n ≤ c) :
    Calls Try.prog 17 #[.slice A n c] w fun e w' => ∃ B m d, e = .returned (.slice B m d) ∧ w'.ownsRow w.heap.size 51 2 (.slice B m d) m ((edges l).flatMap Edge.cells) ∧ Ext w w' := by
  have H := Lib.hid (hs.flen Access.cells_length (by omega))
  have HS := Lib.hid hs
  have oe := Lib.hid (own_emptyE w)
  clear hs
  go_enter Try.func17, Try.ntmps17
  go_wp2_with fail
  refine (spec_AccessOk A n c l _ S (HS.out.ext ((Ext.refl' w).al _)) (by omega)).mono ?_
  rintro e w1 ⟨rfl, x1⟩
  have X1 := Lib.hid (((Ext.refl' w).al _).tr x1)
  have O1 := Lib.hid (own_ext oe.out x1)
  clear x1
  cases hok : accOk l
  · have HN := Lib.hid (edges_no hok)
    clear hok
    go_wp2
    go_ret
    exact ⟨_, _, _, rfl, by rw [HN.out]; exact O1.out, X1.out⟩
  have HY := Lib.hid (edges_yes hok)
  clear hok
  go_wp2
  go_loopw [3, 4] (fun u i wr => ∃ (a m : Nat) (B : Option Addr) (d : Nat), a ≤ 9 ∧ m ≤ a * 9 ∧ i = .int .i64 a ∧ u = .slice B m d ∧ wr.ownsRow w.heap.size 51 2 (.slice B m d) m ((edTo l a).flatMap Edge.cells) ∧ Ext w wr) (fun _ i _ => 9 - (intOf i).toNat)
  case atStart => exact ⟨0, 0, _, _, Nat.zero_le _, Nat.zero_le _, rfl, rfl, O1.out, X1.out⟩
  case round =>
    obtain ⟨a, m, B, d, ha, hma, rfl, rfl, ho, hx⟩ := hrel
    obtain ⟨wo, rfl⟩ : ∃ wo : World, wo = wr := ⟨_, rfl⟩
    have HX := Lib.hid hx
    have HO := Lib.hid ho
    clear ho hx
    by_cases hlt : (a : Int) < 9
    rotate_left
    · have e : a = 9 := by omega
      go_wp2
      go_ret
      exact ⟨_, _, _, rfl, by rw [HY.out, ← e]; exact HO.out, HX.out⟩
    have HMA := Lib.hid hma
    go_wp2
    go_loopw [3, 5] (fun u i wi => ∃ (b m : Nat) (B : Option Addr) (d : Nat), b ≤ 9 ∧ m ≤ a * 9 + b ∧ i = .int .i64 b ∧ u = .slice B m d ∧ wi.ownsRow w.heap.size 51 2 (.slice B m d) m ((edTo l a ++ rowTo l a b).flatMap Edge.cells) ∧ Ext w wi) (fun _ i _ => 9 - (intOf i).toNat)
    case atStart => exact ⟨0, m, B, d, Nat.zero_le _, HMA.out, rfl, rfl, by simpa [rowTo] using HO.out, HX.out⟩
    case round =>
      clear HO HX HMA hma
      obtain ⟨b, m, B, d, hb, hmb, rfl, rfl, ho, hx⟩ := hrel
      obtain ⟨wj, rfl⟩ : ∃ wj : World, wj = wr := ⟨_, rfl⟩
      have HX := Lib.hid hx
      have HO := Lib.hid ho
      clear ho hx
      by_cases hbt : (b : Int) < 9
      rotate_left
      · have e : Hid (b = 9) := by show b = 9; omega
        have HA9 : Hid (a < 9) := by show a < 9; omega
        have HM9 : Hid (m ≤ (a + 1) * 9) := by show m ≤ _; omega
        clear hb ha
        go_wp2
        go_roundw
        case rel => exact ⟨a + 1, m, B, d, by have := HA9.out; omega, HM9.out, by go_num, rfl, by rw [edTo_succ, ← e.out]; exact HO.out, HX.out⟩
        case measure => have := HA9.out; simp [intOf]; omega
      go_wp2
      go_loopw [6, 7] (fun f i wk => ∃ (j : Nat), j ≤ n ∧ i = .int .i64 j ∧ f = .bool (edgeTo l j (j + 1) a b) ∧ Ext wj wk) (fun _ i _ => n - (intOf i).toNat)
      case atStart => exact ⟨0, Nat.zero_le _, rfl, by rw [edgeTo_zero], Ext.refl' _⟩
      case round =>
        obtain ⟨j, hj, rfl, rfl, hx⟩ := hrel
        have HXJ := Lib.hid hx
        clear hx
        by_cases hjn : (j : Int) < (n : Int)
        rotate_left
        · have e : Hid (j = l.length) := by have h := H.out; show j = _; omega
          have HF : Hid (hasEdge l a b = edgeTo l j (j + 1) a b) := by show _ = _; unfold hasEdge; rw [e.out]
          have HO2 := Lib.hid (own_ext HO.out HXJ.out)
          have HX2 := Lib.hid (HX.out.tr HXJ.out)
          have HB9 : Hid (b < 9) := by show b < 9; omega
          have HA9 : Hid (a < 9) := by show a < 9; omega
          have HMB := Lib.hid hmb
          have h90 : m ≤ 90 := by omega
          clear hb ha
          cases hf : edgeTo l j (j + 1) (a : Int) (b : Int)
          · have e1 := Lib.hid (rowTo_miss (HF.out.trans hf))
            clear hf
            go_wp2
            go_roundw
            case rel => exact ⟨b + 1, m, B, d, by have := HB9.out; omega, by have := HMB.out; omega, by go_num, rfl, by rw [e1.out]; exact HO2.out, HX2.out⟩
            case measure => have := HB9.out; simp [intOf]; omega
          · have e1 := Lib.hid (rowTo_hit (HF.out.trans hf))
            clear hf
            go_wp2_with (at_builtin; refine wp_push rfl (.tmp 88) (.tmp 92) _ rfl w.heap.size 51 _ _ _ Try.underlying29 Try.infoEdge rfl (by omega) B m d _ rfl HO2.out [.int .i64 (a : Int), .int .i64 (b : Int)] _ (by simp) rfl rfl (by simp [Value.oneCell']) (by omega) (by unfold maxLen; omega) HX2.out.size ?_; intro A' c' w' hown' hchg' hat')
            go_roundw
            case rel => exact ⟨b + 1, m + 1, A', c', by have := HB9.out; omega, by have := HMB.out; omega, by go_num, rfl, by rw [e1.out, ← List.append_assoc, List.flatMap_append]; exact hown', hchg'.ext HX2.out fun g hg => (HO2.out.lt g hg).1⟩
            case measure => have := HB9.out; simp [intOf]; omega
        go_wp2
        go_loopw [6, 8] (fun f i wk => ∃ (q : Nat), j + 1 ≤ q ∧ q ≤ n ∧ i = .int .i64 q ∧ f = .bool (edgeTo l j q a b) ∧ Ext wj wk) (fun _ i _ => n - (intOf i).toNat)
        case atStart => exact ⟨j + 1, Nat.le_refl _, by omega, by go_num, rfl, HXJ.out⟩
        case round =>
          obtain ⟨q, hq, hqn, rfl, rfl, hx⟩ := hrel
          have HXQ := Lib.hid hx
          clear hx
          by_cases hqt : (q : Int) < (n : Int)
          rotate_left
          · have e1 := Lib.hid (edgeTo_end (l := l) (i := j) (j := q) (by have h := H.out; omega) (a : Int) (b : Int))
            go_wp2
            go_roundw
            case rel => exact ⟨j + 1, by omega, by go_num, by rw [e1.out], HXQ.out⟩
            case measure => simp [intOf]; omega
          obtain ⟨bb, o, rfl⟩ := HS.out.addr (by omega)
          have hsq := HS.out.ext ((HX.out.tr HXQ.out))
          obtain ⟨x, hxk, -, hcx⟩ := hsq.flat_cell (k := j) Access.cells_length (by omega) (by omega)
          obtain ⟨y, hyk, -, hcy⟩ := hsq.flat_cell (k := q) Access.cells_length (by omega) (by omega)
          obtain ⟨g0, g1, g2⟩ := x
          obtain ⟨p0, p1, p2⟩ := y
          have c0 := hcx 0 (by omega)
          have c1 := hcx 1 (by omega)
          have c2 := hcx 2 (by omega)
          have d0 := hcy 0 (by omega)
          have d1 := hcy 1 (by omega)
          have d2 := hcy 2 (by omega)
          simp only [Access.cells, List.getElem?_cons_zero, List.getElem?_cons_succ, Nat.add_zero] at c0 c1 c2 d0 d1 d2
          have HST := Lib.hid (edgeTo_step hxk hyk (by omega) (a : Int) (b : Int))
          have hj0 : (0 : Int) ≤ (j : Int) := by omega
          have hq0 : (0 : Int) ≤ (q : Int) := by omega
          clear hsq hxk hyk hcx hcy
          cases hf : edgeTo l j q (a : Int) (b : Int)
          rotate_left
          · have HN : Hid (edgeTo l j (q + 1) (a : Int) (b : Int) = true) := by show _ = _; rw [HST.out, hf]; rfl
            clear hf
            go_wp2
            go_quiet (fail)
            go_wp2
            go_roundw
            case rel => exact ⟨q + 1, by omega, by omega, by go_num, by rw [HN.out], HXQ.out.drN _⟩
            case measure => simp [intOf]; omega
          by_cases t0 : (a : Int) = (b : Int)
          · have HN : Hid (edgeTo l j (q + 1) (a : Int) (b : Int) = false) := by show _ = _; rw [HST.out, hf, edgeOf_no1 t0]; rfl
            have b0 : ((a : Int) != (b : Int)) = false := by simp [t0]
            clear hf t0
            go_wp2
            go_quiet (fail)
            go_wp2
            go_roundw
            case rel => exact ⟨q + 1, by omega, by omega, by go_num, by rw [HN.out], HXQ.out.drN _⟩
            case measure => simp [intOf]; omega
          have b0 : ((a : Int) != (b : Int)) = true := by simpa using t0
          by_cases t1 : g0 = (a : Int)
          rotate_left
          · have HN : Hid (edgeTo l j (q + 1) (a : Int) (b : Int) = false) := by show _ = _; rw [HST.out, hf, edgeOf_no2 t1]; rfl
            have b1 : (g0 == (a : Int)) = false := by simpa using t1
            clear hf t0 t1
            go_wp2
            go_quiet (fail)
            go_wp2
            go_roundw
            case rel => exact ⟨q + 1, by omega, by omega, by go_num, by rw [HN.out], HXQ.out.drN _⟩
            case measure => simp [intOf]; omega
          have b1 : (g0 == (a : Int)) = true := by simpa using t1
          by_cases t2 : p0 = (b : Int)
          rotate_left
          · have HN : Hid (edgeTo l j (q + 1) (a : Int) (b : Int) = false) := by show _ = _; rw [HST.out, hf, edgeOf_no3 t2]; rfl
            have b2 : (p0 == (b : Int)) = false := by simpa using t2
            clear hf t0 t1 t2
            go_wp2
            go_quiet (fail)
            go_wp2
            go_roundw
            case rel => exact ⟨q + 1, by omega, by omega, by go_num, by rw [HN.out], HXQ.out.drN _⟩
            case measure => simp [intOf]; omega
          have b2 : (p0 == (b : Int)) = true := by simpa using t2
          by_cases t3 : g1 = p1
          rotate_left
          · have HN : Hid (edgeTo l j (q + 1) (a : Int) (b : Int) = false) := by show _ = _; rw [HST.out, hf, edgeOf_no4 t3]; rfl
            have b3 : (g1 == p1) = false := by simpa using t3
            clear hf t0 t1 t2 t3
            go_wp2
            go_quiet (fail)
            go_wp2
            go_roundw
            case rel => exact ⟨q + 1, by omega, by omega, by go_num, by rw [HN.out], HXQ.out.drN _⟩
            case measure => simp [intOf]; omega
          have b3 : (g1 == p1) = true := by simpa using t3
          have HN : Hid (edgeTo l j (q + 1) (a : Int) (b : Int) = (g2 || p2)) := by show _ = _; rw [HST.out, hf, edgeOf_w t0 t1 t2 t3]; rfl
          clear hf t0 t1 t2 t3
          cases g2
          · cases p2
            · go_wp2
              go_quiet (fail)
              go_wp2
              go_roundw
              case rel => exact ⟨q + 1, by omega, by omega, by go_num, by rw [HN.out]; rfl, HXQ.out.drN _⟩
              case measure => simp [intOf]; omega
            · go_wp2
              go_quiet (fail)
              go_wp2
              go_roundw
              case rel => exact ⟨q + 1, by omega, by omega, by go_num, by rw [HN.out]; rfl, HXQ.out.drN _⟩
              case measure => simp [intOf]; omega
          · go_wp2
            go_quiet (fail)
            go_wp2
            go_roundw
            case rel => exact ⟨q + 1, by omega, by omega, by go_num, by rw [HN.out]; rfl, HXQ.out.drN _⟩
            case measure => simp [intOf]; omega
end Go.Proofs.Ytheclckjgjaecaa
