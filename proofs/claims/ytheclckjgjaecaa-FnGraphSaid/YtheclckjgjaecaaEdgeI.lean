/- Edges of the program. No condition but the length. -/
import Derived.Test.YtheclckjgjaecaaEdgeP
import Derived.Deep.RegionLaw
namespace Go.Proofs.Ytheclckjgjaecaa
open Go.RowKit Go.Deep

theorem own_emptyE (w : World) : (w.alloc (.cells #[] 51)).ownsRow w.heap.size 51 2 (.slice (some ⟨w.heap.size, 0, none⟩) 0 0) 0 (([] : List Edge).flatMap Edge.cells) :=
  World.ownsRow_lit w #[] 0 (Nat.le_refl _) (Nat.zero_le _) (by simp)
theorem acc_who {l : List Access} (h : accOk l = true) {k : Nat} {x : Access} (hx : l[k]? = some x) : ∃ a : Nat, x.who = (a : Int) ∧ a < 9 := by
  have h1 := (dec_true h).2 k (List.getElem?_eq_some_iff.1 hx).1 x hx
  exact ⟨x.who.toNat, by have := h1.1.1; omega, by have := h1.1.2; omega⟩
theorem run_row (f : Nat → Nat → Bool) (i : Nat) (hi : i < 9) (w : World) : (Instr.index 61 (.agg (gridv f)) (.int .i64 (i : Int))).run Try.prog w = .ok (.agg #[.bool (f i 0), .bool (f i 1), .bool (f i 2), .bool (f i 3), .bool (f i 4), .bool (f i 5), .bool (f i 6), .bool (f i 7), .bool (f i 8)]) w := by
  match i, hi with
  | 0, _ => rfl
  | 1, _ => rfl
  | 2, _ => rfl
  | 3, _ => rfl
  | 4, _ => rfl
  | 5, _ => rfl
  | 6, _ => rfl
  | 7, _ => rfl
  | 8, _ => rfl
theorem run_flag (f : Nat → Nat → Bool) (i k : Nat) (hk : k < 9) (w : World) : (Instr.index 60 (.agg #[.bool (f i 0), .bool (f i 1), .bool (f i 2), .bool (f i 3), .bool (f i 4), .bool (f i 5), .bool (f i 6), .bool (f i 7), .bool (f i 8)]) (.int .i64 (k : Int))).run Try.prog w = .ok (.bool (f i k)) w := by
  match k, hk with
  | 0, _ => rfl
  | 1, _ => rfl
  | 2, _ => rfl
  | 3, _ => rfl
  | 4, _ => rfl
  | 5, _ => rfl
  | 6, _ => rfl
  | 7, _ => rfl
  | 8, _ => rfl

theorem grid_size : (Try.prog.info? 61).map (·.size) = some 81 := by kernel_rfl
theorem zero_grid (l : List Access) : Try.zeroCells61 = gridv fun a b => edgeTo l 0 1 (a : Int) (b : Int) := by
  rw [gridv_congr (g := fun _ _ => false) (fun a b _ _ => edgeTo_zero l _ _)]
  rfl
set_option maxHeartbeats 8000000 in
theorem impl_Edges (A : Option Addr) (n c : Nat) (l : List Access) (w : World) (S : Nat → Prop) (hs : Sl w S 3 A n (l.flatMap Access.cells)) (hm : n ≤ 1048576) (hcap : n ≤ c) :
    Calls Try.prog 18 #[.slice A n c] w fun e w' => ∃ B m d, e = .returned (.slice B m d) ∧ w'.ownsRow w.heap.size 51 2 (.slice B m d) m ((edges l).flatMap Edge.cells) ∧ Ext w w' := by
  have H := Lib.hid (hs.flen Access.cells_length (by omega))
  have HS := Lib.hid hs
  go_enter Try.func18, Try.ntmps18
  go_wp2_with fail
  refine (impl_AccessOk A n c l _ S hs (by omega)).mono ?_
  rintro e w1 ⟨rfl, x1⟩
  have X1 := Lib.hid x1
  clear x1 hs
  cases hok : accOk l
  · have HN := Lib.hid (edges_no hok)
    clear hok
    go_wp2
    go_ret
    exact ⟨_, _, _, rfl, by rw [HN.out]; exact World.ownsRow_nil _ _ _ _, X1.out⟩
  have HY := Lib.hid (edges_yes hok)
  have HOK := Lib.hid hok
  have HC := Lib.hid hcap
  clear hok
  have hz : w.heap.size ≤ w1.heap.size := X1.out.size
  have HB0 : Hid (Bx (w1.alloc (.cells Try.zeroCells61 61)) w1.heap.size 61 (gridv fun a b => edgeTo l 0 1 (a : Int) (b : Int))) := (Bx.new' _ _ _ rfl).cast (zero_grid l)
  have hz2 : w.heap.size ≤ (w1.alloc (.cells Try.zeroCells61 61)).heap.size := by simp; omega
  have H60 : Hid (n ≤ 60) := by show n ≤ 60; have h := (dec_true HOK.out).1; have h2 := H.out; omega
  go_wp2
  go_loopw [18] (fun i wr => ∃ k : Nat, k ≤ n ∧ i = .int .i64 k ∧ Hid (Bx wr w1.heap.size 61 (gridv fun a b => edgeTo l k (k + 1) (a : Int) (b : Int))) ∧ Ext w wr) (fun i _ => n - (intOf i).toNat)
  case atStart => exact ⟨0, Nat.zero_le _, rfl, HB0, X1.out.al _⟩
  case round =>
    obtain ⟨k, hk, rfl, HB, hx⟩ := hrel
    obtain ⟨wo, rfl⟩ : ∃ wo : World, wo = wr := ⟨_, rfl⟩
    have HX := Lib.hid hx
    clear hx
    by_cases hlt : (k : Int) < (n : Int)
    rotate_left
    · have e : Hid (k = l.length) := by have h := H.out; show k = _; omega
      have HBF : Hid (wo.heap[w1.heap.size]? = some (.cells (gridv fun a b => hasEdge l (a : Int) (b : Int)) 61 (0, 0))) := by
        have h := HB.out
        rw [e.out] at h
        exact h
      clear HB
      have oe := Lib.hid (own_base (own_emptyE wo) HX.out.size)
      have hri : Hid (∀ (i : Nat), i < 9 → ∀ w : World, (Instr.index 61 (.agg (gridv fun a b => hasEdge l (a : Int) (b : Int))) (.int .i64 (i : Int))).run Try.prog w = .ok (.agg #[.bool (hasEdge l i 0), .bool (hasEdge l i 1), .bool (hasEdge l i 2), .bool (hasEdge l i 3), .bool (hasEdge l i 4), .bool (hasEdge l i 5), .bool (hasEdge l i 6), .bool (hasEdge l i 7), .bool (hasEdge l i 8)]) w) := fun i hi w => run_row (fun a b => hasEdge l (a : Int) (b : Int)) i hi w
      have HG : Hid ((Try.prog.info? 61).map (·.size) = some (gridv fun a b => hasEdge l (a : Int) (b : Int)).size) := by show _ = _; rw [gridv_size]; exact grid_size
      generalize (gridv fun a b => hasEdge l (a : Int) (b : Int)) = G at HBF hri HG
      clear hz2 hm hcap hz
      have HBF2 : Hid ((wo.alloc (.cells #[] 51)).heap[w1.heap.size]? = some (.cells G 61 (0, 0))) := (Bx.al (cs := G) HBF.out _)
      go_wp2_with (refine wpList_load_row rfl 61 _ rfl w1.heap.size rfl 61 G _ _ HBF2.out Try.underlying61 rfl HG.out ?_)
      go_loopw [8, 62] (fun u i wi => ∃ (a m : Nat) (B : Option Addr) (d : Nat), a ≤ 9 ∧ m ≤ a * 9 ∧ i = .int .i64 a ∧ u = .slice B m d ∧ wi.ownsRow w.heap.size 51 2 (.slice B m d) m ((edTo l a).flatMap Edge.cells) ∧ Ext w wi) (fun _ i _ => 9 - (intOf i).toNat)
      case atStart => exact ⟨0, 0, _, _, Nat.zero_le _, Nat.zero_le _, rfl, rfl, oe.out, HX.out.al _⟩
      case round =>
        obtain ⟨a, m, B, d, ha, hma, rfl, rfl, ho, hx⟩ := hrel
        obtain ⟨wp, rfl⟩ : ∃ wp : World, wp = wr := ⟨_, rfl⟩
        have HX := Lib.hid hx
        have HO := Lib.hid ho
        clear ho hx
        by_cases hlt : (a : Int) < 9
        rotate_left
        · have e : a = 9 := by omega
          go_wp2
          go_ret
          exact ⟨_, _, _, rfl, by rw [HY.out, ← e]; exact HO.out, HX.out⟩
        have HMA := Lib.hid hma
        have hrow := hri.out a (by omega)
        have HA : Hid (a < 9) := by show a < 9; omega
        clear ha
        go_wp2
        go_loopw [8, 67] (fun u i wj => ∃ (b m : Nat) (B : Option Addr) (d : Nat), b ≤ 9 ∧ m ≤ a * 9 + b ∧ i = .int .i64 b ∧ u = .slice B m d ∧ wj.ownsRow w.heap.size 51 2 (.slice B m d) m ((edTo l a ++ rowTo l a b).flatMap Edge.cells) ∧ Ext w wj) (fun _ i _ => 9 - (intOf i).toNat)
        case atStart => exact ⟨0, m, B, d, Nat.zero_le _, HMA.out, rfl, rfl, by simpa [rowTo] using own_ext HO.out (((Ext.refl' _).al _)), HX.out.al _⟩
        case round =>
          clear HO HX HMA hma hrow
          obtain ⟨b, m, B, d, hb, hmb, rfl, rfl, ho, hx⟩ := hrel
          have HX := Lib.hid hx
          have HO := Lib.hid ho
          clear ho hx
          by_cases hbt : (b : Int) < 9
          rotate_left
          · have e : b = 9 := by omega
            go_wp2
            go_roundw
            case rel => exact ⟨a + 1, m, B, d, by have := HA.out; omega, by omega, by go_num, rfl, by rw [edTo_succ, ← e]; exact HO.out, HX.out⟩
            case measure => have := HA.out; simp [intOf]; omega
          have HB9 : Hid (b < 9) := by show b < 9; omega
          clear hb
          cases hf : hasEdge l (a : Int) (b : Int)
          · have e1 := Lib.hid (rowTo_miss hf)
            have hflag : ∀ w : World, (Instr.index 60 (.agg #[.bool (hasEdge l a 0), .bool (hasEdge l a 1), .bool (hasEdge l a 2), .bool (hasEdge l a 3), .bool (hasEdge l a 4), .bool (hasEdge l a 5), .bool (hasEdge l a 6), .bool (hasEdge l a 7), .bool (hasEdge l a 8)]) (.int .i64 (b : Int))).run Try.prog w = .ok (.bool false) w := fun w => (run_flag (fun x y => hasEdge l (x : Int) (y : Int)) a b HB9.out w).trans (by simp only [hf])
            clear hf
            go_wp2
            go_roundw
            case rel => exact ⟨b + 1, m, B, d, by have := HB9.out; omega, by omega, by go_num, rfl, by rw [e1.out]; exact HO.out, HX.out⟩
            case measure => have := HB9.out; simp [intOf]; omega
          · have e1 := Lib.hid (rowTo_hit hf)
            have hflag : ∀ w : World, (Instr.index 60 (.agg #[.bool (hasEdge l a 0), .bool (hasEdge l a 1), .bool (hasEdge l a 2), .bool (hasEdge l a 3), .bool (hasEdge l a 4), .bool (hasEdge l a 5), .bool (hasEdge l a 6), .bool (hasEdge l a 7), .bool (hasEdge l a 8)]) (.int .i64 (b : Int))).run Try.prog w = .ok (.bool true) w := fun w => (run_flag (fun x y => hasEdge l (x : Int) (y : Int)) a b HB9.out w).trans (by simp only [hf])
            clear hf
            go_wp2_with (at_builtin; refine wp_push rfl (.tmp 72) (.tmp 76) _ rfl w.heap.size 51 _ _ _ Try.underlying29 Try.infoEdge rfl (by omega) B m d _ rfl HO.out [.int .i64 (a : Int), .int .i64 (b : Int)] _ (by simp) rfl rfl (by simp [Value.oneCell']) (by have := HB9.out; have := HA.out; omega) (by have := HB9.out; have := HA.out; unfold maxLen; omega) HX.out.size ?_; intro A' c' w' hown' hchg' hat')
            go_roundw
            case rel => exact ⟨b + 1, m + 1, A', c', by have := HB9.out; omega, by omega, by go_num, rfl, by rw [e1.out, ← List.append_assoc, List.flatMap_append]; exact hown', hchg'.ext HX.out fun g hg => (HO.out.lt g hg).1⟩
            case measure => have := HB9.out; simp [intOf]; omega
    obtain ⟨b, o, rfl⟩ := HS.out.addr (by omega)
    obtain ⟨x, hxk, hbl, hcx⟩ := (HS.out.ext HX.out).flat_cell (k := k) Access.cells_length (by omega) (by omega)
    obtain ⟨f0, f1, f2⟩ := x
    have c0 := hcx 0 (by omega)
    have c1 := hcx 1 (by omega)
    have c2 := hcx 2 (by omega)
    simp only [Access.cells, List.getElem?_cons_zero, List.getElem?_cons_succ, Nat.add_zero] at c0 c1 c2
    have HXK := Lib.hid hxk
    have hk0 : (0 : Int) ≤ (k : Int) + 1 := by omega
    have hk1 : (k : Int) + 1 ≤ (n : Int) := by omega
    have hcn : (n : Int) ≤ (c : Int) := by omega
    clear hxk hcx hz2
    have HBA : Hid (Bx (wo.alloc (.cells #[.int .i64 f0, .int .i64 f1, .bool f2] 54)) w1.heap.size 61 (gridv fun a b => edgeTo l k (k + 1) (a : Int) (b : Int))) := HB.out.al _
    have HAA : Hid (Bx (wo.alloc (.cells #[.int .i64 f0, .int .i64 f1, .bool f2] 54)) wo.heap.size 54 #[.int .i64 f0, .int .i64 f1, .bool f2]) := Bx.new' _ _ _ rfl
    have hne : Hid (w1.heap.size < wo.heap.size) := HB.out.lt
    have HK : Hid (k < n) := by show k < n; omega
    by_cases hck : c = k + 1
    · have hnk : (n : Int) - ((k : Int) + 1) = 0 := by omega
      have hnk2 : n - (k + 1) = 0 := by omega
      have hsub : k + 1 - (k + 1) = 0 := by omega
      have e : Hid (∀ a b : Int, edgeTo l k (k + 1) a b = edgeTo l (k + 1) (k + 1 + 1) a b) := fun a b => edgeTo_end (by have h := H.out; omega) a b
      go_wp2
      go_loopw [28] (fun i wi => i = .int .i64 0 ∧ Hid (Bx wi w1.heap.size 61 (gridv fun a b => edgeTo l k (k + 1) (a : Int) (b : Int))) ∧ Ext w wi) (fun _ _ => 0)
      case atStart => exact ⟨rfl, HBA, HX.out.al _⟩
      case round =>
        clear HBA
        obtain ⟨rfl, HB, hx⟩ := hrel
        have HXI := Lib.hid hx
        clear hx
        go_wp2
        go_roundw
        case rel => exact ⟨k + 1, by have := HK.out; omega, by go_num, HB.out.cast (gridv_congr fun a b _ _ => e.out _ _), HXI.out⟩
        case measure => have := HK.out; simp [intOf]; omega
    go_wp2
    generalize hN : n - (k + 1) = N
    have HN : Hid (N + (k + 1) = n) := by show _ = n; have := HK.out; omega
    have hN1 : N ≤ 1048576 := by omega
    clear hN HB hlt
    go_loopw [28] (fun i wi => ∃ m : Nat, m ≤ N ∧ i = .int .i64 m ∧ Hid (Bx wi w1.heap.size 61 (gridv fun a b => edgeTo l k (k + 1 + m) (a : Int) (b : Int))) ∧ Hid (Bx wi wo.heap.size 54 #[.int .i64 f0, .int .i64 f1, .bool f2]) ∧ Ext w wi) (fun i _ => N - (intOf i).toNat)
    case atStart => exact ⟨0, Nat.zero_le _, rfl, HBA, HAA, HX.out.al _⟩
    case round =>
      clear HBA HAA
      obtain ⟨m, hmN, rfl, HB, HA, hx⟩ := hrel
      have HXI := Lib.hid hx
      clear hx
      have a0 : wr.cell? ⟨wo.heap.size, 0, none⟩ = some (.int .i64 f0) := HA.out.cell 0
      have a1 : wr.cell? ⟨wo.heap.size, 1, none⟩ = some (.int .i64 f1) := HA.out.cell 1
      have a2 : wr.cell? ⟨wo.heap.size, 2, none⟩ = some (.bool f2) := HA.out.cell 2
      have hlo : wo.heap.size < wr.heap.size := HA.out.lt
      have hl1 : w1.heap.size < wr.heap.size := HB.out.lt
      by_cases hmt : (m : Int) < (N : Int)
      rotate_left
      · have e : Hid (∀ a b : Int, edgeTo l k (k + 1 + m) a b = edgeTo l (k + 1) (k + 1 + 1) a b) := fun a b => edgeTo_end (by have h := H.out; have h2 := HN.out; omega) a b
        clear a0 a1 a2
        go_wp2
        go_roundw
        case rel => exact ⟨k + 1, by have := HK.out; omega, by go_num, HB.out.cast (gridv_congr fun a b _ _ => e.out _ _), HXI.out⟩
        case measure => have := HK.out; simp [intOf]; omega
      have HMN : Hid (m < N) := by show m < N; omega
      obtain ⟨y, hyk, -, hcy⟩ := (HS.out.ext HXI.out).flat_cell (k := k + 1 + m) Access.cells_length (by omega) (by have := HN.out; omega)
      obtain ⟨g0, g1, g2⟩ := y
      have d0 := hcy 0 (by omega)
      have d1 := hcy 1 (by omega)
      have d2 := hcy 2 (by omega)
      simp only [Access.cells, List.getElem?_cons_zero, List.getElem?_cons_succ, Nat.add_zero, Nat.add_mul (k + 1) m 3, ← Nat.add_assoc] at d0 d1 d2
      have HYK := Lib.hid hyk
      have HST : Hid (∀ a b : Int, edgeTo l k (k + 1 + (m + 1)) a b = (edgeTo l k (k + 1 + m) a b || dec (EdgeOf ⟨f0, f1, f2⟩ ⟨g0, g1, g2⟩ a b))) := fun a b => edgeTo_step HXK.out HYK.out (by omega) a b
      have hm0 : (0 : Int) ≤ (m : Int) := by omega
      clear hyk hcy
      obtain ⟨x0, hx0, hx9⟩ := acc_who HOK.out HXK.out
      obtain ⟨y0, hy0, hy9⟩ := acc_who HOK.out HYK.out
      simp only at hx0 hy0
      subst hx0 hy0
      have HX9 := Lib.hid hx9
      have HY9 := Lib.hid hy9
      have hxl : (x0 : Int) < 9 := by omega
      have hyl : (y0 : Int) < 9 := by omega
      have hx0 : (0 : Int) ≤ (x0 : Int) := by omega
      have hy0 : (0 : Int) ≤ (y0 : Int) := by omega
      clear hx9 hy9 hmt
      by_cases t1 : f1 = g1
      rotate_left
      · have b1 : (f1 == g1) = false := by simpa using t1
        have HNE : Hid (∀ a b : Int, edgeTo l k (k + 1 + (m + 1)) a b = edgeTo l k (k + 1 + m) a b) := fun a b => by rw [HST.out, dec_no (fun z => t1 z.2.2.2.1), Bool.or_false]
        clear t1
        go_wp2
        go_roundw
        case rel => exact ⟨m + 1, by have := HMN.out; omega, by go_num, (HB.out.al _).cast (gridv_congr fun a b _ _ => (HNE.out _ _).symm), HA.out.al _, HXI.out.al _⟩
        case measure => have := HMN.out; simp [intOf]; omega
      have b1 : (f1 == g1) = true := by simpa using t1
      cases f2
      · cases g2
        · skip
          have HNE : Hid (∀ a b : Int, edgeTo l k (k + 1 + (m + 1)) a b = edgeTo l k (k + 1 + m) a b) := fun a b => by rw [HST.out, dec_no (fun z => by rcases z.2.2.2.2 with h | h <;> cases h), Bool.or_false]
          clear t1
          go_wp2
          go_roundw
          case rel => exact ⟨m + 1, by have := HMN.out; omega, by go_num, (HB.out.al _).cast (gridv_congr fun a b _ _ => (HNE.out _ _).symm), HA.out.al _, HXI.out.al _⟩
          case measure => have := HMN.out; simp [intOf]; omega
        · skip
          by_cases t2 : (x0 : Int) = (y0 : Int)
          · have b2 : ((x0 : Int) != (y0 : Int)) = false := by simp [t2]
            have HNE : Hid (∀ a b : Int, edgeTo l k (k + 1 + (m + 1)) a b = edgeTo l k (k + 1 + m) a b) := fun a b => by rw [HST.out, dec_no (fun z => z.1 (by rw [← z.2.1, ← z.2.2.1]; exact t2)), Bool.or_false]
            clear t1 t2
            go_wp2
            go_roundw
            case rel => exact ⟨m + 1, by have := HMN.out; omega, by go_num, (HB.out.al _).cast (gridv_congr fun a b _ _ => (HNE.out _ _).symm), HA.out.al _, HXI.out.al _⟩
            case measure => have := HMN.out; simp [intOf]; omega
          have b2 : ((x0 : Int) != (y0 : Int)) = true := by simpa using t2
          have HED : Hid (∀ a b : Nat, edgeTo l k (k + 1 + (m + 1)) (a : Int) (b : Int) = (edgeTo l k (k + 1 + m) (a : Int) (b : Int) || (decide (a = x0) && decide (b = y0)))) := fun a b => by
            rw [HST.out]
            congr 1
            by_cases e1 : a = x0
            · by_cases e2 : b = y0
              · rw [dec_yes ⟨by rw [e1, e2]; exact t2, by rw [e1], by rw [e2], t1, .inr rfl⟩]; simp [e1, e2]
              · rw [dec_no (fun z => e2 (by have h : (y0 : Int) = (b : Int) := z.2.2.1; omega))]; simp [e2]
            · rw [dec_no (fun z => e1 (by have h : (x0 : Int) = (a : Int) := z.2.1; omega))]; simp [e1]
          clear t1 t2
          have hgc : ∀ o, (wr.alloc o).cell? ⟨w1.heap.size, x0 * 9 + y0, none⟩ = some (.bool (edgeTo l k (k + 1 + m) (x0 : Int) (y0 : Int))) := fun o => ((HB.out.al o).cell _).trans (gridv_get _ HX9.out HY9.out)
          have hgf : ∀ o, (wr.alloc o).frozen? ⟨w1.heap.size, x0 * 9 + y0, none⟩ = false := fun o => (HB.out.al o).frozen _
          go_wp2
          go_region_law (fail)
          all_goals
            go_wp2
            go_roundw
            case rel => exact ⟨m + 1, by have := HMN.out; omega, by go_num, (((HB.out.set_ (x0 * 9 + y0) (.bool true)).cast (by rw [gridv_set _ HX9.out HY9.out]; exact gridv_congr fun a b _ _ => (HED.out _ _).symm)).al _).dr, ((HA.out.far (p := ⟨w1.heap.size, x0 * 9 + y0, none⟩) (by have := hne.out; show wo.heap.size ≠ w1.heap.size; omega) _).al _).dr, ((HXI.out.sc (p := ⟨w1.heap.size, x0 * 9 + y0, none⟩) (by have := X1.out.size; show w.heap.size ≤ w1.heap.size; omega) _).al _).dr⟩
            case measure => have := HMN.out; simp [intOf]; omega
      · skip
        by_cases t2 : (x0 : Int) = (y0 : Int)
        · have b2 : ((x0 : Int) != (y0 : Int)) = false := by simp [t2]
          have HNE : Hid (∀ a b : Int, edgeTo l k (k + 1 + (m + 1)) a b = edgeTo l k (k + 1 + m) a b) := fun a b => by rw [HST.out, dec_no (fun z => z.1 (by rw [← z.2.1, ← z.2.2.1]; exact t2)), Bool.or_false]
          clear t1 t2
          go_wp2
          go_roundw
          case rel => exact ⟨m + 1, by have := HMN.out; omega, by go_num, (HB.out.al _).cast (gridv_congr fun a b _ _ => (HNE.out _ _).symm), HA.out.al _, HXI.out.al _⟩
          case measure => have := HMN.out; simp [intOf]; omega
        have b2 : ((x0 : Int) != (y0 : Int)) = true := by simpa using t2
        have HED : Hid (∀ a b : Nat, edgeTo l k (k + 1 + (m + 1)) (a : Int) (b : Int) = (edgeTo l k (k + 1 + m) (a : Int) (b : Int) || (decide (a = x0) && decide (b = y0)))) := fun a b => by
          rw [HST.out]
          congr 1
          by_cases e1 : a = x0
          · by_cases e2 : b = y0
            · rw [dec_yes ⟨by rw [e1, e2]; exact t2, by rw [e1], by rw [e2], t1, .inl rfl⟩]; simp [e1, e2]
            · rw [dec_no (fun z => e2 (by have h : (y0 : Int) = (b : Int) := z.2.2.1; omega))]; simp [e2]
          · rw [dec_no (fun z => e1 (by have h : (x0 : Int) = (a : Int) := z.2.1; omega))]; simp [e1]
        clear t1 t2
        have hgc : ∀ o, (wr.alloc o).cell? ⟨w1.heap.size, x0 * 9 + y0, none⟩ = some (.bool (edgeTo l k (k + 1 + m) (x0 : Int) (y0 : Int))) := fun o => ((HB.out.al o).cell _).trans (gridv_get _ HX9.out HY9.out)
        have hgf : ∀ o, (wr.alloc o).frozen? ⟨w1.heap.size, x0 * 9 + y0, none⟩ = false := fun o => (HB.out.al o).frozen _
        go_wp2
        go_region_law (fail)
        all_goals
          go_wp2
          go_roundw
          case rel => exact ⟨m + 1, by have := HMN.out; omega, by go_num, (((HB.out.set_ (x0 * 9 + y0) (.bool true)).cast (by rw [gridv_set _ HX9.out HY9.out]; exact gridv_congr fun a b _ _ => (HED.out _ _).symm)).al _).dr, ((HA.out.far (p := ⟨w1.heap.size, x0 * 9 + y0, none⟩) (by have := hne.out; show wo.heap.size ≠ w1.heap.size; omega) _).al _).dr, ((HXI.out.sc (p := ⟨w1.heap.size, x0 * 9 + y0, none⟩) (by have := X1.out.size; show w.heap.size ≤ w1.heap.size; omega) _).al _).dr⟩
          case measure => have := HMN.out; simp [intOf]; omega
end Go.Proofs.Ytheclckjgjaecaa
