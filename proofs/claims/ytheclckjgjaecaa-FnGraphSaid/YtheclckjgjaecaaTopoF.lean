/- The contract of laws.FnTopo. No condition. -/
import Derived.Test.YtheclckjgjaecaaDrawTopo
import Derived.Test.YtheclckjgjaecaaTopoI
import Derived.Test.YtheclckjgjaecaaTopoQ
import Derived.Test.YtheclckjgjaecaaOpenB
namespace Go.Proofs.Ytheclckjgjaecaa
open Go.RowKit Go.Deep

theorem big_any (A : Option Addr) (n c : Nat) (w : World) : Calls Try.prog 40 #[.slice A n c] w fun e w' => e = .returned (.bool (decide ((1048576 : Int) < (n : Int)))) ∧ w = w' := by
  go_enter Try.func40, Try.ntmps40
  go_wp2
  go_ret
  exact ⟨rfl, rfl⟩
theorem big_yes (A : Option Addr) (n c : Nat) (w : World) (h : Hid ((1048576 : Int) < (n : Int))) : Calls Try.prog 40 #[.slice A n c] w fun e w' => e = .returned (.bool true) ∧ w = w' := by
  refine (big_any A n c w).mono ?_
  rintro e w' ⟨rfl, rfl⟩
  rw [decide_eq_true h.out]
  exact ⟨rfl, rfl⟩
theorem big_no (A : Option Addr) (n c : Nat) (w : World) (h : Hid (¬ (1048576 : Int) < (n : Int))) : Calls Try.prog 40 #[.slice A n c] w fun e w' => e = .returned (.bool false) ∧ w = w' := by
  refine (big_any A n c w).mono ?_
  rintro e w' ⟨rfl, rfl⟩
  rw [decide_eq_false h.out]
  exact ⟨rfl, rfl⟩
theorem Sl.low {w : World} {S : Nat → Prop} {size n : Nat} {A : Option Addr} {xs : List Value} (h : Sl w S size A n xs) : Sl w (fun j => j < w.heap.size) size A n xs :=
  ⟨h.1, fun hn => by obtain ⟨b, o, e, _, hb, hc⟩ := h.2 hn; exact ⟨b, o, e, hb, hb, hc⟩⟩
def Edge.fwd (N : Int) (_ : Nat) (e : Edge) : Prop := 0 ≤ e.from_ ∧ e.from_ < e.to_ ∧ e.to_ < N
noncomputable def upTo (N : Int) (m : Nat) (es : List Edge) (i : Nat) : Bool := dec (((0 ≤ N ∧ N ≤ 9) ∧ m ≤ 81) ∧ AllTo (Edge.fwd N) es i)
theorem upTo_no {N : Int} {m i : Nat} {es : List Edge} (h : upTo N m es i = false) : upTo N m es (i + 1) = false := dec_no fun q => dec_false h ⟨q.1, fun j hj => q.2 j (by omega)⟩
theorem upTo_bad {N : Int} {m i : Nat} {es : List Edge} {e : Edge} (he : es[i]? = some e) (h : ¬ Edge.fwd N i e) : upTo N m es (i + 1) = false := dec_no fun q => h (q.2 i (by omega) e he)
theorem upTo_yes {N : Int} {m i : Nat} {es : List Edge} {e : Edge} (h : upTo N m es i = true) (he : es[i]? = some e) (hf : Edge.fwd N i e) : upTo N m es (i + 1) = true := dec_yes ⟨(dec_true h).1, (dec_true h).2.succ he hf⟩
theorem upTo_zero (N : Int) (m : Nat) (es : List Edge) : upTo N m es 0 = (decide (0 ≤ N) && decide (N ≤ 9) && decide ((m : Int) ≤ 81)) := by
  by_cases h : (0 ≤ N ∧ N ≤ 9) ∧ m ≤ 81
  · rw [show upTo N m es 0 = true from dec_yes ⟨h, AllTo.zero _ _⟩]; simp [h.1.1, h.1.2]; omega
  · rw [show upTo N m es 0 = false from dec_no fun q => h q.1]
    symm
    simp only [Bool.and_eq_false_iff, decide_eq_false_iff_not]
    omega

theorem topo_zero {N : Int} {m : Nat} {es : List Edge} (hu : upTo N m es m = true) (hl : es.length = m) (h : (topoOf N es).length = 0) : N = 0 := by
  obtain ⟨⟨⟨h0, h9⟩, hm⟩, hall⟩ := dec_true hu
  obtain ⟨M, rfl⟩ : ∃ M : Nat, N = (M : Int) := ⟨N.toNat, by omega⟩
  obtain ⟨out, ho⟩ := tp_some (l := es) (N := M) (fun e he => by
    obtain ⟨i, hi⟩ := List.mem_iff_getElem?.1 he
    have h1 := hall i (by have := (List.getElem?_eq_some_iff.1 hi).1; omega) e hi
    exact ⟨h1.1, h1.2.1⟩) M (Nat.le_refl M)
  rw [topo_yes ⟨⟨h0, h9⟩, by omega, by
    rw [hl]
    intro i hi e he
    have h1 := hall i hi e he
    have h2 := h1.1
    have h3 := h1.2.1
    have h4 := h1.2.2
    exact ⟨⟨by omega, by omega⟩, by omega, by omega⟩⟩, ho] at h
  have h5 := (tp_free ho).1
  simp at h
  subst h
  simp at h5
  omega
theorem topo_full {N : Int} {es : List Edge} (h : (topoOf N es).length ≠ 0) : ∃ M : Nat, N = M ∧ M ≤ 9 ∧ (topoOf N es).length = M ∧ AllTo (Edge.ok N) es es.length ∧ tp es M M = some (topoOf N es) := by
  by_cases hc : (0 ≤ N ∧ N ≤ 9) ∧ es.length ≤ 81 ∧ AllTo (Edge.ok N) es es.length
  · have hc' := hc
    obtain ⟨⟨h0, h9⟩, hm, hall⟩ := hc
    obtain ⟨M, rfl⟩ : ∃ M : Nat, N = (M : Int) := ⟨N.toNat, by omega⟩
    rw [topo_yes hc'] at h ⊢
    cases ht : tp es M M with
    | none => rw [ht] at h; exact absurd rfl h
    | some out => exact ⟨M, rfl, by omega, (tp_free ht).1, hall, ht⟩
  · exact absurd (by rw [topo_no hc]; rfl) h
def Placed (out pl : List Int) (j : Nat) : Prop := pl.length = 9 ∧ ∀ (i : Nat) (v : Int), i < j → out[i]? = some v → pl[v.toNat]? = some ((i : Int) + 1)
theorem Placed.next {out pl : List Int} {j : Nat} {v : Nat} (h : Placed out pl j) (hn : out.Nodup ∧ ∀ x ∈ out, 0 ≤ x ∧ x < (9 : Nat)) (hv : out[j]? = some (v : Int)) : Placed out (pl.set v ((j : Int) + 1)) (j + 1) := by
  refine ⟨by rw [List.length_set]; exact h.1, fun i u hi hu => ?_⟩
  have hv9 := (hn.2 _ (List.mem_of_getElem? hv)).2
  by_cases e : i = j
  · subst e
    rw [hv] at hu
    injection hu with hu
    subst hu
    have h1 := h.1
    rw [List.getElem?_set, if_pos (by omega), if_pos (by omega)]
  · have h2 := h.2 i u (by omega) hu
    rw [List.getElem?_set, if_neg ?_]
    · exact h2
    · intro q
      have hu0 := (hn.2 _ (List.mem_of_getElem? hu)).1
      have huv : u = (v : Int) := by omega
      obtain ⟨p1, p2⟩ := List.getElem?_eq_some_iff.1 hu
      obtain ⟨p3, p4⟩ := List.getElem?_eq_some_iff.1 hv
      have hpw := List.pairwise_iff_getElem.1 (List.nodup_iff_pairwise_ne.1 hn.1)
      exact hpw i j p1 p3 (by omega) (by rw [p2, p4, huv])
set_option maxRecDepth 8000 in
set_option maxHeartbeats 8000000 in
theorem law_FnTopo (A : Option Addr) (n c : Nat) (bs : List UInt8) (w : World) (hs : Sl w (fun _ => True) 1 A n (charsD bs)) :
    Calls Try.prog 10 #[.slice A n c] w fun e w' => e = .returned (.bool true) ∧ Ext w w' := by
  by_cases hb : (1048576 : Int) < (n : Int)
  · have HG := Lib.hid hb
    clear hb
    go_enter Try.func10, Try.ntmps10
    go_wp2_with (go_at_call 40; refine (big_yes _ _ _ _ HG).mono ?_; rintro e w' ⟨rfl, rfl⟩)
    go_ret
    exact ⟨rfl, Ext.refl' _⟩
  have HG := Lib.hid hb
  have HS := Lib.hid hs
  have HB : Hid (n ≤ 1048576) := by have h := HG.out; show n ≤ _; omega
  clear hb hs
  go_enter Try.func10, Try.ntmps10
  go_wp2_with (go_at_call 40; refine (big_no _ _ _ _ HG).mono ?_; rintro e w' ⟨rfl, rfl⟩)
  refine (DrawTopo_any _ _ _ bs w _ HS.out.low HB.out (fun j hj => hj)).mono ?_
  rintro e w1 ⟨N, B, m, d, es, rfl, hN, hm, own1, x1⟩
  have O1 := Lib.hid own1
  have X1 := Lib.hid x1
  have HN := Lib.hid hN
  have HL : Hid (es.length = m) := by have h := own1.1; rw [flat_length Edge.cells_length] at h; show _ = _; omega
  have z1 : w.heap.size ≤ w1.heap.size := x1.size
  clear own1 x1
  go_wp2_with fail
  refine (impl_Topo N B m d es w1 _ (ownSl O1.out) (by omega)).mono ?_
  rintro e w2 ⟨B2, k, d2, rfl, own2, x2⟩
  have O2 := Lib.hid own2
  have X2 := Lib.hid (X1.out.tr x2)
  have O1b := Lib.hid (own_ext O1.out x2)
  have HLK : Hid ((topoOf N es).length = k) := by have h := own_len own2; rw [ints_length] at h; exact h
  have SE := Lib.hid (ownSl O1b.out)
  clear own2 x2
  have HU0 := Lib.hid (upTo_zero N m es)
  have hmi : (m : Int) ≤ 100 := by omega
  obtain ⟨hN1, hN2⟩ := hN
  have SB := Lib.hid (ownSl O2.out)
  go_wp2
  all_goals (
  go_loopw [6, 7] (fun up i wr => ∃ j : Nat, j ≤ m ∧ up = .bool (upTo N m es j) ∧ i = .int .i64 j ∧ Ext w2 wr) (fun _ i _ => m - (intOf i).toNat)
  case atStart => exact ⟨0, Nat.zero_le _, by rw [HU0.out]; first | (simp [*]; done) | (congr 1; symm; simp only [Bool.and_eq_false_iff, decide_eq_false_iff_not]; omega) | (congr 1; symm; simp only [Bool.and_eq_false_iff]; simp_all; omega), rfl, Ext.refl' _⟩
  case round =>
    obtain ⟨j, hj, rfl, rfl, hx⟩ := hrel
    obtain ⟨wt, rfl⟩ : ∃ x, x = wr := ⟨wr, rfl⟩
    have XT := Lib.hid hx
    clear hx
    by_cases hlt : (j : Int) < (m : Int)
    · obtain ⟨b, o, rfl⟩ := SE.out.addr (by omega)
      obtain ⟨s, hsk, -, hc⟩ := (SE.out.ext XT.out).flat_cell (k := j) Edge.cells_length (by omega) (by omega)
      obtain ⟨g0, g1⟩ := s
      have k0 := hc 0 (by omega)
      have k1 := hc 1 (by omega)
      simp only [Edge.cells, List.getElem?_cons_zero, List.getElem?_cons_succ, Nat.add_zero] at k0 k1
      have HSK := Lib.hid hsk
      clear hsk hc
      cases hup : upTo N m es j
      · have HF := Lib.hid (upTo_no hup)
        clear hup
        go_wp2
        go_quiet (fail)
        go_wp2
        go_roundw
        case rel => exact ⟨j + 1, by omega, by rw [HF.out], by go_num, XT.out.drN _⟩
        case measure => simp [intOf]; omega
      have HUP := Lib.hid hup
      clear hup
      by_cases t0 : 0 ≤ g0
      rotate_left
      · have HF := Lib.hid (upTo_bad (N := N) (m := m) HSK.out (fun q => t0 q.1))
        have d0 : decide (0 ≤ g0) = false := decide_eq_false t0
        clear t0
        go_wp2
        go_quiet (fail)
        go_wp2
        go_roundw
        case rel => exact ⟨j + 1, by omega, by rw [HF.out], by go_num, XT.out.drN _⟩
        case measure => simp [intOf]; omega
      have d0 : decide (0 ≤ g0) = true := decide_eq_true t0
      by_cases t1 : g0 < g1
      rotate_left
      · have HF := Lib.hid (upTo_bad (N := N) (m := m) HSK.out (fun q => t1 q.2.1))
        have d1 : decide (g0 < g1) = false := decide_eq_false t1
        clear t1
        go_wp2
        go_quiet (fail)
        go_wp2
        go_roundw
        case rel => exact ⟨j + 1, by omega, by rw [HF.out], by go_num, XT.out.drN _⟩
        case measure => simp [intOf]; omega
      have d1 : decide (g0 < g1) = true := decide_eq_true t1
      by_cases t2 : g1 < N
      rotate_left
      · have HF := Lib.hid (upTo_bad (N := N) (m := m) HSK.out (fun q => t2 q.2.2))
        have d2 : decide (g1 < N) = false := decide_eq_false t2
        clear t2
        go_wp2
        go_quiet (fail)
        go_wp2
        go_roundw
        case rel => exact ⟨j + 1, by omega, by rw [HF.out], by go_num, XT.out.drN _⟩
        case measure => simp [intOf]; omega
      have d2 : decide (g1 < N) = true := decide_eq_true t2
      have HF := Lib.hid (upTo_yes HUP.out HSK.out ⟨t0, t1, t2⟩)
      clear t0 t1 t2
      go_wp2
      go_quiet (fail)
      go_wp2
      go_roundw
      case rel => exact ⟨j + 1, by omega, by rw [HF.out], by go_num, XT.out.drN _⟩
      case measure => simp [intOf]; omega
    obtain rfl : j = m := by omega
    by_cases hk0 : k = 0
    · subst hk0
      cases hup : upTo N j es j
      · go_wp2
        go_ret
        exact ⟨rfl, X2.out.tr XT.out⟩
      · have hN0 := topo_zero hup HL.out HLK.out
        go_wp2
        go_ret
        exact ⟨rfl, X2.out.tr XT.out⟩
    obtain ⟨M, rfl, hM9, hMk, hall, htp⟩ := topo_full (N := N) (es := es) (by have h := HLK.out; omega)
    try (exfalso; omega)
    all_goals (
    have HAL := Lib.hid hall
    have HTP := Lib.hid htp
    have e0 : k = M := by have h := HLK.out; omega
    subst e0
    obtain ⟨out, hout⟩ : ∃ out, out = topoOf (k : Int) es := ⟨_, rfl⟩
    rw [← hout] at htp hMk
    have HOUT := Lib.hid hout
    have HTQ := Lib.hid htp
    have SX : Hid (Sl wt (fun _ => True) 1 B2 k (ints out)) := by show Sl _ _ _ _ _ _; rw [hout]; exact SB.out.ext XT.out
    have HND : Hid (out.Nodup ∧ ∀ x ∈ out, 0 ≤ x ∧ x < (9 : Nat)) := by
      have h := nodup_of_free htp
      exact ⟨h.1, fun x hx => by have h1 := h.2 x hx; omega⟩
    have HM9 := Lib.hid hM9
    clear hall htp hout hMk hM9
    obtain ⟨w3, cs0, hmk0, hown, hcs, hx1, hlt3⟩ := made_row (P := Try.prog) wt 36 3 _ _ _ Try.underlying36 Try.infoInt 9 (by omega) (by unfold maxLen; omega)
    have hmk : (Instr.makeSlice 36 (.int .i64 9) (.int .i64 9)).run Try.prog wt = .ok (.slice (some ⟨wt.heap.size, 0, none⟩) 9 9) w3 := hmk0
    have OP : Hid (w3.ownsRow wt.heap.size 3 1 (.slice (some ⟨wt.heap.size, 0, none⟩) 9 9) 9 (ints (List.replicate 9 0))) := by
      show World.ownsRow _ _ _ _ _ _ _
      rw [hcs, show (madeCells (Value.int .i64 0).cells (9 * 1)).toList = List.replicate 9 (.int .i64 0) from toList_madeCells_one _ _] at hown
      exact hown
    have X3 := Lib.hid hx1
    clear hmk0 hown hcs hx1
    go_wp2
    go_loopw [9] (fun i wr => ∃ (r : Nat) (pl : List Int), r ≤ k ∧ i = .int .i64 r ∧ Placed out pl r ∧ Hid (wr.ownsRow wt.heap.size 3 1 (.slice (some ⟨wt.heap.size, 0, none⟩) 9 9) 9 (ints pl)) ∧ Ext wt wr) (fun i _ => k - (intOf i).toNat)
    case atStart => exact ⟨0, _, Nat.zero_le _, rfl, ⟨by simp, fun i v h => absurd h (Nat.not_lt_zero _)⟩, OP.out, X3.out⟩
    case round =>
      obtain ⟨r, pl, hr, rfl, hpl, OQ, hx⟩ := hrel
      obtain ⟨wq, rfl⟩ : ∃ x, x = wr := ⟨wr, rfl⟩
      have XQ := Lib.hid hx
      have HPL := Lib.hid hpl
      clear hx hpl
      by_cases hlr : (r : Int) < (k : Int)
      · obtain ⟨b, o, rfl⟩ := SX.out.addr (by omega)
        obtain ⟨x, hxk, -, hc⟩ := (SX.out.ext XQ.out).int_cell (k := r) (by omega)
        have hxr := HND.out.2 _ (List.mem_of_getElem? hxk)
        obtain ⟨v, rfl⟩ : ∃ v : Nat, x = (v : Int) := ⟨x.toNat, by omega⟩
        have d0 : decide (((v : Nat) : Int) < 0) = false := decide_eq_false (by omega)
        have d1 : decide ((9 : Int) ≤ ((v : Nat) : Int)) = false := decide_eq_false (by omega)
        have hv9 : v < 9 := by omega
        obtain ⟨g, v0, hA, -, hco, hf0⟩ := own_at OQ.out hv9
        obtain rfl : wt.heap.size = g := addr_inj hA
        have HXK := Lib.hid hxk
        clear hA hxr hxk
        go_wp2
        go_roundw
        case rel => exact ⟨r + 1, _, by omega, by go_num, HPL.out.next HND.out HXK.out, by have h := (OQ.out.stored v (.int .i64 ((r : Int) + 1))).1; show World.ownsRow _ _ _ _ _ _ _; simpa [ints, List.map_set] using h, XQ.out.sc (p := ⟨wt.heap.size, _, none⟩) (Nat.le_refl _) _⟩
        case measure => simp [intOf]; omega
      obtain rfl : r = k := by omega
      have SQ : Hid (Sl wq (fun _ => True) 2 B j (es.flatMap Edge.cells)) := SE.out.ext (XT.out.tr XQ.out)
      go_wp2
      go_loopw [10] (fun i wr => ∃ q : Nat, q ≤ j ∧ i = .int .i64 q ∧ Ext wq wr) (fun i _ => j - (intOf i).toNat)
      case atStart => exact ⟨0, Nat.zero_le _, rfl, Ext.refl' _⟩
      case round =>
        obtain ⟨q, hq, rfl, hx⟩ := hrel
        obtain ⟨wv, rfl⟩ : ∃ x, x = wr := ⟨wr, rfl⟩
        have XV := Lib.hid hx
        clear hx
        by_cases hlq : (q : Int) < (j : Int)
        · obtain ⟨b, o, rfl⟩ := SQ.out.addr (by omega)
          obtain ⟨s, hsk, -, hc⟩ := (SQ.out.ext XV.out).flat_cell (k := q) Edge.cells_length (by omega) (by omega)
          obtain ⟨g0, g1⟩ := s
          have k0 := hc 0 (by omega)
          have k1 := hc 1 (by omega)
          simp only [Edge.cells, List.getElem?_cons_zero, List.getElem?_cons_succ, Nat.add_zero] at k0 k1
          have hok := HAL.out q (by have h := HL.out; omega) _ hsk
          obtain ⟨⟨o0, o1⟩, o2, o3⟩ := hok
          simp only at o0 o1 o2 o3
          obtain ⟨i1, j1, hij, hjk, hi1, hj1⟩ := tp_edge HTQ.out (List.mem_of_getElem? hsk) o2 (by show g1 < _; omega)
          simp only at hi1 hj1
          obtain ⟨v0, rfl⟩ : ∃ v : Nat, g0 = (v : Int) := ⟨g0.toNat, by omega⟩
          obtain ⟨v1, rfl⟩ : ∃ v : Nat, g1 = (v : Int) := ⟨g1.toNat, by omega⟩
          have p0 := HPL.out.2 i1 _ (by omega) hi1
          have p1 := HPL.out.2 j1 _ hjk hj1
          rw [Int.toNat_natCast] at p0 p1
          obtain ⟨P, hP⟩ : ∃ P : Int, P = (i1 : Int) + 1 := ⟨_, rfl⟩
          obtain ⟨Q, hQ⟩ : ∃ Q : Int, Q = (j1 : Int) + 1 := ⟨_, rfl⟩
          have hv0 : v0 < 9 := by have h := HM9.out; omega
          have hv1 : v1 < 9 := by have h := HM9.out; omega
          have OV := Lib.hid (own_ext OQ.out XV.out)
          have c0 : wv.cell? ⟨wt.heap.size, v0, none⟩ = some (.int .i64 P) := by
            rw [OV.out.cellAt v0 (by omega), ints_get, p0, hP]; rfl
          have c1 : wv.cell? ⟨wt.heap.size, v1, none⟩ = some (.int .i64 Q) := by
            rw [OV.out.cellAt v1 (by omega), ints_get, p1, hQ]; rfl
          have d0 : decide (((v0 : Nat) : Int) < 0) = false := decide_eq_false (by omega)
          have d1 : decide ((9 : Int) ≤ ((v1 : Nat) : Int)) = false := decide_eq_false (by omega)
          have d2 : decide (((v1 : Nat) : Int) < 0) = false := decide_eq_false (by omega)
          have d3 : decide ((9 : Int) ≤ ((v0 : Nat) : Int)) = false := decide_eq_false (by omega)
          have d4 : decide (Q ≤ P) = false := decide_eq_false (by omega)
          clear hc hsk o0 o1 o2 o3 hi1 hj1 p0 p1 hP hQ hij hjk
          go_wp2
          go_quiet (fail)
          go_wp2
          go_roundw
          case rel => exact ⟨q + 1, by omega, by go_num, XV.out.drN _⟩
          case measure => simp [intOf]; omega
        obtain rfl : q = j := by omega
        go_wp2
        go_ret
        exact ⟨rfl, X2.out.tr (XT.out.tr (XQ.out.tr XV.out))⟩))
end Go.Proofs.Ytheclckjgjaecaa
