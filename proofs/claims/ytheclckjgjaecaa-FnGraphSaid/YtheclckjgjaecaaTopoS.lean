/- Topo of the reference; the contract of laws.FnExactTopo. No condition but the length. -/
import Derived.Test.YtheclckjgjaecaaTopoP
import Derived.Test.YtheclckjgjaecaaTopoI
import Derived.Test.YtheclckjgjaecaaIn
namespace Go.Proofs.Ytheclckjgjaecaa
open Go.RowKit Go.Deep

/-- The marks of what is in the list. -/
def lenOfV : Value → Nat
  | .slice _ n _ => n
  | _ => 0
noncomputable def dcells (out : List Int) (N : Nat) : List Value := (List.range N).map fun (v : Nat) => .bool (dec ((v : Int) ∈ out))
theorem dcells_get (out : List Int) (N v : Nat) (h : v < N) : (dcells out N)[v]? = some (.bool (dec ((v : Int) ∈ out))) := by simp [dcells, h]
theorem dcells_nil (N : Nat) (h : N ≤ 9) : (madeCells (Value.bool false).cells (N * 1)).toList = dcells [] N := by
  have e : ∀ v : Nat, dec ((v : Int) ∈ ([] : List Int)) = false := fun v => dec_no (by simp)
  simp only [dcells, e]
  obtain rfl | rfl | rfl | rfl | rfl | rfl | rfl | rfl | rfl | rfl : N = 0 ∨ N = 1 ∨ N = 2 ∨ N = 3 ∨ N = 4 ∨ N = 5 ∨ N = 6 ∨ N = 7 ∨ N = 8 ∨ N = 9 := by omega
  all_goals (simp [madeCells, Value.cells, List.range, List.range.loop]; try rfl)
theorem dcells_set (out : List Int) (N x : Nat) : (dcells out N).set x (.bool true) = dcells (out ++ [(x : Int)]) N := by
  apply List.ext_getElem?
  intro j
  rw [List.getElem?_set]
  by_cases hj : j < N
  · rw [dcells_get _ N j hj, dcells_get _ N j hj]
    by_cases e : x = j
    · subst e
      rw [if_pos rfl, if_pos (by simp [dcells]; omega), dec_yes (by simp)]
    · rw [if_neg e]
      have h2 : dec ((j : Int) ∈ out) = dec ((j : Int) ∈ out ++ [(x : Int)]) := by
        by_cases h : (j : Int) ∈ out
        · rw [dec_yes h, dec_yes (by simp [h])]
        · rw [dec_no h, dec_no (by simp [h]; omega)]
      rw [h2]
  · have h1 : (dcells out N)[j]? = none := by simp [dcells]; omega
    have h2 : (dcells (out ++ [(x : Int)]) N)[j]? = none := by simp [dcells]; omega
    rw [h1, h2]
    split
    · rename_i h
      subst h
      rw [if_neg (by simp [dcells]; omega)]
    · rfl
noncomputable def freeTo (l : List Edge) (out : List Int) (v : Int) (i : Nat) : Bool := dec (AllTo (Edge.lets v out) l i ∧ ¬ v ∈ out)
theorem freeTo_no {l : List Edge} {out : List Int} {v : Int} {i : Nat} (h : freeTo l out v i = false) : freeTo l out v (i + 1) = false :=
  dec_no fun q => dec_false h ⟨fun j hj => q.1 j (by omega), q.2⟩
theorem freeTo_yes {l : List Edge} {out : List Int} {v : Int} {i : Nat} {e : Edge} (h : freeTo l out v i = true) (he : l[i]? = some e) (hl : e.to_ = v → e.from_ ∈ out) : freeTo l out v (i + 1) = true :=
  dec_yes ⟨(dec_true h).1.succ he fun q => q.2 (hl q.1), (dec_true h).2⟩
theorem freeTo_bad {l : List Edge} {out : List Int} {v : Int} {i : Nat} {e : Edge} (he : l[i]? = some e) (hv : e.to_ = v) (hf : ¬ e.from_ ∈ out) : freeTo l out v (i + 1) = false :=
  dec_no fun q => q.1 i (by omega) e he ⟨hv, hf⟩
theorem freeTo_zero (l : List Edge) (out : List Int) (v : Int) : freeTo l out v 0 = !dec (v ∈ out) := by
  by_cases h : v ∈ out
  · rw [dec_yes h]; exact dec_no fun q => q.2 h
  · rw [dec_no h]; exact dec_yes ⟨AllTo.zero _ _, h⟩
theorem Try.infoBoolT : (Try.prog.info? 4).map (fun i => (i.zero, i.size, i.bytes)) = some (some (.bool false), 1, 1) := by kernel_rfl
theorem Try.underBoolsT : Try.prog.underlying 63 = some (.slice 4) := by kernel_rfl
theorem tp_len {l : List Edge} {N : Nat} : ∀ {k : Nat} {out : List Int}, tp l N k = some out → out.length = k := by
  intro k
  induction k with
  | zero => intro out h; simp [tp] at h; rw [h]; rfl
  | succ k ih =>
    intro out h
    unfold tp at h
    split at h
    · cases h
    · rename_i o ho
      split at h
      · cases h
      · injection h with h
        rw [← h, List.length_append, ih ho]
        rfl
theorem own_kinds {w : World} {b b' : Nat} {e e' : TypeId} {z z' n n' : Nat} {v v' : Value} {xs xs' : List Value} (h : w.ownsRow b e z v n xs) (h' : w.ownsRow b' e' z' v' n' xs') (hne : e ≠ e') : Apart v v' := fun g hg hg' => by
  rcases h'.2 with ⟨rfl, _⟩ | ⟨g2, cap', cur', rfl, _, hh', _⟩
  · simp [Value.ownBlock] at hg'
  · have e2 : g2 = g := by simpa [Value.ownBlock] using hg'
    subst e2
    exact own_bx h (show Bx w g2 e' cur' from hh') hne hg
theorem topoOf_le (n : Int) (l : List Edge) : (topoOf n l).length ≤ 9 := by
  unfold topoOf
  split
  · rename_i h
    have h9 := (dec_true h).1.2
    cases ht : tp l n.toNat n.toNat with
    | none => simp
    | some out => simp only [Option.getD_some]; rw [tp_len ht]; omega
  · simp

set_option maxHeartbeats 8000000 in
theorem spec_Topo (n : Int) (A : Option Addr) (nn c : Nat) (l : List Edge) (w : World) (S : Nat → Prop) (hs : Sl w S 2 A nn (l.flatMap Edge.cells)) (hm : nn ≤ 1048576) :
    Calls Try.prog 24 #[.int .i64 n, .slice A nn c] w fun e w' => ∃ B m d, e = .returned (.slice B m d) ∧ w'.ownsRow w.heap.size 3 1 (.slice B m d) m (ints (topoOf n l)) ∧ Ext w w' := by
  have H := Lib.hid (hs.flen Edge.cells_length (by omega))
  have HSO := Lib.hid hs
  have HS := Lib.hid (hs.ext ((Ext.refl' w).al (.cells #[] 3)))
  have HX := Lib.hid ((Ext.refl' w).al (.cells #[] 3))
  have OE := Lib.hid (own_emptyT w)
  clear hs
  by_cases h9 : 0 ≤ n ∧ n ≤ 9
  rotate_left
  · have HN := Lib.hid (topo_no (n := n) (l := l) fun h => h9 h.1)
    have hd : decide (0 ≤ n ∧ n ≤ 9) = false := by simpa using h9
    clear h9
    go_enter Try.func24, Try.ntmps24
    go_wp2_with (go_at_call 44; refine (l1In_any _ _ _ _).mono ?_; rintro e w' ⟨rfl, rfl⟩)
    go_ret
    exact ⟨_, _, _, rfl, by rw [HN.out]; exact OE.out, HX.out⟩
  have hd : decide (0 ≤ n ∧ n ≤ 9) = true := by simpa using h9
  by_cases h81 : (nn : Int) ≤ 81
  rotate_left
  · have HN := Lib.hid (topo_no (n := n) (l := l) fun h => h81 (by have h1 := h.2.1; have h2 := H.out; omega))
    clear h9
    go_enter Try.func24, Try.ntmps24
    go_wp2_with (go_at_call 44; refine (l1In_any _ _ _ _).mono ?_; rintro e w' ⟨rfl, rfl⟩)
    go_ret
    exact ⟨_, _, _, rfl, by rw [HN.out]; exact OE.out, HX.out⟩
  obtain ⟨h90, h99⟩ := h9
  have H81 := Lib.hid h81
  go_enter Try.func24, Try.ntmps24
  go_wp2_with (go_at_call 44; refine (l1In_any _ _ _ _).mono ?_; rintro e w' ⟨rfl, rfl⟩)
  clear hd
  go_loop [6] (fun i => ∃ k : Nat, k ≤ nn ∧ i = .int .i64 k ∧ AllTo (Edge.ok n) l k) (fun i => nn - (intOf i).toNat)
  case atStart => exact ⟨0, Nat.zero_le _, rfl, AllTo.zero _ _⟩
  case round =>
    obtain ⟨k, hk, rfl, hup⟩ := hrel
    have HU := Lib.hid hup
    clear hup
    by_cases hlt : (k : Int) < (nn : Int)
    · obtain ⟨b, o, rfl⟩ := HS.out.addr (by omega)
      obtain ⟨s, hsk, -, hc⟩ := HS.out.flat_cell (k := k) Edge.cells_length (by omega) (by omega)
      obtain ⟨g0, g1⟩ := s
      have k0 := hc 0 (by omega)
      have k1 := hc 1 (by omega)
      simp only [Edge.cells, List.getElem?_cons_zero, List.getElem?_cons_succ, Nat.add_zero] at k0 k1
      have HSK := Lib.hid hsk
      have hkl : Hid (k < l.length) := by have h := H.out; show k < _; omega
      clear hsk hc
      by_cases t0 : 0 ≤ g0 ∧ g0 ≤ n - 1
      rotate_left
      · have HN := Lib.hid (topo_no (n := n) (l := l) fun h => AllTo.not HSK.out hkl.out (fun q => t0 q.1) h.2.2)
        have d0 : decide (0 ≤ g0 ∧ g0 ≤ n - 1) = false := by simpa using t0
        clear t0
        go_wp2_with (go_at_call 44; refine (l1In_any _ _ _ _).mono ?_; rintro e w' ⟨rfl, rfl⟩)
        go_ret
        exact ⟨_, _, _, rfl, by rw [HN.out]; exact OE.out, HX.out⟩
      have d0 : decide (0 ≤ g0 ∧ g0 ≤ n - 1) = true := by simpa using t0
      by_cases t1 : 0 ≤ g1 ∧ g1 ≤ n - 1
      rotate_left
      · have HN := Lib.hid (topo_no (n := n) (l := l) fun h => AllTo.not HSK.out hkl.out (fun q => t1 q.2) h.2.2)
        have d1 : decide (0 ≤ g1 ∧ g1 ≤ n - 1) = false := by simpa using t1
        clear t0 t1
        go_wp2_with (go_at_call 44; refine (l1In_any _ _ _ _).mono ?_; rintro e w' ⟨rfl, rfl⟩)
        go_ret
        exact ⟨_, _, _, rfl, by rw [HN.out]; exact OE.out, HX.out⟩
      have d1 : decide (0 ≤ g1 ∧ g1 ≤ n - 1) = true := by simpa using t1
      have T0 := Lib.hid t0
      have T1 := Lib.hid t1
      clear t0 t1
      go_wp2_with (go_at_call 44; refine (l1In_any _ _ _ _).mono ?_; rintro e w' ⟨rfl, rfl⟩)
      go_round
      case rel => exact ⟨k + 1, by omega, by go_num, HU.out.succ HSK.out ⟨T0.out, T1.out⟩⟩
      case measure => simp [intOf]; omega
    have HAL : Hid (AllTo (Edge.ok n) l l.length) := by have h := H.out; rw [show l.length = k by omega]; exact HU.out
    obtain ⟨N, rfl⟩ : ∃ N : Nat, n = (N : Int) := ⟨n.toNat, by omega⟩
    have HTY := Lib.hid (topo_yes (N := N) (l := l) ⟨⟨h90, h99⟩, by have h := H.out; have h2 := H81.out; omega, HAL.out⟩)
    have HN9 : Hid (N ≤ 9) := by show N ≤ 9; omega
    obtain ⟨wd, cs0, hmk, hown, hcs, hxd, hltd⟩ := made_row (P := Try.prog) (w.alloc (.cells #[] 3)) 63 4 _ _ _ Try.underBoolsT Try.infoBoolT N (by have := HN9.out; omega) (by unfold maxLen; have := HN9.out; omega)
    rw [dcells_nil N HN9.out] at hcs
    have HCS := Lib.hid hcs
    have OD : Hid (wd.ownsRow (w.alloc (.cells #[] 3)).heap.size 4 1 (.slice (some ⟨(w.alloc (.cells #[] 3)).heap.size, 0, none⟩) N N) N (dcells [] N)) := by rw [← HCS.out]; exact hown
    have XD := Lib.hid (HX.out.tr hxd)
    have OE2 := Lib.hid (own_ext OE.out hxd)
    clear hcs hown hxd
    have zd : (w.alloc (.cells #[] 3)).heap.size = w.heap.size + 1 := by simp
    rw [zd] at OD
    rw [zd] at hmk
    go_wp2
    clear hlt
    go_loopw [5] (fun u wt => ∃ (k : Nat) (out : List Int) (B : Option Addr) (d : Nat), k ≤ N ∧ u = .slice B k d ∧ tp l N k = some out ∧ Hid (wt.ownsRow w.heap.size 3 1 (.slice B k d) k (ints out)) ∧ Hid (wt.ownsRow (w.heap.size + 1) 4 1 (.slice (some ⟨w.heap.size + 1, 0, none⟩) N N) N (dcells out N)) ∧ Ext w wt) (fun u _ => N - lenOfV u)
    case atStart => exact ⟨0, [], _, _, Nat.zero_le _, rfl, rfl, OE2.out, OD.out, XD.out⟩
    case round =>
      obtain ⟨k, out, B, d, hk, rfl, htp, HO, HD, hxt⟩ := hrel
      obtain ⟨wt, rfl⟩ : ∃ x, x = wr := ⟨wr, rfl⟩
      have HTP := Lib.hid htp
      have XT := Lib.hid hxt
      clear htp hxt
      by_cases hkn : (k : Int) < (N : Int)
      rotate_left
      · have e : Hid (k = N) := by show k = N; omega
        have HTN : Hid (tp l N N = some out) := by have h := HTP.out; rw [e.out] at h; exact h
        go_wp2
        go_ret
        exact ⟨_, _, _, rfl, by rw [HTY.out, HTN.out]; exact HO.out, XT.out⟩
      have HKN : Hid (k < N) := by show k < N; omega
      have hND : ∀ x : Nat, x < N → wt.cell? ⟨w.heap.size + 1, x, none⟩ = some (.bool (dec ((x : Int) ∈ out))) := fun x hx => by rw [HD.out.cellAt x (by omega)]; exact dcells_get out N x hx
      have HND := Lib.hid hND
      have HFZ : Hid (∀ x : Nat, wt.frozen? ⟨w.heap.size + 1, x, none⟩ = false) := fun x => HD.out.frozenAt (g := w.heap.size + 1) x
      clear hND
      go_wp2
      go_loopw [8, 9] (fun nx v wi => ∃ m : Nat, m ≤ N ∧ nx = .int .i64 (nxTo l out N m) ∧ v = .int .i64 ((N : Int) - 1 - (m : Int)) ∧ wi = wt) (fun _ v _ => (intOf v + 1).toNat)
      case atStart => exact ⟨0, Nat.zero_le _, rfl, by simp, rfl⟩
      case round =>
        obtain ⟨m, hmN, rfl, rfl, hww⟩ := hrel
        subst hww
        have HR := Lib.hid (nxTo_range l out N m hmN)
        obtain ⟨V, hV⟩ : ∃ V : Int, V = (N : Int) - 1 - (m : Int) := ⟨_, rfl⟩
        have HVV := Lib.hid hV
        rw [← hV]
        clear hV
        by_cases hV0 : (0 : Int) ≤ V
        rotate_left
        · have e : Hid (m = N) := by have h := HVV.out; show m = N; omega
          obtain ⟨X, hX⟩ : ∃ X, X = nxTo l out N m := ⟨_, rfl⟩
          have HXN : Hid (X = nxTo l out N N) := by show X = _; rw [hX, e.out]
          have HXR : Hid (-1 ≤ X ∧ X < N) := by rw [hX]; exact HR.out
          rw [← hX]
          clear hX
          by_cases hneg : X < 0
          · have HN := Lib.hid (tp_none (tp_stop HTP.out (by rw [← HXN.out]; exact hneg)) N HKN.out)
            go_wp2
            go_ret
            exact ⟨_, _, _, rfl, by rw [HTY.out, HN.out]; exact own_base (own_emptyT wr) XT.out.size, XT.out.al _⟩
          have HNX := Lib.hid (tp_next HTP.out (by rw [← HXN.out]; exact hneg))
          obtain ⟨x, rfl⟩ : ∃ x : Nat, X = (x : Int) := ⟨X.toNat, by omega⟩
          have hxN : x < N := by have h := HXR.out.2; omega
          have qd := HND.out x hxN
          have fd := HFZ.out x
          have T0 := Lib.hid (HD.out.stored x (.bool true)).1
          have OI := Lib.hid (own_chg HO.out (Chg.sc (Chg.refl (fun j => j = w.heap.size + 1) wr) (p := ⟨w.heap.size + 1, x, none⟩) rfl (.bool true)) (fun g hg q => own_kinds HO.out HD.out (by decide) g hg (by rw [show g = w.heap.size + 1 from q]; rfl)))
          have X0 : Hid (Ext w (wr.setCell ⟨w.heap.size + 1, x, none⟩ (.bool true))) := XT.out.sc (by show w.heap.size ≤ w.heap.size + 1; omega) _
          have hk9 : k ≤ 9 := by have h1 := HN9.out; have h2 := HKN.out; omega
          have hx0 : (0 : Int) ≤ (x : Int) := by omega
          have hx1 : (x : Int) < (N : Int) := by omega
          have zwt : w.heap.size ≤ (wr.setCell ⟨w.heap.size + 1, x, none⟩ (.bool true)).heap.size := X0.out.size
          have HZ := Lib.hid zwt
          have HXN9 := Lib.hid hxN
          clear zwt hxN
          go_wp2_with (at_builtin; refine wp_push rfl (.tmp 100) (.tmp 102) _ rfl w.heap.size 3 _ _ _ Try.underlying36 Try.infoInt rfl (by omega) B k d _ rfl OI.out [.int .i64 (x : Int)] _ (by simp) rfl rfl (by simp [Value.oneCell']) (by omega) (by unfold maxLen; omega) HZ.out ?_; intro A' c' w' hown' hchg' hat')
          go_roundw
          case rel => exact ⟨k + 1, out ++ [(x : Int)], A', c', HKN.out, rfl, by rw [HNX.out, HXN.out], by show World.ownsRow _ _ _ _ _ _ _; rw [ints, List.map_append]; exact hown', by rw [← dcells_set]; exact own_chg T0.out hchg' (fun g hg hs => own_kinds OI.out T0.out (by decide) g hs hg), hchg'.ext X0.out (fun g hg => (OI.out.lt g hg).1)⟩
          case measure => have := HKN.out; simp [lenOfV]; omega
        obtain ⟨v, rfl⟩ : ∃ v : Nat, V = (v : Int) := ⟨V.toNat, by omega⟩
        have HMN : Hid (m < N) := by have h := HVV.out; show m < N; omega
        have hvN : v < N := by have h := HVV.out; omega
        have qv := HND.out v hvN
        have hv1 : (v : Int) < (N : Int) := by omega
        have hvv0 : (0 : Int) ≤ (v : Int) := by omega
        have HV1 : Hid ((v : Int) - 1 = (N : Int) - 1 - ((m + 1 : Nat) : Int)) := by have h := HVV.out; show _ = _; omega
        have HSL := Lib.hid (HSO.out.ext XT.out)
        clear hvN
        go_wp2
        go_loop [10, 11] (fun f i => ∃ j : Nat, j ≤ nn ∧ i = .int .i64 j ∧ f = .bool (freeTo l out (v : Int) j)) (fun _ i => nn - (intOf i).toNat)
        case atStart => exact ⟨0, Nat.zero_le _, rfl, by rw [freeTo_zero]⟩
        case round =>
          obtain ⟨j, hj, rfl, rfl⟩ := hrel
          by_cases hjl : (j : Int) < (nn : Int)
          rotate_left
          · have e : Hid (j = l.length) := by have h := H.out; show j = _; omega
            have hF : Hid (freeV l out (v : Int) = freeTo l out (v : Int) j) := by show _ = _; rw [e.out]; rfl
            cases hf : freeTo l out (v : Int) j
            · have HB : Hid (nxTo l out N (m + 1) = nxTo l out N m) := nxTo_busy (by rw [← HVV.out, hF.out]; exact hf)
              clear hf
              go_wp2
              go_roundw
              case rel => exact ⟨m + 1, HMN.out, by rw [HB.out], by rw [← HV1.out], trivial⟩
              case measure => simp [intOf]; try omega
            · have HB : Hid (nxTo l out N (m + 1) = (v : Int)) := by show _ = _; rw [HVV.out]; exact nxTo_free (by rw [← HVV.out, hF.out]; exact hf)
              clear hf
              go_wp2
              go_roundw
              case rel => exact ⟨m + 1, HMN.out, by rw [HB.out], by rw [← HV1.out], trivial⟩
              case measure => simp [intOf]; try omega
          obtain ⟨b, o, rfl⟩ := HSL.out.addr (by omega)
          obtain ⟨s, hsk, -, hc⟩ := HSL.out.flat_cell (k := j) Edge.cells_length (by omega) (by omega)
          obtain ⟨g0, g1⟩ := s
          have k0 := hc 0 (by omega)
          have k1 := hc 1 (by omega)
          simp only [Edge.cells, List.getElem?_cons_zero, List.getElem?_cons_succ, Nat.add_zero] at k0 k1
          have HSK := Lib.hid hsk
          have hok := HAL.out j (by have h := H.out; omega) _ hsk
          have hok1 := hok.1.1
          have hok2 := hok.1.2
          simp only at hok1 hok2
          obtain ⟨x, rfl⟩ : ∃ x : Nat, g0 = (x : Int) := ⟨g0.toNat, by omega⟩
          have qx := HND.out x (by omega)
          have hx1 : (x : Int) < (N : Int) := by omega
          have hx0 : (0 : Int) ≤ (x : Int) := by omega
          clear hsk hc hok hok1 hok2
          cases hf : freeTo l out (v : Int) j
          · have HB := Lib.hid (freeTo_no hf)
            clear hf
            go_wp2
            go_round
            case rel => exact ⟨j + 1, by omega, by go_num, by rw [HB.out]⟩
            case measure => simp [intOf]; omega
          by_cases htv : g1 = (v : Int)
          rotate_left
          · have hb : (g1 != (v : Int)) = true := by simpa using htv
            have HB := Lib.hid (freeTo_yes hf HSK.out (fun h => absurd h htv))
            clear hf htv
            go_wp2
            go_round
            case rel => exact ⟨j + 1, by omega, by go_num, by rw [HB.out]⟩
            case measure => simp [intOf]; omega
          have hb : (g1 != (v : Int)) = false := by simp [htv]
          have HTV := Lib.hid htv
          clear htv
          cases hin : dec ((x : Int) ∈ out)
          · have HB := Lib.hid (freeTo_bad HSK.out HTV.out (dec_false hin))
            rw [hin] at qx
            clear hf hin
            go_wp2
            go_round
            case rel => exact ⟨j + 1, by omega, by go_num, by rw [HB.out]⟩
            case measure => simp [intOf]; omega
          · have HB := Lib.hid (freeTo_yes hf HSK.out (fun _ => dec_true hin))
            rw [hin] at qx
            clear hf hin
            go_wp2
            go_round
            case rel => exact ⟨j + 1, by omega, by go_num, by rw [HB.out]⟩
            case measure => simp [intOf]; omega

set_option maxHeartbeats 8000000 in
theorem law_Topo (y0 : Int) (A1 : Option Addr) (n1 c1 : Nat) (l1 : List Edge) (w : World) (hs1 : Sl w (fun _ => True) 2 A1 n1 (l1.flatMap Edge.cells)) (hm1 : n1 ≤ 9223372036854775807) :
    Calls Try.prog 5 #[.int .i64 y0, .slice A1 n1 c1] w fun e w' => e = .returned (.bool true) ∧ Ext w w' := by
  have hsO1 := hs1
  by_cases hz0 : (n1 : Int) ≤ (1048576 : Int)
  rotate_left
  · go_enter Try.func5, Try.ntmps5
    go_wp2_with fail
    refine (szEdgeS_any _ _ _ ((1048576 : Int)) _ (by omega) (by omega) hm1).mono ?_
    rintro e w' ⟨rfl, rfl⟩
    rw [if_neg (by omega)]
    go_wp2
    go_ret
    exact ⟨rfl, (Ext.refl' w)⟩
  have hN1 : n1 ≤ 1048576 := by omega
  go_enter Try.func5, Try.ntmps5
  go_wp2_with fail
  refine (szEdgeS_any _ _ _ ((1048576 : Int)) _ (by omega) (by omega) hm1).mono ?_
  rintro e w' ⟨rfl, rfl⟩
  rw [if_pos (by omega)]
  go_wp2_with fail
  refine (toEdgeS_any _ _ _ _ _ _ hs1 hN1).mono ?_
  rintro e w1 ⟨B1_0, d1_0, rfl, o1_0, x1⟩
  have zw1 : w.heap.size + 0 ≤ w1.heap.size := by have h := x1.size; (try simp at h); omega
  have xx := x1
  replace hs1 := hsO1.ext xx
  clear x1
  have r1_0 : Hid (∀ g, (Value.slice B1_0 n1 d1_0).ownBlock = some g → w.heap.size + 0 ≤ g ∧ g < w1.heap.size) := fun g hg => by have h := o1_0.lt g hg; (try simp only [World.heap_alloc_size] at h); omega
  go_wp2_with fail
  refine (spec_Topo _ _ _ _ _ _ _ (ownSl o1_0) hN1).mono ?_
  rintro e w2 ⟨B2_0_0, m2_0_0, d2_0_0, rfl, o2_0_0, x2⟩
  have zw2 : w1.heap.size + 0 ≤ w2.heap.size := by have h := x2.size; (try simp at h); omega
  replace o1_0 := own_ext o1_0 x2
  replace xx := xx.tr x2
  replace hs1 := hsO1.ext xx
  clear x2
  have r2_0_0 : Hid (∀ g, (Value.slice B2_0_0 m2_0_0 d2_0_0).ownBlock = some g → w1.heap.size + 0 ≤ g ∧ g < w2.heap.size) := fun g hg => by have h := o2_0_0.lt g hg; (try simp only [World.heap_alloc_size] at h); omega
  clear o1_0
  have bd0_0 : m2_0_0 ≤ 1048576 := by have h1 := own_len o2_0_0; have h2 := topoOf_le y0 l1; rw [ints_length] at h1; omega
  go_wp2_with fail
  refine (toEdgeS_any _ _ _ _ _ _ hs1 hN1).mono ?_
  rintro e w3 ⟨B3_0, d3_0, rfl, o3_0, x3⟩
  have zw3 : w2.heap.size + 0 ≤ w3.heap.size := by have h := x3.size; (try simp at h); omega
  replace o2_0_0 := own_ext o2_0_0 x3
  replace xx := xx.tr x3
  replace hs1 := hsO1.ext xx
  clear x3
  have r3_0 : Hid (∀ g, (Value.slice B3_0 n1 d3_0).ownBlock = some g → w2.heap.size + 0 ≤ g ∧ g < w3.heap.size) := fun g hg => by have h := o3_0.lt g hg; (try simp only [World.heap_alloc_size] at h); omega
  go_wp2_with fail
  refine (impl_Topo _ _ _ _ _ _ _ (ownSl o3_0) hN1).mono ?_
  rintro e w4 ⟨B4_0_0, m4_0_0, d4_0_0, rfl, o4_0_0, x4⟩
  have zw4 : w3.heap.size + 0 ≤ w4.heap.size := by have h := x4.size; (try simp at h); omega
  replace o2_0_0 := own_ext o2_0_0 x4
  replace o3_0 := own_ext o3_0 x4
  replace xx := xx.tr x4
  replace hs1 := hsO1.ext xx
  clear x4
  have r4_0_0 : Hid (∀ g, (Value.slice B4_0_0 m4_0_0 d4_0_0).ownBlock = some g → w3.heap.size + 0 ≤ g ∧ g < w4.heap.size) := fun g hg => by have h := o4_0_0.lt g hg; (try simp only [World.heap_alloc_size] at h); omega
  obtain rfl : m2_0_0 = m4_0_0 := by have h1 := o2_0_0.1; have h2 := o4_0_0.1; omega
  go_wp2_with fail
  refine (eqIntS_same _ _ _ _ _ _ _ _ _ (ownSl o4_0_0) (ownSl o2_0_0) (by omega)).mono ?_
  rintro e w5 ⟨rfl, x5⟩
  have zw5 : w4.heap.size + 0 ≤ w5.heap.size := by have h := x5.size; (try simp at h); omega
  replace o2_0_0 := own_ext o2_0_0 x5
  replace o3_0 := own_ext o3_0 x5
  replace o4_0_0 := own_ext o4_0_0 x5
  replace xx := xx.tr x5
  replace hs1 := hsO1.ext xx
  clear x5
  go_wp2_with fail
  refine (toEdgeS_any _ _ _ _ _ _ hs1 hN1).mono ?_
  rintro e w6 ⟨B6_0, d6_0, rfl, o6_0, x6⟩
  have zw6 : w5.heap.size + 0 ≤ w6.heap.size := by have h := x6.size; (try simp at h); omega
  replace o2_0_0 := own_ext o2_0_0 x6
  replace o3_0 := own_ext o3_0 x6
  replace o4_0_0 := own_ext o4_0_0 x6
  replace xx := xx.tr x6
  replace hs1 := hsO1.ext xx
  clear x6
  have r6_0 : Hid (∀ g, (Value.slice B6_0 n1 d6_0).ownBlock = some g → w5.heap.size + 0 ≤ g ∧ g < w6.heap.size) := fun g hg => by have h := o6_0.lt g hg; (try simp only [World.heap_alloc_size] at h); omega
  go_wp2_with fail
  refine (eqEdgeS_same _ _ _ _ _ _ _ _ _ (ownSl o3_0) (ownSl o6_0) (by omega)).mono ?_
  rintro e w7 ⟨rfl, x7⟩
  have zw7 : w6.heap.size + 0 ≤ w7.heap.size := by have h := x7.size; (try simp at h); omega
  replace o2_0_0 := own_ext o2_0_0 x7
  replace o3_0 := own_ext o3_0 x7
  replace o4_0_0 := own_ext o4_0_0 x7
  replace o6_0 := own_ext o6_0 x7
  replace xx := xx.tr x7
  replace hs1 := hsO1.ext xx
  clear x7
  clear o6_0
  go_wp2_with fail
  refine (markEdgeS_any _ _ _ _ _ (1) _ o3_0 (by omega) (by omega)).mono ?_
  rintro e w8 ⟨rfl, o8_0, cc⟩
  have zw8 : w7.heap.size + 0 ≤ w8.heap.size := by have h := cc.size; (try simp at h); omega
  replace o2_0_0 := own_chg o2_0_0 cc (fun g hg qq => by have h2 := r3_0.out _ qq; have h1 := r2_0_0.out g hg; omega)
  replace o4_0_0 := own_chg o4_0_0 cc (fun g hg qq => by have h2 := r3_0.out _ qq; have h1 := r4_0_0.out g hg; omega)
  replace xx := cc.ext xx (fun g qq => by have h2 := r3_0.out _ qq; skip; omega)
  replace hs1 := hsO1.ext xx
  clear cc
  clear o3_0
  have r8_0 := r3_0
  clear o8_0
  have hq1 : (0 : Int) ≤ 1 + (n1 : Int) * 2 := by omega
  go_wp2_with fail
  refine (eqIntS_same _ _ _ _ _ _ _ _ _ (ownSl o4_0_0) (ownSl o2_0_0) (by omega)).mono ?_
  rintro e w9 ⟨rfl, x9⟩
  have zw9 : w8.heap.size + 0 ≤ w9.heap.size := by have h := x9.size; (try simp at h); omega
  replace o2_0_0 := own_ext o2_0_0 x9
  replace o4_0_0 := own_ext o4_0_0 x9
  replace xx := xx.tr x9
  replace hs1 := hsO1.ext xx
  clear x9
  go_wp2_with fail
  refine (markIntS_any _ _ _ _ _ (1) _ o4_0_0 (by omega) (by omega)).mono ?_
  rintro e w10 ⟨rfl, o10_0, cc⟩
  have zw10 : w9.heap.size + 0 ≤ w10.heap.size := by have h := cc.size; (try simp at h); omega
  replace o2_0_0 := own_chg o2_0_0 cc (fun g hg qq => by have h2 := r4_0_0.out _ qq; have h1 := r2_0_0.out g hg; omega)
  replace xx := cc.ext xx (fun g qq => by have h2 := r4_0_0.out _ qq; skip; omega)
  replace hs1 := hsO1.ext xx
  clear cc
  clear o4_0_0
  have r10_0 := r4_0_0
  have hq2_0 : (0 : Int) ≤ 1 + (m2_0_0 : Int) := by omega
  have hq3 : ((1 + (m2_0_0 : Int)) != (1 + (m2_0_0 : Int))) = false := by simp
  go_wp2_with fail
  refine (heldIntS_any _ _ _ (1) _ _ (ownSl o10_0) (by omega) (by omega)).mono ?_
  rintro e w11 ⟨rfl, hx11⟩
  have x11 := Ext.of_eq hx11
  clear hx11
  have zw11 : w10.heap.size + 0 ≤ w11.heap.size := by have h := x11.size; (try simp at h); omega
  replace o2_0_0 := own_ext o2_0_0 x11
  replace o10_0 := own_ext o10_0 x11
  replace xx := xx.tr x11
  replace hs1 := hsO1.ext xx
  clear x11
  go_wp2_with fail
  refine (toEdgeS_any _ _ _ _ _ _ hs1 hN1).mono ?_
  rintro e w12 ⟨B12_0, d12_0, rfl, o12_0, x12⟩
  have zw12 : w11.heap.size + 0 ≤ w12.heap.size := by have h := x12.size; (try simp at h); omega
  replace o2_0_0 := own_ext o2_0_0 x12
  replace o10_0 := own_ext o10_0 x12
  replace xx := xx.tr x12
  replace hs1 := hsO1.ext xx
  clear x12
  have r12_0 : Hid (∀ g, (Value.slice B12_0 n1 d12_0).ownBlock = some g → w11.heap.size + 0 ≤ g ∧ g < w12.heap.size) := fun g hg => by have h := o12_0.lt g hg; (try simp only [World.heap_alloc_size] at h); omega
  go_wp2_with fail
  refine (impl_Topo _ _ _ _ _ _ _ (ownSl o12_0) hN1).mono ?_
  rintro e w13 ⟨B13_0_0, m13_0_0, d13_0_0, rfl, o13_0_0, x13⟩
  have zw13 : w12.heap.size + 0 ≤ w13.heap.size := by have h := x13.size; (try simp at h); omega
  replace o2_0_0 := own_ext o2_0_0 x13
  replace o10_0 := own_ext o10_0 x13
  replace o12_0 := own_ext o12_0 x13
  replace xx := xx.tr x13
  replace hs1 := hsO1.ext xx
  clear x13
  have r13_0_0 : Hid (∀ g, (Value.slice B13_0_0 m13_0_0 d13_0_0).ownBlock = some g → w12.heap.size + 0 ≤ g ∧ g < w13.heap.size) := fun g hg => by have h := o13_0_0.lt g hg; (try simp only [World.heap_alloc_size] at h); omega
  clear o12_0
  obtain rfl : m2_0_0 = m13_0_0 := by have h1 := o2_0_0.1; have h2 := o13_0_0.1; omega
  go_wp2_with fail
  refine (eqIntS_same _ _ _ _ _ _ _ _ _ (ownSl o13_0_0) (ownSl o2_0_0) (by omega)).mono ?_
  rintro e w14 ⟨rfl, x14⟩
  have zw14 : w13.heap.size + 0 ≤ w14.heap.size := by have h := x14.size; (try simp at h); omega
  replace o2_0_0 := own_ext o2_0_0 x14
  replace o10_0 := own_ext o10_0 x14
  replace o13_0_0 := own_ext o13_0_0 x14
  replace xx := xx.tr x14
  replace hs1 := hsO1.ext xx
  clear x14
  go_wp2_with fail
  refine (heldIntS_any _ _ _ (1) _ _ (ownSl o10_0) (by omega) (by omega)).mono ?_
  rintro e w15 ⟨rfl, hx15⟩
  have x15 := Ext.of_eq hx15
  clear hx15
  have zw15 : w14.heap.size + 0 ≤ w15.heap.size := by have h := x15.size; (try simp at h); omega
  replace o2_0_0 := own_ext o2_0_0 x15
  replace o10_0 := own_ext o10_0 x15
  replace o13_0_0 := own_ext o13_0_0 x15
  replace xx := xx.tr x15
  replace hs1 := hsO1.ext xx
  clear x15
  go_wp2
  go_ret
  exact ⟨rfl, xx⟩
end Go.Proofs.Ytheclckjgjaecaa
