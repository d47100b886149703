/- Topo of the program. No condition but the length. -/
import Derived.Test.YtheclckjgjaecaaTopoP
import Derived.Test.YtheclckjgjaecaaIn
namespace Go.Proofs.Ytheclckjgjaecaa
open Go.RowKit Go.Deep

set_option maxHeartbeats 8000000 in
theorem impl_Topo (n : Int) (A : Option Addr) (nn c : Nat) (l : List Edge) (w : World) (S : Nat → Prop) (hs : Sl w S 2 A nn (l.flatMap Edge.cells)) (hm : nn ≤ 1048576) :
    Calls Try.prog 26 #[.int .i64 n, .slice A nn c] w fun e w' => ∃ B m d, e = .returned (.slice B m d) ∧ w'.ownsRow w.heap.size 3 1 (.slice B m d) m (ints (topoOf n l)) ∧ Ext w w' := by
  have H := Lib.hid (hs.flen Edge.cells_length (by omega))
  have HS := Lib.hid hs
  clear hs
  by_cases h9 : 0 ≤ n ∧ n ≤ 9
  rotate_left
  · have HN := Lib.hid (topo_no (n := n) (l := l) fun h => h9 h.1)
    have hd : decide (0 ≤ n ∧ n ≤ 9) = false := by simpa using h9
    clear h9
    go_enter Try.func26, Try.ntmps26
    go_wp2_with (go_at_call 47; refine (within_any _ _ _ _).mono ?_; rintro e w' ⟨rfl, rfl⟩)
    go_ret
    exact ⟨_, _, _, rfl, by rw [HN.out]; exact World.ownsRow_nil _ _ _ _, Ext.refl' _⟩
  have hd : decide (0 ≤ n ∧ n ≤ 9) = true := by simpa using h9
  by_cases h81 : (nn : Int) ≤ 81
  rotate_left
  · have HN := Lib.hid (topo_no (n := n) (l := l) fun h => h81 (by have h1 := h.2.1; have h2 := H.out; omega))
    clear h9
    go_enter Try.func26, Try.ntmps26
    go_wp2_with (go_at_call 47; refine (within_any _ _ _ _).mono ?_; rintro e w' ⟨rfl, rfl⟩)
    go_ret
    exact ⟨_, _, _, rfl, by rw [HN.out]; exact World.ownsRow_nil _ _ _ _, Ext.refl' _⟩
  obtain ⟨h90, h99⟩ := h9
  have H81 := Lib.hid h81
  go_enter Try.func26, Try.ntmps26
  go_wp2_with (go_at_call 47; refine (within_any _ _ _ _).mono ?_; rintro e w' ⟨rfl, rfl⟩)
  clear hd
  go_loopw [21] (fun i wr => ∃ k : Nat, k ≤ nn ∧ i = .int .i64 k ∧ AllTo (Edge.ok n) l k ∧ Ext w wr) (fun i _ => nn - (intOf i).toNat)
  case atStart => exact ⟨0, Nat.zero_le _, rfl, AllTo.zero _ _, Ext.refl' _⟩
  case round =>
    obtain ⟨k, hk, rfl, hup, hx⟩ := hrel
    have HU := Lib.hid hup
    have HX := Lib.hid hx
    clear hup hx
    by_cases hlt : (k : Int) < (nn : Int)
    · obtain ⟨b, o, rfl⟩ := HS.out.addr (by omega)
      obtain ⟨s, hsk, -, hc⟩ := (HS.out.ext HX.out).flat_cell (k := k) Edge.cells_length (by omega) (by omega)
      obtain ⟨g0, g1⟩ := s
      have k0 := hc 0 (by omega)
      have k1 := hc 1 (by omega)
      simp only [Edge.cells, List.getElem?_cons_zero, List.getElem?_cons_succ, Nat.add_zero] at k0 k1
      have HSK := Lib.hid hsk
      have hkl : Hid (k < l.length) := by have h := H.out; show k < _; omega
      clear hsk hc
      by_cases t0 : 0 ≤ g0 ∧ g0 ≤ n - 1
      rotate_left
      · have HN := Lib.hid (topo_no (n := n) (l := l) fun h => AllTo.not HSK.out hkl.out (fun q => t0 q.1) h.2.2)
        have d0 : decide (0 ≤ g0 ∧ g0 ≤ n - 1) = false := by simpa using t0
        clear t0
        go_wp2_with (go_at_call 47; refine (within_any _ _ _ _).mono ?_; rintro e w' ⟨rfl, rfl⟩)
        go_ret
        exact ⟨_, _, _, rfl, by rw [HN.out]; exact World.ownsRow_nil _ _ _ _, HX.out.al _⟩
      have d0 : decide (0 ≤ g0 ∧ g0 ≤ n - 1) = true := by simpa using t0
      by_cases t1 : 0 ≤ g1 ∧ g1 ≤ n - 1
      rotate_left
      · have HN := Lib.hid (topo_no (n := n) (l := l) fun h => AllTo.not HSK.out hkl.out (fun q => t1 q.2) h.2.2)
        have d1 : decide (0 ≤ g1 ∧ g1 ≤ n - 1) = false := by simpa using t1
        clear t0 t1
        go_wp2_with (go_at_call 47; refine (within_any _ _ _ _).mono ?_; rintro e w' ⟨rfl, rfl⟩)
        go_ret
        exact ⟨_, _, _, rfl, by rw [HN.out]; exact World.ownsRow_nil _ _ _ _, HX.out.al _⟩
      have d1 : decide (0 ≤ g1 ∧ g1 ≤ n - 1) = true := by simpa using t1
      have T0 := Lib.hid t0
      have T1 := Lib.hid t1
      clear t0 t1
      go_wp2_with (go_at_call 47; refine (within_any _ _ _ _).mono ?_; rintro e w' ⟨rfl, rfl⟩)
      go_roundw
      case rel => exact ⟨k + 1, by omega, by go_num, HU.out.succ HSK.out ⟨T0.out, T1.out⟩, HX.out.al _⟩
      case measure => simp [intOf]; omega
    have HAL : Hid (AllTo (Edge.ok n) l l.length) := by have h := H.out; rw [show l.length = k by omega]; exact HU.out
    obtain ⟨N, rfl⟩ : ∃ N : Nat, n = (N : Int) := ⟨n.toNat, by omega⟩
    have HTY := Lib.hid (topo_yes (N := N) (l := l) ⟨⟨h90, h99⟩, by have h := H.out; have h2 := H81.out; omega, HAL.out⟩)
    have HN9 : Hid (N ≤ 9) := by show N ≤ 9; omega
    have OE := Lib.hid (own_emptyT wr)
    have zw : w.heap.size ≤ wr.heap.size := HX.out.size
    obtain ⟨wz, rfl⟩ : ∃ x, x = wr := ⟨wr, rfl⟩
    go_wp2
    go_loopw [8] (fun _ wt => ∃ (k : Nat) (out : List Int) (B : Option Addr) (d : Nat), k ≤ N ∧ tp l N k = some out ∧ Hid (wt.ownsRow wz.heap.size 3 1 (.slice B k d) k (ints out)) ∧ Ext wz wt ∧ Hid (Bx wt (wz.heap.size + 1) 36 #[.slice B k d])) (fun _ wt => N - lenAt wt ⟨wz.heap.size + 1, 0, none⟩)
    case atStart => exact ⟨0, [], _, _, Nat.zero_le _, rfl, own_ext OE.out ((Ext.refl' _).al _), ((Ext.refl' _).al _).al _, Bx.new' _ _ _ (by simp)⟩
    case round =>
      obtain ⟨k, out, B, d, hk, htp, HO, hxt, HG⟩ := hrel
      obtain ⟨wt, rfl⟩ : ∃ x, x = wr := ⟨wr, rfl⟩
      have HTP := Lib.hid htp
      have XT := Lib.hid hxt
      have qG : wt.cell? ⟨wz.heap.size + 1, 0, none⟩ = some (.slice B k d) := HG.out.cell 0
      have HLA := Lib.hid (lenAt_slice qG)
      have zG : wz.heap.size + 1 < wt.heap.size := HG.out.lt
      clear htp hxt
      by_cases hkn : (k : Int) < (N : Int)
      rotate_left
      · have e : Hid (k = N) := by show k = N; omega
        have HTN : Hid (tp l N N = some out) := by have h := HTP.out; rw [e.out] at h; exact h
        go_wp2
        go_ret
        exact ⟨_, _, _, rfl, by rw [HTY.out, HTN.out]; exact own_base HO.out zw, HX.out.tr XT.out⟩
      have HKN : Hid (k < N) := by show k < N; omega
      have hv0 : Hid (Bx (wt.alloc (.cells #[.int .i64 ((N : Int) - 1)] 3)) wt.heap.size 3 #[.int .i64 ((N : Int) - 1)]) := Bx.new' _ _ _ rfl
      go_wp2
      go_loopw [8, 9] (fun nx p wi => ∃ (m gv : Nat), m ≤ N ∧ nx = .int .i64 (nxTo l out N m) ∧ p = .pointer (some ⟨gv, 0, none⟩) ∧ Hid (Bx wi gv 3 #[.int .i64 ((N : Int) - 1 - (m : Int))]) ∧ wt.heap.size ≤ gv ∧ Ext wt wi) (fun _ p wi => (intAt wi (ptrOf p) + 1).toNat)
      case atStart => exact ⟨0, wt.heap.size, Nat.zero_le _, rfl, rfl, by show Bx _ _ _ _; have h := hv0.out; simpa using h, Nat.le_refl _, (Ext.refl' _).al _⟩
      case round =>
        obtain ⟨m, gv, hmN, rfl, rfl, HV, hgv, hxi⟩ := hrel
        obtain ⟨wi, rfl⟩ : ∃ x, x = wr := ⟨wr, rfl⟩
        have XI := Lib.hid hxi
        have HR := Lib.hid (nxTo_range l out N m hmN)
        obtain ⟨V, hV⟩ : ∃ V : Int, V = (N : Int) - 1 - (m : Int) := ⟨_, rfl⟩
        have HVV := Lib.hid hV
        have qv : wi.cell? ⟨gv, 0, none⟩ = some (.int .i64 V) := by rw [hV]; exact HV.out.cell 0
        have fv : wi.frozen? ⟨gv, 0, none⟩ = false := HV.out.frozen 0
        have qi := XI.out.co qG
        have HIA := Lib.hid (intAt_int qv)
        have zv : gv < wi.heap.size := HV.out.lt
        have zi : wt.heap.size ≤ wi.heap.size := hxi.size
        clear hxi hV qG
        by_cases hV0 : (0 : Int) ≤ V
        rotate_left
        · have e : Hid (m = N) := by have h := HVV.out; show m = N; omega
          obtain ⟨X, hX⟩ : ∃ X, X = nxTo l out N m := ⟨_, rfl⟩
          have HXX := Lib.hid hX
          have HXN : Hid (X = nxTo l out N N) := by show X = _; rw [hX, e.out]
          rw [← hX]
          clear hX
          by_cases hneg : X < 0
          · have HN := Lib.hid (tp_none (tp_stop HTP.out (by rw [← HXN.out]; exact hneg)) N HKN.out)
            go_wp2
            go_ret
            exact ⟨_, _, _, rfl, by rw [HTY.out, HN.out]; exact World.ownsRow_nil _ _ _ _, HX.out.tr (XT.out.tr XI.out)⟩
          have HNX := Lib.hid (tp_next HTP.out (by rw [← HXN.out]; exact hneg))
          have OI := Lib.hid (own_ext HO.out XI.out)
          have GI := Lib.hid (HG.out.ext XI.out)
          have hk9 : k ≤ 9 := by have h1 := HN9.out; have h2 := HKN.out; omega
          have zwi : wz.heap.size ≤ wi.heap.size := (XT.out.tr XI.out).size
          go_wp2_with (at_builtin; refine wp_push rfl (.tmp 66) (.tmp 68) _ rfl wz.heap.size 3 _ _ _ Try.underlying36 Try.infoInt rfl (by omega) B k d _ rfl OI.out [.int .i64 X] _ (by simp) rfl rfl (by simp [Value.oneCell']) (by omega) (by unfold maxLen; omega) zwi ?_; intro A' c' w' hown' hchg' hat'; have G6 : Hid (Bx w' (wz.heap.size + 1) 36 #[.slice B k d]) := GI.out.chg hchg' (fun hg => own_bx OI.out GI.out (by decide) hg); have y6 := G6.out.cell 0; have yf := G6.out.frozen 0; have O6 := Lib.hid hown'; have X6 := Lib.hid (hchg'.ext (XT.out.tr XI.out) (fun g hg => (OI.out.lt g hg).1)))
          go_roundw
          case rel => exact ⟨k + 1, out ++ [X], A', c', HKN.out, by rw [HNX.out, HXN.out], own_chg (by rw [ints, List.map_append]; exact O6.out) ((Chg.refl (fun g => g = wz.heap.size + 1) _).sc rfl _) (fun g hg q => own_bx O6.out G6.out (by decide) (by rw [← show g = wz.heap.size + 1 from q]; exact hg)), X6.out.sc (by show wz.heap.size ≤ wz.heap.size + 1; omega) _, (G6.out.set_ 0 _).cast rfl⟩
          case measure =>
            have h1 : lenAt (w'.setCell ⟨wz.heap.size + 1, 0, none⟩ (.slice A' (k + 1) c')) ⟨wz.heap.size + 1, 0, none⟩ = k + 1 := lenAt_slice ((G6.out.set_ 0 _).cell 0)
            have h2 := HLA.out
            have h3 := HKN.out
            show N - lenAt _ _ < N - lenAt _ _
            rw [h1, h2]
            omega
        have HMN : Hid (m < N) := by have h := HVV.out; show m < N; omega
        have hVN : V ≤ 9 := by have h := HVV.out; omega
        have hV1 : Hid (V - 1 = (N : Int) - 1 - ((m + 1 : Nat) : Int)) := by have h := HVV.out; show V - 1 = _; omega
        go_wp2_with fail
        refine (anyTopo_any _ nn _ l V gv (wz.heap.size + 1) B k d out _ S _ (HS.out.ext (HX.out.tr (XT.out.tr XI.out))) hm qv qi (ownSl (own_ext HO.out XI.out)) (by have := HN9.out; have := HKN.out; omega)).mono ?_
        rintro e w5 ⟨rfl, x5⟩
        have X5 := Lib.hid x5
        have q5 := x5.co qv
        have qo := x5.co qi
        have zg5 : gv < w5.heap.size := Nat.lt_of_lt_of_le zv x5.size
        have zi5 : wi.heap.size ≤ w5.heap.size := x5.size
        clear x5 qv qi fv
        cases hA : dec (AllTo (Edge.lets V out) l l.length)
        · have HB : Hid (nxTo l out N (m + 1) = nxTo l out N m) := nxTo_busy (by rw [← HVV.out]; exact dec_no (fun h => dec_false hA h.1))
          clear hA
          go_wp2
          go_roundw
          case rel => exact ⟨m + 1, w5.heap.size, HMN.out, by rw [HB.out], rfl, by rw [← hV1.out]; exact Bx.new' _ _ _ rfl, by omega, (XI.out.tr X5.out).al _⟩
          case measure =>
            have h1 : intAt (w5.alloc (.cells #[.int .i64 (V - 1)] 3)) ⟨w5.heap.size, 0, none⟩ = V - 1 := intAt_int ((Bx.new' w5 3 #[.int .i64 (V - 1)] rfl).cell 0)
            have h2 := HIA.out
            show (intAt _ (⟨w5.heap.size, 0, none⟩ : Addr) + 1).toNat < (intAt _ (⟨gv, 0, none⟩ : Addr) + 1).toNat
            rw [h1, h2]
            omega
        cases hC : dec (V ∈ out)
        · have HF : Hid (nxTo l out N (m + 1) = V) := by rw [HVV.out]; exact nxTo_free (by rw [← HVV.out]; exact dec_yes ⟨dec_true hA, dec_false hC⟩)
          clear hA
          go_wp2_with fail
          refine (Contains_any _ k _ out V _ _ (ownSl (own_ext (own_ext HO.out XI.out) X5.out)) (by have := HN9.out; have := HKN.out; omega)).mono ?_
          rintro e w6 ⟨rfl, rfl⟩
          rw [hC]
          clear hC
          go_wp2
          go_roundw
          case rel => exact ⟨m + 1, w5.heap.size, HMN.out, by rw [HF.out], rfl, by rw [← hV1.out]; exact Bx.new' _ _ _ rfl, by omega, (XI.out.tr X5.out).al _⟩
          case measure =>
            have h1 : intAt (w5.alloc (.cells #[.int .i64 (V - 1)] 3)) ⟨w5.heap.size, 0, none⟩ = V - 1 := intAt_int ((Bx.new' w5 3 #[.int .i64 (V - 1)] rfl).cell 0)
            have h2 := HIA.out
            show (intAt _ (⟨w5.heap.size, 0, none⟩ : Addr) + 1).toNat < (intAt _ (⟨gv, 0, none⟩ : Addr) + 1).toNat
            rw [h1, h2]
            omega
        · have HB : Hid (nxTo l out N (m + 1) = nxTo l out N m) := nxTo_busy (by rw [← HVV.out]; exact dec_no (fun h => h.2 (dec_true hC)))
          clear hA
          go_wp2_with fail
          refine (Contains_any _ k _ out V _ _ (ownSl (own_ext (own_ext HO.out XI.out) X5.out)) (by have := HN9.out; have := HKN.out; omega)).mono ?_
          rintro e w6 ⟨rfl, rfl⟩
          rw [hC]
          clear hC
          go_wp2
          go_roundw
          case rel => exact ⟨m + 1, w5.heap.size, HMN.out, by rw [HB.out], rfl, by rw [← hV1.out]; exact Bx.new' _ _ _ rfl, by omega, (XI.out.tr X5.out).al _⟩
          case measure =>
            have h1 : intAt (w5.alloc (.cells #[.int .i64 (V - 1)] 3)) ⟨w5.heap.size, 0, none⟩ = V - 1 := intAt_int ((Bx.new' w5 3 #[.int .i64 (V - 1)] rfl).cell 0)
            have h2 := HIA.out
            show (intAt _ (⟨w5.heap.size, 0, none⟩ : Addr) + 1).toNat < (intAt _ (⟨gv, 0, none⟩ : Addr) + 1).toNat
            rw [h1, h2]
            omega

end Go.Proofs.Ytheclckjgjaecaa
