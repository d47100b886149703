/- The laws' helpers on Order and Pool: how they come in, sizes, copies. No condition but sizes. -/
import Derived.Test.YtfkbomcbcjjlbaaDeep
import Derived.Test.YtfkbomcbcjjlbaaSzInts
import Derived.Test.YtfkbomcbcjjlbaaQC
import Derived.Test.YtfkbomcbcjjlbaaIn
import Derived.Deep.RegionWith
namespace Go.Proofs.Ytfkbomcbcjjlbaa
open Go.RowKit Go.Deep

/-! ### Order -/
structure Order where
  kids_ : List Int
deriving Inhabited
def Order.wt (x : Order) : Nat := x.kids_.length
def Order.R (w : World) (S : Nat → Prop) (cs : List Value) (x : Order) : Prop := ∃ (A0 : Option Addr) (n0 c0 : Nat), cs = [.slice A0 n0 c0] ∧ (n0 ≤ c0 ∧ n0 ≤ 9223372036854775807 ∧ Sl w S 1 A0 n0 (ints x.kids_))
def Order.W (w : World) (S : Nat → Prop) (cs : List Value) (x : Order) : Prop := ∃ (A0 : Option Addr) (n0 c0 : Nat) (lab : Nat → Nat), cs = [.slice A0 n0 c0] ∧ (n0 ≤ c0 ∧ n0 ≤ 9223372036854775807 ∧ OwS w (fun g => S g ∧ lab g = 0) 3 1 A0 n0 c0 (ints x.kids_))
theorem Order.R_good : Good Order.R 1 := ⟨fun {_ _ _ _} h => by
    obtain ⟨A0, n0, c0, rfl, ⟨kh0, mh0, h0⟩⟩ := h
    rfl,
  fun {_ _ _ _ _ _} h k hd => by
    obtain ⟨A0, n0, c0, rfl, ⟨kh0, mh0, h0⟩⟩ := h
    exact ⟨_, _, _, rfl, ⟨kh0, mh0, h0.chg k hd⟩⟩,
  fun {_ _ _ _ _} h hs => by
    obtain ⟨A0, n0, c0, rfl, ⟨kh0, mh0, h0⟩⟩ := h
    exact ⟨_, _, _, rfl, ⟨kh0, mh0, h0.mono hs⟩⟩⟩
theorem Order.W_good : Good Order.W 1 := ⟨fun {_ _ _ _} h => by
    obtain ⟨A0, n0, c0, lab, rfl, ⟨kh0, mh0, h0⟩⟩ := h
    rfl,
  fun {_ _ _ _ _ _} h k hd => by
    obtain ⟨A0, n0, c0, lab, rfl, ⟨kh0, mh0, h0⟩⟩ := h
    exact ⟨_, _, _, lab, rfl, ⟨kh0, mh0, h0.chg k fun i hi => hd i hi.1⟩⟩,
  fun {_ _ _ _ _} h hs => by
    obtain ⟨A0, n0, c0, lab, rfl, ⟨kh0, mh0, h0⟩⟩ := h
    exact ⟨_, _, _, lab, rfl, ⟨kh0, mh0, h0.mono fun i _ hi => ⟨hs i hi.1, hi.2⟩⟩⟩⟩
theorem Order.W_R {w : World} {S : Nat → Prop} {cs : List Value} {x : Order} (h : Order.W w S cs x) : Order.R w S cs x := by
  obtain ⟨A0, n0, c0, lab, rfl, ⟨kh0, mh0, h0⟩⟩ := h
  exact ⟨_, _, _, rfl, ⟨kh0, mh0, h0.sl.mono fun i hi => hi.1⟩⟩
theorem Order.R_cells {w : World} {S : Nat → Prop} {cs : List Value} {x : Order} (h : Order.R w S cs x) : ∃ (A0 : Option Addr) (n0 c0 : Nat), cs = [.slice A0 n0 c0] := by
  obtain ⟨A0, n0, c0, rfl, ⟨kh0, mh0, h0⟩⟩ := h
  exact ⟨A0, n0, c0, rfl⟩
theorem Order.W_cells {w : World} {S : Nat → Prop} {cs : List Value} {x : Order} (h : Order.W w S cs x) : ∃ (A0 : Option Addr) (n0 c0 : Nat), cs = [.slice A0 n0 c0] := by
  obtain ⟨A0, n0, c0, lab, rfl, ⟨kh0, mh0, h0⟩⟩ := h
  exact ⟨A0, n0, c0, rfl⟩
set_option maxRecDepth 8000 in
set_option maxHeartbeats 4000000 in
theorem opens_Order : Opens Try.prog 75 (fun w cs (x : Order) => Order.R w (fun _ => True) cs x) := by
  intro H enc w base spare held fuel cs x h
  obtain ⟨xs, n, _, _, hlen, hxl, hf⟩ := DataW.trod_struct Try.underlying75 h
  rw [show Try.prog.cellsOf 75 = 1 from by kernel_rfl] at hlen
  have hxl' : xs.length = 1 := hxl
  have h0 : DataW.trod enc Try.prog w base spare held n 22 ((cs.drop 0).take (Try.prog.cellsOf 22)) = xs[0]? := hf 0 _ rfl
  rw [show Try.prog.cellsOf 22 = 1 from by kernel_rfl, List.getElem?_eq_getElem (show 0 < xs.length by omega)] at h0
  obtain ⟨f0, A0, n0, c0, e0, g0, g0', -, -, s0⟩ := opens_ints Try.underlying22 Try.underlying3 (by kernel_rfl) H enc w base spare held n _ _ h0
  clear h0 hf h hxl hxl'
  match cs, hlen with
  | [q0], _ =>
    simp only [List.drop_zero, List.take_succ_cons, List.take_zero, List.cons.injEq, and_true] at e0
    subst e0
    exact ⟨⟨f0⟩, _, _, _, rfl, ⟨g0, Nat.le_trans g0 g0', s0⟩⟩
set_option maxRecDepth 8000 in
set_option maxHeartbeats 4000000 in
theorem szOrder_any (x : Order) (cs : List Value) (q : Int) (w : World) (S : Nat → Prop) (h : Order.R w S cs x) (hq0 : 0 ≤ q) (hq2 : q ≤ 1048576) :
    Calls Try.prog 52 #[.agg cs.toArray, .int .i64 q] w fun e w' => ∃ r : Int, e = .returned (.int .i64 r) ∧ Left r q (Order.wt x) ∧ Ext w w' := by
  obtain ⟨A0, n0, c0, rfl, ⟨kh0, mh0, h0⟩⟩ := h
  have H0 := Lib.hid h0
  clear h0
  show Calls Try.prog _ #[.agg #[.slice A0 n0 c0], .int .i64 q] w _
  go_enter Try.func52, Try.ntmps52
  go_wp2_with fail
  have L0 := Lib.hid (H0.out.len)
  refine (szIntS_any _ _ _ (q) _ hq0 hq2 mh0).mono ?_
  rintro e w1 ⟨rfl, xq⟩
  have x1 := Ext.of_eq xq
  clear xq
  have Q0 : Hid (Left (if (n0 : Int) ≤ q then q - n0 else -1) q (x.kids_.length)) := by show Left _ _ _; rw [L0.out]; exact Left.of_if
  generalize (if (n0 : Int) ≤ q then q - n0 else -1) = r0 at Q0
  have X1 : Ext w w1 := Ext.tr (((Ext.refl' w).al _)) x1
  have b1 : Hid (Bx w1 w.heap.size 75 #[.slice A0 n0 c0]) := Bx.ext (Bx.new' _ _ _ rfl) x1
  clear x1
  have R0 : Hid (Left r0 q (x.kids_.length)) := Q0
  by_cases g0 : 0 ≤ r0
  rotate_left
  · have e0 : r0 = -1 := by have a := R0.out; unfold Left at a; omega
    subst e0
    clear g0
    go_wp2
    go_ret
    exact ⟨-1, rfl, by have a := R0.out; unfold Left Order.wt at *; omega, X1⟩
  have u0 : r0 ≤ 1048576 := by have a := R0.out; unfold Left at a; omega
  go_wp2
  go_ret
  exact ⟨r0, rfl, R0.out, X1⟩
set_option maxRecDepth 8000 in
set_option maxHeartbeats 4000000 in
theorem szOrderS_any (A : Option Addr) (n c : Nat) (l : List Order) (q : Int) (w : World) (S : Nat → Prop) (hs : SlR Order.R 1 w S A n l) (hm : n ≤ 9223372036854775807) (hq0 : 0 ≤ q) (hq2 : q ≤ 1048576) :
    Calls Try.prog 38 #[.slice A n c, .int .i64 q] w fun e w' => ∃ r : Int, e = .returned (.int .i64 r) ∧ Left r q (wtl Order.wt l) ∧ Ext w w' := by
  have H := Lib.hid hs.1
  have HL := Lib.hid (wtl_len Order.wt l)
  by_cases hn : (n : Int) ≤ q
  rotate_left
  · go_enter Try.func38, Try.ntmps38
    go_wp2
    go_ret
    exact ⟨-1, by first | rfl | (simp; done) | simp [hn], .inr ⟨by have a := H.out; have b := HL.out; omega, rfl⟩, Ext.refl' _⟩
  have HS := Lib.hid hs
  clear hs
  go_enter Try.func38, Try.ntmps38
  go_wp2
  go_loopw [1, 5] (fun u i wr => ∃ (k : Nat) (r : Int), k ≤ n ∧ i = .int .i64 k ∧ u = .int .i64 r ∧ 0 ≤ r ∧ r ≤ 1048576 ∧ Hid (r = q - n + k - wtl Order.wt (l.take k)) ∧ Ext w wr) (fun _ i _ => n - (intOf i).toNat)
  case atStart => exact ⟨0, q - n, Nat.zero_le _, rfl, rfl, by omega, by omega, by show _ = _; simp [wtl], Ext.refl' _⟩
  case round =>
    obtain ⟨k, r, hk, rfl, rfl, hr0, hr2, HR, hx⟩ := hrel
    have HX := Lib.hid hx
    clear hx
    by_cases hlt : (k : Int) < (n : Int)
    rotate_left
    · have e : Hid (k = n) := by show k = n; omega
      go_wp2
      go_ret
      exact ⟨r, rfl, .inl (by have h1 := HR.out; rw [e.out, ← H.out, List.take_length] at h1; have h2 := H.out; omega), HX.out⟩
    obtain ⟨b, o, rfl⟩ := HS.out.addr (by omega)
    obtain ⟨x, row, hxk, -, hrw, hc⟩ := (HS.out.ext Order.R_good HX.out).at_ (k := k) (by omega)
    have HRW := Lib.hid hrw
    obtain ⟨A0, n0, c0, rfl⟩ := Order.R_cells hrw

    have c_0 := hc 0 (by omega)
    simp only [List.getElem?_cons_zero, Nat.add_zero, Nat.mul_one] at c_0
    have HW := Lib.hid (wtl_take Order.wt hxk)
    have HLE := Lib.hid (wtl_le Order.wt l (k + 1))
    have HTL := Lib.hid (wtl_len Order.wt (l.drop (k + 1)))
    clear hrw hc hxk
    go_wp2_with fail
    refine (szOrder_any x _ r _ S HRW.out hr0 hr2).mono ?_
    rintro e w2 ⟨r2, rfl, Q, x2⟩
    have X2 := Lib.hid (HX.out.tr x2)
    have HQ := Lib.hid Q
    clear x2 Q
    by_cases g : 0 ≤ r2
    rotate_left
    · have e : r2 = -1 := by have a := HQ.out; unfold Left at a; omega
      subst e
      clear g
      go_wp2
      go_ret
      exact ⟨-1, rfl, .inr ⟨by have a := HQ.out; have b := HW.out; have c := HR.out; have d := HLE.out; have e := H.out; have f := wtl_rest Order.wt l (k + 1); unfold Left at a; omega, rfl⟩, X2.out⟩
    have g2 : r2 ≤ 1048576 := by have a := HQ.out; unfold Left at a; omega
    go_wp2
    go_roundw
    case rel => exact ⟨k + 1, r2, by omega, by go_num, rfl, g, g2, by show _ = _; have a := HQ.out; have b := HW.out; have c := HR.out; unfold Left at a; omega, X2.out⟩
    case measure => simp [intOf]; omega
set_option maxRecDepth 8000 in
set_option maxHeartbeats 8000000 in
theorem toOrder_any (x : Order) (cs : List Value) (w : World) (S : Nat → Prop) (h : Order.R w S cs x) (hw : Order.wt x ≤ 1048576) :
    Calls Try.prog 53 #[.agg cs.toArray] w fun e w' => ∃ cs', e = .returned (.agg cs'.toArray) ∧ Order.W w' (fun g => w.heap.size ≤ g ∧ g < w'.heap.size) cs' x ∧ Ext w w' := by
  obtain ⟨A0, n0, c0, rfl, ⟨kh0, mh0, h0⟩⟩ := h
  unfold Order.wt at hw
  have l0 := h0.len
  have n_0 : n0 ≤ 1048576 := by omega
  have H0 := Lib.hid h0
  clear h0 hw l0
  show Calls Try.prog _ #[.agg #[.slice A0 n0 c0]] w _
  go_enter Try.func53, Try.ntmps53
  go_wp2_with fail
  refine (toIntS_any _ _ _ _ _ S (H0.out.ext ((((Ext.refl' w).al _).al _).al _)) n_0).mono ?_
  rintro e w1 ⟨B0, d0, rfl, o0, x1⟩
  have K0 : Hid (n0 ≤ d0) := own_cap o0
  replace o0 := Lib.hid (OwS.of_own o0)
  have z1 : w.heap.size + 3 ≤ w1.heap.size := by have h := x1.size; (try simp at h); omega
  have ba1 : Hid (Bx w1 (w.heap.size) 75 #[.slice A0 n0 c0]) := Bx.ext (((Bx.new' _ _ _ rfl).al _).al _) x1
  have br1 : Hid (Bx w1 (w.heap.size + 1) 62 #[.slice none 0 0]) := Bx.ext ((Bx.new' _ _ _ (by simp)).al _) x1
  have bo1 : Hid (Bx w1 (w.heap.size + 2) 62 #[.slice none 0 0]) := Bx.ext (Bx.new' _ _ _ (by simp)) x1
  have X1 : Ext w w1 := Ext.tr ((((Ext.refl' w).al _).al _).al _) x1
  replace o0 : Hid (OwS w1 (fun g => w.heap.size + 3 ≤ g ∧ g < w1.heap.size) 3 1 B0 n0 d0 (ints x.kids_)) := o0.out.mono (fun g _ hg => by have h1 := hg.1; have h2 := hg.2; constructor <;> (try simp at h1) <;> omega)
  clear x1
  have co1_0 : w1.cell? ⟨w.heap.size + 2, 0, none⟩ = some (.slice none 0 0) := bo1.out.cell 0
  have fo1_0 : w1.frozen? ⟨w.heap.size + 2, 0, none⟩ = false := bo1.out.frozen 0
  have cr1_0 : w1.cell? ⟨w.heap.size + 1, 0, none⟩ = some (.slice none 0 0) := br1.out.cell 0
  have fr1_0 : w1.frozen? ⟨w.heap.size + 1, 0, none⟩ = false := br1.out.frozen 0
  go_wp2
  refine bodyPost_ret (v := .agg #[.slice B0 n0 d0]) (by simp [results, Try.results53, go_sem, cr1_0]) rfl ⟨[.slice B0 n0 d0], rfl, ?_, ?_⟩
  · refine (?_ : ∀ wz, Chg (fun g => g = w.heap.size + 2 ∨ g = w.heap.size + 1) w1 wz → Order.W wz (fun g => w.heap.size ≤ g ∧ g < wz.heap.size) [.slice B0 n0 d0] x) _ (((Chg.refl (fun g => g = w.heap.size + 2 ∨ g = w.heap.size + 1) _).sc (by first | (simp; done) | (simp; omega)) _).sc (by first | (simp; done) | (simp; omega)) _)
    intro wz cc
    have zz := cc.size
    exact ⟨B0, n0, d0, lb [w1.heap.size], rfl, ⟨K0.out, mh0, (o0.out.chg cc (fun g hg q => by have h1 := hg.1; have hq3 : g = w.heap.size + 2 ∨ g = w.heap.size + 1 := q; omega)).mono (fun g _ hg => ⟨⟨by have h1 := hg.1; omega, by have h2 := hg.2; omega⟩, by have h1 := hg.1; have h2 := hg.2; exact lb_here (by omega)⟩)⟩⟩
  · exact ((X1).sc (by first | (simp; done) | (simp; omega)) _).sc (by first | (simp; done) | (simp; omega)) _
theorem Try.infoOrder : (Try.prog.info? 62).map (fun i => (i.zero, i.size, i.bytes)) = some (some (.agg #[.slice none 0 0]), 1, 24) := by kernel_rfl
set_option maxRecDepth 8000 in
set_option maxHeartbeats 8000000 in
theorem toOrderS_any (A : Option Addr) (n c : Nat) (l : List Order) (w : World) (S : Nat → Prop) (hs : SlR Order.R 1 w S A n l) (hm : n ≤ 1048576) (hw : wtl Order.wt l ≤ 1048576) :
    Calls Try.prog 40 #[.slice A n c] w fun e w' => ∃ B d, e = .returned (.slice B n d) ∧ SlW Order.W 62 1 w' (fun g => w.heap.size ≤ g ∧ g < w'.heap.size) B n d l ∧ Ext w w' := by
  obtain ⟨w1, cs0, hmk, hown, -, hx1, hlt⟩ := made_row (P := Try.prog) w 34 62 _ _ _ Try.underlying34 Try.infoOrder n (by omega) (by unfold maxLen; omega)
  have HO := Lib.hid hown
  have HX := Lib.hid hx1
  have HS := Lib.hid hs
  have HLL := Lib.hid hs.1
  have HW0 := Lib.hid hw
  clear hown hx1 hs hw
  go_enter Try.func40, Try.ntmps40
  go_wp2
  go_loopw [4] (fun i wr => ∃ (k : Nat) (cs : List Value) (lab : Nat → Nat), k ≤ n ∧ i = .int .i64 k ∧ Hid (wr.ownsRow w.heap.size 62 1 (.slice (some ⟨w.heap.size, 0, none⟩) n n) n cs) ∧ Hid (WRows Order.W 1 wr (fun g => w.heap.size < g ∧ g < wr.heap.size) lab cs l k) ∧ Ext w wr) (fun i _ => n - (intOf i).toNat)
  case atStart => exact ⟨0, _, fun _ => 0, Nat.zero_le _, rfl, HO, WRows.zero _ _ _ _ _ _ _, HX.out⟩
  case round =>
    obtain ⟨k, cs, lab, hk, rfl, HO2, HU, hx⟩ := hrel
    have HX2 := Lib.hid hx
    clear hx
    by_cases hlt : (k : Int) < (n : Int)
    rotate_left
    · have e : Hid (k = n) := by show k = n; omega
      go_wp2
      go_ret
      refine ⟨_, _, rfl, ⟨HLL.out, cs, fun g => if w.heap.size < g then lab g else 0, ⟨own_base HO2.out (Nat.zero_le _), fun g hg => ?_⟩, fun i hi x hxi => ?_⟩, HX2.out⟩
      · have e : some w.heap.size = some g := hg
        injection e with e
        subst e
        exact ⟨⟨Nat.le_refl _, (HO2.out.lt _ rfl).2⟩, if_neg (Nat.lt_irrefl _)⟩
      · obtain ⟨row, hr, hj⟩ := HU.out i (by have h := e.out; omega) x hxi
        exact ⟨row, Order.W_good.mono hr fun g hg => ⟨⟨by have h := hg.1.1; omega, hg.1.2⟩, (if_pos hg.1.1).trans hg.2⟩, hj⟩
    obtain ⟨b, o, rfl⟩ := HS.out.addr (by omega)
    obtain ⟨x, row, hxk, -, hrw, hc⟩ := (HS.out.ext Order.R_good HX2.out).at_ (k := k) (by omega)
    have HRW := Lib.hid hrw
    obtain ⟨A0, n0, c0, rfl⟩ := Order.R_cells hrw
    have c_0 := hc 0 (by omega)
    simp only [List.getElem?_cons_zero, Nat.add_zero, Nat.mul_one] at c_0
    have HXK := Lib.hid hxk
    have HKW := Lib.hid (Nat.le_trans (wtl_at Order.wt hxk) HW0.out)
    have HLT : Hid (k < n) := by show k < n; omega
    clear hrw hc hxk
    go_wp2_with fail
    refine (toOrder_any x _ _ S HRW.out HKW.out).mono ?_
    rintro e w2 ⟨cv, rfl, hW, hx2⟩
    have HWW := Lib.hid hW
    obtain ⟨B0, p0, d0, rfl⟩ := Order.W_cells hW
    have ho2 := own_ext HO2.out hx2
    have z0 : w.heap.size < wr.heap.size := (HO2.out.lt _ rfl).2
    have z1 : wr.heap.size ≤ w2.heap.size := hx2.size
    obtain ⟨g, hA, -, -, hg⟩ := own_flat ho2 HLT.out
    obtain rfl : w.heap.size = g := addr_inj hA
    obtain ⟨v0, g0, e0⟩ := hg 0 (by omega)
    rw [Nat.add_zero, Nat.mul_one] at g0 e0
    have HX3 := Lib.hid hx2
    have HO3 := Lib.hid ho2
    clear hx2 ho2 hg hW
    go_wp2
    go_roundw
    case rel =>
      have t0 := HO3.out.stored (k) (.slice B0 p0 d0)
      have hl3 : cs.length = n * 1 := HO3.out.1
      have hkn := HLT.out
      have pp := (Put.zero cs (k * 1) [.slice B0 p0 d0]).next (q := k) (by omega) (by omega) rfl
      have cc := (Chg.refl (fun g => g = w.heap.size) w2).sc (p := ⟨w.heap.size, k, none⟩) rfl (.slice B0 p0 d0)
      refine ⟨k + 1, _, _, by omega, by go_num, Lib.hid t0.1, Lib.hid (WRows.step (b := wr.heap.size) Order.W_good HU.out (fun g hg => hg.2) (Chg.trans (HX3.out.chg _) cc) (fun g hg q => by have h1 := hg.1; have h2 : g = w.heap.size := q; omega) (fun g hg => ⟨hg.1, by have h := hg.2; simp; omega⟩) HXK.out (Order.W_good.mono (Order.W_good.chg HWW.out cc (fun g hg q => by have h1 := hg.1; have h2 : g = w.heap.size := q; omega)) (fun g hg => ⟨⟨by have h1 := hg.1; omega, by have h := hg.2; simp; omega⟩, hg.1⟩)) pp.2.1 pp.2.2), ?_⟩
      exact ((HX2.out.tr HX3.out)).sc (p := ⟨w.heap.size, _, none⟩) (Nat.le_refl _) _
    case measure => have h := HLT.out; simp [intOf]; omega
set_option maxRecDepth 8000 in
set_option maxHeartbeats 8000000 in
theorem eqOrder_same (x : Order) (cs cs' : List Value) (w : World) (S S' : Nat → Prop) (h : Order.R w S cs x) (u : Order.R w S' cs' x) :
    Calls Try.prog 55 #[.agg cs.toArray, .agg cs'.toArray] w fun e w' => e = .returned (.bool true) ∧ Ext w w' := by
  obtain ⟨A0, n0, c0, rfl, ⟨kh0, mh0, h0⟩⟩ := h
  obtain ⟨B0, p0, d0, rfl, ⟨ku0, mu0, u0⟩⟩ := u
  obtain rfl : n0 = p0 := by have a := h0.len; have b := u0.len; omega
  have H0 := Lib.hid h0
  have U0 := Lib.hid u0
  clear h0 u0
  show Calls Try.prog _ #[.agg #[.slice A0 n0 c0], .agg #[.slice B0 n0 d0]] w _
  go_enter Try.func55, Try.ntmps55
  go_wp2_with fail
  refine (eqIntS_same _ _ _ _ _ _ _ S S' (H0.out.ext (((Ext.refl' w).al _).al _)) (U0.out.ext (((Ext.refl' w).al _).al _)) mh0).mono ?_
  rintro e w1 ⟨rfl, x1⟩
  have z1 : w.heap.size + 2 ≤ w1.heap.size := by have h := x1.size; (try simp at h); omega
  have ba1 : Hid (Bx w1 (w.heap.size) 62 #[.slice A0 n0 c0]) := Bx.ext ((Bx.new' _ _ _ rfl).al _) x1
  have bb1 : Hid (Bx w1 (w.heap.size + 1) 62 #[.slice B0 n0 d0]) := Bx.ext (Bx.new' _ _ _ (by simp)) x1
  have X1 : Ext w w1 := Ext.tr (((Ext.refl' w).al _).al _) x1
  clear x1
  go_wp2
  go_ret
  exact ⟨rfl, X1⟩
set_option maxRecDepth 8000 in
set_option maxHeartbeats 8000000 in
theorem eqOrderS_same (A B : Option Addr) (n c d : Nat) (l : List Order) (w : World) (S S' : Nat → Prop) (ha : SlR Order.R 1 w S A n l) (hb : SlR Order.R 1 w S' B n l) (hm : n ≤ 9223372036854775807) :
    Calls Try.prog 43 #[.slice A n c, .slice B n d] w fun e w' => e = .returned (.bool true) ∧ Ext w w' := by
  have HA := Lib.hid ha
  have HB := Lib.hid hb
  clear ha hb
  go_enter Try.func43, Try.ntmps43
  go_wp2
  go_loopw [5] (fun i wr => ∃ (k : Nat), k ≤ n ∧ i = .int .i64 k ∧ Ext w wr) (fun i _ => n - (intOf i).toNat)
  case atStart => exact ⟨0, Nat.zero_le _, rfl, Ext.refl' _⟩
  case round =>
    obtain ⟨k, hk, rfl, hx⟩ := hrel
    have HX := Lib.hid hx
    clear hx
    by_cases hlt : (k : Int) < (n : Int)
    rotate_left
    · go_wp2
      go_ret
      exact ⟨rfl, HX.out⟩
    obtain ⟨b, o, rfl⟩ := HA.out.addr (by omega)
    obtain ⟨b2, o2, rfl⟩ := HB.out.addr (by omega)
    obtain ⟨x, row, hxk, -, hrw, hc⟩ := (HA.out.ext Order.R_good HX.out).at_ (k := k) (by omega)
    obtain ⟨y, row2, hyk, -, hrw2, hc2⟩ := (HB.out.ext Order.R_good HX.out).at_ (k := k) (by omega)
    rw [hxk] at hyk
    injection hyk with hyk
    subst hyk
    have RX := Lib.hid hrw
    have RY := Lib.hid hrw2
    obtain ⟨A0, n0, c0, rfl⟩ := Order.R_cells hrw
    obtain ⟨B0, p0, d0, rfl⟩ := Order.R_cells hrw2
    have a_0 := hc 0 (by omega)
    have b_0 := hc2 0 (by omega)
    simp only [List.getElem?_cons_zero, Nat.add_zero, Nat.mul_one] at a_0 b_0
    have KS : Hid (∀ w', Ext wr w' → Ext wr w' ∧ w'.cell? ⟨b, o + k, none⟩ = some (.slice A0 n0 c0) ∧ w'.cell? ⟨b2, o2 + k, none⟩ = some (.slice B0 p0 d0)) := fun w' x => ⟨x, x.co a_0, x.co b_0⟩
    have hk0 : (0 : Int) ≤ (k : Int) := by omega
    clear hrw hrw2 hc hc2 hxk
    go_wp2
    refine region_class (fun w' => Ext wr w' ∧ w'.cell? ⟨b, o + k, none⟩ = some (.slice A0 n0 c0) ∧ w'.cell? ⟨b2, o2 + k, none⟩ = some (.slice B0 p0 d0)) (by kernel_rfl) (by kernel_rfl) (KS.out _ ((Ext.refl' _).dr)) ?_
    repeat (first | go_big_quiet_skip | (go_big_quiet_want; unfold Oper.quiet; apply Exists.intro; refine ⟨fun wq hq => ?_, ?_⟩; (obtain ⟨qx, q0, q1⟩ := hq; go_simp; first | done | rfl | (go_at_call 55; exact (eqOrder_same x [.slice A0 n0 c0] [.slice B0 p0 d0] _ S S' (Order.R_good.ext RX.out qx) (Order.R_good.ext RY.out qx)).mono fun e w2 h2 => ⟨h2.1, KS.out _ (qx.tr h2.2)⟩)); (try simp only [Act.put, List.setIfInBounds_toArray, List.set_cons_zero, List.set_cons_succ]); go_big_quiet_on))
    refine wpQuiet_nil ?_
    intro wq hq
    have XE := Lib.hid hq.1
    clear hq
    go_wp2
    go_roundw
    case rel => exact ⟨k + 1, by omega, by go_num, HX.out.tr XE.out⟩
    case measure => simp [intOf]; omega
/-! ### Pool -/
structure Pool where
  queues_ : List Order
  cur_ : List Int
  spawned_ : List Int
  left_ : List Int
  state_ : List Int
  ran_ : List Int
  ended_ : List Int
deriving Inhabited
def Pool.wt (x : Pool) : Nat := wtl Order.wt x.queues_ + x.cur_.length + x.spawned_.length + x.left_.length + x.state_.length + x.ran_.length + x.ended_.length
def Pool.R (w : World) (S : Nat → Prop) (cs : List Value) (x : Pool) : Prop := ∃ (A0 : Option Addr) (n0 c0 : Nat) (A1 : Option Addr) (n1 c1 : Nat) (A2 : Option Addr) (n2 c2 : Nat) (A3 : Option Addr) (n3 c3 : Nat) (A4 : Option Addr) (n4 c4 : Nat) (A5 : Option Addr) (n5 c5 : Nat) (A6 : Option Addr) (n6 c6 : Nat), cs = [.slice A0 n0 c0, .slice A1 n1 c1, .slice A2 n2 c2, .slice A3 n3 c3, .slice A4 n4 c4, .slice A5 n5 c5, .slice A6 n6 c6] ∧ (n0 ≤ c0 ∧ n0 ≤ 9223372036854775807 ∧ SlR Order.R 1 w S A0 n0 x.queues_) ∧ (n1 ≤ c1 ∧ n1 ≤ 9223372036854775807 ∧ Sl w S 1 A1 n1 (ints x.cur_)) ∧ (n2 ≤ c2 ∧ n2 ≤ 9223372036854775807 ∧ Sl w S 1 A2 n2 (ints x.spawned_)) ∧ (n3 ≤ c3 ∧ n3 ≤ 9223372036854775807 ∧ Sl w S 1 A3 n3 (ints x.left_)) ∧ (n4 ≤ c4 ∧ n4 ≤ 9223372036854775807 ∧ Sl w S 1 A4 n4 (ints x.state_)) ∧ (n5 ≤ c5 ∧ n5 ≤ 9223372036854775807 ∧ Sl w S 1 A5 n5 (ints x.ran_)) ∧ (n6 ≤ c6 ∧ n6 ≤ 9223372036854775807 ∧ Sl w S 1 A6 n6 (ints x.ended_))
def Pool.W (w : World) (S : Nat → Prop) (cs : List Value) (x : Pool) : Prop := ∃ (A0 : Option Addr) (n0 c0 : Nat) (A1 : Option Addr) (n1 c1 : Nat) (A2 : Option Addr) (n2 c2 : Nat) (A3 : Option Addr) (n3 c3 : Nat) (A4 : Option Addr) (n4 c4 : Nat) (A5 : Option Addr) (n5 c5 : Nat) (A6 : Option Addr) (n6 c6 : Nat) (lab : Nat → Nat), cs = [.slice A0 n0 c0, .slice A1 n1 c1, .slice A2 n2 c2, .slice A3 n3 c3, .slice A4 n4 c4, .slice A5 n5 c5, .slice A6 n6 c6] ∧ (n0 ≤ c0 ∧ n0 ≤ 9223372036854775807 ∧ SlW Order.W 62 1 w (fun g => S g ∧ lab g = 0) A0 n0 c0 x.queues_) ∧ (n1 ≤ c1 ∧ n1 ≤ 9223372036854775807 ∧ OwS w (fun g => S g ∧ lab g = 1) 3 1 A1 n1 c1 (ints x.cur_)) ∧ (n2 ≤ c2 ∧ n2 ≤ 9223372036854775807 ∧ OwS w (fun g => S g ∧ lab g = 2) 3 1 A2 n2 c2 (ints x.spawned_)) ∧ (n3 ≤ c3 ∧ n3 ≤ 9223372036854775807 ∧ OwS w (fun g => S g ∧ lab g = 3) 3 1 A3 n3 c3 (ints x.left_)) ∧ (n4 ≤ c4 ∧ n4 ≤ 9223372036854775807 ∧ OwS w (fun g => S g ∧ lab g = 4) 3 1 A4 n4 c4 (ints x.state_)) ∧ (n5 ≤ c5 ∧ n5 ≤ 9223372036854775807 ∧ OwS w (fun g => S g ∧ lab g = 5) 3 1 A5 n5 c5 (ints x.ran_)) ∧ (n6 ≤ c6 ∧ n6 ≤ 9223372036854775807 ∧ OwS w (fun g => S g ∧ lab g = 6) 3 1 A6 n6 c6 (ints x.ended_))
theorem Pool.R_good : Good Pool.R 7 := ⟨fun {_ _ _ _} h => by
    obtain ⟨A0, n0, c0, A1, n1, c1, A2, n2, c2, A3, n3, c3, A4, n4, c4, A5, n5, c5, A6, n6, c6, rfl, ⟨kh0, mh0, h0⟩, ⟨kh1, mh1, h1⟩, ⟨kh2, mh2, h2⟩, ⟨kh3, mh3, h3⟩, ⟨kh4, mh4, h4⟩, ⟨kh5, mh5, h5⟩, ⟨kh6, mh6, h6⟩⟩ := h
    rfl,
  fun {_ _ _ _ _ _} h k hd => by
    obtain ⟨A0, n0, c0, A1, n1, c1, A2, n2, c2, A3, n3, c3, A4, n4, c4, A5, n5, c5, A6, n6, c6, rfl, ⟨kh0, mh0, h0⟩, ⟨kh1, mh1, h1⟩, ⟨kh2, mh2, h2⟩, ⟨kh3, mh3, h3⟩, ⟨kh4, mh4, h4⟩, ⟨kh5, mh5, h5⟩, ⟨kh6, mh6, h6⟩⟩ := h
    exact ⟨_, _, _, _, _, _, _, _, _, _, _, _, _, _, _, _, _, _, _, _, _, rfl, ⟨kh0, mh0, h0.chg Order.R_good k hd⟩, ⟨kh1, mh1, h1.chg k hd⟩, ⟨kh2, mh2, h2.chg k hd⟩, ⟨kh3, mh3, h3.chg k hd⟩, ⟨kh4, mh4, h4.chg k hd⟩, ⟨kh5, mh5, h5.chg k hd⟩, ⟨kh6, mh6, h6.chg k hd⟩⟩,
  fun {_ _ _ _ _} h hs => by
    obtain ⟨A0, n0, c0, A1, n1, c1, A2, n2, c2, A3, n3, c3, A4, n4, c4, A5, n5, c5, A6, n6, c6, rfl, ⟨kh0, mh0, h0⟩, ⟨kh1, mh1, h1⟩, ⟨kh2, mh2, h2⟩, ⟨kh3, mh3, h3⟩, ⟨kh4, mh4, h4⟩, ⟨kh5, mh5, h5⟩, ⟨kh6, mh6, h6⟩⟩ := h
    exact ⟨_, _, _, _, _, _, _, _, _, _, _, _, _, _, _, _, _, _, _, _, _, rfl, ⟨kh0, mh0, h0.mono Order.R_good hs⟩, ⟨kh1, mh1, h1.mono hs⟩, ⟨kh2, mh2, h2.mono hs⟩, ⟨kh3, mh3, h3.mono hs⟩, ⟨kh4, mh4, h4.mono hs⟩, ⟨kh5, mh5, h5.mono hs⟩, ⟨kh6, mh6, h6.mono hs⟩⟩⟩
theorem Pool.W_good : Good Pool.W 7 := ⟨fun {_ _ _ _} h => by
    obtain ⟨A0, n0, c0, A1, n1, c1, A2, n2, c2, A3, n3, c3, A4, n4, c4, A5, n5, c5, A6, n6, c6, lab, rfl, ⟨kh0, mh0, h0⟩, ⟨kh1, mh1, h1⟩, ⟨kh2, mh2, h2⟩, ⟨kh3, mh3, h3⟩, ⟨kh4, mh4, h4⟩, ⟨kh5, mh5, h5⟩, ⟨kh6, mh6, h6⟩⟩ := h
    rfl,
  fun {_ _ _ _ _ _} h k hd => by
    obtain ⟨A0, n0, c0, A1, n1, c1, A2, n2, c2, A3, n3, c3, A4, n4, c4, A5, n5, c5, A6, n6, c6, lab, rfl, ⟨kh0, mh0, h0⟩, ⟨kh1, mh1, h1⟩, ⟨kh2, mh2, h2⟩, ⟨kh3, mh3, h3⟩, ⟨kh4, mh4, h4⟩, ⟨kh5, mh5, h5⟩, ⟨kh6, mh6, h6⟩⟩ := h
    exact ⟨_, _, _, _, _, _, _, _, _, _, _, _, _, _, _, _, _, _, _, _, _, lab, rfl, ⟨kh0, mh0, h0.chg Order.W_good k fun i hi => hd i hi.1⟩, ⟨kh1, mh1, h1.chg k fun i hi => hd i hi.1⟩, ⟨kh2, mh2, h2.chg k fun i hi => hd i hi.1⟩, ⟨kh3, mh3, h3.chg k fun i hi => hd i hi.1⟩, ⟨kh4, mh4, h4.chg k fun i hi => hd i hi.1⟩, ⟨kh5, mh5, h5.chg k fun i hi => hd i hi.1⟩, ⟨kh6, mh6, h6.chg k fun i hi => hd i hi.1⟩⟩,
  fun {_ _ _ _ _} h hs => by
    obtain ⟨A0, n0, c0, A1, n1, c1, A2, n2, c2, A3, n3, c3, A4, n4, c4, A5, n5, c5, A6, n6, c6, lab, rfl, ⟨kh0, mh0, h0⟩, ⟨kh1, mh1, h1⟩, ⟨kh2, mh2, h2⟩, ⟨kh3, mh3, h3⟩, ⟨kh4, mh4, h4⟩, ⟨kh5, mh5, h5⟩, ⟨kh6, mh6, h6⟩⟩ := h
    exact ⟨_, _, _, _, _, _, _, _, _, _, _, _, _, _, _, _, _, _, _, _, _, lab, rfl, ⟨kh0, mh0, h0.mono Order.W_good fun i hi => ⟨hs i hi.1, hi.2⟩⟩, ⟨kh1, mh1, h1.mono fun i _ hi => ⟨hs i hi.1, hi.2⟩⟩, ⟨kh2, mh2, h2.mono fun i _ hi => ⟨hs i hi.1, hi.2⟩⟩, ⟨kh3, mh3, h3.mono fun i _ hi => ⟨hs i hi.1, hi.2⟩⟩, ⟨kh4, mh4, h4.mono fun i _ hi => ⟨hs i hi.1, hi.2⟩⟩, ⟨kh5, mh5, h5.mono fun i _ hi => ⟨hs i hi.1, hi.2⟩⟩, ⟨kh6, mh6, h6.mono fun i _ hi => ⟨hs i hi.1, hi.2⟩⟩⟩⟩
theorem Pool.W_R {w : World} {S : Nat → Prop} {cs : List Value} {x : Pool} (h : Pool.W w S cs x) : Pool.R w S cs x := by
  obtain ⟨A0, n0, c0, A1, n1, c1, A2, n2, c2, A3, n3, c3, A4, n4, c4, A5, n5, c5, A6, n6, c6, lab, rfl, ⟨kh0, mh0, h0⟩, ⟨kh1, mh1, h1⟩, ⟨kh2, mh2, h2⟩, ⟨kh3, mh3, h3⟩, ⟨kh4, mh4, h4⟩, ⟨kh5, mh5, h5⟩, ⟨kh6, mh6, h6⟩⟩ := h
  exact ⟨_, _, _, _, _, _, _, _, _, _, _, _, _, _, _, _, _, _, _, _, _, rfl, ⟨kh0, mh0, (h0.slr Order.R_good Order.W_R).mono Order.R_good fun i hi => hi.1⟩, ⟨kh1, mh1, h1.sl.mono fun i hi => hi.1⟩, ⟨kh2, mh2, h2.sl.mono fun i hi => hi.1⟩, ⟨kh3, mh3, h3.sl.mono fun i hi => hi.1⟩, ⟨kh4, mh4, h4.sl.mono fun i hi => hi.1⟩, ⟨kh5, mh5, h5.sl.mono fun i hi => hi.1⟩, ⟨kh6, mh6, h6.sl.mono fun i hi => hi.1⟩⟩
theorem Pool.R_cells {w : World} {S : Nat → Prop} {cs : List Value} {x : Pool} (h : Pool.R w S cs x) : ∃ (A0 : Option Addr) (n0 c0 : Nat) (A1 : Option Addr) (n1 c1 : Nat) (A2 : Option Addr) (n2 c2 : Nat) (A3 : Option Addr) (n3 c3 : Nat) (A4 : Option Addr) (n4 c4 : Nat) (A5 : Option Addr) (n5 c5 : Nat) (A6 : Option Addr) (n6 c6 : Nat), cs = [.slice A0 n0 c0, .slice A1 n1 c1, .slice A2 n2 c2, .slice A3 n3 c3, .slice A4 n4 c4, .slice A5 n5 c5, .slice A6 n6 c6] := by
  obtain ⟨A0, n0, c0, A1, n1, c1, A2, n2, c2, A3, n3, c3, A4, n4, c4, A5, n5, c5, A6, n6, c6, rfl, ⟨kh0, mh0, h0⟩, ⟨kh1, mh1, h1⟩, ⟨kh2, mh2, h2⟩, ⟨kh3, mh3, h3⟩, ⟨kh4, mh4, h4⟩, ⟨kh5, mh5, h5⟩, ⟨kh6, mh6, h6⟩⟩ := h
  exact ⟨A0, n0, c0, A1, n1, c1, A2, n2, c2, A3, n3, c3, A4, n4, c4, A5, n5, c5, A6, n6, c6, rfl⟩
theorem Pool.W_cells {w : World} {S : Nat → Prop} {cs : List Value} {x : Pool} (h : Pool.W w S cs x) : ∃ (A0 : Option Addr) (n0 c0 : Nat) (A1 : Option Addr) (n1 c1 : Nat) (A2 : Option Addr) (n2 c2 : Nat) (A3 : Option Addr) (n3 c3 : Nat) (A4 : Option Addr) (n4 c4 : Nat) (A5 : Option Addr) (n5 c5 : Nat) (A6 : Option Addr) (n6 c6 : Nat), cs = [.slice A0 n0 c0, .slice A1 n1 c1, .slice A2 n2 c2, .slice A3 n3 c3, .slice A4 n4 c4, .slice A5 n5 c5, .slice A6 n6 c6] := by
  obtain ⟨A0, n0, c0, A1, n1, c1, A2, n2, c2, A3, n3, c3, A4, n4, c4, A5, n5, c5, A6, n6, c6, lab, rfl, ⟨kh0, mh0, h0⟩, ⟨kh1, mh1, h1⟩, ⟨kh2, mh2, h2⟩, ⟨kh3, mh3, h3⟩, ⟨kh4, mh4, h4⟩, ⟨kh5, mh5, h5⟩, ⟨kh6, mh6, h6⟩⟩ := h
  exact ⟨A0, n0, c0, A1, n1, c1, A2, n2, c2, A3, n3, c3, A4, n4, c4, A5, n5, c5, A6, n6, c6, rfl⟩
set_option maxRecDepth 8000 in
set_option maxHeartbeats 4000000 in
theorem opens_Pool : Opens Try.prog 31 (fun w cs (x : Pool) => Pool.R w (fun _ => True) cs x) := by
  intro H enc w base spare held fuel cs x h
  obtain ⟨xs, n, _, _, hlen, hxl, hf⟩ := DataW.trod_struct Try.underlying31 h
  rw [show Try.prog.cellsOf 31 = 7 from by kernel_rfl] at hlen
  have hxl' : xs.length = 7 := hxl
  have h0 : DataW.trod enc Try.prog w base spare held n 29 ((cs.drop 0).take (Try.prog.cellsOf 29)) = xs[0]? := hf 0 _ rfl
  rw [show Try.prog.cellsOf 29 = 1 from by kernel_rfl, List.getElem?_eq_getElem (show 0 < xs.length by omega)] at h0
  obtain ⟨f0, A0, n0, c0, e0, g0, g0', s0⟩ := opens_deep Order.R_good Try.underlying29 (by kernel_rfl) (by omega) opens_Order H enc w base spare held n _ _ h0
  have h1 : DataW.trod enc Try.prog w base spare held n 22 ((cs.drop 1).take (Try.prog.cellsOf 22)) = xs[1]? := hf 1 _ rfl
  rw [show Try.prog.cellsOf 22 = 1 from by kernel_rfl, List.getElem?_eq_getElem (show 1 < xs.length by omega)] at h1
  obtain ⟨f1, A1, n1, c1, e1, g1, g1', -, -, s1⟩ := opens_ints Try.underlying22 Try.underlying3 (by kernel_rfl) H enc w base spare held n _ _ h1
  have h2 : DataW.trod enc Try.prog w base spare held n 22 ((cs.drop 2).take (Try.prog.cellsOf 22)) = xs[2]? := hf 2 _ rfl
  rw [show Try.prog.cellsOf 22 = 1 from by kernel_rfl, List.getElem?_eq_getElem (show 2 < xs.length by omega)] at h2
  obtain ⟨f2, A2, n2, c2, e2, g2, g2', -, -, s2⟩ := opens_ints Try.underlying22 Try.underlying3 (by kernel_rfl) H enc w base spare held n _ _ h2
  have h3 : DataW.trod enc Try.prog w base spare held n 22 ((cs.drop 3).take (Try.prog.cellsOf 22)) = xs[3]? := hf 3 _ rfl
  rw [show Try.prog.cellsOf 22 = 1 from by kernel_rfl, List.getElem?_eq_getElem (show 3 < xs.length by omega)] at h3
  obtain ⟨f3, A3, n3, c3, e3, g3, g3', -, -, s3⟩ := opens_ints Try.underlying22 Try.underlying3 (by kernel_rfl) H enc w base spare held n _ _ h3
  have h4 : DataW.trod enc Try.prog w base spare held n 22 ((cs.drop 4).take (Try.prog.cellsOf 22)) = xs[4]? := hf 4 _ rfl
  rw [show Try.prog.cellsOf 22 = 1 from by kernel_rfl, List.getElem?_eq_getElem (show 4 < xs.length by omega)] at h4
  obtain ⟨f4, A4, n4, c4, e4, g4, g4', -, -, s4⟩ := opens_ints Try.underlying22 Try.underlying3 (by kernel_rfl) H enc w base spare held n _ _ h4
  have h5 : DataW.trod enc Try.prog w base spare held n 22 ((cs.drop 5).take (Try.prog.cellsOf 22)) = xs[5]? := hf 5 _ rfl
  rw [show Try.prog.cellsOf 22 = 1 from by kernel_rfl, List.getElem?_eq_getElem (show 5 < xs.length by omega)] at h5
  obtain ⟨f5, A5, n5, c5, e5, g5, g5', -, -, s5⟩ := opens_ints Try.underlying22 Try.underlying3 (by kernel_rfl) H enc w base spare held n _ _ h5
  have h6 : DataW.trod enc Try.prog w base spare held n 22 ((cs.drop 6).take (Try.prog.cellsOf 22)) = xs[6]? := hf 6 _ rfl
  rw [show Try.prog.cellsOf 22 = 1 from by kernel_rfl, List.getElem?_eq_getElem (show 6 < xs.length by omega)] at h6
  obtain ⟨f6, A6, n6, c6, e6, g6, g6', -, -, s6⟩ := opens_ints Try.underlying22 Try.underlying3 (by kernel_rfl) H enc w base spare held n _ _ h6
  clear h0 h1 h2 h3 h4 h5 h6 hf h hxl hxl'
  match cs, hlen with
  | [q0, q1, q2, q3, q4, q5, q6], _ =>
    simp only [List.drop_succ_cons, List.drop_zero, List.take_succ_cons, List.take_zero, List.cons.injEq, and_true] at e0 e1 e2 e3 e4 e5 e6
    subst e0
    subst e1
    subst e2
    subst e3
    subst e4
    subst e5
    subst e6
    exact ⟨⟨f0, f1, f2, f3, f4, f5, f6⟩, _, _, _, _, _, _, _, _, _, _, _, _, _, _, _, _, _, _, _, _, _, rfl, ⟨g0, Nat.le_trans g0 g0', s0⟩, ⟨g1, Nat.le_trans g1 g1', s1⟩, ⟨g2, Nat.le_trans g2 g2', s2⟩, ⟨g3, Nat.le_trans g3 g3', s3⟩, ⟨g4, Nat.le_trans g4 g4', s4⟩, ⟨g5, Nat.le_trans g5 g5', s5⟩, ⟨g6, Nat.le_trans g6 g6', s6⟩⟩
set_option maxRecDepth 8000 in
set_option maxHeartbeats 4000000 in
theorem szPool_any (x : Pool) (cs : List Value) (q : Int) (w : World) (S : Nat → Prop) (h : Pool.R w S cs x) (hq0 : 0 ≤ q) (hq2 : q ≤ 1048576) :
    Calls Try.prog 17 #[.agg cs.toArray, .int .i64 q] w fun e w' => ∃ r : Int, e = .returned (.int .i64 r) ∧ Left r q (Pool.wt x) ∧ Ext w w' := by
  obtain ⟨A0, n0, c0, A1, n1, c1, A2, n2, c2, A3, n3, c3, A4, n4, c4, A5, n5, c5, A6, n6, c6, rfl, ⟨kh0, mh0, h0⟩, ⟨kh1, mh1, h1⟩, ⟨kh2, mh2, h2⟩, ⟨kh3, mh3, h3⟩, ⟨kh4, mh4, h4⟩, ⟨kh5, mh5, h5⟩, ⟨kh6, mh6, h6⟩⟩ := h
  have H0 := Lib.hid h0
  have H1 := Lib.hid h1
  have H2 := Lib.hid h2
  have H3 := Lib.hid h3
  have H4 := Lib.hid h4
  have H5 := Lib.hid h5
  have H6 := Lib.hid h6
  clear h0 h1 h2 h3 h4 h5 h6
  show Calls Try.prog _ #[.agg #[.slice A0 n0 c0, .slice A1 n1 c1, .slice A2 n2 c2, .slice A3 n3 c3, .slice A4 n4 c4, .slice A5 n5 c5, .slice A6 n6 c6], .int .i64 q] w _
  go_enter Try.func17, Try.ntmps17
  go_wp2_with fail
  refine (szOrderS_any _ _ _ x.queues_ (q) _ S (SlR.ext Order.R_good H0.out (((Ext.refl' w).al _))) mh0 hq0 hq2).mono ?_
  rintro e w1 ⟨r0, rfl, Q0, x1⟩
  replace Q0 := Lib.hid Q0
  have X1 : Ext w w1 := Ext.tr (((Ext.refl' w).al _)) x1
  have b1 : Hid (Bx w1 w.heap.size 31 #[.slice A0 n0 c0, .slice A1 n1 c1, .slice A2 n2 c2, .slice A3 n3 c3, .slice A4 n4 c4, .slice A5 n5 c5, .slice A6 n6 c6]) := Bx.ext (Bx.new' _ _ _ rfl) x1
  clear x1
  have R0 : Hid (Left r0 q (wtl Order.wt x.queues_)) := Q0
  by_cases g0 : 0 ≤ r0
  rotate_left
  · have e0 : r0 = -1 := by have a := R0.out; unfold Left at a; omega
    subst e0
    clear g0
    go_wp2
    go_ret
    exact ⟨-1, rfl, by have a := R0.out; unfold Left Pool.wt at *; omega, X1⟩
  have u0 : r0 ≤ 1048576 := by have a := R0.out; unfold Left at a; omega
  have ca1_1 : w1.cell? ⟨w.heap.size, 1, none⟩ = some (.slice A1 n1 c1) := b1.out.cell 1
  go_wp2_with fail
  have L1 := Lib.hid (H1.out.len)
  refine (szIntS_any _ _ _ (r0) _ g0 u0 mh1).mono ?_
  rintro e w2 ⟨rfl, xq⟩
  have x2 := Ext.of_eq xq
  clear xq
  have Q1 : Hid (Left (if (n1 : Int) ≤ r0 then r0 - n1 else -1) r0 (x.cur_.length)) := by show Left _ _ _; rw [L1.out]; exact Left.of_if
  generalize (if (n1 : Int) ≤ r0 then r0 - n1 else -1) = r1 at Q1
  have X2 : Ext w w2 := Ext.tr (X1) x2
  have b2 : Hid (Bx w2 w.heap.size 31 #[.slice A0 n0 c0, .slice A1 n1 c1, .slice A2 n2 c2, .slice A3 n3 c3, .slice A4 n4 c4, .slice A5 n5 c5, .slice A6 n6 c6]) := Bx.ext (b1.out) x2
  clear x2
  have R1 : Hid (Left r1 q (wtl Order.wt x.queues_ + x.cur_.length)) := by show Left _ _ _; have a := R0.out; have b := Q1.out; unfold Left at *; omega
  by_cases g1 : 0 ≤ r1
  rotate_left
  · have e1 : r1 = -1 := by have a := R1.out; unfold Left at a; omega
    subst e1
    clear g1
    go_wp2
    go_ret
    exact ⟨-1, rfl, by have a := R1.out; unfold Left Pool.wt at *; omega, X2⟩
  have u1 : r1 ≤ 1048576 := by have a := R1.out; unfold Left at a; omega
  have ca2_2 : w2.cell? ⟨w.heap.size, 2, none⟩ = some (.slice A2 n2 c2) := b2.out.cell 2
  go_wp2_with fail
  have L2 := Lib.hid (H2.out.len)
  refine (szIntS_any _ _ _ (r1) _ g1 u1 mh2).mono ?_
  rintro e w3 ⟨rfl, xq⟩
  have x3 := Ext.of_eq xq
  clear xq
  have Q2 : Hid (Left (if (n2 : Int) ≤ r1 then r1 - n2 else -1) r1 (x.spawned_.length)) := by show Left _ _ _; rw [L2.out]; exact Left.of_if
  generalize (if (n2 : Int) ≤ r1 then r1 - n2 else -1) = r2 at Q2
  have X3 : Ext w w3 := Ext.tr (X2) x3
  have b3 : Hid (Bx w3 w.heap.size 31 #[.slice A0 n0 c0, .slice A1 n1 c1, .slice A2 n2 c2, .slice A3 n3 c3, .slice A4 n4 c4, .slice A5 n5 c5, .slice A6 n6 c6]) := Bx.ext (b2.out) x3
  clear x3
  have R2 : Hid (Left r2 q (wtl Order.wt x.queues_ + x.cur_.length + x.spawned_.length)) := by show Left _ _ _; have a := R1.out; have b := Q2.out; unfold Left at *; omega
  by_cases g2 : 0 ≤ r2
  rotate_left
  · have e2 : r2 = -1 := by have a := R2.out; unfold Left at a; omega
    subst e2
    clear g2
    go_wp2
    go_ret
    exact ⟨-1, rfl, by have a := R2.out; unfold Left Pool.wt at *; omega, X3⟩
  have u2 : r2 ≤ 1048576 := by have a := R2.out; unfold Left at a; omega
  have ca3_3 : w3.cell? ⟨w.heap.size, 3, none⟩ = some (.slice A3 n3 c3) := b3.out.cell 3
  go_wp2_with fail
  have L3 := Lib.hid (H3.out.len)
  refine (szIntS_any _ _ _ (r2) _ g2 u2 mh3).mono ?_
  rintro e w4 ⟨rfl, xq⟩
  have x4 := Ext.of_eq xq
  clear xq
  have Q3 : Hid (Left (if (n3 : Int) ≤ r2 then r2 - n3 else -1) r2 (x.left_.length)) := by show Left _ _ _; rw [L3.out]; exact Left.of_if
  generalize (if (n3 : Int) ≤ r2 then r2 - n3 else -1) = r3 at Q3
  have X4 : Ext w w4 := Ext.tr (X3) x4
  have b4 : Hid (Bx w4 w.heap.size 31 #[.slice A0 n0 c0, .slice A1 n1 c1, .slice A2 n2 c2, .slice A3 n3 c3, .slice A4 n4 c4, .slice A5 n5 c5, .slice A6 n6 c6]) := Bx.ext (b3.out) x4
  clear x4
  have R3 : Hid (Left r3 q (wtl Order.wt x.queues_ + x.cur_.length + x.spawned_.length + x.left_.length)) := by show Left _ _ _; have a := R2.out; have b := Q3.out; unfold Left at *; omega
  by_cases g3 : 0 ≤ r3
  rotate_left
  · have e3 : r3 = -1 := by have a := R3.out; unfold Left at a; omega
    subst e3
    clear g3
    go_wp2
    go_ret
    exact ⟨-1, rfl, by have a := R3.out; unfold Left Pool.wt at *; omega, X4⟩
  have u3 : r3 ≤ 1048576 := by have a := R3.out; unfold Left at a; omega
  have ca4_4 : w4.cell? ⟨w.heap.size, 4, none⟩ = some (.slice A4 n4 c4) := b4.out.cell 4
  go_wp2_with fail
  have L4 := Lib.hid (H4.out.len)
  refine (szIntS_any _ _ _ (r3) _ g3 u3 mh4).mono ?_
  rintro e w5 ⟨rfl, xq⟩
  have x5 := Ext.of_eq xq
  clear xq
  have Q4 : Hid (Left (if (n4 : Int) ≤ r3 then r3 - n4 else -1) r3 (x.state_.length)) := by show Left _ _ _; rw [L4.out]; exact Left.of_if
  generalize (if (n4 : Int) ≤ r3 then r3 - n4 else -1) = r4 at Q4
  have X5 : Ext w w5 := Ext.tr (X4) x5
  have b5 : Hid (Bx w5 w.heap.size 31 #[.slice A0 n0 c0, .slice A1 n1 c1, .slice A2 n2 c2, .slice A3 n3 c3, .slice A4 n4 c4, .slice A5 n5 c5, .slice A6 n6 c6]) := Bx.ext (b4.out) x5
  clear x5
  have R4 : Hid (Left r4 q (wtl Order.wt x.queues_ + x.cur_.length + x.spawned_.length + x.left_.length + x.state_.length)) := by show Left _ _ _; have a := R3.out; have b := Q4.out; unfold Left at *; omega
  by_cases g4 : 0 ≤ r4
  rotate_left
  · have e4 : r4 = -1 := by have a := R4.out; unfold Left at a; omega
    subst e4
    clear g4
    go_wp2
    go_ret
    exact ⟨-1, rfl, by have a := R4.out; unfold Left Pool.wt at *; omega, X5⟩
  have u4 : r4 ≤ 1048576 := by have a := R4.out; unfold Left at a; omega
  have ca5_5 : w5.cell? ⟨w.heap.size, 5, none⟩ = some (.slice A5 n5 c5) := b5.out.cell 5
  go_wp2_with fail
  have L5 := Lib.hid (H5.out.len)
  refine (szIntS_any _ _ _ (r4) _ g4 u4 mh5).mono ?_
  rintro e w6 ⟨rfl, xq⟩
  have x6 := Ext.of_eq xq
  clear xq
  have Q5 : Hid (Left (if (n5 : Int) ≤ r4 then r4 - n5 else -1) r4 (x.ran_.length)) := by show Left _ _ _; rw [L5.out]; exact Left.of_if
  generalize (if (n5 : Int) ≤ r4 then r4 - n5 else -1) = r5 at Q5
  have X6 : Ext w w6 := Ext.tr (X5) x6
  have b6 : Hid (Bx w6 w.heap.size 31 #[.slice A0 n0 c0, .slice A1 n1 c1, .slice A2 n2 c2, .slice A3 n3 c3, .slice A4 n4 c4, .slice A5 n5 c5, .slice A6 n6 c6]) := Bx.ext (b5.out) x6
  clear x6
  have R5 : Hid (Left r5 q (wtl Order.wt x.queues_ + x.cur_.length + x.spawned_.length + x.left_.length + x.state_.length + x.ran_.length)) := by show Left _ _ _; have a := R4.out; have b := Q5.out; unfold Left at *; omega
  by_cases g5 : 0 ≤ r5
  rotate_left
  · have e5 : r5 = -1 := by have a := R5.out; unfold Left at a; omega
    subst e5
    clear g5
    go_wp2
    go_ret
    exact ⟨-1, rfl, by have a := R5.out; unfold Left Pool.wt at *; omega, X6⟩
  have u5 : r5 ≤ 1048576 := by have a := R5.out; unfold Left at a; omega
  have ca6_6 : w6.cell? ⟨w.heap.size, 6, none⟩ = some (.slice A6 n6 c6) := b6.out.cell 6
  go_wp2_with fail
  have L6 := Lib.hid (H6.out.len)
  refine (szIntS_any _ _ _ (r5) _ g5 u5 mh6).mono ?_
  rintro e w7 ⟨rfl, xq⟩
  have x7 := Ext.of_eq xq
  clear xq
  have Q6 : Hid (Left (if (n6 : Int) ≤ r5 then r5 - n6 else -1) r5 (x.ended_.length)) := by show Left _ _ _; rw [L6.out]; exact Left.of_if
  generalize (if (n6 : Int) ≤ r5 then r5 - n6 else -1) = r6 at Q6
  have X7 : Ext w w7 := Ext.tr (X6) x7
  have b7 : Hid (Bx w7 w.heap.size 31 #[.slice A0 n0 c0, .slice A1 n1 c1, .slice A2 n2 c2, .slice A3 n3 c3, .slice A4 n4 c4, .slice A5 n5 c5, .slice A6 n6 c6]) := Bx.ext (b6.out) x7
  clear x7
  have R6 : Hid (Left r6 q (wtl Order.wt x.queues_ + x.cur_.length + x.spawned_.length + x.left_.length + x.state_.length + x.ran_.length + x.ended_.length)) := by show Left _ _ _; have a := R5.out; have b := Q6.out; unfold Left at *; omega
  by_cases g6 : 0 ≤ r6
  rotate_left
  · have e6 : r6 = -1 := by have a := R6.out; unfold Left at a; omega
    subst e6
    clear g6
    go_wp2
    go_ret
    exact ⟨-1, rfl, by have a := R6.out; unfold Left Pool.wt at *; omega, X7⟩
  have u6 : r6 ≤ 1048576 := by have a := R6.out; unfold Left at a; omega
  go_wp2
  go_ret
  exact ⟨r6, rfl, R6.out, X7⟩
set_option maxRecDepth 8000 in
set_option maxHeartbeats 8000000 in
theorem toPool_any (x : Pool) (cs : List Value) (w : World) (S : Nat → Prop) (h : Pool.R w S cs x) (hw : Pool.wt x ≤ 1048576) :
    Calls Try.prog 19 #[.agg cs.toArray] w fun e w' => ∃ cs', e = .returned (.agg cs'.toArray) ∧ Pool.W w' (fun g => w.heap.size ≤ g ∧ g < w'.heap.size) cs' x ∧ Ext w w' := by
  obtain ⟨A0, n0, c0, A1, n1, c1, A2, n2, c2, A3, n3, c3, A4, n4, c4, A5, n5, c5, A6, n6, c6, rfl, ⟨kh0, mh0, h0⟩, ⟨kh1, mh1, h1⟩, ⟨kh2, mh2, h2⟩, ⟨kh3, mh3, h3⟩, ⟨kh4, mh4, h4⟩, ⟨kh5, mh5, h5⟩, ⟨kh6, mh6, h6⟩⟩ := h
  unfold Pool.wt at hw
  have l0 := h0.1
  have t0 := wtl_len Order.wt x.queues_
  have n_0 : n0 ≤ 1048576 := by omega
  have W_0 : wtl Order.wt x.queues_ ≤ 1048576 := by omega
  have l1 := h1.len
  have n_1 : n1 ≤ 1048576 := by omega
  have l2 := h2.len
  have n_2 : n2 ≤ 1048576 := by omega
  have l3 := h3.len
  have n_3 : n3 ≤ 1048576 := by omega
  have l4 := h4.len
  have n_4 : n4 ≤ 1048576 := by omega
  have l5 := h5.len
  have n_5 : n5 ≤ 1048576 := by omega
  have l6 := h6.len
  have n_6 : n6 ≤ 1048576 := by omega
  have H0 := Lib.hid h0
  have H1 := Lib.hid h1
  have H2 := Lib.hid h2
  have H3 := Lib.hid h3
  have H4 := Lib.hid h4
  have H5 := Lib.hid h5
  have H6 := Lib.hid h6
  clear h0 h1 h2 h3 h4 h5 h6 hw l0 l1 l2 l3 l4 l5 l6 t0
  show Calls Try.prog _ #[.agg #[.slice A0 n0 c0, .slice A1 n1 c1, .slice A2 n2 c2, .slice A3 n3 c3, .slice A4 n4 c4, .slice A5 n5 c5, .slice A6 n6 c6]] w _
  go_enter Try.func19, Try.ntmps19
  go_wp2_with fail
  refine (toOrderS_any _ _ _ x.queues_ _ S (SlR.ext Order.R_good H0.out ((((Ext.refl' w).al _).al _).al _)) n_0 W_0).mono ?_
  rintro e w1 ⟨B0, d0, rfl, o0, x1⟩
  replace o0 := Lib.hid o0
  have z1 : w.heap.size + 3 ≤ w1.heap.size := by have h := x1.size; (try simp at h); omega
  have ba1 : Hid (Bx w1 (w.heap.size) 31 #[.slice A0 n0 c0, .slice A1 n1 c1, .slice A2 n2 c2, .slice A3 n3 c3, .slice A4 n4 c4, .slice A5 n5 c5, .slice A6 n6 c6]) := Bx.ext (((Bx.new' _ _ _ rfl).al _).al _) x1
  have br1 : Hid (Bx w1 (w.heap.size + 1) 36 #[.slice none 0 0, .slice none 0 0, .slice none 0 0, .slice none 0 0, .slice none 0 0, .slice none 0 0, .slice none 0 0]) := Bx.ext ((Bx.new' _ _ _ (by simp)).al _) x1
  have bo1 : Hid (Bx w1 (w.heap.size + 2) 36 #[.slice none 0 0, .slice none 0 0, .slice none 0 0, .slice none 0 0, .slice none 0 0, .slice none 0 0, .slice none 0 0]) := Bx.ext (Bx.new' _ _ _ (by simp)) x1
  have X1 : Ext w w1 := Ext.tr ((((Ext.refl' w).al _).al _).al _) x1
  replace o0 : Hid (SlW Order.W 62 1 w1 (fun g => w.heap.size + 3 ≤ g ∧ g < w1.heap.size) B0 n0 d0 x.queues_) := o0.out.mono Order.W_good (fun g hg => by have h1 := hg.1; have h2 := hg.2; constructor <;> (try simp at h1) <;> omega)
  clear x1
  have ca1_1 : w1.cell? ⟨w.heap.size, 1, none⟩ = some (.slice A1 n1 c1) := ba1.out.cell 1
  have co1_0 : w1.cell? ⟨w.heap.size + 2, 0, none⟩ = some (.slice none 0 0) := bo1.out.cell 0
  have fo1_0 : w1.frozen? ⟨w.heap.size + 2, 0, none⟩ = false := bo1.out.frozen 0
  go_wp2_with fail
  refine (toIntS_any _ _ _ _ _ S (H1.out.ext ((X1).sc (by first | (simp; done) | (simp; omega)) _)) n_1).mono ?_
  rintro e w2 ⟨B1, d1, rfl, o1, x2⟩
  have K1 : Hid (n1 ≤ d1) := own_cap o1
  replace o1 := Lib.hid (OwS.of_own o1)
  have z2 : w.heap.size + 3 ≤ w2.heap.size := by have h := x2.size; (try simp at h); omega
  have y2 : w1.heap.size ≤ w2.heap.size := by have h := x2.size; (try simp at h); exact h
  have ba2 : Hid (Bx w2 (w.heap.size) 31 #[.slice A0 n0 c0, .slice A1 n1 c1, .slice A2 n2 c2, .slice A3 n3 c3, .slice A4 n4 c4, .slice A5 n5 c5, .slice A6 n6 c6]) := Bx.ext ((ba1.out).far (by first | (simp; done) | (simp; omega)) _) x2
  have br2 : Hid (Bx w2 (w.heap.size + 1) 36 #[.slice none 0 0, .slice none 0 0, .slice none 0 0, .slice none 0 0, .slice none 0 0, .slice none 0 0, .slice none 0 0]) := Bx.ext ((br1.out).far (by first | (simp; done) | (simp; omega)) _) x2
  have bo2 : Hid (Bx w2 (w.heap.size + 2) 36 #[.slice B0 n0 d0, .slice none 0 0, .slice none 0 0, .slice none 0 0, .slice none 0 0, .slice none 0 0, .slice none 0 0]) := Bx.ext (((bo1.out).set_ _ _).cast (by first | rfl | simp only [List.setIfInBounds_toArray, List.set_cons_succ, List.set_cons_zero])) x2
  have X2 : Ext w w2 := Ext.tr ((X1).sc (by first | (simp; done) | (simp; omega)) _) x2
  replace o0 := Lib.hid (o0.out.chg Order.W_good (Chg.trans ((Chg.refl (fun g => g = w.heap.size + 2) _).sc rfl _) (x2.chg _)) (fun g hg q => by have h1 := hg.1; have hq3 : g = w.heap.size + 2 := q; omega))
  replace o1 : Hid (OwS w2 (fun g => w1.heap.size ≤ g ∧ g < w2.heap.size) 3 1 B1 n1 d1 (ints x.cur_)) := o1.out.mono (fun g _ hg => by have h1 := hg.1; have h2 := hg.2; constructor <;> (try simp at h1) <;> omega)
  clear x2
  have ca2_2 : w2.cell? ⟨w.heap.size, 2, none⟩ = some (.slice A2 n2 c2) := ba2.out.cell 2
  have co2_1 : w2.cell? ⟨w.heap.size + 2, 1, none⟩ = some (.slice none 0 0) := bo2.out.cell 1
  have fo2_1 : w2.frozen? ⟨w.heap.size + 2, 1, none⟩ = false := bo2.out.frozen 1
  go_wp2_with fail
  refine (toIntS_any _ _ _ _ _ S (H2.out.ext ((X2).sc (by first | (simp; done) | (simp; omega)) _)) n_2).mono ?_
  rintro e w3 ⟨B2, d2, rfl, o2, x3⟩
  have K2 : Hid (n2 ≤ d2) := own_cap o2
  replace o2 := Lib.hid (OwS.of_own o2)
  have z3 : w.heap.size + 3 ≤ w3.heap.size := by have h := x3.size; (try simp at h); omega
  have y3 : w2.heap.size ≤ w3.heap.size := by have h := x3.size; (try simp at h); exact h
  have ba3 : Hid (Bx w3 (w.heap.size) 31 #[.slice A0 n0 c0, .slice A1 n1 c1, .slice A2 n2 c2, .slice A3 n3 c3, .slice A4 n4 c4, .slice A5 n5 c5, .slice A6 n6 c6]) := Bx.ext ((ba2.out).far (by first | (simp; done) | (simp; omega)) _) x3
  have br3 : Hid (Bx w3 (w.heap.size + 1) 36 #[.slice none 0 0, .slice none 0 0, .slice none 0 0, .slice none 0 0, .slice none 0 0, .slice none 0 0, .slice none 0 0]) := Bx.ext ((br2.out).far (by first | (simp; done) | (simp; omega)) _) x3
  have bo3 : Hid (Bx w3 (w.heap.size + 2) 36 #[.slice B0 n0 d0, .slice B1 n1 d1, .slice none 0 0, .slice none 0 0, .slice none 0 0, .slice none 0 0, .slice none 0 0]) := Bx.ext (((bo2.out).set_ _ _).cast (by first | rfl | simp only [List.setIfInBounds_toArray, List.set_cons_succ, List.set_cons_zero])) x3
  have X3 : Ext w w3 := Ext.tr ((X2).sc (by first | (simp; done) | (simp; omega)) _) x3
  replace o0 := Lib.hid (o0.out.chg Order.W_good (Chg.trans ((Chg.refl (fun g => g = w.heap.size + 2) _).sc rfl _) (x3.chg _)) (fun g hg q => by have h1 := hg.1; have hq3 : g = w.heap.size + 2 := q; omega))
  replace o1 := Lib.hid (o1.out.chg (Chg.trans ((Chg.refl (fun g => g = w.heap.size + 2) _).sc rfl _) (x3.chg _)) (fun g hg q => by have h1 := hg.1; have hq3 : g = w.heap.size + 2 := q; omega))
  replace o2 : Hid (OwS w3 (fun g => w2.heap.size ≤ g ∧ g < w3.heap.size) 3 1 B2 n2 d2 (ints x.spawned_)) := o2.out.mono (fun g _ hg => by have h1 := hg.1; have h2 := hg.2; constructor <;> (try simp at h1) <;> omega)
  clear x3
  have ca3_3 : w3.cell? ⟨w.heap.size, 3, none⟩ = some (.slice A3 n3 c3) := ba3.out.cell 3
  have co3_2 : w3.cell? ⟨w.heap.size + 2, 2, none⟩ = some (.slice none 0 0) := bo3.out.cell 2
  have fo3_2 : w3.frozen? ⟨w.heap.size + 2, 2, none⟩ = false := bo3.out.frozen 2
  go_wp2_with fail
  refine (toIntS_any _ _ _ _ _ S (H3.out.ext ((X3).sc (by first | (simp; done) | (simp; omega)) _)) n_3).mono ?_
  rintro e w4 ⟨B3, d3, rfl, o3, x4⟩
  have K3 : Hid (n3 ≤ d3) := own_cap o3
  replace o3 := Lib.hid (OwS.of_own o3)
  have z4 : w.heap.size + 3 ≤ w4.heap.size := by have h := x4.size; (try simp at h); omega
  have y4 : w3.heap.size ≤ w4.heap.size := by have h := x4.size; (try simp at h); exact h
  have ba4 : Hid (Bx w4 (w.heap.size) 31 #[.slice A0 n0 c0, .slice A1 n1 c1, .slice A2 n2 c2, .slice A3 n3 c3, .slice A4 n4 c4, .slice A5 n5 c5, .slice A6 n6 c6]) := Bx.ext ((ba3.out).far (by first | (simp; done) | (simp; omega)) _) x4
  have br4 : Hid (Bx w4 (w.heap.size + 1) 36 #[.slice none 0 0, .slice none 0 0, .slice none 0 0, .slice none 0 0, .slice none 0 0, .slice none 0 0, .slice none 0 0]) := Bx.ext ((br3.out).far (by first | (simp; done) | (simp; omega)) _) x4
  have bo4 : Hid (Bx w4 (w.heap.size + 2) 36 #[.slice B0 n0 d0, .slice B1 n1 d1, .slice B2 n2 d2, .slice none 0 0, .slice none 0 0, .slice none 0 0, .slice none 0 0]) := Bx.ext (((bo3.out).set_ _ _).cast (by first | rfl | simp only [List.setIfInBounds_toArray, List.set_cons_succ, List.set_cons_zero])) x4
  have X4 : Ext w w4 := Ext.tr ((X3).sc (by first | (simp; done) | (simp; omega)) _) x4
  replace o0 := Lib.hid (o0.out.chg Order.W_good (Chg.trans ((Chg.refl (fun g => g = w.heap.size + 2) _).sc rfl _) (x4.chg _)) (fun g hg q => by have h1 := hg.1; have hq3 : g = w.heap.size + 2 := q; omega))
  replace o1 := Lib.hid (o1.out.chg (Chg.trans ((Chg.refl (fun g => g = w.heap.size + 2) _).sc rfl _) (x4.chg _)) (fun g hg q => by have h1 := hg.1; have hq3 : g = w.heap.size + 2 := q; omega))
  replace o2 := Lib.hid (o2.out.chg (Chg.trans ((Chg.refl (fun g => g = w.heap.size + 2) _).sc rfl _) (x4.chg _)) (fun g hg q => by have h1 := hg.1; have hq3 : g = w.heap.size + 2 := q; omega))
  replace o3 : Hid (OwS w4 (fun g => w3.heap.size ≤ g ∧ g < w4.heap.size) 3 1 B3 n3 d3 (ints x.left_)) := o3.out.mono (fun g _ hg => by have h1 := hg.1; have h2 := hg.2; constructor <;> (try simp at h1) <;> omega)
  clear x4
  have ca4_4 : w4.cell? ⟨w.heap.size, 4, none⟩ = some (.slice A4 n4 c4) := ba4.out.cell 4
  have co4_3 : w4.cell? ⟨w.heap.size + 2, 3, none⟩ = some (.slice none 0 0) := bo4.out.cell 3
  have fo4_3 : w4.frozen? ⟨w.heap.size + 2, 3, none⟩ = false := bo4.out.frozen 3
  go_wp2_with fail
  refine (toIntS_any _ _ _ _ _ S (H4.out.ext ((X4).sc (by first | (simp; done) | (simp; omega)) _)) n_4).mono ?_
  rintro e w5 ⟨B4, d4, rfl, o4, x5⟩
  have K4 : Hid (n4 ≤ d4) := own_cap o4
  replace o4 := Lib.hid (OwS.of_own o4)
  have z5 : w.heap.size + 3 ≤ w5.heap.size := by have h := x5.size; (try simp at h); omega
  have y5 : w4.heap.size ≤ w5.heap.size := by have h := x5.size; (try simp at h); exact h
  have ba5 : Hid (Bx w5 (w.heap.size) 31 #[.slice A0 n0 c0, .slice A1 n1 c1, .slice A2 n2 c2, .slice A3 n3 c3, .slice A4 n4 c4, .slice A5 n5 c5, .slice A6 n6 c6]) := Bx.ext ((ba4.out).far (by first | (simp; done) | (simp; omega)) _) x5
  have br5 : Hid (Bx w5 (w.heap.size + 1) 36 #[.slice none 0 0, .slice none 0 0, .slice none 0 0, .slice none 0 0, .slice none 0 0, .slice none 0 0, .slice none 0 0]) := Bx.ext ((br4.out).far (by first | (simp; done) | (simp; omega)) _) x5
  have bo5 : Hid (Bx w5 (w.heap.size + 2) 36 #[.slice B0 n0 d0, .slice B1 n1 d1, .slice B2 n2 d2, .slice B3 n3 d3, .slice none 0 0, .slice none 0 0, .slice none 0 0]) := Bx.ext (((bo4.out).set_ _ _).cast (by first | rfl | simp only [List.setIfInBounds_toArray, List.set_cons_succ, List.set_cons_zero])) x5
  have X5 : Ext w w5 := Ext.tr ((X4).sc (by first | (simp; done) | (simp; omega)) _) x5
  replace o0 := Lib.hid (o0.out.chg Order.W_good (Chg.trans ((Chg.refl (fun g => g = w.heap.size + 2) _).sc rfl _) (x5.chg _)) (fun g hg q => by have h1 := hg.1; have hq3 : g = w.heap.size + 2 := q; omega))
  replace o1 := Lib.hid (o1.out.chg (Chg.trans ((Chg.refl (fun g => g = w.heap.size + 2) _).sc rfl _) (x5.chg _)) (fun g hg q => by have h1 := hg.1; have hq3 : g = w.heap.size + 2 := q; omega))
  replace o2 := Lib.hid (o2.out.chg (Chg.trans ((Chg.refl (fun g => g = w.heap.size + 2) _).sc rfl _) (x5.chg _)) (fun g hg q => by have h1 := hg.1; have hq3 : g = w.heap.size + 2 := q; omega))
  replace o3 := Lib.hid (o3.out.chg (Chg.trans ((Chg.refl (fun g => g = w.heap.size + 2) _).sc rfl _) (x5.chg _)) (fun g hg q => by have h1 := hg.1; have hq3 : g = w.heap.size + 2 := q; omega))
  replace o4 : Hid (OwS w5 (fun g => w4.heap.size ≤ g ∧ g < w5.heap.size) 3 1 B4 n4 d4 (ints x.state_)) := o4.out.mono (fun g _ hg => by have h1 := hg.1; have h2 := hg.2; constructor <;> (try simp at h1) <;> omega)
  clear x5
  have ca5_5 : w5.cell? ⟨w.heap.size, 5, none⟩ = some (.slice A5 n5 c5) := ba5.out.cell 5
  have co5_4 : w5.cell? ⟨w.heap.size + 2, 4, none⟩ = some (.slice none 0 0) := bo5.out.cell 4
  have fo5_4 : w5.frozen? ⟨w.heap.size + 2, 4, none⟩ = false := bo5.out.frozen 4
  go_wp2_with fail
  refine (toIntS_any _ _ _ _ _ S (H5.out.ext ((X5).sc (by first | (simp; done) | (simp; omega)) _)) n_5).mono ?_
  rintro e w6 ⟨B5, d5, rfl, o5, x6⟩
  have K5 : Hid (n5 ≤ d5) := own_cap o5
  replace o5 := Lib.hid (OwS.of_own o5)
  have z6 : w.heap.size + 3 ≤ w6.heap.size := by have h := x6.size; (try simp at h); omega
  have y6 : w5.heap.size ≤ w6.heap.size := by have h := x6.size; (try simp at h); exact h
  have ba6 : Hid (Bx w6 (w.heap.size) 31 #[.slice A0 n0 c0, .slice A1 n1 c1, .slice A2 n2 c2, .slice A3 n3 c3, .slice A4 n4 c4, .slice A5 n5 c5, .slice A6 n6 c6]) := Bx.ext ((ba5.out).far (by first | (simp; done) | (simp; omega)) _) x6
  have br6 : Hid (Bx w6 (w.heap.size + 1) 36 #[.slice none 0 0, .slice none 0 0, .slice none 0 0, .slice none 0 0, .slice none 0 0, .slice none 0 0, .slice none 0 0]) := Bx.ext ((br5.out).far (by first | (simp; done) | (simp; omega)) _) x6
  have bo6 : Hid (Bx w6 (w.heap.size + 2) 36 #[.slice B0 n0 d0, .slice B1 n1 d1, .slice B2 n2 d2, .slice B3 n3 d3, .slice B4 n4 d4, .slice none 0 0, .slice none 0 0]) := Bx.ext (((bo5.out).set_ _ _).cast (by first | rfl | simp only [List.setIfInBounds_toArray, List.set_cons_succ, List.set_cons_zero])) x6
  have X6 : Ext w w6 := Ext.tr ((X5).sc (by first | (simp; done) | (simp; omega)) _) x6
  replace o0 := Lib.hid (o0.out.chg Order.W_good (Chg.trans ((Chg.refl (fun g => g = w.heap.size + 2) _).sc rfl _) (x6.chg _)) (fun g hg q => by have h1 := hg.1; have hq3 : g = w.heap.size + 2 := q; omega))
  replace o1 := Lib.hid (o1.out.chg (Chg.trans ((Chg.refl (fun g => g = w.heap.size + 2) _).sc rfl _) (x6.chg _)) (fun g hg q => by have h1 := hg.1; have hq3 : g = w.heap.size + 2 := q; omega))
  replace o2 := Lib.hid (o2.out.chg (Chg.trans ((Chg.refl (fun g => g = w.heap.size + 2) _).sc rfl _) (x6.chg _)) (fun g hg q => by have h1 := hg.1; have hq3 : g = w.heap.size + 2 := q; omega))
  replace o3 := Lib.hid (o3.out.chg (Chg.trans ((Chg.refl (fun g => g = w.heap.size + 2) _).sc rfl _) (x6.chg _)) (fun g hg q => by have h1 := hg.1; have hq3 : g = w.heap.size + 2 := q; omega))
  replace o4 := Lib.hid (o4.out.chg (Chg.trans ((Chg.refl (fun g => g = w.heap.size + 2) _).sc rfl _) (x6.chg _)) (fun g hg q => by have h1 := hg.1; have hq3 : g = w.heap.size + 2 := q; omega))
  replace o5 : Hid (OwS w6 (fun g => w5.heap.size ≤ g ∧ g < w6.heap.size) 3 1 B5 n5 d5 (ints x.ran_)) := o5.out.mono (fun g _ hg => by have h1 := hg.1; have h2 := hg.2; constructor <;> (try simp at h1) <;> omega)
  clear x6
  have ca6_6 : w6.cell? ⟨w.heap.size, 6, none⟩ = some (.slice A6 n6 c6) := ba6.out.cell 6
  have co6_5 : w6.cell? ⟨w.heap.size + 2, 5, none⟩ = some (.slice none 0 0) := bo6.out.cell 5
  have fo6_5 : w6.frozen? ⟨w.heap.size + 2, 5, none⟩ = false := bo6.out.frozen 5
  go_wp2_with fail
  refine (toIntS_any _ _ _ _ _ S (H6.out.ext ((X6).sc (by first | (simp; done) | (simp; omega)) _)) n_6).mono ?_
  rintro e w7 ⟨B6, d6, rfl, o6, x7⟩
  have K6 : Hid (n6 ≤ d6) := own_cap o6
  replace o6 := Lib.hid (OwS.of_own o6)
  have z7 : w.heap.size + 3 ≤ w7.heap.size := by have h := x7.size; (try simp at h); omega
  have y7 : w6.heap.size ≤ w7.heap.size := by have h := x7.size; (try simp at h); exact h
  have ba7 : Hid (Bx w7 (w.heap.size) 31 #[.slice A0 n0 c0, .slice A1 n1 c1, .slice A2 n2 c2, .slice A3 n3 c3, .slice A4 n4 c4, .slice A5 n5 c5, .slice A6 n6 c6]) := Bx.ext ((ba6.out).far (by first | (simp; done) | (simp; omega)) _) x7
  have br7 : Hid (Bx w7 (w.heap.size + 1) 36 #[.slice none 0 0, .slice none 0 0, .slice none 0 0, .slice none 0 0, .slice none 0 0, .slice none 0 0, .slice none 0 0]) := Bx.ext ((br6.out).far (by first | (simp; done) | (simp; omega)) _) x7
  have bo7 : Hid (Bx w7 (w.heap.size + 2) 36 #[.slice B0 n0 d0, .slice B1 n1 d1, .slice B2 n2 d2, .slice B3 n3 d3, .slice B4 n4 d4, .slice B5 n5 d5, .slice none 0 0]) := Bx.ext (((bo6.out).set_ _ _).cast (by first | rfl | simp only [List.setIfInBounds_toArray, List.set_cons_succ, List.set_cons_zero])) x7
  have X7 : Ext w w7 := Ext.tr ((X6).sc (by first | (simp; done) | (simp; omega)) _) x7
  replace o0 := Lib.hid (o0.out.chg Order.W_good (Chg.trans ((Chg.refl (fun g => g = w.heap.size + 2) _).sc rfl _) (x7.chg _)) (fun g hg q => by have h1 := hg.1; have hq3 : g = w.heap.size + 2 := q; omega))
  replace o1 := Lib.hid (o1.out.chg (Chg.trans ((Chg.refl (fun g => g = w.heap.size + 2) _).sc rfl _) (x7.chg _)) (fun g hg q => by have h1 := hg.1; have hq3 : g = w.heap.size + 2 := q; omega))
  replace o2 := Lib.hid (o2.out.chg (Chg.trans ((Chg.refl (fun g => g = w.heap.size + 2) _).sc rfl _) (x7.chg _)) (fun g hg q => by have h1 := hg.1; have hq3 : g = w.heap.size + 2 := q; omega))
  replace o3 := Lib.hid (o3.out.chg (Chg.trans ((Chg.refl (fun g => g = w.heap.size + 2) _).sc rfl _) (x7.chg _)) (fun g hg q => by have h1 := hg.1; have hq3 : g = w.heap.size + 2 := q; omega))
  replace o4 := Lib.hid (o4.out.chg (Chg.trans ((Chg.refl (fun g => g = w.heap.size + 2) _).sc rfl _) (x7.chg _)) (fun g hg q => by have h1 := hg.1; have hq3 : g = w.heap.size + 2 := q; omega))
  replace o5 := Lib.hid (o5.out.chg (Chg.trans ((Chg.refl (fun g => g = w.heap.size + 2) _).sc rfl _) (x7.chg _)) (fun g hg q => by have h1 := hg.1; have hq3 : g = w.heap.size + 2 := q; omega))
  replace o6 : Hid (OwS w7 (fun g => w6.heap.size ≤ g ∧ g < w7.heap.size) 3 1 B6 n6 d6 (ints x.ended_)) := o6.out.mono (fun g _ hg => by have h1 := hg.1; have h2 := hg.2; constructor <;> (try simp at h1) <;> omega)
  clear x7
  have co7_0 : w7.cell? ⟨w.heap.size + 2, 0, none⟩ = some (.slice B0 n0 d0) := bo7.out.cell 0
  have co7_1 : w7.cell? ⟨w.heap.size + 2, 1, none⟩ = some (.slice B1 n1 d1) := bo7.out.cell 1
  have co7_2 : w7.cell? ⟨w.heap.size + 2, 2, none⟩ = some (.slice B2 n2 d2) := bo7.out.cell 2
  have co7_3 : w7.cell? ⟨w.heap.size + 2, 3, none⟩ = some (.slice B3 n3 d3) := bo7.out.cell 3
  have co7_4 : w7.cell? ⟨w.heap.size + 2, 4, none⟩ = some (.slice B4 n4 d4) := bo7.out.cell 4
  have co7_5 : w7.cell? ⟨w.heap.size + 2, 5, none⟩ = some (.slice B5 n5 d5) := bo7.out.cell 5
  have co7_6 : w7.cell? ⟨w.heap.size + 2, 6, none⟩ = some (.slice none 0 0) := bo7.out.cell 6
  have fo7_6 : w7.frozen? ⟨w.heap.size + 2, 6, none⟩ = false := bo7.out.frozen 6
  have cr7_0 : w7.cell? ⟨w.heap.size + 1, 0, none⟩ = some (.slice none 0 0) := br7.out.cell 0
  have fr7_0 : w7.frozen? ⟨w.heap.size + 1, 0, none⟩ = false := br7.out.frozen 0
  have cr7_1 : w7.cell? ⟨w.heap.size + 1, 1, none⟩ = some (.slice none 0 0) := br7.out.cell 1
  have fr7_1 : w7.frozen? ⟨w.heap.size + 1, 1, none⟩ = false := br7.out.frozen 1
  have cr7_2 : w7.cell? ⟨w.heap.size + 1, 2, none⟩ = some (.slice none 0 0) := br7.out.cell 2
  have fr7_2 : w7.frozen? ⟨w.heap.size + 1, 2, none⟩ = false := br7.out.frozen 2
  have cr7_3 : w7.cell? ⟨w.heap.size + 1, 3, none⟩ = some (.slice none 0 0) := br7.out.cell 3
  have fr7_3 : w7.frozen? ⟨w.heap.size + 1, 3, none⟩ = false := br7.out.frozen 3
  have cr7_4 : w7.cell? ⟨w.heap.size + 1, 4, none⟩ = some (.slice none 0 0) := br7.out.cell 4
  have fr7_4 : w7.frozen? ⟨w.heap.size + 1, 4, none⟩ = false := br7.out.frozen 4
  have cr7_5 : w7.cell? ⟨w.heap.size + 1, 5, none⟩ = some (.slice none 0 0) := br7.out.cell 5
  have fr7_5 : w7.frozen? ⟨w.heap.size + 1, 5, none⟩ = false := br7.out.frozen 5
  have cr7_6 : w7.cell? ⟨w.heap.size + 1, 6, none⟩ = some (.slice none 0 0) := br7.out.cell 6
  have fr7_6 : w7.frozen? ⟨w.heap.size + 1, 6, none⟩ = false := br7.out.frozen 6
  go_wp2
  refine bodyPost_ret (v := .agg #[.slice B0 n0 d0, .slice B1 n1 d1, .slice B2 n2 d2, .slice B3 n3 d3, .slice B4 n4 d4, .slice B5 n5 d5, .slice B6 n6 d6]) (by simp [results, Try.results19, go_sem, cr7_0, cr7_1, cr7_2, cr7_3, cr7_4, cr7_5, cr7_6]) rfl ⟨[.slice B0 n0 d0, .slice B1 n1 d1, .slice B2 n2 d2, .slice B3 n3 d3, .slice B4 n4 d4, .slice B5 n5 d5, .slice B6 n6 d6], rfl, ?_, ?_⟩
  · refine (?_ : ∀ wz, Chg (fun g => g = w.heap.size + 2 ∨ g = w.heap.size + 1) w7 wz → Pool.W wz (fun g => w.heap.size ≤ g ∧ g < wz.heap.size) [.slice B0 n0 d0, .slice B1 n1 d1, .slice B2 n2 d2, .slice B3 n3 d3, .slice B4 n4 d4, .slice B5 n5 d5, .slice B6 n6 d6] x) _ (((((((((Chg.refl (fun g => g = w.heap.size + 2 ∨ g = w.heap.size + 1) _).sc (by first | (simp; done) | (simp; omega)) _).sc (by first | (simp; done) | (simp; omega)) _).sc (by first | (simp; done) | (simp; omega)) _).sc (by first | (simp; done) | (simp; omega)) _).sc (by first | (simp; done) | (simp; omega)) _).sc (by first | (simp; done) | (simp; omega)) _).sc (by first | (simp; done) | (simp; omega)) _).sc (by first | (simp; done) | (simp; omega)) _)
    intro wz cc
    have zz := cc.size
    exact ⟨B0, n0, d0, B1, n1, d1, B2, n2, d2, B3, n3, d3, B4, n4, d4, B5, n5, d5, B6, n6, d6, lb [w1.heap.size, w2.heap.size, w3.heap.size, w4.heap.size, w5.heap.size, w6.heap.size, w7.heap.size], rfl, ⟨SlW.cap o0.out, mh0, (o0.out.chg Order.W_good cc (fun g hg q => by have h1 := hg.1; have hq3 : g = w.heap.size + 2 ∨ g = w.heap.size + 1 := q; omega)).mono Order.W_good (fun g hg => ⟨⟨by have h1 := hg.1; omega, by have h2 := hg.2; omega⟩, by have h1 := hg.1; have h2 := hg.2; exact lb_here (by omega)⟩)⟩, ⟨K1.out, mh1, (o1.out.chg cc (fun g hg q => by have h1 := hg.1; have hq3 : g = w.heap.size + 2 ∨ g = w.heap.size + 1 := q; omega)).mono (fun g _ hg => ⟨⟨by have h1 := hg.1; omega, by have h2 := hg.2; omega⟩, by have h1 := hg.1; have h2 := hg.2; exact lb_next (by omega) (lb_here (by omega))⟩)⟩, ⟨K2.out, mh2, (o2.out.chg cc (fun g hg q => by have h1 := hg.1; have hq3 : g = w.heap.size + 2 ∨ g = w.heap.size + 1 := q; omega)).mono (fun g _ hg => ⟨⟨by have h1 := hg.1; omega, by have h2 := hg.2; omega⟩, by have h1 := hg.1; have h2 := hg.2; exact lb_next (by omega) (lb_next (by omega) (lb_here (by omega)))⟩)⟩, ⟨K3.out, mh3, (o3.out.chg cc (fun g hg q => by have h1 := hg.1; have hq3 : g = w.heap.size + 2 ∨ g = w.heap.size + 1 := q; omega)).mono (fun g _ hg => ⟨⟨by have h1 := hg.1; omega, by have h2 := hg.2; omega⟩, by have h1 := hg.1; have h2 := hg.2; exact lb_next (by omega) (lb_next (by omega) (lb_next (by omega) (lb_here (by omega))))⟩)⟩, ⟨K4.out, mh4, (o4.out.chg cc (fun g hg q => by have h1 := hg.1; have hq3 : g = w.heap.size + 2 ∨ g = w.heap.size + 1 := q; omega)).mono (fun g _ hg => ⟨⟨by have h1 := hg.1; omega, by have h2 := hg.2; omega⟩, by have h1 := hg.1; have h2 := hg.2; exact lb_next (by omega) (lb_next (by omega) (lb_next (by omega) (lb_next (by omega) (lb_here (by omega)))))⟩)⟩, ⟨K5.out, mh5, (o5.out.chg cc (fun g hg q => by have h1 := hg.1; have hq3 : g = w.heap.size + 2 ∨ g = w.heap.size + 1 := q; omega)).mono (fun g _ hg => ⟨⟨by have h1 := hg.1; omega, by have h2 := hg.2; omega⟩, by have h1 := hg.1; have h2 := hg.2; exact lb_next (by omega) (lb_next (by omega) (lb_next (by omega) (lb_next (by omega) (lb_next (by omega) (lb_here (by omega))))))⟩)⟩, ⟨K6.out, mh6, (o6.out.chg cc (fun g hg q => by have h1 := hg.1; have hq3 : g = w.heap.size + 2 ∨ g = w.heap.size + 1 := q; omega)).mono (fun g _ hg => ⟨⟨by have h1 := hg.1; omega, by have h2 := hg.2; omega⟩, by have h1 := hg.1; have h2 := hg.2; exact lb_next (by omega) (lb_next (by omega) (lb_next (by omega) (lb_next (by omega) (lb_next (by omega) (lb_next (by omega) (lb_here (by omega)))))))⟩)⟩⟩
  · exact ((((((((X7).sc (by first | (simp; done) | (simp; omega)) _).sc (by first | (simp; done) | (simp; omega)) _).sc (by first | (simp; done) | (simp; omega)) _).sc (by first | (simp; done) | (simp; omega)) _).sc (by first | (simp; done) | (simp; omega)) _).sc (by first | (simp; done) | (simp; omega)) _).sc (by first | (simp; done) | (simp; omega)) _).sc (by first | (simp; done) | (simp; omega)) _
set_option maxRecDepth 8000 in
set_option maxHeartbeats 8000000 in
theorem eqPool_same (x : Pool) (cs cs' : List Value) (w : World) (S S' : Nat → Prop) (h : Pool.R w S cs x) (u : Pool.R w S' cs' x) :
    Calls Try.prog 21 #[.agg cs.toArray, .agg cs'.toArray] w fun e w' => e = .returned (.bool true) ∧ Ext w w' := by
  obtain ⟨A0, n0, c0, A1, n1, c1, A2, n2, c2, A3, n3, c3, A4, n4, c4, A5, n5, c5, A6, n6, c6, rfl, ⟨kh0, mh0, h0⟩, ⟨kh1, mh1, h1⟩, ⟨kh2, mh2, h2⟩, ⟨kh3, mh3, h3⟩, ⟨kh4, mh4, h4⟩, ⟨kh5, mh5, h5⟩, ⟨kh6, mh6, h6⟩⟩ := h
  obtain ⟨B0, p0, d0, B1, p1, d1, B2, p2, d2, B3, p3, d3, B4, p4, d4, B5, p5, d5, B6, p6, d6, rfl, ⟨ku0, mu0, u0⟩, ⟨ku1, mu1, u1⟩, ⟨ku2, mu2, u2⟩, ⟨ku3, mu3, u3⟩, ⟨ku4, mu4, u4⟩, ⟨ku5, mu5, u5⟩, ⟨ku6, mu6, u6⟩⟩ := u
  obtain rfl : n0 = p0 := by have a := h0.1; have b := u0.1; omega
  obtain rfl : n1 = p1 := by have a := h1.len; have b := u1.len; omega
  obtain rfl : n2 = p2 := by have a := h2.len; have b := u2.len; omega
  obtain rfl : n3 = p3 := by have a := h3.len; have b := u3.len; omega
  obtain rfl : n4 = p4 := by have a := h4.len; have b := u4.len; omega
  obtain rfl : n5 = p5 := by have a := h5.len; have b := u5.len; omega
  obtain rfl : n6 = p6 := by have a := h6.len; have b := u6.len; omega
  have H0 := Lib.hid h0
  have U0 := Lib.hid u0
  have H1 := Lib.hid h1
  have U1 := Lib.hid u1
  have H2 := Lib.hid h2
  have U2 := Lib.hid u2
  have H3 := Lib.hid h3
  have U3 := Lib.hid u3
  have H4 := Lib.hid h4
  have U4 := Lib.hid u4
  have H5 := Lib.hid h5
  have U5 := Lib.hid u5
  have H6 := Lib.hid h6
  have U6 := Lib.hid u6
  clear h0 u0 h1 u1 h2 u2 h3 u3 h4 u4 h5 u5 h6 u6
  show Calls Try.prog _ #[.agg #[.slice A0 n0 c0, .slice A1 n1 c1, .slice A2 n2 c2, .slice A3 n3 c3, .slice A4 n4 c4, .slice A5 n5 c5, .slice A6 n6 c6], .agg #[.slice B0 n0 d0, .slice B1 n1 d1, .slice B2 n2 d2, .slice B3 n3 d3, .slice B4 n4 d4, .slice B5 n5 d5, .slice B6 n6 d6]] w _
  go_enter Try.func21, Try.ntmps21
  go_wp2_with fail
  refine (eqOrderS_same _ _ _ _ _ x.queues_ _ S S' (SlR.ext Order.R_good H0.out (((Ext.refl' w).al _).al _)) (SlR.ext Order.R_good U0.out (((Ext.refl' w).al _).al _)) mh0).mono ?_
  rintro e w1 ⟨rfl, x1⟩
  have z1 : w.heap.size + 2 ≤ w1.heap.size := by have h := x1.size; (try simp at h); omega
  have ba1 : Hid (Bx w1 (w.heap.size) 36 #[.slice A0 n0 c0, .slice A1 n1 c1, .slice A2 n2 c2, .slice A3 n3 c3, .slice A4 n4 c4, .slice A5 n5 c5, .slice A6 n6 c6]) := Bx.ext ((Bx.new' _ _ _ rfl).al _) x1
  have bb1 : Hid (Bx w1 (w.heap.size + 1) 36 #[.slice B0 n0 d0, .slice B1 n1 d1, .slice B2 n2 d2, .slice B3 n3 d3, .slice B4 n4 d4, .slice B5 n5 d5, .slice B6 n6 d6]) := Bx.ext (Bx.new' _ _ _ (by simp)) x1
  have X1 : Ext w w1 := Ext.tr (((Ext.refl' w).al _).al _) x1
  clear x1
  have ca1_1 : w1.cell? ⟨w.heap.size, 1, none⟩ = some (.slice A1 n1 c1) := ba1.out.cell 1
  have cb1_1 : w1.cell? ⟨w.heap.size + 1, 1, none⟩ = some (.slice B1 n1 d1) := bb1.out.cell 1
  go_wp2_with fail
  refine (eqIntS_same _ _ _ _ _ _ _ S S' (H1.out.ext (X1)) (U1.out.ext (X1)) mh1).mono ?_
  rintro e w2 ⟨rfl, x2⟩
  have z2 : w.heap.size + 2 ≤ w2.heap.size := by have h := x2.size; (try simp at h); omega
  have ba2 : Hid (Bx w2 (w.heap.size) 36 #[.slice A0 n0 c0, .slice A1 n1 c1, .slice A2 n2 c2, .slice A3 n3 c3, .slice A4 n4 c4, .slice A5 n5 c5, .slice A6 n6 c6]) := Bx.ext (ba1.out) x2
  have bb2 : Hid (Bx w2 (w.heap.size + 1) 36 #[.slice B0 n0 d0, .slice B1 n1 d1, .slice B2 n2 d2, .slice B3 n3 d3, .slice B4 n4 d4, .slice B5 n5 d5, .slice B6 n6 d6]) := Bx.ext (bb1.out) x2
  have X2 : Ext w w2 := Ext.tr (X1) x2
  clear x2
  have ca2_2 : w2.cell? ⟨w.heap.size, 2, none⟩ = some (.slice A2 n2 c2) := ba2.out.cell 2
  have cb2_2 : w2.cell? ⟨w.heap.size + 1, 2, none⟩ = some (.slice B2 n2 d2) := bb2.out.cell 2
  go_wp2_with fail
  refine (eqIntS_same _ _ _ _ _ _ _ S S' (H2.out.ext (X2)) (U2.out.ext (X2)) mh2).mono ?_
  rintro e w3 ⟨rfl, x3⟩
  have z3 : w.heap.size + 2 ≤ w3.heap.size := by have h := x3.size; (try simp at h); omega
  have ba3 : Hid (Bx w3 (w.heap.size) 36 #[.slice A0 n0 c0, .slice A1 n1 c1, .slice A2 n2 c2, .slice A3 n3 c3, .slice A4 n4 c4, .slice A5 n5 c5, .slice A6 n6 c6]) := Bx.ext (ba2.out) x3
  have bb3 : Hid (Bx w3 (w.heap.size + 1) 36 #[.slice B0 n0 d0, .slice B1 n1 d1, .slice B2 n2 d2, .slice B3 n3 d3, .slice B4 n4 d4, .slice B5 n5 d5, .slice B6 n6 d6]) := Bx.ext (bb2.out) x3
  have X3 : Ext w w3 := Ext.tr (X2) x3
  clear x3
  have ca3_3 : w3.cell? ⟨w.heap.size, 3, none⟩ = some (.slice A3 n3 c3) := ba3.out.cell 3
  have cb3_3 : w3.cell? ⟨w.heap.size + 1, 3, none⟩ = some (.slice B3 n3 d3) := bb3.out.cell 3
  go_wp2_with fail
  refine (eqIntS_same _ _ _ _ _ _ _ S S' (H3.out.ext (X3)) (U3.out.ext (X3)) mh3).mono ?_
  rintro e w4 ⟨rfl, x4⟩
  have z4 : w.heap.size + 2 ≤ w4.heap.size := by have h := x4.size; (try simp at h); omega
  have ba4 : Hid (Bx w4 (w.heap.size) 36 #[.slice A0 n0 c0, .slice A1 n1 c1, .slice A2 n2 c2, .slice A3 n3 c3, .slice A4 n4 c4, .slice A5 n5 c5, .slice A6 n6 c6]) := Bx.ext (ba3.out) x4
  have bb4 : Hid (Bx w4 (w.heap.size + 1) 36 #[.slice B0 n0 d0, .slice B1 n1 d1, .slice B2 n2 d2, .slice B3 n3 d3, .slice B4 n4 d4, .slice B5 n5 d5, .slice B6 n6 d6]) := Bx.ext (bb3.out) x4
  have X4 : Ext w w4 := Ext.tr (X3) x4
  clear x4
  have ca4_4 : w4.cell? ⟨w.heap.size, 4, none⟩ = some (.slice A4 n4 c4) := ba4.out.cell 4
  have cb4_4 : w4.cell? ⟨w.heap.size + 1, 4, none⟩ = some (.slice B4 n4 d4) := bb4.out.cell 4
  go_wp2_with fail
  refine (eqIntS_same _ _ _ _ _ _ _ S S' (H4.out.ext (X4)) (U4.out.ext (X4)) mh4).mono ?_
  rintro e w5 ⟨rfl, x5⟩
  have z5 : w.heap.size + 2 ≤ w5.heap.size := by have h := x5.size; (try simp at h); omega
  have ba5 : Hid (Bx w5 (w.heap.size) 36 #[.slice A0 n0 c0, .slice A1 n1 c1, .slice A2 n2 c2, .slice A3 n3 c3, .slice A4 n4 c4, .slice A5 n5 c5, .slice A6 n6 c6]) := Bx.ext (ba4.out) x5
  have bb5 : Hid (Bx w5 (w.heap.size + 1) 36 #[.slice B0 n0 d0, .slice B1 n1 d1, .slice B2 n2 d2, .slice B3 n3 d3, .slice B4 n4 d4, .slice B5 n5 d5, .slice B6 n6 d6]) := Bx.ext (bb4.out) x5
  have X5 : Ext w w5 := Ext.tr (X4) x5
  clear x5
  have ca5_5 : w5.cell? ⟨w.heap.size, 5, none⟩ = some (.slice A5 n5 c5) := ba5.out.cell 5
  have cb5_5 : w5.cell? ⟨w.heap.size + 1, 5, none⟩ = some (.slice B5 n5 d5) := bb5.out.cell 5
  go_wp2_with fail
  refine (eqIntS_same _ _ _ _ _ _ _ S S' (H5.out.ext (X5)) (U5.out.ext (X5)) mh5).mono ?_
  rintro e w6 ⟨rfl, x6⟩
  have z6 : w.heap.size + 2 ≤ w6.heap.size := by have h := x6.size; (try simp at h); omega
  have ba6 : Hid (Bx w6 (w.heap.size) 36 #[.slice A0 n0 c0, .slice A1 n1 c1, .slice A2 n2 c2, .slice A3 n3 c3, .slice A4 n4 c4, .slice A5 n5 c5, .slice A6 n6 c6]) := Bx.ext (ba5.out) x6
  have bb6 : Hid (Bx w6 (w.heap.size + 1) 36 #[.slice B0 n0 d0, .slice B1 n1 d1, .slice B2 n2 d2, .slice B3 n3 d3, .slice B4 n4 d4, .slice B5 n5 d5, .slice B6 n6 d6]) := Bx.ext (bb5.out) x6
  have X6 : Ext w w6 := Ext.tr (X5) x6
  clear x6
  have ca6_6 : w6.cell? ⟨w.heap.size, 6, none⟩ = some (.slice A6 n6 c6) := ba6.out.cell 6
  have cb6_6 : w6.cell? ⟨w.heap.size + 1, 6, none⟩ = some (.slice B6 n6 d6) := bb6.out.cell 6
  go_wp2_with fail
  refine (eqIntS_same _ _ _ _ _ _ _ S S' (H6.out.ext (X6)) (U6.out.ext (X6)) mh6).mono ?_
  rintro e w7 ⟨rfl, x7⟩
  have z7 : w.heap.size + 2 ≤ w7.heap.size := by have h := x7.size; (try simp at h); omega
  have ba7 : Hid (Bx w7 (w.heap.size) 36 #[.slice A0 n0 c0, .slice A1 n1 c1, .slice A2 n2 c2, .slice A3 n3 c3, .slice A4 n4 c4, .slice A5 n5 c5, .slice A6 n6 c6]) := Bx.ext (ba6.out) x7
  have bb7 : Hid (Bx w7 (w.heap.size + 1) 36 #[.slice B0 n0 d0, .slice B1 n1 d1, .slice B2 n2 d2, .slice B3 n3 d3, .slice B4 n4 d4, .slice B5 n5 d5, .slice B6 n6 d6]) := Bx.ext (bb6.out) x7
  have X7 : Ext w w7 := Ext.tr (X6) x7
  clear x7
  go_wp2
  go_ret
  exact ⟨rfl, X7⟩

end Go.Proofs.Ytfkbomcbcjjlbaa
