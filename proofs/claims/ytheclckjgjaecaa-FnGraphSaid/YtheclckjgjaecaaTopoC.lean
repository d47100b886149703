/- The closure of Topo, and the library's ContainsFunc over it. No condition but lengths. -/
import Derived.Test.YtheclckjgjaecaaGraphT
import Derived.Test.YtheclckjgjaecaaContains
namespace Go.Proofs.Ytheclckjgjaecaa
open Go.RowKit Go.Deep

set_option maxHeartbeats 1000000 in
theorem topo1_any (f t v : Int) (gv go : Nat) (B : Option Addr) (m d : Nat) (out : List Int) (w : World) (S : Nat → Prop) (hv : w.cell? ⟨gv, 0, none⟩ = some (.int .i64 v)) (ho : w.cell? ⟨go, 0, none⟩ = some (.slice B m d)) (hs : Sl w S 1 B m (ints out)) (hm : m ≤ 1048576) :
    Calls Try.prog 53 #[.agg #[.int .i64 f, .int .i64 t], .pointer (some ⟨gv, 0, none⟩), .pointer (some ⟨go, 0, none⟩)] w fun e w' => e = .returned (.bool (dec (t = v ∧ ¬ f ∈ out))) ∧ Ext w w' := by
  have lv : gv < w.heap.size := World.block_lt_of_cell? w _ hv
  have lo : go < w.heap.size := World.block_lt_of_cell? w _ ho
  have HS := Lib.hid (hs.ext ((Ext.refl' w).al (.cells #[.int .i64 f, .int .i64 t] 51)))
  clear hs
  by_cases htv : t = v
  rotate_left
  · have hb : (t == v) = false := by simpa using htv
    have HN := Lib.hid (dec_no (p := t = v ∧ ¬ f ∈ out) fun h => htv h.1)
    clear htv
    go_enter Try.func53, Try.ntmps53
    go_wp2
    go_ret
    exact ⟨by rw [HN.out]; rfl, (Ext.refl' _).al _⟩
  have hb : (t == v) = true := by simpa using htv
  have HT := Lib.hid htv
  clear htv
  cases hin : dec (f ∈ out)
  · have HY := Lib.hid (dec_yes (p := t = v ∧ ¬ f ∈ out) ⟨HT.out, dec_false hin⟩)
    go_enter Try.func53, Try.ntmps53
    go_wp2_with fail
    refine (Contains_any _ _ _ out f _ _ HS.out (by omega)).mono ?_
    rintro e w1 ⟨rfl, rfl⟩
    rw [hin]
    clear hin
    go_wp2
    go_ret
    exact ⟨by rw [HY.out]; rfl, (Ext.refl' _).al _⟩
  · have HY := Lib.hid (dec_no (p := t = v ∧ ¬ f ∈ out) fun h => h.2 (dec_true hin))
    go_enter Try.func53, Try.ntmps53
    go_wp2_with fail
    refine (Contains_any _ _ _ out f _ _ HS.out (by omega)).mono ?_
    rintro e w1 ⟨rfl, rfl⟩
    rw [hin]
    clear hin
    go_wp2
    go_ret
    exact ⟨by rw [HY.out]; rfl, (Ext.refl' _).al _⟩

/-- No edge of the list holds v back. -/
def Edge.lets (v : Int) (out : List Int) (_ : Nat) (e : Edge) : Prop := ¬ (e.to_ = v ∧ ¬ e.from_ ∈ out)
set_option maxHeartbeats 2000000 in
theorem idxTopo_any (A : Option Addr) (n c : Nat) (l : List Edge) (v : Int) (gv go : Nat) (B : Option Addr) (m d : Nat) (out : List Int) (w : World) (S T : Nat → Prop) (hs : Sl w S 2 A n (l.flatMap Edge.cells)) (hm : n ≤ 1048576)
    (hv : w.cell? ⟨gv, 0, none⟩ = some (.int .i64 v)) (ho : w.cell? ⟨go, 0, none⟩ = some (.slice B m d)) (ht : Sl w T 1 B m (ints out)) (hm2 : m ≤ 1048576) :
    Calls Try.prog 61 #[.slice A n c, .func (.func 53) #[] #[.pointer (some ⟨gv, 0, none⟩), .pointer (some ⟨go, 0, none⟩)]] w fun e w' => ∃ i : Int, e = .returned (.int .i64 i) ∧ ((i = -1 ∧ AllTo (Edge.lets v out) l l.length) ∨ (0 ≤ i ∧ ¬ AllTo (Edge.lets v out) l l.length)) ∧ Ext w w' := by
  have H := Lib.hid (hs.flen Edge.cells_length (by omega))
  have HS := Lib.hid hs
  have HT := Lib.hid ht
  have HV := Lib.hid hv
  have HO := Lib.hid ho
  clear hs ht hv ho
  go_enter Try.func61, Try.ntmps61
  go_wp2
  go_loopw [8] (fun i wr => ∃ k : Nat, k ≤ n ∧ i = .int .i64 k ∧ AllTo (Edge.lets v out) l k ∧ Ext w wr) (fun i _ => n - (intOf i).toNat)
  case atStart => exact ⟨0, Nat.zero_le _, rfl, AllTo.zero _ _, Ext.refl' _⟩
  case round =>
    obtain ⟨k, hk, rfl, hup, hx⟩ := hrel
    have HU := Lib.hid hup
    have HX := Lib.hid hx
    clear hup
    by_cases hlt : k < n
    · obtain ⟨b, o, rfl⟩ := HS.out.addr (by omega)
      obtain ⟨s, hsk, -, hc⟩ := (HS.out.ext hx).flat_cell Edge.cells_length (by omega) hlt
      obtain ⟨g0, g1⟩ := s
      have k0 := hc 0 (by omega)
      have k1 := hc 1 (by omega)
      simp only [Edge.cells, List.getElem?_cons_zero, List.getElem?_cons_succ, Nat.add_zero] at k0 k1
      have HSK := Lib.hid hsk
      clear hsk hc hx
      go_wp2_with fail
      refine (topo1_any _ _ v _ _ _ _ _ out _ _ (HX.out.co HV.out) (HX.out.co HO.out) (HT.out.ext HX.out) hm2).mono ?_
      rintro e w2 ⟨rfl, x2⟩
      have X2 := Lib.hid (HX.out.tr x2)
      clear x2
      cases hd : dec (g1 = v ∧ ¬ g0 ∈ out)
      · have H0 := Lib.hid (dec_false hd)
        clear hd
        go_wp2
        go_roundw
        case rel => exact ⟨k + 1, by omega, by go_num, HU.out.succ HSK.out H0.out, X2.out⟩
        case measure => simp [intOf]; omega
      · have H0 := Lib.hid (dec_true hd)
        clear hd
        go_wp2
        go_ret
        exact ⟨k, rfl, .inr ⟨by omega, fun h => AllTo.not HSK.out (by rw [H.out]; exact hlt) (fun q => q H0.out) h⟩, X2.out⟩
    · clear hx
      go_wp2
      go_ret
      have e : k = l.length := by rw [H.out]; omega
      exact ⟨-1, rfl, .inl ⟨rfl, by rw [← e]; exact HU.out⟩, HX.out⟩

theorem anyTopo_any (A : Option Addr) (n c : Nat) (l : List Edge) (v : Int) (gv go : Nat) (B : Option Addr) (m d : Nat) (out : List Int) (w : World) (S T : Nat → Prop) (hs : Sl w S 2 A n (l.flatMap Edge.cells)) (hm : n ≤ 1048576)
    (hv : w.cell? ⟨gv, 0, none⟩ = some (.int .i64 v)) (ho : w.cell? ⟨go, 0, none⟩ = some (.slice B m d)) (ht : Sl w T 1 B m (ints out)) (hm2 : m ≤ 1048576) :
    Calls Try.prog 52 #[.slice A n c, .func (.func 53) #[] #[.pointer (some ⟨gv, 0, none⟩), .pointer (some ⟨go, 0, none⟩)]] w fun e w' => e = .returned (.bool (!dec (AllTo (Edge.lets v out) l l.length))) ∧ Ext w w' := by
  go_enter Try.func52, Try.ntmps52
  have HS := Lib.hid hs
  have HT := Lib.hid ht
  have HV := Lib.hid hv
  have HO := Lib.hid ho
  clear hs ht hv ho
  go_wp2_with fail
  refine (idxTopo_any _ _ _ l v _ _ _ _ _ out _ _ _ HS.out hm HV.out HO.out HT.out hm2).mono ?_
  rintro e w1 ⟨i, rfl, hi, x1⟩
  have X1 := Lib.hid x1
  clear x1
  rcases hi with ⟨rfl, hx⟩ | ⟨hi, hx⟩
  · have HX := Lib.hid hx
    clear hx
    go_wp2
    go_ret
    exact ⟨by rw [dec_yes HX.out]; rfl, X1.out⟩
  · have HX := Lib.hid hx
    clear hx
    go_wp2
    go_ret
    exact ⟨by rw [dec_no HX.out]; rfl, X1.out⟩
end Go.Proofs.Ytheclckjgjaecaa
