/- The laws' helpers on slices of Root. No condition but sizes. -/
import Derived.Test.YtglplgbhhnmgbaaGreatWMem
namespace Go.Proofs.YtglplgbhhnmgbaaGreat
open Go.RowKit Go.Deep

set_option maxRecDepth 8000 in
set_option maxHeartbeats 4000000 in
theorem szRootS_any (A : Option Addr) (n c : Nat) (l : List Root) (q : Int) (w : World) (S : Nat → Prop) (hs : SlR Root.R 40 w S A n l) (hm : n ≤ 9223372036854775807) (hq0 : 0 ≤ q) (hq2 : q ≤ 1048576) :
    Calls Tryz.prog 18 #[.slice A n c, .int .i64 q] w fun e w' => ∃ r : Int, e = .returned (.int .i64 r) ∧ Left r q (wtl Root.wt l) ∧ Ext w w' := by
  have H := Lib.hid hs.1
  have HL := Lib.hid (wtl_len Root.wt l)
  by_cases hn : (n : Int) ≤ q
  rotate_left
  · go_enter Tryz.func18, Tryz.ntmps18
    go_wp2
    go_ret
    exact ⟨-1, by first | rfl | (simp; done) | simp [hn], .inr ⟨by have a := H.out; have b := HL.out; omega, rfl⟩, Ext.refl' _⟩
  have HS := Lib.hid hs
  clear hs
  go_enter Tryz.func18, Tryz.ntmps18
  go_wp2
  go_loopw [1, 5] (fun u i wr => ∃ (k : Nat) (r : Int), k ≤ n ∧ i = .int .i64 k ∧ u = .int .i64 r ∧ 0 ≤ r ∧ r ≤ 1048576 ∧ Hid (r = q - n + k - wtl Root.wt (l.take k)) ∧ Ext w wr) (fun _ i _ => n - (intOf i).toNat)
  case atStart => exact ⟨0, q - n, Nat.zero_le _, rfl, rfl, by omega, by omega, by show _ = _; simp [wtl], Ext.refl' _⟩
  case round =>
    obtain ⟨k, r, hk, rfl, rfl, hr0, hr2, HR, hx⟩ := hrel
    have HX := Lib.hid hx
    clear hx
    by_cases hlt : (k : Int) < (n : Int)
    rotate_left
    · have e : Hid (k = n) := by show k = n; omega
      go_wp2
      go_ret
      exact ⟨r, rfl, .inl (by have h1 := HR.out; rw [e.out, ← H.out, List.take_length] at h1; have h2 := H.out; omega), HX.out⟩
    obtain ⟨b, o, rfl⟩ := HS.out.addr (by omega)
    obtain ⟨x, row, hxk, -, hrw, hc⟩ := (HS.out.ext Root.R_good HX.out).at_ (k := k) (by omega)
    have hrg := Lib.hid (SlR.range Root.R_good hrw hc)
    have hln : Hid ((Tryz.prog.info? 124).map (·.size) = some row.length) := by show _ = _; rw [Root.R_good.len hrw]; exact Root.size_laws
    have HRW := Lib.hid hrw
    have HW := Lib.hid (wtl_take Root.wt hxk)
    have HLE := Lib.hid (wtl_le Root.wt l (k + 1))
    have HTL := Lib.hid (wtl_len Root.wt (l.drop (k + 1)))
    clear hrw hc hxk
    go_wp2_with (refine wpList_load_mid rfl 124 _ rfl b (o + k * 40) rfl row _ hrg.out Tryz.underlying124 rfl hln.out ?_)
    refine (szRoot_any x _ r _ S HRW.out hr0 hr2).mono ?_
    rintro e w2 ⟨r2, rfl, Q, x2⟩
    have X2 := Lib.hid (HX.out.tr x2)
    have HQ := Lib.hid Q
    clear x2 Q
    by_cases g : 0 ≤ r2
    rotate_left
    · have e : r2 = -1 := by have a := HQ.out; unfold Left at a; omega
      subst e
      clear g
      go_wp2
      go_ret
      exact ⟨-1, rfl, .inr ⟨by have a := HQ.out; have b := HW.out; have c := HR.out; have d := HLE.out; have e := H.out; have f := wtl_rest Root.wt l (k + 1); unfold Left at a; omega, rfl⟩, X2.out⟩
    have g2 : r2 ≤ 1048576 := by have a := HQ.out; unfold Left at a; omega
    go_wp2
    go_roundw
    case rel => exact ⟨k + 1, r2, by omega, by go_num, rfl, g, g2, by show _ = _; have a := HQ.out; have b := HW.out; have c := HR.out; unfold Left at a; omega, X2.out⟩
    case measure => simp [intOf]; omega
theorem Tryz.infoRoot : (Tryz.prog.info? 83).map (fun i => (i.zero, i.size, i.bytes)) = some (some (.agg (List.toArray ((.int .i64 0) :: (.int .i64 0) :: (.int .i64 0) :: (.int .i64 0) :: (.int .i64 0) :: (.int .i64 0) :: (.int .i64 0) :: (.int .i64 0) :: (.int .i64 0) :: (.int .i64 0) :: (.int .i64 0) :: (.bool false) :: (.slice none 0 0) :: (.slice none 0 0) :: (.slice none 0 0) :: (.slice none 0 0) :: (.slice none 0 0) :: (.slice none 0 0) :: (.bool false) :: (.int .i64 0) :: (.int .i64 0) :: (.int .i64 0) :: (.int .i64 0) :: (.int .i64 0) :: (.int .i64 0) :: (.int .i64 0) :: (.int .i64 0) :: (.int .i64 0) :: (.slice none 0 0) :: (.slice none 0 0) :: (.int .i64 0) :: (.int .i64 0) :: (.int .i64 0) :: (.bool false) :: (.slice none 0 0) :: (.slice none 0 0) :: (.slice none 0 0) :: (.slice none 0 0) :: (.slice none 0 0) :: (.slice none 0 0) :: []))), 40, 544) := by kernel_rfl
set_option maxRecDepth 8000 in
set_option maxHeartbeats 8000000 in
theorem toRootS_any (A : Option Addr) (n c : Nat) (l : List Root) (w : World) (S : Nat → Prop) (hs : SlR Root.R 40 w S A n l) (hm : n ≤ 1048576) (hw : wtl Root.wt l ≤ 1048576) :
    Calls Tryz.prog 31 #[.slice A n c] w fun e w' => ∃ B d, e = .returned (.slice B n d) ∧ SlW Root.W 83 40 w' (fun g => w.heap.size ≤ g ∧ g < w'.heap.size) B n d l ∧ Ext w w' := by
  obtain ⟨w1, cs0, hmk, hown, -, hx1, hlt⟩ := made_row (P := Tryz.prog) w 53 83 _ _ _ Tryz.underlying53 Tryz.infoRoot n (by omega) (by unfold maxLen; omega)
  have HO := Lib.hid hown
  have HX := Lib.hid hx1
  have HS := Lib.hid hs
  have HLL := Lib.hid hs.1
  have HW0 := Lib.hid hw
  clear hown hx1 hs hw
  go_enter Tryz.func31, Tryz.ntmps31
  go_wp2
  go_loopw [4] (fun i wr => ∃ (k : Nat) (cs : List Value) (lab : Nat → Nat), k ≤ n ∧ i = .int .i64 k ∧ Hid (wr.ownsRow w.heap.size 83 40 (.slice (some ⟨w.heap.size, 0, none⟩) n n) n cs) ∧ Hid (WRows Root.W 40 wr (fun g => w.heap.size < g ∧ g < wr.heap.size) lab cs l k) ∧ Ext w wr) (fun i _ => n - (intOf i).toNat)
  case atStart => exact ⟨0, _, fun _ => 0, Nat.zero_le _, rfl, HO, WRows.zero _ _ _ _ _ _ _, HX.out⟩
  case round =>
    obtain ⟨k, cs, lab, hk, rfl, HO2, HU, hx⟩ := hrel
    have HX2 := Lib.hid hx
    clear hx
    by_cases hlt : (k : Int) < (n : Int)
    rotate_left
    · have e : Hid (k = n) := by show k = n; omega
      go_wp2
      go_ret
      refine ⟨_, _, rfl, ⟨HLL.out, cs, fun g => if w.heap.size < g then lab g else 0, ⟨own_base HO2.out (Nat.zero_le _), fun g hg => ?_⟩, fun i hi x hxi => ?_⟩, HX2.out⟩
      · have e : some w.heap.size = some g := hg
        injection e with e
        subst e
        exact ⟨⟨Nat.le_refl _, (HO2.out.lt _ rfl).2⟩, if_neg (Nat.lt_irrefl _)⟩
      · obtain ⟨row, hr, hj⟩ := HU.out i (by have h := e.out; omega) x hxi
        exact ⟨row, Root.W_good.mono hr fun g hg => ⟨⟨by have h := hg.1.1; omega, hg.1.2⟩, (if_pos hg.1.1).trans hg.2⟩, hj⟩
    obtain ⟨b, o, rfl⟩ := HS.out.addr (by omega)
    obtain ⟨x, row, hxk, -, hrw, hc⟩ := (HS.out.ext Root.R_good HX2.out).at_ (k := k) (by omega)
    have hrg := Lib.hid (SlR.range Root.R_good hrw hc)
    have hln : Hid ((Tryz.prog.info? 124).map (·.size) = some row.length) := by show _ = _; rw [Root.R_good.len hrw]; exact Root.size_laws
    have HRW := Lib.hid hrw
    have HXK := Lib.hid hxk
    have HKW := Lib.hid (Nat.le_trans (wtl_at Root.wt hxk) HW0.out)
    have HLT : Hid (k < n) := by show k < n; omega
    clear hrw hc hxk
    go_wp2_with (refine wpList_load_mid rfl 124 _ rfl b (o + k * 40) rfl row _ hrg.out Tryz.underlying124 rfl hln.out ?_)
    refine (toRoot_any x _ _ S HRW.out HKW.out).mono ?_
    rintro e w2 ⟨cv, rfl, hW, hx2⟩
    have HWW := Lib.hid hW
    have HO3 := Lib.hid (own_ext HO2.out hx2)
    have z0 : w.heap.size < wr.heap.size := (HO2.out.lt _ rfl).2
    have z1 : wr.heap.size ≤ w2.heap.size := hx2.size
    have HX3 := Lib.hid hx2
    have hcz : cv.toArray.size = 40 := Eq.trans (List.size_toArray ..) (Root.W_good.len hW)
    have hth : Hid (w2.there w.heap.size (k * 40) cv.toArray.size) := by show World.there _ _ _ _; rw [hcz]; exact own_there HO3.out HLT.out
    have hsz : Hid ((Tryz.prog.info? 83).map (·.size) = some cv.toArray.size) := by show _ = _; rw [hcz]; exact Root.size_info
    have hon : Hid (cv.toArray.all (·.oneCell') = true) := all_oneCell_toArray (Root.W_one hW)
    clear hx2 hW hcz
    go_wp2_with (refine wpList_store_mid rfl 83 _ _ rfl w.heap.size (k * 40) cv.toArray rfl rfl hth.out hsz.out hon.out ?_)
    go_roundw
    case rel =>
      have hl3 : cs.length = n * 40 := HO2.out.1
      have hkn := HLT.out
      have hcl := Root.W_good.len HWW.out
      have cc : Chg (fun g => g = w.heap.size) w2 (w2.setCells w.heap.size (k * 40) cv) := Chg.cells (S := fun g => g = w.heap.size) rfl cv _ (Chg.refl _ _)
      have hsize : w2.heap.size ≤ (w2.setCells w.heap.size (k * 40) cv).heap.size := cc.size
      refine ⟨k + 1, putAt cs (k * 40) cv, _, by omega, by go_num, Lib.hid (own_cells cv (k * 40) HO3.out), Lib.hid (WRows.step (b := wr.heap.size) Root.W_good HU.out (fun g hg => hg.2) (Chg.trans (HX3.out.chg _) cc) (fun g hg q => by have h1 := hg.1; have h2 : g = w.heap.size := q; omega) (fun g hg => ⟨hg.1, by have h := hg.2; show g < (w2.setCells _ _ cv).heap.size; omega⟩) HXK.out (Root.W_good.mono (Root.W_good.chg HWW.out cc (fun g hg q => by have h1 := hg.1; have h2 : g = w.heap.size := q; omega)) (fun g hg => ⟨⟨by have h1 := hg.1; omega, by have h := hg.2; show g < (w2.setCells _ _ cv).heap.size; omega⟩, hg.1⟩)) (fun j hj => putAt_lt _ _ _ _ hj) (fun j hj => putAt_at _ _ _ _ (by omega) (by omega))), ?_⟩
      exact (HX2.out.tr HX3.out).cells (Nat.le_refl _) cv _
    case measure => have h := HLT.out; simp [intOf]; omega

end Go.Proofs.YtglplgbhhnmgbaaGreat
