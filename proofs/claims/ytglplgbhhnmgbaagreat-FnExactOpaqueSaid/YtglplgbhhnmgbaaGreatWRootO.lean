/- Root: how it comes in. No condition. -/
import Derived.Test.YtglplgbhhnmgbaaGreatWRootB
namespace Go.Proofs.YtglplgbhhnmgbaaGreat
open Go.RowKit Go.Deep

set_option maxRecDepth 8000 in
set_option maxHeartbeats 4000000 in
theorem opens_Root : Opens Tryz.prog 124 (fun w cs (x : Root) => Root.R w (fun _ => True) cs x) := by
  intro H enc w base spare held fuel cs x h
  obtain ⟨xs, n, _, _, hlen, hxl, hf⟩ := DataW.trod_struct Tryz.underlying124 h
  rw [show Tryz.prog.cellsOf 124 = 40 from by kernel_rfl] at hlen
  have hxl' : xs.length = 22 := hxl
  have h0 : DataW.trod enc Tryz.prog w base spare held n 3 ((cs.drop 0).take (Tryz.prog.cellsOf 3)) = xs[0]? := hf 0 _ rfl
  rw [show Tryz.prog.cellsOf 3 = 1 from by kernel_rfl, List.getElem?_eq_getElem (show 0 < xs.length by omega)] at h0
  obtain ⟨f0, e0, -, -⟩ := DataW.trod_int Tryz.underlying3 h0
  have h1 : DataW.trod enc Tryz.prog w base spare held n 3 ((cs.drop 1).take (Tryz.prog.cellsOf 3)) = xs[1]? := hf 1 _ rfl
  rw [show Tryz.prog.cellsOf 3 = 1 from by kernel_rfl, List.getElem?_eq_getElem (show 1 < xs.length by omega)] at h1
  obtain ⟨f1, e1, -, -⟩ := DataW.trod_int Tryz.underlying3 h1
  have h2 : DataW.trod enc Tryz.prog w base spare held n 3 ((cs.drop 2).take (Tryz.prog.cellsOf 3)) = xs[2]? := hf 2 _ rfl
  rw [show Tryz.prog.cellsOf 3 = 1 from by kernel_rfl, List.getElem?_eq_getElem (show 2 < xs.length by omega)] at h2
  obtain ⟨f2, e2, -, -⟩ := DataW.trod_int Tryz.underlying3 h2
  have h3 : DataW.trod enc Tryz.prog w base spare held n 3 ((cs.drop 3).take (Tryz.prog.cellsOf 3)) = xs[3]? := hf 3 _ rfl
  rw [show Tryz.prog.cellsOf 3 = 1 from by kernel_rfl, List.getElem?_eq_getElem (show 3 < xs.length by omega)] at h3
  obtain ⟨f3, e3, -, -⟩ := DataW.trod_int Tryz.underlying3 h3
  have h4 : DataW.trod enc Tryz.prog w base spare held n 3 ((cs.drop 4).take (Tryz.prog.cellsOf 3)) = xs[4]? := hf 4 _ rfl
  rw [show Tryz.prog.cellsOf 3 = 1 from by kernel_rfl, List.getElem?_eq_getElem (show 4 < xs.length by omega)] at h4
  obtain ⟨f4, e4, -, -⟩ := DataW.trod_int Tryz.underlying3 h4
  have h5 : DataW.trod enc Tryz.prog w base spare held n 3 ((cs.drop 5).take (Tryz.prog.cellsOf 3)) = xs[5]? := hf 5 _ rfl
  rw [show Tryz.prog.cellsOf 3 = 1 from by kernel_rfl, List.getElem?_eq_getElem (show 5 < xs.length by omega)] at h5
  obtain ⟨f5, e5, -, -⟩ := DataW.trod_int Tryz.underlying3 h5
  have h6 : DataW.trod enc Tryz.prog w base spare held n 3 ((cs.drop 6).take (Tryz.prog.cellsOf 3)) = xs[6]? := hf 6 _ rfl
  rw [show Tryz.prog.cellsOf 3 = 1 from by kernel_rfl, List.getElem?_eq_getElem (show 6 < xs.length by omega)] at h6
  obtain ⟨f6, e6, -, -⟩ := DataW.trod_int Tryz.underlying3 h6
  have h7 : DataW.trod enc Tryz.prog w base spare held n 3 ((cs.drop 7).take (Tryz.prog.cellsOf 3)) = xs[7]? := hf 7 _ rfl
  rw [show Tryz.prog.cellsOf 3 = 1 from by kernel_rfl, List.getElem?_eq_getElem (show 7 < xs.length by omega)] at h7
  obtain ⟨f7, e7, -, -⟩ := DataW.trod_int Tryz.underlying3 h7
  have h8 : DataW.trod enc Tryz.prog w base spare held n 3 ((cs.drop 8).take (Tryz.prog.cellsOf 3)) = xs[8]? := hf 8 _ rfl
  rw [show Tryz.prog.cellsOf 3 = 1 from by kernel_rfl, List.getElem?_eq_getElem (show 8 < xs.length by omega)] at h8
  obtain ⟨f8, e8, -, -⟩ := DataW.trod_int Tryz.underlying3 h8
  have h9 : DataW.trod enc Tryz.prog w base spare held n 3 ((cs.drop 9).take (Tryz.prog.cellsOf 3)) = xs[9]? := hf 9 _ rfl
  rw [show Tryz.prog.cellsOf 3 = 1 from by kernel_rfl, List.getElem?_eq_getElem (show 9 < xs.length by omega)] at h9
  obtain ⟨f9, e9, -, -⟩ := DataW.trod_int Tryz.underlying3 h9
  have h10 : DataW.trod enc Tryz.prog w base spare held n 3 ((cs.drop 10).take (Tryz.prog.cellsOf 3)) = xs[10]? := hf 10 _ rfl
  rw [show Tryz.prog.cellsOf 3 = 1 from by kernel_rfl, List.getElem?_eq_getElem (show 10 < xs.length by omega)] at h10
  obtain ⟨f10, e10, -, -⟩ := DataW.trod_int Tryz.underlying3 h10
  have h11 : DataW.trod enc Tryz.prog w base spare held n 4 ((cs.drop 11).take (Tryz.prog.cellsOf 4)) = xs[11]? := hf 11 _ rfl
  rw [show Tryz.prog.cellsOf 4 = 1 from by kernel_rfl, List.getElem?_eq_getElem (show 11 < xs.length by omega)] at h11
  obtain ⟨f11, e11, -⟩ := DataW.trod_bool Tryz.underlying4 h11
  have h12 : DataW.trod enc Tryz.prog w base spare held n 22 ((cs.drop 12).take (Tryz.prog.cellsOf 22)) = xs[12]? := hf 12 _ rfl
  rw [show Tryz.prog.cellsOf 22 = 1 from by kernel_rfl, List.getElem?_eq_getElem (show 12 < xs.length by omega)] at h12
  obtain ⟨f12, A12, n12, c12, e12, g12, g12', -, -, s12⟩ := opens_ints Tryz.underlying22 Tryz.underlying3 (by kernel_rfl) H enc w base spare held n _ _ h12
  have h13 : DataW.trod enc Tryz.prog w base spare held n 113 ((cs.drop 13).take (Tryz.prog.cellsOf 113)) = xs[13]? := hf 13 _ rfl
  rw [show Tryz.prog.cellsOf 113 = 1 from by kernel_rfl, List.getElem?_eq_getElem (show 13 < xs.length by omega)] at h13
  obtain ⟨f13, A13, n13, c13, e13, g13, g13', -, -, s13⟩ := opens_flat Tryz.underlying113 (by kernel_rfl) (by omega) Row.cells_length opens_Row H enc w base spare held n _ _ h13
  have h14 : DataW.trod enc Tryz.prog w base spare held n 113 ((cs.drop 14).take (Tryz.prog.cellsOf 113)) = xs[14]? := hf 14 _ rfl
  rw [show Tryz.prog.cellsOf 113 = 1 from by kernel_rfl, List.getElem?_eq_getElem (show 14 < xs.length by omega)] at h14
  obtain ⟨f14, A14, n14, c14, e14, g14, g14', -, -, s14⟩ := opens_flat Tryz.underlying113 (by kernel_rfl) (by omega) Row.cells_length opens_Row H enc w base spare held n _ _ h14
  have h15 : DataW.trod enc Tryz.prog w base spare held n 114 ((cs.drop 15).take (Tryz.prog.cellsOf 114)) = xs[15]? := hf 15 _ rfl
  rw [show Tryz.prog.cellsOf 114 = 1 from by kernel_rfl, List.getElem?_eq_getElem (show 15 < xs.length by omega)] at h15
  obtain ⟨f15, A15, n15, c15, e15, g15, g15', s15⟩ := opens_deep Mark.R_good Tryz.underlying114 (by kernel_rfl) (by omega) opens_Mark H enc w base spare held n _ _ h15
  have h16 : DataW.trod enc Tryz.prog w base spare held n 115 ((cs.drop 16).take (Tryz.prog.cellsOf 115)) = xs[16]? := hf 16 _ rfl
  rw [show Tryz.prog.cellsOf 115 = 1 from by kernel_rfl, List.getElem?_eq_getElem (show 16 < xs.length by omega)] at h16
  obtain ⟨f16, A16, n16, c16, e16, g16, g16', -, -, s16⟩ := opens_flat Tryz.underlying115 (by kernel_rfl) (by omega) Undo.cells_length opens_Undo H enc w base spare held n _ _ h16
  have h17 : DataW.trod enc Tryz.prog w base spare held n 22 ((cs.drop 17).take (Tryz.prog.cellsOf 22)) = xs[17]? := hf 17 _ rfl
  rw [show Tryz.prog.cellsOf 22 = 1 from by kernel_rfl, List.getElem?_eq_getElem (show 17 < xs.length by omega)] at h17
  obtain ⟨f17, A17, n17, c17, e17, g17, g17', -, -, s17⟩ := opens_ints Tryz.underlying22 Tryz.underlying3 (by kernel_rfl) H enc w base spare held n _ _ h17
  have h18 : DataW.trod enc Tryz.prog w base spare held n 4 ((cs.drop 18).take (Tryz.prog.cellsOf 4)) = xs[18]? := hf 18 _ rfl
  rw [show Tryz.prog.cellsOf 4 = 1 from by kernel_rfl, List.getElem?_eq_getElem (show 18 < xs.length by omega)] at h18
  obtain ⟨f18, e18, -⟩ := DataW.trod_bool Tryz.underlying4 h18
  have h19 : DataW.trod enc Tryz.prog w base spare held n 116 ((cs.drop 19).take (Tryz.prog.cellsOf 116)) = xs[19]? := hf 19 _ rfl
  rw [show Tryz.prog.cellsOf 116 = 4 from by kernel_rfl, List.getElem?_eq_getElem (show 19 < xs.length by omega)] at h19
  obtain ⟨f19, e19, -⟩ := opens_Probe H enc w base spare held n _ _ h19
  simp only [Probe.cells] at e19
  have h20 : DataW.trod enc Tryz.prog w base spare held n 118 ((cs.drop 23).take (Tryz.prog.cellsOf 118)) = xs[20]? := hf 20 _ rfl
  rw [show Tryz.prog.cellsOf 118 = 7 from by kernel_rfl, List.getElem?_eq_getElem (show 20 < xs.length by omega)] at h20
  obtain ⟨f20, r20⟩ := opens_Commit H enc w base spare held n _ _ h20
  have h21 : DataW.trod enc Tryz.prog w base spare held n 122 ((cs.drop 30).take (Tryz.prog.cellsOf 122)) = xs[21]? := hf 21 _ rfl
  rw [show Tryz.prog.cellsOf 122 = 10 from by kernel_rfl, List.getElem?_eq_getElem (show 21 < xs.length by omega)] at h21
  obtain ⟨f21, r21⟩ := opens_Family H enc w base spare held n _ _ h21
  clear h0 h1 h2 h3 h4 h5 h6 h7 h8 h9 h10 h11 h12 h13 h14 h15 h16 h17 h18 h19 h20 h21 hf h hxl hxl'
  rcases cs with _ | ⟨q0, cs⟩
  · simp at hlen
  rcases cs with _ | ⟨q1, cs⟩
  · simp at hlen
  rcases cs with _ | ⟨q2, cs⟩
  · simp at hlen
  rcases cs with _ | ⟨q3, cs⟩
  · simp at hlen
  rcases cs with _ | ⟨q4, cs⟩
  · simp at hlen
  rcases cs with _ | ⟨q5, cs⟩
  · simp at hlen
  rcases cs with _ | ⟨q6, cs⟩
  · simp at hlen
  rcases cs with _ | ⟨q7, cs⟩
  · simp at hlen
  rcases cs with _ | ⟨q8, cs⟩
  · simp at hlen
  rcases cs with _ | ⟨q9, cs⟩
  · simp at hlen
  rcases cs with _ | ⟨q10, cs⟩
  · simp at hlen
  rcases cs with _ | ⟨q11, cs⟩
  · simp at hlen
  rcases cs with _ | ⟨q12, cs⟩
  · simp at hlen
  rcases cs with _ | ⟨q13, cs⟩
  · simp at hlen
  rcases cs with _ | ⟨q14, cs⟩
  · simp at hlen
  rcases cs with _ | ⟨q15, cs⟩
  · simp at hlen
  rcases cs with _ | ⟨q16, cs⟩
  · simp at hlen
  rcases cs with _ | ⟨q17, cs⟩
  · simp at hlen
  rcases cs with _ | ⟨q18, cs⟩
  · simp at hlen
  rcases cs with _ | ⟨q19, cs⟩
  · simp at hlen
  rcases cs with _ | ⟨q20, cs⟩
  · simp at hlen
  rcases cs with _ | ⟨q21, cs⟩
  · simp at hlen
  rcases cs with _ | ⟨q22, cs⟩
  · simp at hlen
  rcases cs with _ | ⟨q23, cs⟩
  · simp at hlen
  rcases cs with _ | ⟨q24, cs⟩
  · simp at hlen
  rcases cs with _ | ⟨q25, cs⟩
  · simp at hlen
  rcases cs with _ | ⟨q26, cs⟩
  · simp at hlen
  rcases cs with _ | ⟨q27, cs⟩
  · simp at hlen
  rcases cs with _ | ⟨q28, cs⟩
  · simp at hlen
  rcases cs with _ | ⟨q29, cs⟩
  · simp at hlen
  rcases cs with _ | ⟨q30, cs⟩
  · simp at hlen
  rcases cs with _ | ⟨q31, cs⟩
  · simp at hlen
  rcases cs with _ | ⟨q32, cs⟩
  · simp at hlen
  rcases cs with _ | ⟨q33, cs⟩
  · simp at hlen
  rcases cs with _ | ⟨q34, cs⟩
  · simp at hlen
  rcases cs with _ | ⟨q35, cs⟩
  · simp at hlen
  rcases cs with _ | ⟨q36, cs⟩
  · simp at hlen
  rcases cs with _ | ⟨q37, cs⟩
  · simp at hlen
  rcases cs with _ | ⟨q38, cs⟩
  · simp at hlen
  rcases cs with _ | ⟨q39, cs⟩
  · simp at hlen
  rcases cs with _ | ⟨qz, cs⟩
  rotate_left
  · simp at hlen
  · skip
    simp only [List.drop_succ_cons, List.drop_zero, List.take_succ_cons, List.take_zero, List.cons.injEq, and_true] at e0 e1 e2 e3 e4 e5 e6 e7 e8 e9 e10 e11 e12 e13 e14 e15 e16 e17 e18 e19
    simp only [List.drop_succ_cons, List.drop_zero, List.take_succ_cons, List.take_zero] at r20 r21
    subst e0
    subst e1
    subst e2
    subst e3
    subst e4
    subst e5
    subst e6
    subst e7
    subst e8
    subst e9
    subst e10
    subst e11
    subst e12
    subst e13
    subst e14
    subst e15
    subst e16
    subst e17
    subst e18
    obtain ⟨e19_0, e19_1, e19_2, e19_3⟩ := e19
    subst e19_0 e19_1 e19_2 e19_3
    exact ⟨⟨f0, f1, f2, f3, f4, f5, f6, f7, f8, f9, f10, f11, f12, f13, f14, f15, f16, f17, f18, f19, f20, f21⟩, _, _, _, _, _, _, _, _, _, _, _, _, _, _, _, _, _, _, _, _, rfl, ⟨g12, Nat.le_trans g12 g12', s12⟩, ⟨g13, Nat.le_trans g13 g13', s13⟩, ⟨g14, Nat.le_trans g14 g14', s14⟩, ⟨g15, Nat.le_trans g15 g15', s15⟩, ⟨g16, Nat.le_trans g16 g16', s16⟩, ⟨g17, Nat.le_trans g17 g17', s17⟩, r20, r21⟩

end Go.Proofs.YtglplgbhhnmgbaaGreat
