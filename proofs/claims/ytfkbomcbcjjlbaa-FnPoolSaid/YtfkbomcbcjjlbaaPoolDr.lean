/- What DrawPoolDrain draws: some parents, some number, some picks. No condition but the code's length. -/
import Derived.Test.YtfkbomcbcjjlbaaDrawM
import Derived.Test.YtfkbomcbcjjlbaaPoolQ
namespace Go.Proofs.Ytfkbomcbcjjlbaa
open Go.RowKit Go.Deep
set_option linter.unusedSimpArgs false
set_option linter.unusedVariables false

theorem own_emptyK (w : World) : (w.alloc (.cells #[] 64)).ownsRow w.heap.size 64 2 (.slice (some ⟨w.heap.size, 0, none⟩) 0 0) 0 (([] : List Pick).flatMap Pick.cells) :=
  World.ownsRow_lit w #[] 0 (Nat.le_refl _) (Nat.zero_le _) (by simp)
theorem own_emptyI (w : World) : (w.alloc (.cells #[] 3)).ownsRow w.heap.size 3 1 (.slice (some ⟨w.heap.size, 0, none⟩) 0 0) 0 (ints []) :=
  World.ownsRow_lit w #[] 0 (Nat.le_refl _) (Nat.zero_le _) (by simp [ints])
theorem picks_push (l : List Pick) (a v : Int) : l.flatMap Pick.cells ++ [.int .i64 a, .int .i64 v] = (l ++ [(⟨a, v⟩ : Pick)]).flatMap Pick.cells := by simp [Pick.cells]
theorem picks_push3 (l : List Pick) (a b c d e f : Int) : l.flatMap Pick.cells ++ [.int .i64 a, .int .i64 b, .int .i64 c, .int .i64 d, .int .i64 e, .int .i64 f] = (l ++ [(⟨a, b⟩ : Pick), ⟨c, d⟩, ⟨e, f⟩]).flatMap Pick.cells := by simp [Pick.cells]
/-- The numbers drawn so far; the picks drawn so far. -/
def NumM (b w : World) (g : Nat) (A : Option Addr) (n c : Nat) (bs : List UInt8) (fr : List Res) (B : Option Addr) (m d : Nat) : Prop := ∃ l : List Int, CurM b w g A n c bs (.row 3 1 B m d (ints l) :: fr)
def PksM (b w : World) (g : Nat) (A : Option Addr) (n c : Nat) (bs : List UInt8) (fr : List Res) (B : Option Addr) (m d : Nat) : Prop := ∃ l : List Pick, CurM b w g A n c bs (.row 64 2 B m d (l.flatMap Pick.cells) :: fr)
def lenOfS : Value → Nat
  | .slice _ n _ => n
  | _ => 0

set_option maxRecDepth 4000 in
set_option maxHeartbeats 8000000 in
theorem l22Parents_any {b w : World} {g : Nat} {A : Option Addr} {n c : Nat} {bs : List UInt8} {fr : List Res} (C0 : CurM b w g A n c bs fr) (hn : n ≤ 1048576) :
    Calls Try.prog 64 #[.pointer (some ⟨g, 0, none⟩)] w fun e w' => ∃ B m d, e = .returned (.slice B m d) ∧ m ≤ 20 ∧ NumM b w' g A n c bs fr B m d := by
  have C := Lib.hid (C0.row ((Ext.refl' _).al _) (own_emptyI w))
  clear C0
  go_enter Try.func64, Try.ntmps64
  go_wp2_with fail
  refine (below_m C.out hn 10 (by omega)).mono ?_
  rintro e w1 ⟨⟨x0, rfl, hx0⟩, C1⟩
  replace C := Lib.hid C1
  clear C1
  have hx0b : x0 ≤ 9 := by omega
  have hx0a : 0 ≤ x0 := hx0.1
  clear hx0
  go_wp2
  go_loopw [3, 4] (fun u i wr => ∃ (B : Option Addr) (m d : Nat) (j : Int), u = .slice B m d ∧ i = .int .i64 j ∧ 0 ≤ j ∧ (m : Int) + j ≤ 9 ∧ Hid (NumM b wr g A n c bs fr B m d)) (fun _ i _ => (intOf i).toNat)
  case atStart => exact ⟨_, 0, 0, x0, rfl, rfl, hx0a, by omega, ⟨[], C.out⟩⟩
  case round =>
    obtain ⟨B, m, d, j, rfl, rfl, hj0, hjm, HA⟩ := hrel
    clear C
    obtain ⟨l, C1⟩ := HA.out
    have C := Lib.hid C1
    clear C1 HA
    by_cases hj : (0 : Int) < j
    rotate_left
    · go_wp2_with fail
      refine (once_m C.out hn 20 (by omega)).mono ?_
      rintro e w1 ⟨⟨b0, rfl⟩, C1⟩
      replace C := Lib.hid C1
      clear C1
      have hm9 : m ≤ 9 := by omega
      clear hjm hj hj0
      cases b0
      · go_wp2
        go_ret
        exact ⟨_, _, _, rfl, by omega, l, C.out⟩
      go_wp2
      go_loopw [3] (fun u wr => ∃ (B : Option Addr) (m d : Nat), u = .slice B m d ∧ m ≤ 20 ∧ Hid (NumM b wr g A n c bs fr B m d)) (fun u _ => 20 - lenOfS u)
      case atStart => exact ⟨_, m, _, rfl, by omega, ⟨l, C.out⟩⟩
      case round =>
        clear C hm9
        obtain ⟨B, m, d, rfl, hm, HA⟩ := hrel
        obtain ⟨l, C1⟩ := HA.out
        have C := Lib.hid C1
        clear C1 HA
        by_cases hlt : (m : Int) < 20
        rotate_left
        · go_wp2
          go_ret
          exact ⟨_, _, _, rfl, by omega, l, C.out⟩
        obtain ⟨i1, q1, i10, i11, M1⟩ := C.out.st
        have SLC := Lib.hid C.out.sl
        have M := Lib.hid M1
        clear M1 C
        have HLT : Hid (m < 20) := by show _ < _; omega
        go_wp2_with (first | (at_builtin; refine Mine.wp_push M.out rfl _ _ 22 rfl 3 _ _ _ Try.underlying22 Try.infoInt rfl (by omega) 1 rfl rfl _ _ rfl rfl rfl (by simp [Value.oneCell']) (by omega) (by unfold maxLen; omega) ?_; intro A2 c2 w' M'; (try simp only [Act.put, List.setIfInBounds_toArray, List.set_cons_zero, List.set_cons_succ, List.drop_succ_cons, List.drop_zero, List.take_succ_cons, List.take_zero, putAt, ints_set, ints_push, List.getElem_toArray, List.getElem_cons_zero, List.getElem_cons_succ] at M'); replace M := Lib.hid M'; clear M'))
        go_roundw
        case rel => exact ⟨_, _, _, rfl, by have := HLT.out; omega, _, ⟨⟨i1, q1, i10, i11, M.out⟩, SLC.out⟩⟩
        case measure => have := HLT.out; simp [lenOfS]; omega
    have hmb : m ≤ 9 := by omega
    have HJ : Hid (0 < j) := hj
    have HJM : Hid ((m : Int) + j ≤ 9) := hjm
    have hj9 : j ≤ 9 := by omega
    clear hjm hj0
    go_wp2_with fail
    refine (below_m C.out hn ((m : Int) + 1) (by omega)).mono ?_
    rintro e w1 ⟨⟨x1, rfl, hx1⟩, C1⟩
    replace C := Lib.hid C1
    clear C1
    have hx1a : 0 ≤ x1 ∧ x1 ≤ 20 := by omega
    clear hx1
    by_cases hx : x1 - 1 < 0
    rotate_left
    · have bx : decide (x1 - 1 < 0) = false := decide_eq_false hx
      obtain ⟨i1, q1, i10, i11, M1⟩ := C.out.st
      have SLC := Lib.hid C.out.sl
      have M := Lib.hid M1
      clear M1 C
      go_wp2_with (first | (at_builtin; refine Mine.wp_push M.out rfl _ _ 22 rfl 3 _ _ _ Try.underlying22 Try.infoInt rfl (by omega) 1 rfl rfl _ _ rfl rfl rfl (by simp [Value.oneCell']) (by omega) (by unfold maxLen; omega) ?_; intro A2 c2 w' M'; (try simp only [Act.put, List.setIfInBounds_toArray, List.set_cons_zero, List.set_cons_succ, List.drop_succ_cons, List.drop_zero, List.take_succ_cons, List.take_zero, putAt, ints_set, ints_push, List.getElem_toArray, List.getElem_cons_zero, List.getElem_cons_succ] at M'); replace M := Lib.hid M'; clear M'))
      go_roundw
      case rel => exact ⟨_, _, _, _, rfl, by go_num, by have := HJ.out; omega, by have := HJM.out; omega, _, ⟨⟨i1, q1, i10, i11, M.out⟩, SLC.out⟩⟩
      case measure => have := HJ.out; simp [intOf]; omega
    have bx : decide (x1 - 1 < 0) = true := decide_eq_true hx
    go_wp2_with fail
    refine (once_m C.out hn 2 (by omega)).mono ?_
    rintro e w1 ⟨⟨b1, rfl⟩, C1⟩
    replace C := Lib.hid C1
    clear C1
    cases b1
    · skip
      obtain ⟨i1, q1, i10, i11, M1⟩ := C.out.st
      have SLC := Lib.hid C.out.sl
      have M := Lib.hid M1
      clear M1 C
      go_wp2_with (first | (at_builtin; refine Mine.wp_push M.out rfl _ _ 22 rfl 3 _ _ _ Try.underlying22 Try.infoInt rfl (by omega) 1 rfl rfl _ _ rfl rfl rfl (by simp [Value.oneCell']) (by omega) (by unfold maxLen; omega) ?_; intro A2 c2 w' M'; (try simp only [Act.put, List.setIfInBounds_toArray, List.set_cons_zero, List.set_cons_succ, List.drop_succ_cons, List.drop_zero, List.take_succ_cons, List.take_zero, putAt, ints_set, ints_push, List.getElem_toArray, List.getElem_cons_zero, List.getElem_cons_succ] at M'); replace M := Lib.hid M'; clear M'))
      go_roundw
      case rel => exact ⟨_, _, _, _, rfl, by go_num, by have := HJ.out; omega, by have := HJM.out; omega, _, ⟨⟨i1, q1, i10, i11, M.out⟩, SLC.out⟩⟩
      case measure => have := HJ.out; simp [intOf]; omega
    · skip
      obtain ⟨i1, q1, i10, i11, M1⟩ := C.out.st
      have SLC := Lib.hid C.out.sl
      have M := Lib.hid M1
      clear M1 C
      go_wp2_with (first | (at_builtin; refine Mine.wp_push M.out rfl _ _ 22 rfl 3 _ _ _ Try.underlying22 Try.infoInt rfl (by omega) 1 rfl rfl _ _ rfl rfl rfl (by simp [Value.oneCell']) (by omega) (by unfold maxLen; omega) ?_; intro A2 c2 w' M'; (try simp only [Act.put, List.setIfInBounds_toArray, List.set_cons_zero, List.set_cons_succ, List.drop_succ_cons, List.drop_zero, List.take_succ_cons, List.take_zero, putAt, ints_set, ints_push, List.getElem_toArray, List.getElem_cons_zero, List.getElem_cons_succ] at M'); replace M := Lib.hid M'; clear M'))
      go_roundw
      case rel => exact ⟨_, _, _, _, rfl, by go_num, by have := HJ.out; omega, by have := HJM.out; omega, _, ⟨⟨i1, q1, i10, i11, M.out⟩, SLC.out⟩⟩
      case measure => have := HJ.out; simp [intOf]; omega

set_option maxRecDepth 4000 in
set_option maxHeartbeats 8000000 in
theorem l22AnyParents_any {b w : World} {g : Nat} {A : Option Addr} {n c : Nat} {bs : List UInt8} {fr : List Res} (C0 : CurM b w g A n c bs fr) (hn : n ≤ 1048576) :
    Calls Try.prog 60 #[.pointer (some ⟨g, 0, none⟩)] w fun e w' => ∃ B m d, e = .returned (.slice B m d) ∧ m ≤ 21 ∧ NumM b w' g A n c bs fr B m d := by
  have C := Lib.hid C0
  clear C0
  go_enter Try.func60, Try.ntmps60
  go_wp2_with fail
  refine (l22Parents_any C.out hn).mono ?_
  rintro e w1 ⟨B, m, d, rfl, hm, l, C1⟩
  replace C := Lib.hid C1
  clear C1
  go_wp2_with fail
  refine (below_m C.out hn 20 (by omega)).mono ?_
  rintro e w1 ⟨⟨x, rfl, hx⟩, C1⟩
  replace C := Lib.hid C1
  clear C1
  clear hx
  by_cases x0 : x = 0
  · subst x0
    obtain ⟨i1, q1, i10, i11, M1⟩ := C.out.st
    have SLC := Lib.hid C.out.sl
    have M := Lib.hid M1
    clear M1 C
    go_wp2_with (first | (at_builtin; refine Mine.wp_push M.out rfl _ _ 22 rfl 3 _ _ _ Try.underlying22 Try.infoInt rfl (by omega) 1 rfl rfl _ _ rfl rfl rfl (by simp [Value.oneCell']) (by omega) (by unfold maxLen; omega) ?_; intro A2 c2 w' M'; (try simp only [Act.put, List.setIfInBounds_toArray, List.set_cons_zero, List.set_cons_succ, List.drop_succ_cons, List.drop_zero, List.take_succ_cons, List.take_zero, putAt, ints_set, ints_push, List.getElem_toArray, List.getElem_cons_zero, List.getElem_cons_succ] at M'); replace M := Lib.hid M'; clear M'))
    go_ret
    exact ⟨_, _, _, rfl, by omega, _, ⟨⟨i1, q1, i10, i11, M.out⟩, SLC.out⟩⟩
  have b0 : (x == 0) = false := by simpa using x0
  by_cases x1 : x = 1
  · subst x1
    obtain ⟨i1, q1, i10, i11, M1⟩ := C.out.st
    have SLC := Lib.hid C.out.sl
    have M := Lib.hid M1
    clear M1 C
    go_wp2_with (first | (at_builtin; refine Mine.wp_push M.out rfl _ _ 22 rfl 3 _ _ _ Try.underlying22 Try.infoInt rfl (by omega) 1 rfl rfl _ _ rfl rfl rfl (by simp [Value.oneCell']) (by omega) (by unfold maxLen; omega) ?_; intro A2 c2 w' M'; (try simp only [Act.put, List.setIfInBounds_toArray, List.set_cons_zero, List.set_cons_succ, List.drop_succ_cons, List.drop_zero, List.take_succ_cons, List.take_zero, putAt, ints_set, ints_push, List.getElem_toArray, List.getElem_cons_zero, List.getElem_cons_succ] at M'); replace M := Lib.hid M'; clear M'))
    go_ret
    exact ⟨_, _, _, rfl, by omega, _, ⟨⟨i1, q1, i10, i11, M.out⟩, SLC.out⟩⟩
  have b1 : (x == 1) = false := by simpa using x1
  by_cases x2 : x = 2
  rotate_left
  · have b2 : (x == 2) = false := by simpa using x2
    go_wp2
    go_ret
    exact ⟨_, _, _, rfl, by omega, l, C.out⟩
  subst x2
  go_wp2
  go_loopw [3] (fun u wr => ∃ (B : Option Addr) (m d : Nat), u = .slice B m d ∧ m ≤ 21 ∧ Hid (NumM b wr g A n c bs fr B m d)) (fun u _ => 21 - lenOfS u)
  case atStart => exact ⟨_, m, _, rfl, by omega, ⟨l, C.out⟩⟩
  case round =>
    clear C hm
    obtain ⟨B, m, d, rfl, hm, HA⟩ := hrel
    obtain ⟨l, C1⟩ := HA.out
    have C := Lib.hid C1
    clear C1 HA
    by_cases hlt : (m : Int) < 21
    rotate_left
    · go_wp2
      go_ret
      exact ⟨_, _, _, rfl, by omega, l, C.out⟩
    obtain ⟨i1, q1, i10, i11, M1⟩ := C.out.st
    have SLC := Lib.hid C.out.sl
    have M := Lib.hid M1
    clear M1 C
    have HLT : Hid (m < 21) := by show _ < _; omega
    go_wp2_with (first | (at_builtin; refine Mine.wp_push M.out rfl _ _ 22 rfl 3 _ _ _ Try.underlying22 Try.infoInt rfl (by omega) 1 rfl rfl _ _ rfl rfl rfl (by simp [Value.oneCell']) (by omega) (by unfold maxLen; omega) ?_; intro A2 c2 w' M'; (try simp only [Act.put, List.setIfInBounds_toArray, List.set_cons_zero, List.set_cons_succ, List.drop_succ_cons, List.drop_zero, List.take_succ_cons, List.take_zero, putAt, ints_set, ints_push, List.getElem_toArray, List.getElem_cons_zero, List.getElem_cons_succ] at M'); replace M := Lib.hid M'; clear M'))
    go_roundw
    case rel => exact ⟨_, _, _, rfl, by have := HLT.out; omega, _, ⟨⟨i1, q1, i10, i11, M.out⟩, SLC.out⟩⟩
    case measure => have := HLT.out; simp [lenOfS]; omega

set_option maxRecDepth 4000 in
set_option maxHeartbeats 8000000 in
theorem l22Picks_any {b w : World} {g : Nat} {A : Option Addr} {n c : Nat} {bs : List UInt8} {fr : List Res} (C0 : CurM b w g A n c bs fr) (hn : n ≤ 1048576) (W most : Int) (hW : 0 ≤ W ∧ W ≤ 4) (hmo : 0 ≤ most ∧ most ≤ 200) :
    Calls Try.prog 62 #[.pointer (some ⟨g, 0, none⟩), .int .i64 W, .int .i64 most] w fun e w' => ∃ B m d, e = .returned (.slice B m d) ∧ m ≤ 203 ∧ PksM b w' g A n c bs fr B m d := by
  have C := Lib.hid (C0.row ((Ext.refl' _).al _) (own_emptyK w))
  clear C0
  obtain ⟨hW0, hW4⟩ := hW
  obtain ⟨hmo0, hmo1⟩ := hmo
  go_enter Try.func62, Try.ntmps62
  go_wp2_with fail
  refine (below_m C.out hn (most + 1) (by omega)).mono ?_
  rintro e w1 ⟨⟨x0, rfl, hx0⟩, C1⟩
  replace C := Lib.hid C1
  clear C1
  have hx0b : x0 ≤ 200 := by omega
  have hx0a : 0 ≤ x0 := hx0.1
  clear hx0
  go_wp2
  go_loopw [7, 8] (fun u i wr => ∃ (B : Option Addr) (m d : Nat) (j : Int), u = .slice B m d ∧ i = .int .i64 j ∧ 0 ≤ j ∧ (m : Int) + j ≤ 200 ∧ Hid (PksM b wr g A n c bs fr B m d)) (fun _ i _ => (intOf i).toNat)
  case atStart => exact ⟨_, 0, 0, x0, rfl, rfl, hx0a, by omega, ⟨[], C.out⟩⟩
  case round =>
    obtain ⟨B, m, d, j, rfl, rfl, hj0, hjm, HA⟩ := hrel
    clear C
    obtain ⟨l, C1⟩ := HA.out
    have C := Lib.hid C1
    clear C1 HA
    by_cases hj : (0 : Int) < j
    rotate_left
    · go_wp2_with fail
      refine (once_m C.out hn 20 (by omega)).mono ?_
      rintro e w1 ⟨⟨b0, rfl⟩, C1⟩
      replace C := Lib.hid C1
      clear C1
      have hm9 : m ≤ 200 := by omega
      clear hjm hj hj0
      cases b0
      · go_wp2
        go_ret
        exact ⟨_, _, _, rfl, by omega, l, C.out⟩
      obtain ⟨i1, q1, i10, i11, M1⟩ := C.out.st
      have SLC := Lib.hid C.out.sl
      have M := Lib.hid M1
      clear M1 C
      go_wp2_with (first | (at_builtin; refine Mine.wp_pushq M.out rfl _ _ 43 rfl 64 _ _ _ Try.underlying43 Try.infoPick rfl (by omega) 1 rfl rfl 3 (by omega) _ _ rfl rfl rfl (by simp [Value.oneCell']) (by omega) (by unfold maxLen; omega) ?_; intro A2 c2 w' M'; replace M := Lib.hid M'; clear M'))
      simp only [List.set_cons_succ, List.set_cons_zero] at M
      rw [picks_push3] at M
      go_ret
      exact ⟨_, _, _, rfl, by omega, _, ⟨⟨i1, q1, i10, i11, M.out⟩, SLC.out⟩⟩
    have hmb : m ≤ 200 := by omega
    have HJ : Hid (0 < j) := hj
    have HJM : Hid ((m : Int) + j ≤ 200) := hjm
    have hj9 : j ≤ 200 := by omega
    clear hjm hj0
    go_wp2_with fail
    refine (below_m C.out hn W (by omega)).mono ?_
    rintro e w1 ⟨⟨x1, rfl, hx1⟩, C1⟩
    replace C := Lib.hid C1
    clear C1
    clear hx1
    go_wp2_with fail
    refine (below_m C.out hn (W + 1) (by omega)).mono ?_
    rintro e w1 ⟨⟨x2, rfl, hx2⟩, C1⟩
    replace C := Lib.hid C1
    clear C1
    clear hx2
    obtain ⟨i1, q1, i10, i11, M1⟩ := C.out.st
    have SLC := Lib.hid C.out.sl
    have M := Lib.hid M1
    clear M1 C
    go_wp2_with (first | (at_builtin; refine Mine.wp_push M.out rfl _ _ 43 rfl 64 _ _ _ Try.underlying43 Try.infoPick rfl (by omega) 1 rfl rfl _ _ rfl rfl rfl (by simp [Value.oneCell']) (by omega) (by unfold maxLen; omega) ?_; intro A2 c2 w' M'; (try simp only [Act.put, List.setIfInBounds_toArray, List.set_cons_zero, List.set_cons_succ, List.drop_succ_cons, List.drop_zero, List.take_succ_cons, List.take_zero, putAt, ints_set, ints_push, List.getElem_toArray, List.getElem_cons_zero, List.getElem_cons_succ] at M'); replace M := Lib.hid M'; clear M'))
    rw [picks_push] at M
    go_roundw
    case rel => exact ⟨_, _, _, _, rfl, by go_num, by have := HJ.out; omega, by have := HJM.out; omega, _, ⟨⟨i1, q1, i10, i11, M.out⟩, SLC.out⟩⟩
    case measure => have := HJ.out; simp [intOf]; omega

set_option maxRecDepth 4000 in
set_option maxHeartbeats 8000000 in
theorem l22All_any {b w : World} {g : Nat} {A : Option Addr} {n c : Nat} {bs : List UInt8} {fr : List Res} (C0 : CurM b w g A n c bs fr) (hn : n ≤ 1048576) :
    Calls Try.prog 51 #[.pointer (some ⟨g, 0, none⟩)] w fun e w' => ∃ (B1 : Option Addr) (m1 d1 : Nat) (N : Int) (B2 : Option Addr) (m2 d2 : Nat) (l1 : List Int) (l2 : List Pick), e = .returned (.tuple #[.slice B1 m1 d1, .int .i64 N, .slice B2 m2 d2]) ∧ m1 ≤ 21 ∧ m2 ≤ 302 ∧ CurM b w' g A n c bs (.row 64 2 B2 m2 d2 (l2.flatMap Pick.cells) :: .row 3 1 B1 m1 d1 (ints l1) :: fr) := by
  have C := Lib.hid C0
  clear C0
  go_enter Try.func51, Try.ntmps51
  go_wp2_with fail
  refine (l22AnyParents_any C.out hn).mono ?_
  rintro e w1 ⟨B1, m1, d1, rfl, hm1, l1, C1⟩
  replace C := Lib.hid C1
  clear C1
  go_wp2_with fail
  refine (below_m C.out hn 4 (by omega)).mono ?_
  rintro e w1 ⟨⟨x, rfl, hx⟩, C1⟩
  replace C := Lib.hid C1
  clear C1
  have hW : 0 ≤ 1 + x ∧ 1 + x ≤ 4 := by omega
  have hx4 : 0 ≤ x ∧ x ≤ 3 := by omega
  clear hx
  go_wp2_with fail
  refine (l22Picks_any C.out hn (1 + x) 50 hW (by omega)).mono ?_
  rintro e w1 ⟨B2, m2, d2, rfl, hm2, l2, C1⟩
  replace C := Lib.hid C1
  clear C1 hW
  go_wp2_with fail
  refine (below_m C.out hn 24 (by omega)).mono ?_
  rintro e w1 ⟨⟨y, rfl, hy⟩, C1⟩
  replace C := Lib.hid C1
  clear C1
  clear hy
  by_cases y0 : y = 0
  · subst y0
    go_wp2_with fail
    refine (pick_m C.out hn [0, 5, -1] (by simp) (by simp) _ rfl 3 rfl).mono ?_
    rintro e w2 ⟨⟨z, rfl, hz⟩, C1⟩
    replace C := Lib.hid C1
    clear C1 hz
    go_wp2
    go_ret3
    exact ⟨_, _, _, _, _, _, _, l1, l2, rfl, hm1, by omega, C.out⟩
  have b0 : (y == 0) = false := by simpa using y0
  by_cases y1 : y = 1
  rotate_left
  · have b1 : (y == 1) = false := by simpa using y1
    go_wp2
    go_ret3
    exact ⟨_, _, _, _, _, _, _, l1, l2, rfl, hm1, by omega, C.out⟩
  subst y1
  go_wp2
  go_loopw [7] (fun u wr => ∃ (m : Nat) (B : Option Addr) (d : Nat), m ≤ 301 ∧ u = .slice B m d ∧ Hid (PksM b wr g A n c bs (.row 3 1 B1 m1 d1 (ints l1) :: fr) B m d)) (fun u _ => 302 - lenOfS u)
  case atStart => exact ⟨m2, B2, d2, by omega, rfl, l2, C.out⟩
  case round =>
    clear C
    obtain ⟨m, B, d, hm, rfl, HA⟩ := hrel
    obtain ⟨l, C1⟩ := HA.out
    have C := Lib.hid C1
    clear C1 HA
    go_wp2_with fail
    refine (below_m C.out hn 2 (by omega)).mono ?_
    rintro e w1 ⟨⟨y, rfl, hy⟩, C1⟩
    replace C := Lib.hid C1
    clear C1
    have hy1 : 0 ≤ y ∧ y ≤ 1 := by omega
    clear hy
    by_cases hmy : (m : Int) < 300 + y
    rotate_left
    · go_wp2
      go_ret3
      exact ⟨_, _, _, _, _, _, _, l1, l, rfl, hm1, by omega, C.out⟩
    obtain ⟨i1, q1, i10, i11, M1⟩ := C.out.st
    have SLC := Lib.hid C.out.sl
    have M := Lib.hid M1
    clear M1 C
    have hm300 : m ≤ 300 := by omega
    have HM3 := Lib.hid hm300
    go_wp2_with (first | (at_builtin; refine Mine.wp_push M.out rfl _ _ 43 rfl 64 _ _ _ Try.underlying43 Try.infoPick rfl (by omega) 1 rfl rfl _ _ rfl rfl rfl (by simp [Value.oneCell']) (by omega) (by unfold maxLen; omega) ?_; intro A2 c2 w' M'; (try simp only [Act.put, List.setIfInBounds_toArray, List.set_cons_zero, List.set_cons_succ, List.drop_succ_cons, List.drop_zero, List.take_succ_cons, List.take_zero, putAt, ints_set, ints_push, List.getElem_toArray, List.getElem_cons_zero, List.getElem_cons_succ] at M'); replace M := Lib.hid M'; clear M'))
    rw [picks_push] at M
    go_roundw
    case rel => exact ⟨_, _, _, by have := HM3.out; omega, rfl, _, ⟨⟨i1, q1, i10, i11, M.out⟩, SLC.out⟩⟩
    case measure => have := HM3.out; simp [lenOfS]; omega

set_option maxHeartbeats 2000000 in
theorem DrawPoolDrain_any {A : Option Addr} {n c : Nat} {bs : List UInt8} (w : World) (hs : Sl w (fun j => j < w.heap.size) 1 A n (charsD bs)) (hn : n ≤ 1048576) :
    Calls Try.prog 33 #[.slice A n c] w fun e w' => ∃ (B1 : Option Addr) (m1 d1 : Nat) (N : Int) (B2 : Option Addr) (m2 d2 : Nat) (l1 : List Int) (l2 : List Pick), e = .returned (.tuple #[.slice B1 m1 d1, .int .i64 N, .slice B2 m2 d2]) ∧ m1 ≤ 21 ∧ m2 ≤ 302 ∧ Mine w w' [.row 64 2 B2 m2 d2 (l2.flatMap Pick.cells), .row 3 1 B1 m1 d1 (ints l1)] := by
  have HS := Lib.hid hs
  clear hs
  go_enter Try.func33, Try.ntmps33
  go_wp2_with fail
  refine (new_m w HS.out hn).mono ?_
  rintro e w1 ⟨g, rfl, C1⟩
  have C := Lib.hid C1
  clear C1
  go_wp2_with fail
  refine (l22All_any C.out hn).mono ?_
  rintro e w2 ⟨B1, m1, d1, N, B2, m2, d2, l1, l2, rfl, hm1, hm2, C1⟩
  have C2 := Lib.hid C1
  clear C1 C
  go_wp2
  go_ret3
  exact ⟨B1, m1, d1, N, B2, m2, d2, l1, l2, rfl, hm1, hm2, C2.out.fr⟩
end Go.Proofs.Ytfkbomcbcjjlbaa
