/- What DrawDqPlay draws: some number and some acts. No condition but the code's length. -/
import Derived.Test.YtkkcgpoakhllkaaDrawM
import Derived.Test.YtkkcgpoakhllkaaDequeT
namespace Go.Proofs.Ytkkcgpoakhllkaa
open Go.RowKit Go.Deep
set_option linter.unusedSimpArgs false
set_option linter.unusedVariables false

theorem Try.infoAct : (Try.prog.info? 60).map (fun i => (i.zero, i.size, i.bytes)) = some (some (.agg #[.int .i64 0, .int .i64 0]), 2, 16) := by kernel_rfl
theorem own_emptyA (w : World) : (w.alloc (.cells #[] 60)).ownsRow w.heap.size 60 2 (.slice (some ⟨w.heap.size, 0, none⟩) 0 0) 0 (([] : List DqAct).flatMap DqAct.cells) :=
  World.ownsRow_lit w #[] 0 (Nat.le_refl _) (Nat.zero_le _) (by simp)
theorem acts_push (l : List DqAct) (a v : Int) : l.flatMap DqAct.cells ++ [.int .i64 a, .int .i64 v] = (l ++ [(⟨a, v⟩ : DqAct)]).flatMap DqAct.cells := by simp [DqAct.cells]
theorem acts_push3 (l : List DqAct) (a b c d e f : Int) : l.flatMap DqAct.cells ++ [.int .i64 a, .int .i64 b, .int .i64 c, .int .i64 d, .int .i64 e, .int .i64 f] = (l ++ [(⟨a, b⟩ : DqAct), ⟨c, d⟩, ⟨e, f⟩]).flatMap DqAct.cells := by simp [DqAct.cells]
def lenOfA : Value → Nat
  | .slice _ n _ => n
  | _ => 0
/-- The acts drawn so far. -/
def ActsM (b w : World) (g : Nat) (A : Option Addr) (n c : Nat) (bs : List UInt8) (fr : List Res) (B : Option Addr) (m d : Nat) : Prop := ∃ l : List DqAct, CurM b w g A n c bs (.row 60 2 B m d (l.flatMap DqAct.cells) :: fr)

set_option maxRecDepth 4000 in
set_option maxHeartbeats 8000000 in
theorem l21Acts_any {b w : World} {g : Nat} {A : Option Addr} {n c : Nat} {bs : List UInt8} {fr : List Res} (C0 : CurM b w g A n c bs fr) (hn : n ≤ 1048576) (th most : Int) (hth : th ≤ 256) (hm0 : 0 ≤ most) (hm : most ≤ 255) :
    Calls Try.prog 66 #[.pointer (some ⟨g, 0, none⟩), .int .i64 th, .int .i64 most] w fun e w' => ∃ B m d, e = .returned (.slice B m d) ∧ (m : Int) ≤ 255 ∧ ActsM b w' g A n c bs fr B m d := by
  have C := Lib.hid (C0.row ((Ext.refl' _).al _) (own_emptyA w))
  clear C0
  go_enter Try.func66, Try.ntmps66
  go_wp2_with fail
  refine (below_m C.out hn (most + 1) (by omega)).mono ?_
  rintro e w1 ⟨⟨x0, rfl, hx0⟩, C1⟩
  replace C := Lib.hid C1
  clear C1
  have hx0b : x0 ≤ 255 := by omega
  have hx0a : 0 ≤ x0 := hx0.1
  clear hx0
  go_wp2
  go_loopw [7, 8, 9] (fun u kk i wr => ∃ (B : Option Addr) (m d : Nat) (K j : Int), u = .slice B m d ∧ kk = .int .i64 K ∧ i = .int .i64 j ∧ 0 ≤ j ∧ (m : Int) + j ≤ 255 ∧ Hid (ActsM b wr g A n c bs fr B m d)) (fun _ _ i _ => (intOf i).toNat)
  case atStart => exact ⟨_, 0, 0, 1, x0, rfl, rfl, rfl, hx0a, by omega, ⟨[], C.out⟩⟩
  case round =>
    obtain ⟨B, m, d, K, j, rfl, rfl, rfl, hj0, hjm, HA⟩ := hrel
    clear C
    by_cases hj : (0 : Int) < j
    rotate_left
    · go_wp2
      go_ret
      exact ⟨_, _, _, rfl, by omega, HA.out⟩
    obtain ⟨l, C1⟩ := HA.out
    have C := Lib.hid C1
    clear C1 HA
    go_wp2_with fail
    refine (once_m C.out hn 4 (by omega)).mono ?_
    rintro e w1 ⟨⟨b1, rfl⟩, C1⟩
    replace C := Lib.hid C1
    clear C1
    cases b1
    · go_wp2_with fail
      refine (once_m C.out hn 2 (by omega)).mono ?_
      rintro e w1 ⟨⟨b2, rfl⟩, C1⟩
      replace C := Lib.hid C1
      clear C1
      cases b2
      · skip
        obtain ⟨i1, q1, i10, i11, M1⟩ := C.out.st
        have SLC := Lib.hid C.out.sl
        have M := Lib.hid M1
        clear M1 C
        go_wp2_with (at_builtin; refine Mine.wp_push M.out rfl _ _ 25 rfl 60 _ _ _ Try.underlying25 Try.infoAct rfl (by omega) 1 rfl rfl _ _ rfl rfl rfl (by simp [Value.oneCell']) (by omega) (by unfold maxLen; omega) ?_; intro A2 c2 w' M'; (try simp only [Act.put, List.setIfInBounds_toArray, List.set_cons_zero, List.set_cons_succ, List.drop_succ_cons, List.drop_zero, List.take_succ_cons, List.take_zero, putAt, ints_set, ints_push] at M'); replace M := Lib.hid M'; clear M')
        rw [acts_push] at M
        go_roundw
        case rel => exact ⟨_, _, _, _, _, rfl, rfl, by go_num, by omega, by omega, _, ⟨⟨i1, q1, i10, i11, M.out⟩, SLC.out⟩⟩
        case measure => simp [intOf]; omega
      · skip
        go_wp2_with fail
        refine (below_m C.out hn th hth).mono ?_
        rintro e w1 ⟨⟨x2, rfl, hx2⟩, C1⟩
        replace C := Lib.hid C1
        clear C1
        clear hx2
        obtain ⟨i1, q1, i10, i11, M1⟩ := C.out.st
        have SLC := Lib.hid C.out.sl
        have M := Lib.hid M1
        clear M1 C
        go_wp2_with (at_builtin; refine Mine.wp_push M.out rfl _ _ 25 rfl 60 _ _ _ Try.underlying25 Try.infoAct rfl (by omega) 1 rfl rfl _ _ rfl rfl rfl (by simp [Value.oneCell']) (by omega) (by unfold maxLen; omega) ?_; intro A2 c2 w' M'; (try simp only [Act.put, List.setIfInBounds_toArray, List.set_cons_zero, List.set_cons_succ, List.drop_succ_cons, List.drop_zero, List.take_succ_cons, List.take_zero, putAt, ints_set, ints_push] at M'); replace M := Lib.hid M'; clear M')
        rw [acts_push] at M
        go_roundw
        case rel => exact ⟨_, _, _, _, _, rfl, rfl, by go_num, by omega, by omega, _, ⟨⟨i1, q1, i10, i11, M.out⟩, SLC.out⟩⟩
        case measure => simp [intOf]; omega
    · go_wp2_with fail
      refine (below_m C.out hn 2 (by omega)).mono ?_
      rintro e w1 ⟨⟨x1, rfl, hx1⟩, C1⟩
      replace C := Lib.hid C1
      clear C1
      go_wp2_with fail
      refine (once_m C.out hn 2 (by omega)).mono ?_
      rintro e w1 ⟨⟨b2, rfl⟩, C1⟩
      replace C := Lib.hid C1
      clear C1
      cases b2
      · skip
        obtain ⟨i1, q1, i10, i11, M1⟩ := C.out.st
        have SLC := Lib.hid C.out.sl
        have M := Lib.hid M1
        clear M1 C
        go_wp2_with (at_builtin; refine Mine.wp_push M.out rfl _ _ 25 rfl 60 _ _ _ Try.underlying25 Try.infoAct rfl (by omega) 1 rfl rfl _ _ rfl rfl rfl (by simp [Value.oneCell']) (by omega) (by unfold maxLen; omega) ?_; intro A2 c2 w' M'; (try simp only [Act.put, List.setIfInBounds_toArray, List.set_cons_zero, List.set_cons_succ, List.drop_succ_cons, List.drop_zero, List.take_succ_cons, List.take_zero, putAt, ints_set, ints_push] at M'); replace M := Lib.hid M'; clear M')
        rw [acts_push] at M
        go_roundw
        case rel => exact ⟨_, _, _, _, _, rfl, rfl, by go_num, by omega, by omega, _, ⟨⟨i1, q1, i10, i11, M.out⟩, SLC.out⟩⟩
        case measure => simp [intOf]; omega
      · skip
        go_wp2_with fail
        refine (below_m C.out hn th hth).mono ?_
        rintro e w1 ⟨⟨x2, rfl, hx2⟩, C1⟩
        replace C := Lib.hid C1
        clear C1
        clear hx2
        obtain ⟨i1, q1, i10, i11, M1⟩ := C.out.st
        have SLC := Lib.hid C.out.sl
        have M := Lib.hid M1
        clear M1 C
        go_wp2_with (at_builtin; refine Mine.wp_push M.out rfl _ _ 25 rfl 60 _ _ _ Try.underlying25 Try.infoAct rfl (by omega) 1 rfl rfl _ _ rfl rfl rfl (by simp [Value.oneCell']) (by omega) (by unfold maxLen; omega) ?_; intro A2 c2 w' M'; (try simp only [Act.put, List.setIfInBounds_toArray, List.set_cons_zero, List.set_cons_succ, List.drop_succ_cons, List.drop_zero, List.take_succ_cons, List.take_zero, putAt, ints_set, ints_push] at M'); replace M := Lib.hid M'; clear M')
        rw [acts_push] at M
        go_roundw
        case rel => exact ⟨_, _, _, _, _, rfl, rfl, by go_num, by omega, by omega, _, ⟨⟨i1, q1, i10, i11, M.out⟩, SLC.out⟩⟩
        case measure => simp [intOf]; omega

set_option maxRecDepth 4000 in
set_option maxHeartbeats 8000000 in
theorem l21Any_any {b w : World} {g : Nat} {A : Option Addr} {n c : Nat} {bs : List UInt8} {fr : List Res} (C0 : CurM b w g A n c bs fr) (hn : n ≤ 1048576) :
    Calls Try.prog 57 #[.pointer (some ⟨g, 0, none⟩)] w fun e w' => ∃ (N : Int) (B : Option Addr) (m d : Nat), e = .returned (.tuple #[.int .i64 N, .slice B m d]) ∧ m ≤ 310 ∧ ActsM b w' g A n c bs fr B m d := by
  have C := Lib.hid C0
  clear C0
  go_enter Try.func57, Try.ntmps57
  go_wp2_with fail
  refine (below_m C.out hn 4 (by omega)).mono ?_
  rintro e w1 ⟨⟨N, rfl, hN⟩, C1⟩
  replace C := Lib.hid C1
  clear C1
  have hN4 : 0 ≤ N ∧ N ≤ 3 := by omega
  clear hN
  go_wp2_with fail
  refine (l21Acts_any C.out hn N 120 (by omega) (by omega) (by omega)).mono ?_
  rintro e w1 ⟨B, m, d, rfl, hm, l, C1⟩
  replace C := Lib.hid C1
  clear C1
  have hm2 : (m : Int) ≤ 255 := hm
  clear hm
  go_wp2_with fail
  refine (below_m C.out hn 20 (by omega)).mono ?_
  rintro e w1 ⟨⟨x, rfl, hx⟩, C1⟩
  replace C := Lib.hid C1
  clear C1
  clear hx
  by_cases x0 : x = 0
  · subst x0
    go_wp2_with fail
    refine (pick_m C.out hn [-1, 4] (by simp) (by simp) _ rfl 2 rfl).mono ?_
    rintro e w2 ⟨⟨y, rfl, hy⟩, C1⟩
    replace C := Lib.hid C1
    clear C1 hy
    go_wp2
    go_ret2
    exact ⟨_, _, _, _, rfl, by omega, l, C.out⟩
  have b0 : (x == 0) = false := by simpa using x0
  by_cases x1 : x = 1
  · subst x1
    obtain ⟨i1, q1, i10, i11, M1⟩ := C.out.st
    have SLC := Lib.hid C.out.sl
    have M := Lib.hid M1
    clear M1 C
    go_wp2_with (at_builtin; refine Mine.wp_pushq M.out rfl _ _ 25 rfl 60 _ _ _ Try.underlying25 Try.infoAct rfl (by omega) 1 rfl rfl 3 (by omega) _ _ rfl rfl rfl (by simp [Value.oneCell']) (by omega) (by unfold maxLen; omega) ?_; intro A2 c2 w' M'; replace M := Lib.hid M'; clear M')
    simp only [List.set_cons_succ, List.set_cons_zero] at M
    rw [acts_push3] at M
    go_ret2
    exact ⟨_, _, _, _, rfl, by omega, _, ⟨⟨i1, q1, i10, i11, M.out⟩, SLC.out⟩⟩
  have b1 : (x == 1) = false := by simpa using x1
  by_cases x2 : x = 2
  rotate_left
  · have b2 : (x == 2) = false := by simpa using x2
    go_wp2
    go_ret2
    exact ⟨_, _, _, _, rfl, by omega, l, C.out⟩
  subst x2
  go_wp2
  go_loopw [5] (fun u wr => ∃ (m : Nat) (B : Option Addr) (d : Nat), m ≤ 301 ∧ u = .slice B m d ∧ Hid (ActsM b wr g A n c bs fr B m d)) (fun u _ => 302 - lenOfA u)
  case atStart => exact ⟨m, B, d, by omega, rfl, l, C.out⟩
  case round =>
    obtain ⟨m, B, d, hm, rfl, HA⟩ := hrel
    clear C
    obtain ⟨l, C1⟩ := HA.out
    have C := Lib.hid C1
    clear C1 HA
    go_wp2_with fail
    refine (below_m C.out hn 2 (by omega)).mono ?_
    rintro e w1 ⟨⟨y, rfl, hy⟩, C1⟩
    replace C := Lib.hid C1
    clear C1
    have hy1 : 0 ≤ y ∧ y ≤ 1 := by omega
    clear hy
    by_cases hmy : (m : Int) < 300 + y
    rotate_left
    · go_wp2
      go_ret2
      exact ⟨_, _, _, _, rfl, by omega, l, C.out⟩
    obtain ⟨i1, q1, i10, i11, M1⟩ := C.out.st
    have SLC := Lib.hid C.out.sl
    have M := Lib.hid M1
    clear M1 C
    have hm300 : m ≤ 300 := by omega
    have HM3 := Lib.hid hm300
    go_wp2_with (at_builtin; refine Mine.wp_push M.out rfl _ _ 25 rfl 60 _ _ _ Try.underlying25 Try.infoAct rfl (by omega) 1 rfl rfl _ _ rfl rfl rfl (by simp [Value.oneCell']) (by omega) (by unfold maxLen; omega) ?_; intro A2 c2 w' M'; (try simp only [Act.put, List.setIfInBounds_toArray, List.set_cons_zero, List.set_cons_succ, List.drop_succ_cons, List.drop_zero, List.take_succ_cons, List.take_zero, putAt, ints_set, ints_push] at M'); replace M := Lib.hid M'; clear M')
    rw [acts_push] at M
    go_roundw
    case rel => exact ⟨_, _, _, by have := HM3.out; omega, rfl, _, ⟨⟨i1, q1, i10, i11, M.out⟩, SLC.out⟩⟩
    case measure => have := HM3.out; simp [lenOfA]; omega

set_option maxHeartbeats 2000000 in
theorem DrawDqPlay_any {A : Option Addr} {n c : Nat} {bs : List UInt8} (w : World) (hs : Sl w (fun j => j < w.heap.size) 1 A n (charsD bs)) (hn : n ≤ 1048576) :
    Calls Try.prog 29 #[.slice A n c] w fun e w' => ∃ (N : Int) (B : Option Addr) (m d : Nat) (l : List DqAct), e = .returned (.tuple #[.int .i64 N, .slice B m d]) ∧ m ≤ 310 ∧ Mine w w' [.row 60 2 B m d (l.flatMap DqAct.cells)] := by
  have HS := Lib.hid hs
  clear hs
  go_enter Try.func29, Try.ntmps29
  go_wp2_with fail
  refine (new_m w HS.out hn).mono ?_
  rintro e w1 ⟨g, rfl, C1⟩
  have C := Lib.hid C1
  clear C1
  go_wp2_with fail
  refine (l21Any_any C.out hn).mono ?_
  rintro e w2 ⟨N, B, m, d, rfl, hm, l, C1⟩
  have C2 := Lib.hid C1
  clear C1 C
  go_wp2
  go_ret2
  exact ⟨N, B, m, d, l, rfl, hm, C2.out.fr⟩
end Go.Proofs.Ytkkcgpoakhllkaa
