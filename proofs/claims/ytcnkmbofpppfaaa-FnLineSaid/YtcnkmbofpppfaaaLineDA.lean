/- What DrawLineOrder draws. No condition but the code's length. -/
import Derived.Test.YtcnkmbofpppfaaaLineD
namespace Go.Proofs.Ytcnkmbofpppfaaa
open Go.RowKit Go.Deep
set_option linter.unusedSimpArgs false
set_option linter.unusedVariables false

theorem call_get {l : List Call} {k f : Nat} (hk : k < l.length) (hf : f < 5) : ∃ v : Int, (l.flatMap Call.cells)[k * 5 + f]? = some (.int .i64 v) := by
  have hx := List.getElem?_eq_getElem hk
  generalize l[k] = x at hx
  obtain ⟨v, hv⟩ : ∃ v : Int, (Call.cells x)[f]? = some (.int .i64 v) := by
    obtain ⟨a, b, c, d, e⟩ := x
    match f, hf with
    | 0, _ => exact ⟨a, rfl⟩
    | 1, _ => exact ⟨b, rfl⟩
    | 2, _ => exact ⟨c, rfl⟩
    | 3, _ => exact ⟨d, rfl⟩
    | 4, _ => exact ⟨e, rfl⟩
  exact ⟨v, (flat_get Call.cells_length l k f x hx hf).trans hv⟩
theorem call_first {l : List Call} (hk : 0 < l.length) : ∃ a b c d e : Int, ∀ k, k < [Value.int .i64 a, .int .i64 b, .int .i64 c, .int .i64 d, .int .i64 e].length → (l.flatMap Call.cells)[0 + k]? = [Value.int .i64 a, .int .i64 b, .int .i64 c, .int .i64 d, .int .i64 e][k]? := by
  cases l with
  | nil => simp at hk
  | cons x l =>
    refine ⟨x.from_, x.to_, x.kind, x.arg, x.ret, fun k hk => ?_⟩
    rw [Nat.zero_add, List.flatMap_cons]
    have : Call.cells x = [Value.int .i64 x.from_, .int .i64 x.to_, .int .i64 x.kind, .int .i64 x.arg, .int .i64 x.ret] := rfl
    rw [this, List.getElem?_append_left hk]

set_option maxRecDepth 4000 in
set_option maxHeartbeats 16000000 in
theorem l20Any_any {b w : World} {g : Nat} {A : Option Addr} {n c : Nat} {bs : List UInt8} {fr : List Res} (C0 : CurM b w g A n c bs fr) (hn : n ≤ 1048576) :
    Calls Try.prog 51 #[.pointer (some ⟨g, 0, none⟩)] w fun e w' => ∃ (V : Int) (B : Option Addr) (m d : Nat), e = .returned (.tuple #[.int .i64 V, .slice B m d]) ∧ m ≤ 8 ∧ CallsM b w' g A n c bs fr B m d := by
  have C := Lib.hid C0
  clear C0
  go_enter Try.func51, Try.ntmps51
  go_wp2_with fail
  refine (l20Some_any C.out hn).mono ?_
  rintro e w1 ⟨V, B, m, d, rfl, hm5, l, C1⟩
  replace C := Lib.hid C1
  clear C1
  by_cases hm0 : m = 0
  · subst hm0
    go_wp2_with fail
    refine (pick_m C.out hn [0, 65535, 65536, -1] (by simp) (by simp) _ rfl 4 rfl).mono ?_
    rintro e w2 ⟨⟨z, rfl, hz⟩, C1⟩
    replace C := Lib.hid C1
    clear C1 hz
    go_wp2
    go_ret2
    exact ⟨z, _, _, _, rfl, by omega, l, C.out⟩
  have b0 : ((m : Int) == 0) = false := by simp; omega
  have hmI : (0 : Int) < (m : Int) := by omega
  go_wp2_with fail
  refine (below_m C.out hn (m : Int) (by omega)).mono ?_
  rintro e w1 ⟨⟨k, rfl, hk⟩, C1⟩
  replace C := Lib.hid C1
  clear C1
  obtain ⟨U, rfl⟩ : ∃ U : Nat, k = (U : Int) := ⟨k.toNat, by omega⟩
  have hU : U < m := by omega
  have hUI : (U : Int) < (m : Int) := by omega
  clear hk
  go_wp2_with fail
  refine (below_m C.out hn 24 (by omega)).mono ?_
  rintro e w1 ⟨⟨y, rfl, hy⟩, C1⟩
  replace C := Lib.hid C1
  clear C1
  clear hy
  by_cases y0 : y = 0
  · subst y0
    obtain ⟨i1, q1, i10, i11, M1⟩ := C.out.st
    have SLC := Lib.hid C.out.sl
    have M := Lib.hid M1
    clear M1 C
    obtain ⟨gB, rfl⟩ := M.out.addr 1 rfl (by omega)
    have hl : l.length = m := by have h := M.out.len 1 rfl; rw [flat_length Call.cells_length] at h; omega
    obtain ⟨v, hv⟩ := call_get (l := l) (k := U) (f := 0) (by omega) (by omega)
    rw [Nat.add_zero] at hv
    obtain ⟨l2, hl2, -⟩ := call_set (l := l) (k := U) (f := 1) (by omega) (by omega) (wrap64 (v - 1))
    have HL2 := Lib.hid hl2
    clear hl2 hl b0
    go_wp2_with (first | ((with_reducible show wpList _ _ _ (⟨_, _, _, _, _, none⟩ :: _) _ _); first | (refine Mine.wp_getr M.out rfl _ _ rfl 1 _ rfl rfl _ (by assumption) _ (by first | exact Try.underlying3) (by rfl) ?_; (try simp only [Act.put, List.setIfInBounds_toArray, List.set_cons_zero, List.set_cons_succ, List.drop_succ_cons, List.drop_zero, List.take_succ_cons, List.take_zero, putAt, ints_set, ints_push, List.getElem_toArray, List.getElem_cons_zero, List.getElem_cons_succ])) | (refine Mine.wp_put M.out rfl _ _ _ rfl rfl 1 _ rfl rfl _ (by (conv => lhs; whnf) <;> rfl) (by omega) (by rfl) (by kernel_rfl) ?_; intro w' M'; (try simp only [Act.put, List.setIfInBounds_toArray, List.set_cons_zero, List.set_cons_succ, List.drop_succ_cons, List.drop_zero, List.take_succ_cons, List.take_zero, putAt, ints_set, ints_push, List.getElem_toArray, List.getElem_cons_zero, List.getElem_cons_succ] at M'); replace M := Lib.hid M'; clear M')))
    rw [HL2.out] at M
    go_ret2
    exact ⟨V, _, _, _, rfl, by omega, l2, ⟨⟨i1, q1, i10, i11, M.out⟩, SLC.out⟩⟩
  have c0 : (y == 0) = false := by simpa using y0
  by_cases y1 : y = 1
  · subst y1
    go_wp2_with fail
    refine (pick_m C.out hn [0, 5] (by simp) (by simp) _ rfl 2 rfl).mono ?_
    rintro e w2 ⟨⟨z, rfl, hz⟩, C1⟩
    replace C := Lib.hid C1
    clear C1 hz
    obtain ⟨i1, q1, i10, i11, M1⟩ := C.out.st
    have SLC := Lib.hid C.out.sl
    have M := Lib.hid M1
    clear M1 C
    obtain ⟨gB, rfl⟩ := M.out.addr 1 rfl (by omega)
    have hl : l.length = m := by have h := M.out.len 1 rfl; rw [flat_length Call.cells_length] at h; omega
    obtain ⟨l2, hl2, -⟩ := call_set (l := l) (k := U) (f := 2) (by omega) (by omega) z
    have HL2 := Lib.hid hl2
    clear hl2 hl b0 c0
    go_wp2_with (first | ((with_reducible show wpList _ _ _ (⟨_, _, _, _, _, none⟩ :: _) _ _); first | (refine Mine.wp_put M.out rfl _ _ _ rfl rfl 1 _ rfl rfl _ (by (conv => lhs; whnf) <;> rfl) (by omega) (by rfl) (by kernel_rfl) ?_; intro w' M'; (try simp only [Act.put, List.setIfInBounds_toArray, List.set_cons_zero, List.set_cons_succ, List.drop_succ_cons, List.drop_zero, List.take_succ_cons, List.take_zero, putAt, ints_set, ints_push, List.getElem_toArray, List.getElem_cons_zero, List.getElem_cons_succ] at M'); replace M := Lib.hid M'; clear M')))
    rw [HL2.out] at M
    go_ret2
    exact ⟨V, _, _, _, rfl, by omega, l2, ⟨⟨i1, q1, i10, i11, M.out⟩, SLC.out⟩⟩
  have c1 : (y == 1) = false := by simpa using y1
  by_cases y2 : y = 2
  · subst y2
    obtain ⟨i1, q1, i10, i11, M1⟩ := C.out.st
    have SLC := Lib.hid C.out.sl
    have M := Lib.hid M1
    clear M1 C
    obtain ⟨gB, rfl⟩ := M.out.addr 1 rfl (by omega)
    have hl : l.length = m := by have h := M.out.len 1 rfl; rw [flat_length Call.cells_length] at h; omega
    obtain ⟨l2, hl2, -⟩ := call_set (l := l) (k := U) (f := 1) (by omega) (by omega) 1001
    have HL2 := Lib.hid hl2
    clear hl2 hl b0 c0 c1
    go_wp2_with (first | ((with_reducible show wpList _ _ _ (⟨_, _, _, _, _, none⟩ :: _) _ _); first | (refine Mine.wp_put M.out rfl _ _ _ rfl rfl 1 _ rfl rfl _ (by (conv => lhs; whnf) <;> rfl) (by omega) (by rfl) (by kernel_rfl) ?_; intro w' M'; (try simp only [Act.put, List.setIfInBounds_toArray, List.set_cons_zero, List.set_cons_succ, List.drop_succ_cons, List.drop_zero, List.take_succ_cons, List.take_zero, putAt, ints_set, ints_push, List.getElem_toArray, List.getElem_cons_zero, List.getElem_cons_succ] at M'); replace M := Lib.hid M'; clear M')))
    rw [HL2.out] at M
    go_ret2
    exact ⟨V, _, _, _, rfl, by omega, l2, ⟨⟨i1, q1, i10, i11, M.out⟩, SLC.out⟩⟩
  have c2 : (y == 2) = false := by simpa using y2
  by_cases y3 : y = 3
  rotate_left
  · have c3 : (y == 3) = false := by simpa using y3
    by_cases y4 : y = 4
    · subst y4
      go_wp2
      go_ret2
      exact ⟨65536, _, _, _, rfl, by omega, l, C.out⟩
    have c4 : (y == 4) = false := by simpa using y4
    go_wp2
    go_ret2
    exact ⟨V, _, _, _, rfl, by omega, l, C.out⟩
  subst y3
  clear c0 c1 c2 b0
  go_wp2
  go_loopw [5] (fun u wr => ∃ (m : Nat) (B : Option Addr) (d : Nat), 0 < m ∧ m ≤ 8 ∧ u = .slice B m d ∧ Hid (CallsM b wr g A n c bs fr B m d)) (fun u _ => 8 - lenOfS u)
  case atStart => exact ⟨m, B, d, by omega, by omega, rfl, l, C.out⟩
  case round =>
    clear C hU hUI hmI hm0 hm5
    obtain ⟨m, B, d, hm0, hm8, rfl, HA⟩ := hrel
    obtain ⟨l, C1⟩ := HA.out
    have C := Lib.hid C1
    clear C1 HA
    by_cases hlt : (m : Int) < 8
    rotate_left
    · go_wp2
      go_ret2
      exact ⟨V, _, _, _, rfl, hm8, l, C.out⟩
    obtain ⟨i1, q1, i10, i11, M1⟩ := C.out.st
    have SLC := Lib.hid C.out.sl
    have M := Lib.hid M1
    clear M1 C
    obtain ⟨gB, rfl⟩ := M.out.addr 1 rfl (by omega)
    have hl : l.length = m := by have h := M.out.len 1 rfl; rw [flat_length Call.cells_length] at h; omega
    have hlt0 : (0 : Int) < (m : Int) := by omega
    have HLT : Hid (m < 8) := by show _ < _; omega
    obtain ⟨x0, x1, x2, x3, x4, hf⟩ := call_first (l := l) (by omega)
    have HF := Lib.hid hf
    clear hf hl
    go_wp2_with (first | (at_builtin; refine Mine.wp_push M.out rfl _ _ 32 rfl 26 _ _ _ Try.underlying32 Try.infoCall rfl (by omega) 1 rfl rfl _ _ rfl rfl rfl (by simp [Value.oneCell']) (by omega) (by unfold maxLen; omega) ?_; intro A2 c2 w' M'; (try simp only [Act.put, List.setIfInBounds_toArray, List.set_cons_zero, List.set_cons_succ, List.drop_succ_cons, List.drop_zero, List.take_succ_cons, List.take_zero, putAt, ints_set, ints_push, List.getElem_toArray, List.getElem_cons_zero, List.getElem_cons_succ] at M'); replace M := Lib.hid M'; clear M') | ((with_reducible show wpList _ _ _ (⟨_, _, _, _, _, none⟩ :: _) _ _); first | (refine Mine.wp_getrs M.out rfl 26 _ rfl 1 _ rfl rfl _ HF.out _ Try.underlying26 (by rfl) (by kernel_rfl) ?_; (try simp only [Act.put, List.setIfInBounds_toArray, List.set_cons_zero, List.set_cons_succ, List.drop_succ_cons, List.drop_zero, List.take_succ_cons, List.take_zero, putAt, ints_set, ints_push, List.getElem_toArray, List.getElem_cons_zero, List.getElem_cons_succ]))))
    rw [calls_push] at M
    go_roundw
    case rel => exact ⟨_, _, _, by omega, by have := HLT.out; omega, rfl, _, ⟨⟨i1, q1, i10, i11, M.out⟩, SLC.out⟩⟩
    case measure => have := HLT.out; simp [lenOfS]; omega

set_option maxHeartbeats 2000000 in
theorem DrawLineOrder_any {A : Option Addr} {n c : Nat} {bs : List UInt8} (w : World) (hs : Sl w (fun j => j < w.heap.size) 1 A n (charsD bs)) (hn : n ≤ 1048576) :
    Calls Try.prog 32 #[.slice A n c] w fun e w' => ∃ (V : Int) (B : Option Addr) (m d : Nat) (l : List Call), e = .returned (.tuple #[.int .i64 V, .slice B m d]) ∧ m ≤ 8 ∧ Mine w w' [.row 26 5 B m d (l.flatMap Call.cells)] := by
  have HS := Lib.hid hs
  clear hs
  go_enter Try.func32, Try.ntmps32
  go_wp2_with fail
  refine (new_m w HS.out hn).mono ?_
  rintro e w1 ⟨g, rfl, C1⟩
  have C := Lib.hid C1
  clear C1
  go_wp2_with fail
  refine (l20Any_any C.out hn).mono ?_
  rintro e w2 ⟨V, B, m, d, rfl, hm, l, C1⟩
  have C2 := Lib.hid C1
  clear C1 C
  go_wp2
  go_ret2
  exact ⟨V, B, m, d, l, rfl, hm, C2.out.fr⟩
end Go.Proofs.Ytcnkmbofpppfaaa
