/- l20From: the reference's search. No condition but sizes. -/
import Derived.Test.YtcnkmbofpppfaaaLineC
namespace Go.Proofs.Ytcnkmbofpppfaaa
open Go.RowKit Go.Deep
set_option linter.unusedSimpArgs false
set_option linter.unusedVariables false

theorem Mine.wp_pour {P : Program} {ops : Array Oper} {rest : List Oper} {o : Oper} {a : Act} {Q : Exit → Act → World → Prop} {b w : World} {rs : List Res} (M : Mine b w rs) (hgd : o.guard = none) (s x : Operand) (t : TypeId) (ho : o.op = .call { callee := .builtin .append, args := #[s, x], argTypes := #[t, t] })
    (e : TypeId) (z : Value) (size bytes : Nat) (ht : P.underlying t = some (.slice e)) (hf : (P.info? e).map (fun i => (i.zero, i.size, i.bytes)) = some (some z, size, bytes)) (hzs : z.cells.size = size) (hsz : 0 < size)
    (i : Nat) {A0 : Option Addr} {n0 c0 : Nat} {xs : List Value} (hi : rs[i]? = some (.row e size A0 n0 c0 xs)) (hs : a.eval s = .slice A0 n0 c0)
    (S : Nat → Prop) (A : Option Addr) (m c : Nat) (news : List Value) (hx : a.eval x = .slice A m c) (hr : Sl w S size A m news) (h1 : ∀ u ∈ news, u.oneCell' = true)
    (hbytes : (n0 + m) * bytes ≤ 140737488355328) (h63 : n0 + m ≤ maxLen)
    (h : ∀ A' c' w', Mine b w' (rs.set i (.row e size A' (n0 + m) c' (xs ++ news))) → wpList P ops Q rest (a.put o.dst (.slice A' (n0 + m) c')) w') : wpList P ops Q (o :: rest) a w :=
  wpList_plain hgd fun _ hK => by
  obtain ⟨i0, hf, hz0, hz1, hz2⟩ := info_parts hf
  obtain ⟨v', w', hrun, h2, h3, h5⟩ := run_pour (P := P) w b.heap.size t o.type e i0 z size bytes ht hf hz0 hz1 hz2 hzs hsz (.slice A0 n0 c0) n0 xs (M.row_at i hi) S A m c news hr h1 h63 hbytes M.size
  obtain ⟨A', c', rfl⟩ : ∃ A' c', v' = .slice A' (n0 + m) c' := by
    rcases h2.2 with ⟨hv, h0⟩ | ⟨g, cap, cur, hv, _⟩
    · exact ⟨none, 0, by rw [hv, h0]⟩
    · exact ⟨_, _, hv⟩
  unfold Oper.wp execOp
  simp [ho, resolve, invoke, builtin, hs, hx, hrun, Result.andThen]
  refine hK _ _ (h A' c' w' (M.swap hi ((Chg.refl _ w).grown h3 (fun k hk => .inl hk)) (fun g hg => hg) h2 fun g hg => ?_))
  rcases h5 with q | q
  · exact .inl (by show (Value.slice A0 n0 c0).ownBlock = some g; rw [← q]; exact hg)
  · right
    have hg' : (Value.slice A' (n0 + m) c').ownBlock = some g := hg
    rw [q] at hg'
    injection hg' with hg'
    omega

/-- Which of the first N numbers are among vs. -/
noncomputable def bitsOf (N : Nat) (vs : List Int) : List Value := (List.range N).map fun i : Nat => .bool (dec ((i : Int) ∈ vs))
theorem bits_get {N : Nat} {vs : List Int} {i : Nat} (h : i < N) : (bitsOf N vs)[i]? = some (.bool (dec ((i : Int) ∈ vs))) := by simp [bitsOf, h]
theorem bits_set {N : Nat} {vs : List Int} {V : Nat} (h : V < N) : (bitsOf N vs).set V (.bool true) = bitsOf N (vs ++ [(V : Int)]) := by
  apply List.ext_getElem?
  intro i
  rw [List.getElem?_set]
  by_cases e : V = i
  · subst e
    rw [if_pos rfl, if_pos (by simpa [bitsOf] using h), bits_get h, dec_yes (by simp)]
  · rw [if_neg e]
    by_cases hi : i < N
    · rw [bits_get hi, bits_get hi]
      have : ((i : Int) ∈ vs) ↔ ((i : Int) ∈ vs ++ [(V : Int)]) := by
        rw [List.mem_append]
        constructor
        · exact .inl
        · rintro (h | h)
          · exact h
          · simp at h; omega
      simp only [this]
    · rw [List.getElem?_eq_none (by simpa [bitsOf] using hi), List.getElem?_eq_none (by simpa [bitsOf] using hi)]
theorem bits_nil (N : Nat) : (madeCells (Value.bool false).cells (N * 1)).toList = bitsOf N [] := by
  rw [Nat.mul_one]
  show (madeCells #[.bool false] N).toList = _
  rw [toList_madeCells_one]
  apply List.ext_getElem?
  intro i
  by_cases hi : i < N
  · rw [bits_get hi, dec_no (by simp)]; simp [hi]
  · rw [List.getElem?_eq_none (by simpa using hi), List.getElem?_eq_none (by simpa [bitsOf] using hi)]
theorem ints_nil : ints [] = [] := rfl
theorem foldO_two {A R : List Leaf} : foldU stpO [] (A ++ R) = if (foldU stpO [] A).2 = true then foldU stpO [] A else foldU stpO [] R := by
  cases A with
  | nil => simp [foldU]
  | cons x A => rw [List.cons_append, foldO, foldO]; simp
theorem take_more {p : List Nat} {j x k : Nat} (hx : p[j]? = some x) : k ∈ p.take (j + 1) ↔ k ∈ p.take j ∨ k = x := by
  rw [List.take_add_one, hx, List.mem_append]; simp

set_option maxRecDepth 4000 in
set_option maxHeartbeats 32000000 in
theorem from_any {l : List Call} (hok : callsOk l = true) {b : World} {Al : Option Addr} {nl cl : Nat} {S : Nat → Prop} (hl : Sl b S 5 Al nl (l.flatMap Call.cells)) {ge N : Nat} (hN : N = 65536) : ∀ (f : Nat) (w : World) (vs : List Int) (Ap : Option Addr) (np cp : Nat) (p : List Nat) (v : Int) (fr : List Res)
    (_ : p.length + f = l.length) (_ : ∀ x ∈ p, x < l.length) (_ : 0 ≤ v ∧ v ≤ 65535) (_ : Mine b w (.row 4 1 (some ⟨ge, 0, none⟩) N N (bitsOf N vs) :: .row 3 1 Ap np cp (ints (nz p)) :: fr)),
    Calls Try.prog 43 #[.int .i64 v, .slice Al nl cl, .slice Ap np cp, .slice (some ⟨ge, 0, none⟩) N N] w fun e w' => ∃ B m d, e = .returned (.tuple #[.slice B m d, .bool (foldU stpO [] (leaves l (okS l) f p v)).2]) ∧ Mine b w' (.row 4 1 (some ⟨ge, 0, none⟩) N N (bitsOf N (vs ++ (leaves l (okS l) f p v).map (·.2))) :: .row 3 1 B m d (ints (foldU stpO [] (leaves l (okS l) f p v)).1) :: .row 3 1 Ap np cp (ints (nz p)) :: fr) := by
  intro f
  induction f with
  | zero =>
    intro w vs Ap np cp p v fr hpl hpr hv M0
    have hl7 := callsOk_len hok
    have hnl : l.length = nl := hl.flen Call.cells_length (by omega)
    have hnp := M0.len1 1 rfl
    rw [ints_length, nz_length] at hnp
    have M := Lib.hid M0
    clear M0
    have HLS := Lib.hid hl
    have HPR := Lib.hid hpr
    have HN := Lib.hid hN
    obtain ⟨V, rfl⟩ : ∃ V : Nat, v = (V : Int) := ⟨v.toNat, by omega⟩
    have hVN : V < N := by omega
    clear hN
    have b0 : ((np : Int) == (nl : Int)) = true := by simp; omega
    go_enter Try.func43, Try.ntmps43
    go_wp2_with (first | (at_builtin; refine Mine.wp_pour (M.out.own (own_emptyC _) ((Ext.refl' _).al _)) rfl _ _ 36 rfl 3 _ _ _ Try.underlying36 Try.infoInt rfl (by omega) 0 rfl rfl (fun _ => True) Ap np cp (ints (nz p)) rfl (Sl.ext (M.out.row_sl 1 rfl) ((Ext.refl' _).al _)) (ints_one _) (by omega) (by unfold maxLen; omega) ?_; intro A2 c2 w' M'; (try simp only [Act.put, List.setIfInBounds_toArray, List.set_cons_zero, List.set_cons_succ, List.drop_succ_cons, List.drop_zero, List.take_succ_cons, List.take_zero, putAt, ints_set, ints_push, List.getElem_toArray, List.getElem_cons_zero, List.getElem_cons_succ, List.nil_append, Nat.zero_add, ints_nil] at M'); replace M := Lib.hid M'; clear M'; (try simp only [Nat.zero_add])) | ((with_reducible show wpList _ _ _ (⟨_, _, _, _, _, none⟩ :: _) _ _); first | (refine Mine.wp_put M.out rfl _ _ _ rfl rfl 0 _ rfl rfl _ (by (conv => lhs; whnf) <;> rfl) (by omega) (by rfl) (by kernel_rfl) ?_; intro w' M'; (try simp only [Act.put, List.setIfInBounds_toArray, List.set_cons_zero, List.set_cons_succ, List.drop_succ_cons, List.drop_zero, List.take_succ_cons, List.take_zero, putAt, ints_set, ints_push, List.getElem_toArray, List.getElem_cons_zero, List.getElem_cons_succ] at M'); replace M := Lib.hid M'; clear M')))
    (try rw [bits_set hVN] at M)
    go_ret2
    rw [show leaves l (okS l) 0 p (V : Int) = [(p, (V : Int))] from rfl, show foldU stpO [] [(p, (V : Int))] = (nz p, true) from rfl]
    have M9 := M.out.sink [_]
    first | exact ⟨_, _, _, rfl, M9⟩ | exact ⟨rfl, _, _, _, M9⟩
  | succ f ih =>
    intro w vs Ap np cp p v fr hpl hpr hv M0
    have IH := Lib.hid ih
    clear ih
    have hl7 := callsOk_len hok
    have hnl : l.length = nl := hl.flen Call.cells_length (by omega)
    have hnp := M0.len1 1 rfl
    rw [ints_length, nz_length] at hnp
    have M := Lib.hid M0
    clear M0
    have HLS := Lib.hid hl
    have HPR := Lib.hid hpr
    have HN := Lib.hid hN
    obtain ⟨V, rfl⟩ : ∃ V : Nat, v = (V : Int) := ⟨v.toNat, by omega⟩
    have hVN : V < N := by omega
    clear hpr hl hN
    have b0 : ((np : Int) == (nl : Int)) = false := by simp; omega
    go_enter Try.func43, Try.ntmps43
    go_wp2
    replace M := Lib.hid ((M.out.own (own_emptyC _) ((Ext.refl' _).al _)).sink [_])
    simp only [List.cons_append, List.nil_append] at M
    go_loopw [10, 11, 12] (fun u g i wr => ∃ (k m d : Nat) (B : Option Addr) (gb : Bool), k ≤ nl ∧ u = .slice B m d ∧ g = .bool gb ∧ i = .int .i64 k ∧ Hid ((foldU stpO [] (leavesTo l (okS l) (leaves l (okS l) f) p (V : Int) k)).2 = gb) ∧ Hid (Mine b wr (.row 4 1 (some ⟨ge, 0, none⟩) N N (bitsOf N (vs ++ (leavesTo l (okS l) (leaves l (okS l) f) p (V : Int) k).map (·.2))) :: .row 3 1 B m d (ints (foldU stpO [] (leavesTo l (okS l) (leaves l (okS l) f) p (V : Int) k)).1) :: .row 3 1 Ap np cp (ints (nz p)) :: fr))) (fun _ _ i _ => nl - (intOf i).toNat)
    case atStart => exact ⟨0, _, _, _, false, Nat.zero_le _, rfl, rfl, rfl, rfl, by simpa [leavesTo, foldU] using M⟩
    case round =>
      clear M
      obtain ⟨k, m, d, B, gb, hk, rfl, rfl, rfl, HG, M⟩ := hrel
      by_cases hlt : (k : Int) < (nl : Int)
      rotate_left
      · have ek : k = l.length := by omega
        go_wp2
        go_ret2
        have M9 := M.out
        have h := HG.out
        rw [ek] at h M9
        rw [show leaves l (okS l) (f + 1) p (V : Int) = leavesTo l (okS l) (leaves l (okS l) f) p (V : Int) l.length from rfl, h]
        first | exact ⟨_, _, _, rfl, M9⟩ | exact ⟨rfl, _, _, _, M9⟩
      have HK1 : Hid (k < nl) := by show _ < _; omega
      have hk7 : k < 7 := by omega
      go_wp2
      go_loopw [13, 14] (fun fv i wr => ∃ (j : Nat) (fb : Bool), j ≤ np ∧ i = .int .i64 j ∧ fv = .bool fb ∧ Hid (fb = true ↔ k ∉ p.take j) ∧ Hid (Mine b wr (.row 4 1 (some ⟨ge, 0, none⟩) N N (bitsOf N (vs ++ (leavesTo l (okS l) (leaves l (okS l) f) p (V : Int) k).map (·.2))) :: .row 3 1 B m d (ints (foldU stpO [] (leavesTo l (okS l) (leaves l (okS l) f) p (V : Int) k)).1) :: .row 3 1 Ap np cp (ints (nz p)) :: fr))) (fun _ i _ => np - (intOf i).toNat)
      case atStart => exact ⟨0, true, Nat.zero_le _, rfl, rfl, by show _ ↔ _; simp, M⟩
      case round =>
        clear M
        obtain ⟨j, fb, hj, rfl, rfl, HFB, M⟩ := hrel
        by_cases hjl : (j : Int) < (np : Int)
        · skip
          obtain ⟨bo, oo, x, rfl, hx, cx⟩ := nz_at (M.out.row_sl 2 rfl) (k := j) (by omega)
          have HJ1 : Hid (j < np) := by show _ < _; omega
          have HX := Lib.hid hx
          clear hx
          cases fb
          · go_wp2
            go_roundw
            case rel => exact ⟨j + 1, false, HJ1.out, by go_num, rfl, Lib.hid ⟨fun h => (by cases h), fun h => (by have := HFB.out.2 (fun q => h ((take_more HX.out).2 (.inl q))); cases this)⟩, M⟩
            case measure => have := HJ1.out; simp [intOf]; omega
          by_cases hxk : x = k
          · have bx : ((x : Int) != (k : Int)) = false := by subst hxk; simp
            have HXK := Lib.hid hxk
            clear hxk
            go_wp2
            go_roundw
            case rel => exact ⟨j + 1, false, HJ1.out, by go_num, rfl, Lib.hid ⟨fun h => (by cases h), fun h => absurd ((take_more HX.out).2 (.inr HXK.out.symm)) h⟩, M⟩
            case measure => have := HJ1.out; simp [intOf]; omega
          have bx : ((x : Int) != (k : Int)) = true := by simp; omega
          have HXK := Lib.hid hxk
          clear hxk
          go_wp2
          go_roundw
          case rel => exact ⟨j + 1, true, HJ1.out, by go_num, rfl, Lib.hid ⟨fun _ h => (take_more HX.out).1 h |>.elim (HFB.out.1 (by first | rfl | trivial)) (fun e => HXK.out e.symm), fun _ => rfl⟩, M⟩
          case measure => have := HJ1.out; simp [intOf]; omega
        have HA : Hid (fb = true ↔ k ∉ p) := by have h := HFB.out; rw [List.take_of_length_le (by omega)] at h; exact h
        clear HFB
        go_wp2
        clear hjl hj
        go_loopw [13, 15] (fun fv i wr => ∃ (j : Nat) (fb : Bool), j ≤ nl ∧ i = .int .i64 j ∧ fv = .bool fb ∧ Hid (fb = true ↔ (k ∉ p ∧ ∀ q, q < j → q ∉ p → ¬ (cc l q).to_ < (cc l k).from_)) ∧ Hid (Mine b wr (.row 4 1 (some ⟨ge, 0, none⟩) N N (bitsOf N (vs ++ (leavesTo l (okS l) (leaves l (okS l) f) p (V : Int) k).map (·.2))) :: .row 3 1 B m d (ints (foldU stpO [] (leavesTo l (okS l) (leaves l (okS l) f) p (V : Int) k)).1) :: .row 3 1 Ap np cp (ints (nz p)) :: fr))) (fun _ i _ => nl - (intOf i).toNat)
        case atStart => exact ⟨0, fb, Nat.zero_le _, rfl, rfl, by show _ ↔ _; rw [HA.out]; exact ⟨fun h => ⟨h, fun _ hq => absurd hq (Nat.not_lt_zero _)⟩, fun h => h.1⟩, M⟩
        case round =>
          clear M HA
          obtain ⟨j, fb, hj, rfl, rfl, HFB, M⟩ := hrel
          by_cases hgo : j < nl ∧ fb = true
          · skip
            obtain ⟨hjn, rfl⟩ := hgo
            have HJ1 : Hid (j < nl) := hjn
            have hjl : (j : Int) < (nl : Int) := by omega
            have hj7 : j < 7 := by omega
            go_wp2
            go_loopw [16, 17] (fun ov i wr => ∃ (y : Nat) (ob : Bool), y ≤ np ∧ i = .int .i64 y ∧ ov = .bool ob ∧ Hid (ob = true ↔ j ∉ p.take y) ∧ Hid (Mine b wr (.row 4 1 (some ⟨ge, 0, none⟩) N N (bitsOf N (vs ++ (leavesTo l (okS l) (leaves l (okS l) f) p (V : Int) k).map (·.2))) :: .row 3 1 B m d (ints (foldU stpO [] (leavesTo l (okS l) (leaves l (okS l) f) p (V : Int) k)).1) :: .row 3 1 Ap np cp (ints (nz p)) :: fr))) (fun _ i _ => np - (intOf i).toNat)
            case atStart => exact ⟨0, true, Nat.zero_le _, rfl, rfl, by show _ ↔ _; simp, M⟩
            case round =>
              clear M
              obtain ⟨y, ob, hy, rfl, rfl, HOB, M⟩ := hrel
              by_cases hyl : (y : Int) < (np : Int)
              · skip
                obtain ⟨bo, oo, x, rfl, hx, cx⟩ := nz_at (M.out.row_sl 2 rfl) (k := y) (by omega)
                have HY1 : Hid (y < np) := by show _ < _; omega
                have HX := Lib.hid hx
                clear hx
                cases ob
                · go_wp2
                  go_roundw
                  case rel => exact ⟨y + 1, false, HY1.out, by go_num, rfl, Lib.hid ⟨fun h => (by cases h), fun h => (by have := HOB.out.2 (fun q => h ((take_more HX.out).2 (.inl q))); cases this)⟩, M⟩
                  case measure => have := HY1.out; simp [intOf]; omega
                by_cases hxk : x = j
                · have bx : ((x : Int) != (j : Int)) = false := by subst hxk; simp
                  have HXK := Lib.hid hxk
                  clear hxk
                  go_wp2
                  go_roundw
                  case rel => exact ⟨y + 1, false, HY1.out, by go_num, rfl, Lib.hid ⟨fun h => (by cases h), fun h => absurd ((take_more HX.out).2 (.inr HXK.out.symm)) h⟩, M⟩
                  case measure => have := HY1.out; simp [intOf]; omega
                have bx : ((x : Int) != (j : Int)) = true := by simp; omega
                have HXK := Lib.hid hxk
                clear hxk
                go_wp2
                go_roundw
                case rel => exact ⟨y + 1, true, HY1.out, by go_num, rfl, Lib.hid ⟨fun _ h => (take_more HX.out).1 h |>.elim (HOB.out.1 (by first | rfl | trivial)) (fun e => HXK.out e.symm), fun _ => rfl⟩, M⟩
                case measure => have := HY1.out; simp [intOf]; omega
              have HO : Hid (ob = true ↔ j ∉ p) := by have h := HOB.out; rw [List.take_of_length_le (by omega)] at h; exact h
              clear HOB
              obtain ⟨bl, ol, xk, rfl, hbl, hxk, hck⟩ := (HLS.out.ext M.out.ext).flat_at Call.cells_length (by omega) HK1.out
              have HCK := Lib.hid (cc_of hxk)
              obtain ⟨xj, hxj, -, hcj⟩ := (HLS.out.ext M.out.ext).flat_cell Call.cells_length (by omega) HJ1.out
              have HCJ := Lib.hid (cc_of hxj)
              have ck := hck 0 (by omega)
              have cj := hcj 1 (by omega)
              simp only [Call.cells, List.getElem?_cons_zero, List.getElem?_cons_succ, Nat.add_zero] at ck cj
              clear hck hcj hxk hxj
              cases ob
              · go_wp2
                go_quiet (fail)
                replace M := Lib.hid (M.out.drN nq)
                go_wp2
                go_roundw
                case rel => exact ⟨j + 1, true, HJ1.out, by go_num, rfl, Lib.hid ⟨fun _ => ⟨(HFB.out.1 (by first | rfl | trivial)).1, fun q hq hqp => by
                                  by_cases e : q = j
                                  · subst e; exact absurd hqp (fun h => by have := HO.out.2 h; cases this)
                                  · (have hh := (HFB.out.1 (by first | rfl | trivial)).2 q (by omega) hqp; first | exact hh | exact Int.not_lt.2 hh)⟩, fun _ => rfl⟩, M⟩
                case measure => have := HJ1.out; simp [intOf]; omega
              by_cases hlt2 : xj.to_ < xk.from_
              · have bl2 : decide (xj.to_ < xk.from_) = true := decide_eq_true hlt2
                have HLT := Lib.hid hlt2
                clear hlt2
                go_wp2
                go_quiet (fail)
                replace M := Lib.hid (M.out.drN nq)
                go_wp2
                go_roundw
                case rel => exact ⟨j + 1, false, HJ1.out, by go_num, rfl, Lib.hid ⟨fun h => (by cases h), fun h => absurd HLT.out (by rw [← HCJ.out, ← HCK.out]; exact h.2 j (by omega) (HO.out.1 (by first | rfl | trivial)))⟩, M⟩
                case measure => have := HJ1.out; simp [intOf]; omega
              have bl2 : decide (xj.to_ < xk.from_) = false := decide_eq_false hlt2
              have HLT := Lib.hid hlt2
              clear hlt2
              go_wp2
              go_quiet (fail)
              replace M := Lib.hid (M.out.drN nq)
              go_wp2
              go_roundw
              case rel => exact ⟨j + 1, true, HJ1.out, by go_num, rfl, Lib.hid ⟨fun _ => ⟨(HFB.out.1 (by first | rfl | trivial)).1, fun q hq hqp => by
                              by_cases e : q = j
                              · subst e; exact (by rw [HCJ.out, HCK.out]; first | exact HLT.out | exact Int.not_lt.2 HLT.out)
                              · (have hh := (HFB.out.1 (by first | rfl | trivial)).2 q (by omega) hqp; first | exact hh | exact Int.not_lt.2 hh)⟩, fun _ => rfl⟩, M⟩
              case measure => have := HJ1.out; simp [intOf]; omega
          have HD : Hid (fb = true ↔ (k ∉ p ∧ ∀ q, q < l.length → q ∉ p → ¬ (cc l q).to_ < (cc l k).from_)) := by
            refine ⟨fun h => ⟨(HFB.out.1 h).1, fun q hq => (HFB.out.1 h).2 q (by by_cases e : j < nl; exact absurd ⟨e, h⟩ hgo; omega)⟩, fun h => HFB.out.2 ⟨h.1, fun q hq => h.2 q (by omega)⟩⟩
          skip
          have hcase : fb = false ∨ (fb = true ∧ ¬ (j : Int) < (nl : Int)) := by
            cases fb
            · exact .inl rfl
            · exact .inr ⟨rfl, fun e => hgo ⟨by omega, rfl⟩⟩
          clear hgo HFB
          rcases hcase with rfl | ⟨rfl, hjn⟩
          · have HNO : Hid (okS l p (V : Int) k = false) := by show _ = _; exact dec_no fun h => by have := HD.out.2 ⟨h.1, h.2.1⟩; cases this
            by_cases hjl2 : (j : Int) < (nl : Int)
            all_goals (
              go_wp2
              go_roundw
              case rel => exact ⟨k + 1, m, d, B, gb, HK1.out, rfl, rfl, by go_num, by rw [leavesTo_no HNO.out]; exact HG, by rw [leavesTo_no HNO.out]; exact M⟩
              case measure => have := HK1.out; simp [intOf]; omega)
          have hkp := (HD.out.1 (by first | rfl | trivial))
          have HKP := Lib.hid hkp
          clear hkp HD
          obtain ⟨bl, ol, x, rfl, hbl, hx, hcl⟩ := (HLS.out.ext M.out.ext).flat_at Call.cells_length (by omega) HK1.out
          have HCC := Lib.hid (cc_of hx)
          obtain ⟨x0, x1, x2, x3, x4⟩ := x
          have q0 := hcl 0 (by omega)
          have q1 := hcl 1 (by omega)
          have q2 := hcl 2 (by omega)
          have q3 := hcl 3 (by omega)
          have q4 := hcl 4 (by omega)
          simp only [Call.cells, List.getElem?_cons_zero, List.getElem?_cons_succ, Nat.add_zero] at q0 q1 q2 q3 q4
          clear hcl hx
          obtain ⟨⟨Y1, Y2⟩, hY⟩ : ∃ Y : Int × Int, callDo (V : Int) x2 x3 = Y := ⟨_, rfl⟩
          have HY := Lib.hid hY
          clear hY
          have HNX : Hid (nxt l (V : Int) k = Y1) := by show _ = _; unfold nxt; rw [HCC.out, HY.out]
          go_wp2_with fail
          refine (spec_CallDo (V : Int) x0 x1 x2 x3 x4 _).mono ?_
          rintro e w2 ⟨rfl, x9⟩
          rw [HY.out]
          replace q4 := x9.co q4
          replace M := Lib.hid (M.out.on x9)
          clear x9 q0 q1 q2 q3 hjn
          by_cases hr0 : Y2 = x4
          rotate_left
          · have HNO : Hid (okS l p (V : Int) k = false) := by
              show _ = _
              refine dec_no fun h => hr0 ?_
              have h2 := h.2.2
              unfold retOk at h2
              rw [HCC.out, HY.out] at h2
              exact h2
            have br : (Y2 != x4) = true := by simpa using hr0
            clear hr0
            go_wp2
            go_roundw
            case rel => exact ⟨k + 1, m, d, B, gb, HK1.out, rfl, rfl, by go_num, by rw [leavesTo_no HNO.out]; exact HG, by rw [leavesTo_no HNO.out]; exact M⟩
            case measure => have := HK1.out; simp [intOf]; omega
          have HYES : Hid (okS l p (V : Int) k = true) := by
            show _ = _
            refine dec_yes ⟨HKP.out.1, fun q hq hqp => (by have hh := HKP.out.2 q hq hqp; first | exact hh | exact Int.not_lt.2 hh), ?_⟩
            unfold retOk
            rw [HCC.out, HY.out]
            exact hr0
          have br : (Y2 != x4) = false := by simpa using hr0
          clear hr0
          go_wp2_with (first | (at_builtin; refine Mine.wp_pour (M.out.own (own_emptyC _) ((Ext.refl' _).al _)) rfl _ _ 36 rfl 3 _ _ _ Try.underlying36 Try.infoInt rfl (by omega) 0 rfl rfl (fun _ => True) Ap np cp (ints (nz p)) rfl (Sl.ext (M.out.row_sl 2 rfl) ((Ext.refl' _).al _)) (ints_one _) (by omega) (by unfold maxLen; omega) ?_; intro A2 c2 w' M'; (try simp only [Act.put, List.setIfInBounds_toArray, List.set_cons_zero, List.set_cons_succ, List.drop_succ_cons, List.drop_zero, List.take_succ_cons, List.take_zero, putAt, ints_set, ints_push, List.getElem_toArray, List.getElem_cons_zero, List.getElem_cons_succ, List.nil_append, Nat.zero_add, ints_nil] at M'); replace M := Lib.hid M'; clear M'; (try simp only [Nat.zero_add])) | (at_builtin; refine Mine.wp_push M.out rfl _ _ 36 rfl 3 _ _ _ Try.underlying36 Try.infoInt rfl (by omega) 0 rfl rfl _ _ rfl rfl rfl (by simp [Value.oneCell']) (by omega) (by unfold maxLen; omega) ?_; intro A2 c2 w' M'; (try simp only [Act.put, List.setIfInBounds_toArray, List.set_cons_zero, List.set_cons_succ, List.drop_succ_cons, List.drop_zero, List.take_succ_cons, List.take_zero, putAt, ints_set, ints_push, List.getElem_toArray, List.getElem_cons_zero, List.getElem_cons_succ] at M'); replace M := Lib.hid M'; clear M'))
          replace M := Lib.hid (M.out.sink [_])
          simp only [List.cons_append, List.nil_append, nz_push] at M
          clear q4 br
          have hY1 : 0 ≤ Y1 ∧ Y1 ≤ 65535 := by rw [← HNX.out]; exact nxt_in hok (by omega) (by have := HK1.out; omega)
          have hk9 := HK1.out
          refine (IH.out _ _ _ _ _ (p ++ [k]) Y1 _ (by simp; omega) (fun z hz => by
            rcases List.mem_append.1 hz with q | q
            · exact HPR.out z q
            · simp at q; omega) hY1 M.out).mono ?_
          rintro e w3 ⟨B3, m3, d3, rfl, M3⟩
          clear M
          have HL2 : Hid (leavesTo l (okS l) (leaves l (okS l) f) p (V : Int) (k + 1) = leavesTo l (okS l) (leaves l (okS l) f) p (V : Int) k ++ leaves l (okS l) f (p ++ [k]) Y1) := by show _ = _; rw [leavesTo_yes HYES.out, HNX.out]
          obtain ⟨⟨s2, fb⟩, hFF⟩ : ∃ F : List Int × Bool, foldU stpO [] (leaves l (okS l) f (p ++ [k]) Y1) = F := ⟨_, rfl⟩
          rw [hFF] at M3
          rw [hFF]
          have HFF := Lib.hid hFF
          clear hFF
          have HF2 : Hid (foldU stpO [] (leavesTo l (okS l) (leaves l (okS l) f) p (V : Int) (k + 1)) = if gb = true then foldU stpO [] (leavesTo l (okS l) (leaves l (okS l) f) p (V : Int) k) else (s2, fb)) := by show _ = _; rw [HL2.out, foldO_two, HG.out, HFF.out]
          have HV2 : Hid ((vs ++ (leavesTo l (okS l) (leaves l (okS l) f) p (V : Int) k).map (·.2)) ++ (leaves l (okS l) f (p ++ [k]) Y1).map (·.2) = vs ++ (leavesTo l (okS l) (leaves l (okS l) f) p (V : Int) (k + 1)).map (·.2)) := by show _ = _; rw [HL2.out, List.map_append, List.append_assoc]
          rw [HV2.out] at M3
          have M4 := Lib.hid M3
          clear M3
          cases gb
          · cases fb
            · have h9 := HF2.out
              rw [if_neg (by decide)] at h9
              have hs0 : (foldU stpO [] (leavesTo l (okS l) (leaves l (okS l) f) p (V : Int) k)).1 = s2 := by
                have h1 := HG.out
                have h2 := HFF.out
                rw [foldO] at h1 h2 ⊢
                revert h1 h2
                cases leavesTo l (okS l) (leaves l (okS l) f) p (V : Int) k <;> cases leaves l (okS l) f (p ++ [k]) Y1 <;> simp
                all_goals (intro h; exact h)
              have M9 := (M4.out.drop_at [_]).drop_at [_]
              simp only [List.cons_append, List.nil_append] at M9
              rw [hs0] at M9
              clear hs0
              go_wp2
              go_roundw
              case rel => exact ⟨k + 1, m, d, B, false, HK1.out, rfl, rfl, by go_num, Lib.hid (by rw [h9]), by rw [h9]; exact Lib.hid M9⟩
              case measure => have := HK1.out; simp [intOf]; omega
            · have h9 := HF2.out
              rw [if_neg (by decide)] at h9
              have M9 := (M4.out.drop_at [_, _]).drop_at [_, _]
              simp only [List.cons_append, List.nil_append] at M9
              go_wp2
              go_roundw
              case rel => exact ⟨k + 1, m3, d3, B3, true, HK1.out, rfl, rfl, by go_num, Lib.hid (by rw [h9]), by rw [h9]; exact Lib.hid M9⟩
              case measure => have := HK1.out; simp [intOf]; omega
          · have h9 := HF2.out
            rw [if_pos rfl] at h9
            have M9 := (M4.out.drop_at [_]).drop_at [_]
            simp only [List.cons_append, List.nil_append] at M9
            have hg9 := HG.out
            cases fb
            all_goals (
              go_wp2
              go_roundw
              case rel => exact ⟨k + 1, m, d, B, true, HK1.out, rfl, rfl, by go_num, Lib.hid (by rw [h9]; exact hg9), by rw [h9]; exact Lib.hid M9⟩
              case measure => have := HK1.out; simp [intOf]; omega)
end Go.Proofs.Ytcnkmbofpppfaaa
