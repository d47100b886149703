/- What DrawStateAt draws: values, a history, a stamp. No condition but the code's length. -/
import Derived.Test.YtnhkjgnfjphllaaVHj
namespace Go.Proofs.Ytnhkjgnfjphllaa
open Go.RowKit Go.Deep
set_option linter.unusedSimpArgs false
set_option linter.unusedVariables false

/-- A history that is drawn: some put may be one longer. -/
def HistN (b w : World) (g : Nat) (A : Option Addr) (n c : Nat) (bs : List UInt8) (fr : List Res) (B : Option Addr) (m d : Nat) : Prop := ∃ es : List Ent, (∀ p ∈ es, p.2.puts_.length ≤ 101) ∧ CurM b w g A n c bs (.row 64 3 B m d (es.flatMap ecell) :: (es.map erow ++ fr))
theorem ent_at {es : List Ent} {k : Nat} (hk : k < es.length) : ∃ p, es[k]? = some p ∧ (es.flatMap ecell)[k * 3]? = some (.int .i64 p.2.stamp_) ∧ (es.flatMap ecell)[k * 3 + 2]? = some (.slice p.1.1 p.1.2.1 p.1.2.2) := by
  have h := List.getElem?_eq_getElem hk
  refine ⟨_, h, ?_, ?_⟩
  · have := flat_get ecell_length es k 0 _ h (by omega)
    rw [Nat.add_zero] at this
    exact this
  · exact flat_get ecell_length es k 2 _ h (by omega)
theorem erow_same {es : List Ent} {k : Nat} {p q : Ent} (h : es[k]? = some p) (e : erow q = erow p) : (es.set k q).map erow = es.map erow := by
  rw [List.map_set, e]
  apply List.ext_getElem?
  intro i
  rw [List.getElem?_set]
  split
  · rename_i e2
    subst e2
    have hk := (List.getElem?_eq_some_iff.1 h).1
    rw [if_pos (by simpa using hk), List.getElem?_map, h]
    rfl
  · rfl
theorem erow_perm {es : List Ent} {k : Nat} {p : Ent} (h : es[k]? = some p) : (es.map erow).Perm (erow p :: (es.eraseIdx k).map erow) := by
  obtain ⟨hk, e⟩ := List.getElem?_eq_some_iff.1 h
  have h1 : es = es.take k ++ p :: es.drop (k + 1) := by rw [← e, List.getElem_cons_drop, List.take_append_drop]
  have h2 : es.eraseIdx k = es.take k ++ es.drop (k + 1) := List.eraseIdx_eq_take_drop_succ ..
  rw [h2]
  have h3 := (List.perm_middle (a := p) (l₁ := es.take k) (l₂ := es.drop (k + 1))).map erow
  rw [← h1] at h3
  exact h3
theorem erow_perm_set {es : List Ent} {k : Nat} {p q : Ent} (h : es[k]? = some p) : ((es.set k q).map erow).Perm (erow q :: (es.eraseIdx k).map erow) := by
  have hk := (List.getElem?_eq_some_iff.1 h).1
  have h2 : (es.set k q)[k]? = some q := by rw [List.getElem?_set_self hk]
  have := erow_perm h2
  rwa [List.eraseIdx_set_eq] at this
/-- One cell of one entry is set. -/
theorem HistN.cell {b w : World} {g : Nat} {A : Option Addr} {n c : Nat} {bs : List UInt8} {fr : List Res} {B : Option Addr} {m d : Nat} {es : List Ent} {k f : Nat} {v : Value} {p q : Ent} (h0 : ∀ p ∈ es, p.2.puts_.length ≤ 101) (hp : es[k]? = some p) (hf : f < 3) (hc : (ecell p).set f v = ecell q) (hr : erow q = erow p) (hq : q.2.puts_.length ≤ 101)
    (C : CurM b w g A n c bs (.row 64 3 B m d ((es.flatMap ecell).set (k * 3 + f) v) :: (es.map erow ++ fr))) : HistN b w g A n c bs fr B m d := by
  refine ⟨es.set k q, fun x hx => ?_, ?_⟩
  · rcases List.mem_or_eq_of_mem_set hx with h | h
    · exact h0 x h
    · subst h; exact hq
  · rw [flat_set ecell_length (by omega) hp hf hc, ← erow_same hp hr] at C
    exact C
/-- The puts of one entry are more by one. -/
theorem HistN.more {b w : World} {g : Nat} {A : Option Addr} {n c : Nat} {bs : List UInt8} {fr : List Res} {B : Option Addr} {m d : Nat} {es : List Ent} {k : Nat} {p : Ent} {A' : Option Addr} {n' c' : Nat} {r : Row} (h0 : ∀ p ∈ es, p.2.puts_.length ≤ 100) (hp : es[k]? = some p)
    (C : CurM b w g A n c bs (.row 64 3 B m d ((es.flatMap ecell).set (k * 3 + 2) (.slice A' n' c')) :: .row 84 2 A' n' c' (p.2.puts_.flatMap Row.cells ++ Row.cells r) :: ((es.eraseIdx k).map erow ++ fr))) : HistN b w g A n c bs fr B m d := by
  have hpm := h0 p (List.mem_of_getElem? hp)
  refine ⟨es.set k ((A', n', c'), ⟨p.2.stamp_, p.2.who_, p.2.puts_ ++ [r]⟩), fun x hx => ?_, ?_⟩
  · rcases List.mem_or_eq_of_mem_set hx with h | h
    · have := h0 x h; omega
    · subst h; simp; omega
  · rw [flat_set ecell_length (by omega) hp (by omega) (a := ((A', n', c'), ⟨p.2.stamp_, p.2.who_, p.2.puts_ ++ [r]⟩)) rfl] at C
    obtain ⟨i, q, h1, h2, M⟩ := C.st
    refine ⟨⟨i, q, h1, h2, M.perm (List.Perm.cons _ (List.Perm.cons _ ?_))⟩, C.sl⟩
    have e : Res.row 84 2 A' n' c' (p.2.puts_.flatMap Row.cells ++ Row.cells r) = erow ((A', n', c'), ⟨p.2.stamp_, p.2.who_, p.2.puts_ ++ [r]⟩) := by simp [erow]
    rw [e]
    exact (List.Perm.append_right fr (erow_perm_set hp)).symm
theorem hist_split {b w : World} {cur r : Res} {es : List Ent} {k : Nat} {p : Ent} {fr : List Res} (hp : es[k]? = some p) (M : Mine b w (cur :: r :: (es.map erow ++ fr))) : Mine b w (cur :: r :: .row 84 2 p.1.1 p.1.2.1 p.1.2.2 (p.2.puts_.flatMap Row.cells) :: ((es.eraseIdx k).map erow ++ fr)) :=
  M.perm (List.Perm.cons _ (List.Perm.cons _ (List.Perm.append_right fr (erow_perm hp))))
theorem cut_one {b w : World} {g : Nat} {A : Option Addr} {n c : Nat} {bs : List UInt8} {B : Option Addr} {d : Nat} {zs : List Int} {fr : List Res} (C : CurM b w g A n c bs (.row 3 1 B 8 d (ints zs) :: fr)) : CurM b w g A n c bs (.row 3 1 B 1 d (ints (zs.take 1)) :: fr) := by
  obtain ⟨i, q, h0, h1, M⟩ := C.st
  have M2 := M.cut 1 rfl (m := 1) (by omega)
  simp only [Nat.mul_one, List.set_cons_succ, List.set_cons_zero] at M2
  refine ⟨⟨i, q, h0, h1, ?_⟩, C.sl⟩
  have e : ints (zs.take 1) = (ints zs).take 1 := by simp [ints]
  rw [e]
  exact M2

set_option maxRecDepth 4000 in
set_option maxHeartbeats 16000000 in
theorem l11Any_m {b w : World} {g : Nat} {A : Option Addr} {n c : Nat} {bs : List UInt8} {fr : List Res} (C0 : CurM b w g A n c bs fr) (hn : n ≤ 1048576) :
    Calls Try.prog 77 #[.pointer (some ⟨g, 0, none⟩)] w fun e w' => ∃ (B : Option Addr) (m d : Nat), e = .returned (.slice B m d) ∧ m ≤ 5 ∧ HistN b w' g A n c bs fr B m d := by
  have C := Lib.hid C0
  clear C0
  go_enter Try.func77, Try.ntmps77
  go_wp2_with fail
  refine (l11Hist_m C.out hn).mono ?_
  rintro e w1 ⟨B, m, d, rfl, hm5, es, h0, C1⟩
  replace C := Lib.hid C1
  have HES := Lib.hid h0
  clear C1 h0
  have HW : Hid (∀ p ∈ es, p.2.puts_.length ≤ 101) := fun p hp => by have := HES.out p hp; omega
  have hlen : Hid (es.length = m) := by obtain ⟨_, _, _, _, M⟩ := C.out.st; have h := M.len 1 rfl; rw [flat_length ecell_length] at h; show _ = _; omega
  by_cases hm0 : m = 0
  · subst hm0
    go_wp2
    go_ret
    exact ⟨B, 0, d, rfl, by omega, es, HW.out, C.out⟩
  have b0 : ((m : Int) == 0) = false := by simp; omega
  have hmI : (0 : Int) < (m : Int) := by omega
  go_wp2_with fail
  refine (below_m C.out hn (m : Int) (by omega)).mono ?_
  rintro e w1 ⟨⟨k, rfl, hk⟩, C1⟩
  replace C := Lib.hid C1
  clear C1
  obtain ⟨U, rfl⟩ : ∃ U : Nat, k = (U : Int) := ⟨k.toNat, by omega⟩
  have hU : U < m := by omega
  have hUI : (U : Int) < (m : Int) := by omega
  obtain ⟨p, hp, hv0, hv2⟩ := ent_at (es := es) (k := U) (by have := hlen.out; omega)
  obtain ⟨p0, hp0, hz0, -⟩ := ent_at (es := es) (k := 0) (by have := hlen.out; omega)
  obtain ⟨⟨PA, pn, pc⟩, s0, s1, zs⟩ := p
  simp only at hv0 hv2
  rw [Nat.zero_mul] at hz0
  generalize p0.2.stamp_ = z0 at hz0
  have HP := Lib.hid hp
  have HP2 : Hid (zs.length ≤ 101) := by have := HES.out _ (List.mem_of_getElem? hp); show _ ≤ _; exact Nat.le_trans this (by omega)
  clear hk hp hp0
  go_wp2_with fail
  refine (below_m C.out hn 20 (by omega)).mono ?_
  rintro e w1 ⟨⟨y, rfl, hy⟩, C1⟩
  replace C := Lib.hid C1
  clear C1
  clear hy
  by_cases y0 : y = 0
  · subst y0
    obtain ⟨i1, q1, i10, i11, M1⟩ := C.out.st
    have SLC := Lib.hid C.out.sl
    have M := Lib.hid M1
    clear M1 C
    obtain ⟨gB, rfl⟩ := M.out.addr 1 rfl (by omega)
    clear b0 hv0 hv2
    go_wp2_with (first | ((with_reducible show wpList _ _ _ (⟨_, _, _, _, _, none⟩ :: _) _ _); first | (refine Mine.wp_getr M.out rfl _ _ rfl 1 _ rfl rfl _ (by assumption) _ (by first | exact Try.underlying3) (by rfl) ?_; (try simp only [Act.put, List.setIfInBounds_toArray, List.set_cons_zero, List.set_cons_succ, List.drop_succ_cons, List.drop_zero, List.take_succ_cons, List.take_zero, putAt, ints_set, ints_push, List.getElem_toArray, List.getElem_cons_zero, List.getElem_cons_succ])) | (refine Mine.wp_put M.out rfl _ _ _ rfl rfl 1 _ rfl rfl _ (by (conv => lhs; whnf) <;> rfl) (by omega) (by rfl) (by kernel_rfl) ?_; intro w' M'; (try simp only [Act.put, List.setIfInBounds_toArray, List.set_cons_zero, List.set_cons_succ, List.drop_succ_cons, List.drop_zero, List.take_succ_cons, List.take_zero, putAt, ints_set, ints_push, List.getElem_toArray, List.getElem_cons_zero, List.getElem_cons_succ] at M'); replace M := Lib.hid M'; clear M')))
    go_ret
    exact ⟨_, _, _, rfl, hm5, HistN.cell (k := U) (f := 0) (q := ((PA, pn, pc), ⟨z0, s1, zs⟩)) HW.out HP.out (by omega) rfl rfl HP2.out ⟨⟨i1, q1, i10, i11, M.out⟩, SLC.out⟩⟩
  have c0 : (y == 0) = false := by simpa using y0
  by_cases y1 : y = 1
  · subst y1
    obtain ⟨i1, q1, i10, i11, M1⟩ := C.out.st
    have SLC := Lib.hid C.out.sl
    have M := Lib.hid M1
    clear M1 C
    obtain ⟨gB, rfl⟩ := M.out.addr 1 rfl (by omega)
    clear b0 c0 hv0 hv2 hz0
    go_wp2_with (first | ((with_reducible show wpList _ _ _ (⟨_, _, _, _, _, none⟩ :: _) _ _); first | (refine Mine.wp_put M.out rfl _ _ _ rfl rfl 1 _ rfl rfl _ (by (conv => lhs; whnf) <;> rfl) (by omega) (by rfl) (by kernel_rfl) ?_; intro w' M'; (try simp only [Act.put, List.setIfInBounds_toArray, List.set_cons_zero, List.set_cons_succ, List.drop_succ_cons, List.drop_zero, List.take_succ_cons, List.take_zero, putAt, ints_set, ints_push, List.getElem_toArray, List.getElem_cons_zero, List.getElem_cons_succ] at M'); replace M := Lib.hid M'; clear M')))
    go_ret
    exact ⟨_, _, _, rfl, hm5, HistN.cell (k := U) (f := 0) (q := ((PA, pn, pc), ⟨0, s1, zs⟩)) HW.out HP.out (by omega) rfl rfl HP2.out ⟨⟨i1, q1, i10, i11, M.out⟩, SLC.out⟩⟩
  have c1 : (y == 1) = false := by simpa using y1
  by_cases y2 : y = 2
  · subst y2
    obtain ⟨i1, q1, i10, i11, M1⟩ := C.out.st
    have SLC := Lib.hid C.out.sl
    have M := Lib.hid M1
    clear M1 C
    obtain ⟨gB, rfl⟩ := M.out.addr 1 rfl (by omega)
    clear b0 c0 c1 hv0 hv2 hz0
    go_wp2_with (first | ((with_reducible show wpList _ _ _ (⟨_, _, _, _, _, none⟩ :: _) _ _); first | (refine Mine.wp_put M.out rfl _ _ _ rfl rfl 1 _ rfl rfl _ (by (conv => lhs; whnf) <;> rfl) (by omega) (by rfl) (by kernel_rfl) ?_; intro w' M'; (try simp only [Act.put, List.setIfInBounds_toArray, List.set_cons_zero, List.set_cons_succ, List.drop_succ_cons, List.drop_zero, List.take_succ_cons, List.take_zero, putAt, ints_set, ints_push, List.getElem_toArray, List.getElem_cons_zero, List.getElem_cons_succ] at M'); replace M := Lib.hid M'; clear M')))
    go_ret
    exact ⟨_, _, _, rfl, hm5, HistN.cell (k := U) (f := 1) (q := ((PA, pn, pc), ⟨s0, 0, zs⟩)) HW.out HP.out (by omega) rfl rfl HP2.out ⟨⟨i1, q1, i10, i11, M.out⟩, SLC.out⟩⟩
  have c2 : (y == 2) = false := by simpa using y2
  by_cases y3 : y = 3
  rotate_left
  · have c3 : (y == 3) = false := by simpa using y3
    clear hv0 hv2 hz0
    go_wp2
    go_ret
    exact ⟨B, m, d, rfl, hm5, es, HW.out, C.out⟩
  subst y3
  clear c0 c1 c2 b0
  obtain ⟨i1, q1, i10, i11, M1⟩ := C.out.st
  have SLC := Lib.hid C.out.sl
  have M := Lib.hid M1
  clear M1 C
  obtain ⟨gB, rfl⟩ := M.out.addr 1 rfl (by omega)
  replace M := Lib.hid (hist_split HP.out M.out)
  simp only at M
  have hpn : pn ≤ 100 := by have h := M.out.len 2 rfl; rw [flat_length Row.cells_length] at h; have := HES.out _ (List.mem_of_getElem? HP.out); simp only at this; omega
  clear hv0 hz0
  go_wp2_with (first | (at_builtin; refine Mine.wp_push M.out rfl _ _ 51 rfl 84 _ _ _ Try.underlying51 Try.infoRow rfl (by omega) 2 rfl rfl _ _ rfl rfl rfl (by simp [Value.oneCell']) (by omega) (by unfold maxLen; omega) ?_; intro A2 c2 w' M'; (try simp only [Act.put, List.setIfInBounds_toArray, List.set_cons_zero, List.set_cons_succ, List.drop_succ_cons, List.drop_zero, List.take_succ_cons, List.take_zero, putAt, ints_set, ints_push, List.getElem_toArray, List.getElem_cons_zero, List.getElem_cons_succ] at M'); replace M := Lib.hid M'; clear M') | ((with_reducible show wpList _ _ _ (⟨_, _, _, _, _, none⟩ :: _) _ _); first | (refine Mine.wp_getr M.out rfl _ _ rfl 1 _ rfl rfl _ (by assumption) _ (by first | exact Try.underlying51) (by rfl) ?_; (try simp only [Act.put, List.setIfInBounds_toArray, List.set_cons_zero, List.set_cons_succ, List.drop_succ_cons, List.drop_zero, List.take_succ_cons, List.take_zero, putAt, ints_set, ints_push, List.getElem_toArray, List.getElem_cons_zero, List.getElem_cons_succ])) | (refine Mine.wp_put M.out rfl _ _ _ rfl rfl 1 _ rfl rfl _ (by (conv => lhs; whnf) <;> rfl) (by omega) (by rfl) (by kernel_rfl) ?_; intro w' M'; (try simp only [Act.put, List.setIfInBounds_toArray, List.set_cons_zero, List.set_cons_succ, List.drop_succ_cons, List.drop_zero, List.take_succ_cons, List.take_zero, putAt, ints_set, ints_push, List.getElem_toArray, List.getElem_cons_zero, List.getElem_cons_succ] at M'); replace M := Lib.hid M'; clear M')))
  go_ret
  exact ⟨_, _, _, rfl, hm5, HistN.more (k := U) (r := ⟨8, 0⟩) HES.out HP.out ⟨⟨i1, q1, i10, i11, M.out⟩, SLC.out⟩⟩

set_option maxHeartbeats 4000000 in
theorem l3Draw_v {b w : World} {g : Nat} {A : Option Addr} {n c : Nat} {bs : List UInt8} {fr : List Res} (C0 : CurM b w g A n c bs fr) (hn : n ≤ 1048576) : Calls Try.prog 86 #[.pointer (some ⟨g, 0, none⟩)] w fun e w' => (∃ x : Int, e = .returned (.int .i64 x) ∧ (0 ≤ x ∧ x ≤ 65535)) ∧ CurM b w' g A n c bs fr := by
  have C := Lib.hid C0
  clear C0
  go_enter Try.func86, Try.ntmps86
  go_wp2_with fail
  refine (once_m C.out hn 6 (by omega)).mono ?_
  rintro e w1 ⟨⟨b1, rfl⟩, C1⟩
  replace C := Lib.hid C1
  clear C1
  cases b1
  · go_wp2_with fail
    refine (below_m C.out hn 9 (by omega)).mono ?_
    rintro e w1 ⟨⟨x, rfl, hx⟩, C1⟩
    replace C := Lib.hid C1
    clear C1
    have HX : Hid (0 ≤ x ∧ x ≤ 65535) := by show _ ∧ _; omega
    clear hx
    go_wp2
    go_ret
    exact ⟨⟨x, rfl, HX.out⟩, C.out⟩
  go_wp2_with fail
  refine (pick_m C.out hn [0, 65535, 65534, 256] (by simp) (by simp) _ rfl 4 rfl).mono ?_
  rintro e w2 ⟨⟨z, rfl, hz⟩, C1⟩
  replace C := Lib.hid C1
  have HX : Hid (0 ≤ z ∧ z ≤ 65535) := by show _ ∧ _; simp at hz; omega
  clear C1 hz
  go_wp2
  go_ret
  exact ⟨⟨z, rfl, HX.out⟩, C.out⟩
set_option maxHeartbeats 8000000 in
theorem l3DrawVals_v {b w : World} {g : Nat} {A : Option Addr} {n c : Nat} {bs : List UInt8} {fr : List Res} (C0 : CurM b w g A n c bs fr) (hn : n ≤ 1048576) : Calls Try.prog 75 #[.pointer (some ⟨g, 0, none⟩)] w fun e w' => ∃ (B : Option Addr) (d : Nat) (zs : List Int), e = .returned (.slice B 8 d) ∧ valsOk zs = true ∧ CurM b w' g A n c bs (.row 3 1 B 8 d (ints zs) :: fr) := by
  have C := Lib.hid (C0.row ((Ext.refl' _).al _) (own_emptySt w))
  clear C0
  go_enter Try.func75, Try.ntmps75
  go_wp2
  go_loopw [3, 4] (fun u i wr => ∃ (m d : Nat) (B : Option Addr) (zs : List Int), m ≤ 8 ∧ u = .slice B m d ∧ i = .int .i64 m ∧ Hid (∀ z ∈ zs, 0 ≤ z ∧ z ≤ 65535) ∧ Hid (CurM b wr g A n c bs (.row 3 1 B m d (ints zs) :: fr))) (fun _ i _ => 8 - (intOf i).toNat)
  case atStart => exact ⟨0, _, _, [], by omega, rfl, rfl, fun _ h => (by cases h), C⟩
  case round =>
    clear C
    obtain ⟨m, d, B, zs, hm, rfl, rfl, HZ, C⟩ := hrel
    by_cases hlt : (m : Int) < 8
    rotate_left
    · obtain rfl : m = 8 := by omega
      have HV : Hid (valsOk zs = true) := by
        obtain ⟨_, _, _, _, M⟩ := C.out.st
        have h := M.len1 1 rfl
        rw [ints_length] at h
        exact dec_yes ⟨h, fun i hi x hx => HZ.out x (List.mem_of_getElem? hx)⟩
      go_wp2
      go_ret
      first | exact ⟨_, _, zs, rfl, HV.out, C.out⟩ | exact ⟨_, _, rfl, zs, HV.out, C.out⟩
    have HLT : Hid (m < 8) := by show _ < _; omega
    go_wp2_with fail
    refine (l3Draw_v C.out hn).mono ?_
    rintro e w1 ⟨⟨x, rfl, hx⟩, C1⟩
    have HX := Lib.hid hx
    replace C := Lib.hid C1
    clear C1 hx
    obtain ⟨i1, q1, i10, i11, M1⟩ := C.out.st
    have SLC := Lib.hid C.out.sl
    have M := Lib.hid M1
    clear M1 C
    go_wp2_with (first | (at_builtin; refine Mine.wp_push M.out rfl _ _ 22 rfl 3 _ _ _ Try.underlying22 Try.infoInt rfl (by omega) 1 rfl rfl _ _ rfl rfl rfl (by simp [Value.oneCell']) (by omega) (by unfold maxLen; omega) ?_; intro A2 c2 w' M'; (try simp only [Act.put, List.setIfInBounds_toArray, List.set_cons_zero, List.set_cons_succ, List.drop_succ_cons, List.drop_zero, List.take_succ_cons, List.take_zero, putAt, ints_set, ints_push, List.getElem_toArray, List.getElem_cons_zero, List.getElem_cons_succ] at M'); replace M := Lib.hid M'; clear M'))
    go_roundw
    case rel => exact ⟨m + 1, _, _, zs ++ [x], HLT.out, rfl, by go_num, Lib.hid (fun z hz => by rcases List.mem_append.1 hz with q | q; exact HZ.out z q; (simp at q; subst q; exact HX.out)), ⟨⟨i1, q1, i10, i11, M.out⟩, SLC.out⟩⟩
    case measure => have := HLT.out; simp [intOf]; omega

set_option maxHeartbeats 4000000 in
theorem DrawStateAt_any {A : Option Addr} {n c : Nat} {bs : List UInt8} (w : World) (hs : Sl w (fun j => j < w.heap.size) 1 A n (charsD bs)) (hn : n ≤ 1048576) :
    Calls Try.prog 39 #[.slice A n c] w fun e w' => ∃ (B0 : Option Addr) (m0 d0 : Nat) (zs : List Int) (B : Option Addr) (m d : Nat) (es : List Ent) (N : Int), e = .returned (.tuple #[.slice B0 m0 d0, .slice B m d, .int .i64 N]) ∧ m0 ≤ 8 ∧ (m0 = 8 → valsOk zs = true) ∧ m ≤ 5 ∧ (∀ p ∈ es, p.2.puts_.length ≤ 101) ∧ Mine w w' (.row 64 3 B m d (es.flatMap ecell) :: (es.map erow ++ [.row 3 1 B0 m0 d0 (ints zs)])) := by
  have HS := Lib.hid hs
  clear hs
  go_enter Try.func39, Try.ntmps39
  go_wp2_with fail
  refine (new_m w HS.out hn).mono ?_
  rintro e w1 ⟨g, rfl, C1⟩
  have C := Lib.hid C1
  clear C1
  go_wp2_with fail
  refine (l3DrawVals_v C.out hn).mono ?_
  rintro e w2 ⟨B0, d0, zs, rfl, hv, C1⟩
  replace C := Lib.hid C1
  have HV := Lib.hid hv
  have hd0 : 8 ≤ d0 := by obtain ⟨_, _, _, _, M⟩ := C1.st; exact M.cap 1 rfl
  clear C1 hv
  go_wp2_with fail
  refine (once_m C.out hn 20 (by omega)).mono ?_
  rintro e w1 ⟨⟨b1, rfl⟩, C1⟩
  replace C := Lib.hid C1
  clear C1
  cases b1
  · skip
    go_wp2_with fail
    refine (l11Any_m C.out hn).mono ?_
    rintro e w4 ⟨B, m, d, rfl, hm5, es, h0, C1⟩
    replace C := Lib.hid C1
    have HES := Lib.hid h0
    clear C1 h0
    go_wp2_with fail
    refine (below_m C.out hn 20 (by omega)).mono ?_
    rintro e w1 ⟨⟨y, rfl, hy⟩, C1⟩
    replace C := Lib.hid C1
    clear C1
    have hy0 : 0 ≤ y := hy.1
    have hy1 : y ≤ 20 := by omega
    clear hy
    go_wp2
    refine bodyPost_ret (v := .tuple #[.slice B0 8 d0, .slice B m d, .int .i64 (y - 2)]) (by simp [results, Try.results39, go_sem]) rfl ?_
    exact ⟨B0, 8, d0, zs, B, m, d, es, _, rfl, by omega, fun _ => HV.out, hm5, HES.out, C.out.fr⟩
  replace C := Lib.hid (cut_one C.out)
  go_wp2_with fail
  refine (l11Any_m C.out hn).mono ?_
  rintro e w4 ⟨B, m, d, rfl, hm5, es, h0, C1⟩
  replace C := Lib.hid C1
  have HES := Lib.hid h0
  clear C1 h0
  go_wp2_with fail
  refine (below_m C.out hn 20 (by omega)).mono ?_
  rintro e w1 ⟨⟨y, rfl, hy⟩, C1⟩
  replace C := Lib.hid C1
  clear C1
  have hy0 : 0 ≤ y := hy.1
  have hy1 : y ≤ 20 := by omega
  clear hy
  go_wp2
  refine bodyPost_ret (v := .tuple #[.slice B0 1 d0, .slice B m d, .int .i64 (y - 2)]) (by simp [results, Try.results39, go_sem]) rfl ?_
  exact ⟨B0, 1, d0, zs.take 1, B, m, d, es, _, rfl, by omega, fun h => (by omega), hm5, HES.out, C.out.fr⟩
end Go.Proofs.Ytnhkjgnfjphllaa
