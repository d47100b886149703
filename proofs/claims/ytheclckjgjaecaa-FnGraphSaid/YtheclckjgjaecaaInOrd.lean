/- InOrder of program and reference; the contract of laws.FnExactInOrder. No condition. -/
import Derived.Test.YtheclckjgjaecaaReads
namespace Go.Proofs.Ytheclckjgjaecaa
open Go.RowKit Go.Deep

theorem accOk_len {l : List Access} (h : accOk l = true) : l.length ≤ 60 := (dec_true h).1
/-- The accesses of one, among the first k. -/
def ofWho (l : List Access) (x : Int) (k : Nat) : List Access := (l.take k).filter fun a => decide (a.who = x)
theorem ofWho_hit {l : List Access} {x : Int} {k : Nat} {a : Access} (h : l[k]? = some a) (h1 : a.who = x) : ofWho l x (k + 1) = ofWho l x k ++ [a] := by
  rw [ofWho, List.take_add_one, h]; simp [ofWho, List.filter_append, h1]
theorem ofWho_miss {l : List Access} {x : Int} {k : Nat} {a : Access} (h : l[k]? = some a) (h1 : a.who ≠ x) : ofWho l x (k + 1) = ofWho l x k := by
  rw [ofWho, List.take_add_one, h]; simp [ofWho, List.filter_append, h1]
theorem ofWho_le (l : List Access) (x : Int) (k : Nat) : (ofWho l x k).length ≤ k := by
  have h1 := List.length_filter_le (fun a : Access => decide (a.who = x)) (l.take k)
  have h2 := List.length_take_le k l
  unfold ofWho
  omega
def inTo (l : List Access) (ord : List Int) (i : Nat) : List Access := (ord.take i).flatMap fun x => ofWho l x l.length
theorem inTo_succ {l : List Access} {ord : List Int} {i : Nat} {x : Int} (h : ord[i]? = some x) : inTo l ord (i + 1) = inTo l ord i ++ ofWho l x l.length := by
  rw [inTo, List.take_add_one, h]; simp [inTo]
theorem inTo_le (l : List Access) (ord : List Int) : ∀ i, (inTo l ord i).length ≤ i * l.length
  | 0 => by simp [inTo]
  | i + 1 => by
    have ih := inTo_le l ord i
    have e : (i + 1) * l.length = i * l.length + l.length := Nat.succ_mul _ _
    cases h : ord[i]? with
    | none =>
      have h2 : inTo l ord (i + 1) = inTo l ord i := by rw [inTo, List.take_add_one, h]; simp [inTo]
      rw [h2]; omega
    | some x =>
      have := ofWho_le l x l.length
      rw [inTo_succ h, List.length_append]; omega
noncomputable def inord (l : List Access) (ord : List Int) : List Access := if accOk l = true ∧ ord.length ≤ 9 then inTo l ord ord.length else []
theorem inord_yes {l : List Access} {ord : List Int} (h : accOk l = true) (h2 : ord.length ≤ 9) : inord l ord = inTo l ord ord.length := if_pos ⟨h, h2⟩
theorem inord_no {l : List Access} {ord : List Int} (h : ¬ (accOk l = true ∧ ord.length ≤ 9)) : inord l ord = [] := if_neg h
theorem inord_le (l : List Access) (ord : List Int) : (inord l ord).length ≤ 540 := by
  by_cases h : accOk l = true ∧ ord.length ≤ 9
  · rw [inord_yes h.1 h.2]
    have h1 := inTo_le l ord ord.length
    have h2 := accOk_len h.1
    have h3 : ord.length * l.length ≤ 9 * 60 := Nat.mul_le_mul h.2 h2
    omega
  · rw [inord_no h]; simp

theorem own_emptyA (w : World) : (w.alloc (.cells #[] 54)).ownsRow w.heap.size 54 3 (.slice (some ⟨w.heap.size, 0, none⟩) 0 0) 0 (([] : List Access).flatMap Access.cells) :=
  World.ownsRow_lit w #[] 0 (Nat.le_refl _) (Nat.zero_le _) (by simp)

set_option maxHeartbeats 2000000 in
theorem spec_InOrder (A : Option Addr) (n c : Nat) (l : List Access) (A2 : Option Addr) (n2 c2 : Nat) (l2 : List Int) (w : World) (S : Nat → Prop) (hs : Sl w S 3 A n (l.flatMap Access.cells)) (hm : n ≤ 1048576)
    (S2 : Nat → Prop) (hs2 : Sl w S2 1 A2 n2 (ints l2)) (hm2 : n2 ≤ 1048576) :
    Calls Try.prog 34 #[.slice A n c, .slice A2 n2 c2] w fun e w' => ∃ B m d, e = .returned (.slice B m d) ∧ w'.ownsRow w.heap.size 54 3 (.slice B m d) m ((inord l l2).flatMap Access.cells) ∧ Ext w w' := by
  have H := Lib.hid (hs.flen Access.cells_length (by omega))
  have H2 := Lib.hid hs2.len
  have oe := Lib.hid (own_emptyA w)
  go_enter Try.func34, Try.ntmps34
  go_wp2_with fail
  refine (spec_AccessOk A n c l _ S (hs.ext ((Ext.refl' w).al _)) (by omega)).mono ?_
  rintro e w1 ⟨rfl, x1⟩
  have X1 := Lib.hid (((Ext.refl' w).al _).tr x1)
  have O1 := Lib.hid (own_ext oe.out x1)
  clear x1
  cases hok : accOk l
  · have HN := Lib.hid (inord_no (l := l) (ord := l2) (by simp [hok]))
    clear hok
    go_wp2
    go_ret
    exact ⟨_, _, _, rfl, by rw [HN.out]; exact O1.out, X1.out⟩
  · have h60 : n ≤ 60 := by have := accOk_len hok; rw [H.out] at this; exact this
    by_cases h9 : n2 ≤ 9
    rotate_left
    · have HN := Lib.hid (inord_no (l := l) (ord := l2) (by rw [H2.out]; omega))
      clear hok
      go_wp2
      go_ret
      exact ⟨_, _, _, rfl, by rw [HN.out]; exact O1.out, X1.out⟩
    have HY := Lib.hid (inord_yes (ord := l2) hok (by rw [H2.out]; exact h9))
    clear hok
    go_wp2
    go_loopw [5, 6] (fun u i wr => ∃ (k m : Nat) (B : Option Addr) (d : Nat), k ≤ n2 ∧ m ≤ k * 60 ∧ i = .int .i64 k ∧ u = .slice B m d ∧ wr.ownsRow w.heap.size 54 3 (.slice B m d) m ((inTo l l2 k).flatMap Access.cells) ∧ Ext w wr) (fun _ i _ => n2 - (intOf i).toNat)
    case atStart => exact ⟨0, 0, _, _, Nat.zero_le _, Nat.zero_le _, rfl, rfl, O1.out, X1.out⟩
    case round =>
      obtain ⟨k, m, B, d, hk, hmk, rfl, rfl, ho, hx⟩ := hrel
      obtain ⟨wo, rfl⟩ : ∃ wo : World, wo = wr := ⟨_, rfl⟩
      have HX := Lib.hid hx
      have HO := Lib.hid ho
      clear ho
      by_cases hlt : k < n2
      · obtain ⟨b2, o2, rfl⟩ := hs2.addr (by omega)
        have HS := Lib.hid hs
        have HS2 := Lib.hid hs2
        obtain ⟨x, hxk, -, -⟩ := HS2.out.int_cell hlt
        have HXK := Lib.hid hxk
        clear hx hs hs2 hxk
        go_wp2
        go_loopw [5, 7] (fun u i wi => ∃ (j m : Nat) (B : Option Addr) (d : Nat), j ≤ n ∧ m ≤ k * 60 + j ∧ i = .int .i64 j ∧ u = .slice B m d ∧ wi.ownsRow w.heap.size 54 3 (.slice B m d) m ((inTo l l2 k ++ ofWho l x j).flatMap Access.cells) ∧ Ext w wi) (fun _ i _ => n - (intOf i).toNat)
        case atStart => exact ⟨0, m, B, d, Nat.zero_le _, by omega, rfl, rfl, by simpa [ofWho] using HO.out, HX.out⟩
        case round =>
          clear HO hmk
          obtain ⟨j, m, B, d, hj, hmk, rfl, rfl, ho, hxi⟩ := hrel
          have HXW := Lib.hid hxi
          have HO := Lib.hid ho
          clear ho
          by_cases hjn : j < n
          · obtain ⟨b, o, rfl⟩ := HS.out.addr (by omega)
            obtain ⟨sj, hsj, -, hcj⟩ := (HS.out.ext hxi).flat_cell (k := j) Access.cells_length (by omega) (by omega)
            obtain ⟨g0, g1, g2⟩ := sj
            have j0 := hcj 0 (by omega)
            have j1 := hcj 1 (by omega)
            have j2 := hcj 2 (by omega)
            simp only [Access.cells, List.getElem?_cons_zero, List.getElem?_cons_succ, Nat.add_zero] at j0 j1 j2
            obtain ⟨x', hx', -, hcx⟩ := (HS2.out.ext hxi).int_cell hlt
            rw [HXK.out] at hx'
            injection hx' with hx'
            subst hx'
            have HSJ := Lib.hid hsj
            clear hsj hcj hxi
            by_cases he : g0 = x
            · have e1 := Lib.hid (ofWho_hit HSJ.out he)
              have hbe : (g0 == x) = true := by simp [he]
              clear he
              go_wp2
              go_quiet (fail)
              have HO2 := Lib.hid (own_ext HO.out (Ext.drN (Ext.refl' _) nq))
              have HX2 := Lib.hid (HXW.out.drN nq)
              go_wp2_with (at_builtin; refine wp_push rfl (.tmp 40) (.tmp 45) _ rfl w.heap.size 54 _ _ _ Try.underlying25 Try.infoAccess rfl (by omega) B m d _ rfl HO2.out [.int .i64 g0, .int .i64 g1, .bool g2] _ (by simp) rfl rfl (by simp [Value.oneCell']) (by omega) (by unfold maxLen; omega) HX2.out.size ?_; intro A' c' w' hown' hchg' hat')
              go_roundw
              case rel =>
                refine ⟨j + 1, m + 1, A', c', by omega, by omega, by go_num, rfl, ?_, hchg'.ext HX2.out fun g hg => (HO2.out.lt g hg).1⟩
                rw [e1.out, ← List.append_assoc, List.flatMap_append (ys := [_])]; simpa [Access.cells] using hown'
              case measure => simp [intOf]; omega
            · have e1 := Lib.hid (ofWho_miss HSJ.out he)
              have hbe : (g0 == x) = false := by simp [he]
              clear he
              go_wp2
              go_quiet (fail)
              go_wp2
              go_roundw
              case rel => exact ⟨j + 1, m, B, d, by omega, by omega, by go_num, rfl, by rw [e1.out]; exact own_ext HO.out (Ext.drN (Ext.refl' _) _), HXW.out.drN _⟩
              case measure => simp [intOf]; omega
          · obtain rfl : j = n := by omega
            clear hxi
            go_wp2
            go_roundw
            case rel => exact ⟨k + 1, m, B, d, by omega, by omega, by go_num, rfl, by rw [inTo_succ HXK.out, H.out]; exact HO.out, HXW.out⟩
            case measure => simp [intOf]; omega
      · clear hx
        go_wp2
        go_ret
        have e : k = l2.length := by rw [H2.out]; omega
        exact ⟨_, _, _, rfl, by rw [HY.out, ← e]; exact HO.out, HX.out⟩
set_option maxHeartbeats 2000000 in
theorem impl_InOrder (A : Option Addr) (n c : Nat) (l : List Access) (A2 : Option Addr) (n2 c2 : Nat) (l2 : List Int) (w : World) (S : Nat → Prop) (hs : Sl w S 3 A n (l.flatMap Access.cells)) (hm : n ≤ 1048576)
    (S2 : Nat → Prop) (hs2 : Sl w S2 1 A2 n2 (ints l2)) (hm2 : n2 ≤ 1048576) :
    Calls Try.prog 36 #[.slice A n c, .slice A2 n2 c2] w fun e w' => ∃ B m d, e = .returned (.slice B m d) ∧ w'.ownsRow w.heap.size 54 3 (.slice B m d) m ((inord l l2).flatMap Access.cells) ∧ Ext w w' := by
  have H := Lib.hid (hs.flen Access.cells_length (by omega))
  have H2 := Lib.hid hs2.len
  go_enter Try.func36, Try.ntmps36
  go_wp2_with fail
  refine (impl_AccessOk A n c l _ S hs (by omega)).mono ?_
  rintro e w1 ⟨rfl, x1⟩
  have X1 := Lib.hid x1
  clear x1
  cases hok : accOk l
  · have HN := Lib.hid (inord_no (l := l) (ord := l2) (by simp [hok]))
    clear hok
    go_wp2
    go_ret
    exact ⟨_, _, _, rfl, by rw [HN.out]; exact World.ownsRow_nil _ _ _ _, X1.out⟩
  · have h60 : n ≤ 60 := by have := accOk_len hok; rw [H.out] at this; exact this
    by_cases h9 : n2 ≤ 9
    rotate_left
    · have HN := Lib.hid (inord_no (l := l) (ord := l2) (by rw [H2.out]; omega))
      clear hok
      go_wp2
      go_ret
      exact ⟨_, _, _, rfl, by rw [HN.out]; exact World.ownsRow_nil _ _ _ _, X1.out⟩
    have HY := Lib.hid (inord_yes (ord := l2) hok (by rw [H2.out]; exact h9))
    have oe := Lib.hid (own_base (own_emptyA w1) X1.out.size)
    clear hok
    go_wp2
    go_loopw [5, 21] (fun u i wr => ∃ (k m : Nat) (B : Option Addr) (d : Nat), k ≤ n2 ∧ m ≤ k * 60 ∧ i = .int .i64 k ∧ u = .slice B m d ∧ wr.ownsRow w.heap.size 54 3 (.slice B m d) m ((inTo l l2 k).flatMap Access.cells) ∧ Ext w wr) (fun _ i _ => n2 - (intOf i).toNat)
    case atStart => exact ⟨0, 0, _, _, Nat.zero_le _, Nat.zero_le _, rfl, rfl, oe.out, X1.out.al _⟩
    case round =>
      obtain ⟨k, m, B, d, hk, hmk, rfl, rfl, ho, hx⟩ := hrel
      obtain ⟨wo, rfl⟩ : ∃ wo : World, wo = wr := ⟨_, rfl⟩
      have HX := Lib.hid hx
      have HO := Lib.hid ho
      clear ho
      by_cases hlt : k < n2
      · obtain ⟨b2, o2, rfl⟩ := hs2.addr (by omega)
        obtain ⟨x, hxk, -, hxc⟩ := (hs2.ext hx).int_cell hlt
        have HS := Lib.hid hs
        have HXK := Lib.hid hxk
        clear hx hs hs2 hxk
        go_wp2
        clear hxc
        go_loopw [5, 27] (fun u i wi => ∃ (j m : Nat) (B : Option Addr) (d : Nat), j ≤ n ∧ m ≤ k * 60 + j ∧ i = .int .i64 j ∧ u = .slice B m d ∧ wi.ownsRow w.heap.size 54 3 (.slice B m d) m ((inTo l l2 k ++ ofWho l x j).flatMap Access.cells) ∧ Ext w wi) (fun _ i _ => n - (intOf i).toNat)
        case atStart => exact ⟨0, m, B, d, Nat.zero_le _, by omega, rfl, rfl, by simpa [ofWho] using HO.out, HX.out⟩
        case round =>
          clear HO hmk
          obtain ⟨j, m, B, d, hj, hmk, rfl, rfl, ho, hxi⟩ := hrel
          have HXW := Lib.hid hxi
          have HO := Lib.hid ho
          clear ho
          by_cases hjn : j < n
          · obtain ⟨b, o, rfl⟩ := HS.out.addr (by omega)
            obtain ⟨sj, hsj, -, hcj⟩ := (HS.out.ext hxi).flat_cell (k := j) Access.cells_length (by omega) (by omega)
            obtain ⟨g0, g1, g2⟩ := sj
            have j0 := hcj 0 (by omega)
            have j1 := hcj 1 (by omega)
            have j2 := hcj 2 (by omega)
            simp only [Access.cells, List.getElem?_cons_zero, List.getElem?_cons_succ, Nat.add_zero] at j0 j1 j2
            have HSJ := Lib.hid hsj
            clear hsj hcj hxi
            by_cases he : g0 = x
            · have e1 := Lib.hid (ofWho_hit HSJ.out he)
              have hbe : (g0 == x) = true := by simp [he]
              clear he
              have HO2 := Lib.hid (HO.out.alloc (Obj.cells #[Value.int .i64 g0, .int .i64 g1, .bool g2] 54))
              have HX2 := Lib.hid (HXW.out.al (Obj.cells #[Value.int .i64 g0, .int .i64 g1, .bool g2] 54))
              go_wp2_with (at_builtin; refine wp_push rfl (.tmp 35) (.tmp 37) _ rfl w.heap.size 54 _ _ _ Try.underlying25 Try.infoAccess rfl (by omega) B m d _ rfl HO2.out [.int .i64 g0, .int .i64 g1, .bool g2] _ (by simp) rfl rfl (by simp [Value.oneCell']) (by omega) (by unfold maxLen; omega) HX2.out.size ?_; intro A' c' w' hown' hchg' hat')
              go_roundw
              case rel =>
                refine ⟨j + 1, m + 1, A', c', by omega, by omega, by go_num, rfl, ?_, hchg'.ext HX2.out fun g hg => (HO2.out.lt g hg).1⟩
                rw [e1.out, ← List.append_assoc, List.flatMap_append (ys := [_])]; simpa [Access.cells] using hown'
              case measure => simp [intOf]; omega
            · have e1 := Lib.hid (ofWho_miss HSJ.out he)
              have hbe : (g0 == x) = false := by simp [he]
              clear he
              go_wp2
              go_roundw
              case rel => exact ⟨j + 1, m, B, d, by omega, by omega, by go_num, rfl, by rw [e1.out]; exact HO.out.alloc _, HXW.out.al _⟩
              case measure => simp [intOf]; omega
          · obtain rfl : j = n := by omega
            clear hxi
            go_wp2
            go_roundw
            case rel => exact ⟨k + 1, m, B, d, by omega, by omega, by go_num, rfl, by rw [inTo_succ HXK.out, H.out]; exact HO.out, HXW.out⟩
            case measure => simp [intOf]; omega
      · clear hx
        go_wp2
        go_ret
        have e : k = l2.length := by rw [H2.out]; omega
        exact ⟨_, _, _, rfl, by rw [HY.out, ← e]; exact HO.out, HX.out⟩

set_option maxHeartbeats 4000000 in
theorem law_InOrder (A0 : Option Addr) (n0 c0 : Nat) (l0 : List Access) (A1 : Option Addr) (n1 c1 : Nat) (l1 : List Int) (w : World) (hs0 : Sl w (fun _ => True) 3 A0 n0 (l0.flatMap Access.cells)) (hm0 : n0 ≤ 9223372036854775807) (hs1 : Sl w (fun _ => True) 1 A1 n1 (ints l1)) (hm1 : n1 ≤ 9223372036854775807) :
    Calls Try.prog 8 #[.slice A0 n0 c0, .slice A1 n1 c1] w fun e w' => e = .returned (.bool true) ∧ Ext w w' := by
  by_cases hn1 : n1 ≤ 1048576
  rotate_left
  · go_enter Try.func8, Try.ntmps8
    go_wp2
    go_ret
    exact ⟨rfl, Ext.refl' _⟩
  by_cases hn0 : (n0 : Int) ≤ (1048576 : Int)
  rotate_left
  · go_enter Try.func8, Try.ntmps8
    go_wp2_with fail
    refine (szAccessS_any _ _ _ _ _ (by omega) (by omega) hm0).mono ?_
    rintro e w' ⟨rfl, rfl⟩
    rw [if_neg (by omega)]
    go_wp2
    go_ret
    exact ⟨rfl, Ext.refl' _⟩
  have hsO0 := hs0
  have hsO1 := hs1
  have hN0 : n0 ≤ 1048576 := by omega
  have hN1 : n1 ≤ 1048576 := by omega
  go_enter Try.func8, Try.ntmps8
  go_wp2_with fail
  refine (szAccessS_any _ _ _ _ _ (by omega) (by omega) hm0).mono ?_
  rintro e w' ⟨rfl, rfl⟩
  rw [if_pos (by omega)]
  go_wp2_with fail
  refine (toAccessS_any _ _ _ _ _ _ hs0 hN0).mono ?_
  rintro e w1 ⟨B1, d1, rfl, o1, x1⟩
  replace hs0 := hs0.ext x1
  replace hs1 := hs1.ext x1
  have xx := x1
  have z1 : w.heap.size ≤ w1.heap.size := x1.size
  have r1 := Lib.hid o1.lt
  go_wp2_with fail
  refine (toIntS_any _ _ _ _ _ _ hs1 hN1).mono ?_
  rintro e w2 ⟨B2, d2, rfl, o2, x2⟩
  replace o1 := own_ext o1 x2
  replace hs0 := hs0.ext x2
  replace hs1 := hs1.ext x2
  replace xx := xx.tr x2
  have z2 : w1.heap.size ≤ w2.heap.size := x2.size
  have r2 := Lib.hid o2.lt
  go_wp2_with fail
  refine (spec_InOrder _ _ _ _ _ _ _ _ _ _ (ownSl o1) hN0 _ (ownSl o2) hN1).mono ?_
  rintro e w3 ⟨B3_0, m3_0, d3_0, rfl, o3_0, x3⟩
  replace o1 := own_ext o1 x3
  replace o2 := own_ext o2 x3
  replace hs0 := hs0.ext x3
  replace hs1 := hs1.ext x3
  replace xx := xx.tr x3
  have z3 : w2.heap.size ≤ w3.heap.size := x3.size
  have r3_0 := Lib.hid o3_0.lt
  have b3_0 : m3_0 ≤ 1048576 := by have h1 := (o3_0).1; rw [flat_length Access.cells_length] at h1; have h2 := inord_le l0 l1; omega
  go_wp2_with fail
  refine (toAccessS_any _ _ _ _ _ _ hs0 hN0).mono ?_
  rintro e w4 ⟨B4, d4, rfl, o4, x4⟩
  replace o3_0 := own_ext o3_0 x4
  replace hs0 := hs0.ext x4
  replace hs1 := hs1.ext x4
  replace xx := xx.tr x4
  have z4 : w3.heap.size ≤ w4.heap.size := x4.size
  have r4 := Lib.hid o4.lt
  go_wp2_with fail
  refine (toIntS_any _ _ _ _ _ _ hs1 hN1).mono ?_
  rintro e w5 ⟨B5, d5, rfl, o5, x5⟩
  replace o3_0 := own_ext o3_0 x5
  replace o4 := own_ext o4 x5
  replace hs0 := hs0.ext x5
  replace hs1 := hs1.ext x5
  replace xx := xx.tr x5
  have z5 : w4.heap.size ≤ w5.heap.size := x5.size
  have r5 := Lib.hid o5.lt
  go_wp2_with fail
  refine (impl_InOrder _ _ _ _ _ _ _ _ _ _ (ownSl o4) hN0 _ (ownSl o5) hN1).mono ?_
  rintro e w6 ⟨B6_0, m6_0, d6_0, rfl, o6_0, x6⟩
  replace o3_0 := own_ext o3_0 x6
  replace o4 := own_ext o4 x6
  replace o5 := own_ext o5 x6
  replace hs0 := hs0.ext x6
  replace hs1 := hs1.ext x6
  replace xx := xx.tr x6
  have z6 : w5.heap.size ≤ w6.heap.size := x6.size
  have r6_0 := Lib.hid o6_0.lt
  obtain rfl : m3_0 = m6_0 := by have h1 := o3_0.1; have h2 := o6_0.1; omega
  go_wp2_with fail
  refine (eqAccessS_same _ _ _ _ _ _ _ _ _ (ownSl o6_0) (ownSl o3_0) (by omega)).mono ?_
  rintro e w7 ⟨rfl, x7⟩
  replace o3_0 := own_ext o3_0 x7
  replace o4 := own_ext o4 x7
  replace o5 := own_ext o5 x7
  replace o6_0 := own_ext o6_0 x7
  replace hs0 := hs0.ext x7
  replace hs1 := hs1.ext x7
  replace xx := xx.tr x7
  have z7 : w6.heap.size ≤ w7.heap.size := x7.size
  go_wp2_with fail
  refine (toAccessS_any _ _ _ _ _ _ hs0 hN0).mono ?_
  rintro e w8 ⟨B8, d8, rfl, o8, x8⟩
  replace o3_0 := own_ext o3_0 x8
  replace o4 := own_ext o4 x8
  replace o5 := own_ext o5 x8
  replace o6_0 := own_ext o6_0 x8
  replace hs0 := hs0.ext x8
  replace hs1 := hs1.ext x8
  replace xx := xx.tr x8
  have z8 : w7.heap.size ≤ w8.heap.size := x8.size
  have r8 := Lib.hid o8.lt
  go_wp2_with fail
  refine (eqAccessS_same _ _ _ _ _ _ _ _ _ (ownSl o4) (ownSl o8) (by omega)).mono ?_
  rintro e w9 ⟨rfl, x9⟩
  replace o3_0 := own_ext o3_0 x9
  replace o4 := own_ext o4 x9
  replace o5 := own_ext o5 x9
  replace o6_0 := own_ext o6_0 x9
  replace o8 := own_ext o8 x9
  replace hs0 := hs0.ext x9
  replace hs1 := hs1.ext x9
  replace xx := xx.tr x9
  have z9 : w8.heap.size ≤ w9.heap.size := x9.size
  go_wp2_with fail
  refine (toIntS_any _ _ _ _ _ _ hs1 hN1).mono ?_
  rintro e w10 ⟨B10, d10, rfl, o10, x10⟩
  replace o3_0 := own_ext o3_0 x10
  replace o4 := own_ext o4 x10
  replace o5 := own_ext o5 x10
  replace o6_0 := own_ext o6_0 x10
  replace hs0 := hs0.ext x10
  replace hs1 := hs1.ext x10
  replace xx := xx.tr x10
  have z10 : w9.heap.size ≤ w10.heap.size := x10.size
  have r10 := Lib.hid o10.lt
  go_wp2_with fail
  refine (eqIntS_same _ _ _ _ _ _ _ _ _ (ownSl o5) (ownSl o10) (by omega)).mono ?_
  rintro e w11 ⟨rfl, x11⟩
  replace o3_0 := own_ext o3_0 x11
  replace o4 := own_ext o4 x11
  replace o5 := own_ext o5 x11
  replace o6_0 := own_ext o6_0 x11
  replace o10 := own_ext o10 x11
  replace hs0 := hs0.ext x11
  replace hs1 := hs1.ext x11
  replace xx := xx.tr x11
  have z11 : w10.heap.size ≤ w11.heap.size := x11.size
  go_wp2_with fail
  refine (markAccessS_any _ _ _ _ _ 1 _ o4 (by omega) (by omega)).mono ?_
  rintro e w12 ⟨rfl, o12, c12⟩
  have z12 : w11.heap.size ≤ w12.heap.size := c12.size
  replace o3_0 := own_chg o3_0 c12 (fun g hg q => by have h1 := r3_0.out g hg; have h2 := r4.out g q; omega)
  replace o5 := own_chg o5 c12 (fun g hg q => by have h1 := r5.out g hg; have h2 := r4.out g q; omega)
  replace o6_0 := own_chg o6_0 c12 (fun g hg q => by have h1 := r6_0.out g hg; have h2 := r4.out g q; omega)
  replace xx : Ext w w12 := c12.ext xx (fun g hg => by have h2 := r4.out g hg; omega)
  replace hs0 : Sl w12 (fun _ => True) 3 A0 n0 (l0.flatMap Access.cells) := hsO0.ext xx
  replace hs1 : Sl w12 (fun _ => True) 1 A1 n1 (ints l1) := hsO1.ext xx
  clear c12
  clear o12
  go_wp2_with fail
  refine (markIntS_any _ _ _ _ _ (1 + (n0 : Int) * 3) _ o5 (by omega) (by omega)).mono ?_
  rintro e w13 ⟨rfl, o13, c13⟩
  have z13 : w12.heap.size ≤ w13.heap.size := c13.size
  replace o3_0 := own_chg o3_0 c13 (fun g hg q => by have h1 := r3_0.out g hg; have h2 := r5.out g q; omega)
  replace o6_0 := own_chg o6_0 c13 (fun g hg q => by have h1 := r6_0.out g hg; have h2 := r5.out g q; omega)
  replace xx : Ext w w13 := c13.ext xx (fun g hg => by have h2 := r5.out g hg; omega)
  replace hs0 : Sl w13 (fun _ => True) 3 A0 n0 (l0.flatMap Access.cells) := hsO0.ext xx
  replace hs1 : Sl w13 (fun _ => True) 1 A1 n1 (ints l1) := hsO1.ext xx
  clear c13
  clear o13
  have hq1 : (0 : Int) ≤ 1 + (n0 : Int) * 3 + (n1 : Int) := by omega
  go_wp2_with fail
  refine (eqAccessS_same _ _ _ _ _ _ _ _ _ (ownSl o6_0) (ownSl o3_0) (by omega)).mono ?_
  rintro e w14 ⟨rfl, x14⟩
  replace o3_0 := own_ext o3_0 x14
  replace o6_0 := own_ext o6_0 x14
  replace hs0 := hs0.ext x14
  replace hs1 := hs1.ext x14
  replace xx := xx.tr x14
  have z14 : w13.heap.size ≤ w14.heap.size := x14.size
  go_wp2_with fail
  refine (markAccessS_any _ _ _ _ _ 1 _ o6_0 (by omega) (by omega)).mono ?_
  rintro e w15 ⟨rfl, o15, c15⟩
  have z15 : w14.heap.size ≤ w15.heap.size := c15.size
  replace o3_0 := own_chg o3_0 c15 (fun g hg q => by have h1 := r3_0.out g hg; have h2 := r6_0.out g q; omega)
  replace xx : Ext w w15 := c15.ext xx (fun g hg => by have h2 := r6_0.out g hg; omega)
  replace hs0 : Sl w15 (fun _ => True) 3 A0 n0 (l0.flatMap Access.cells) := hsO0.ext xx
  replace hs1 : Sl w15 (fun _ => True) 1 A1 n1 (ints l1) := hsO1.ext xx
  clear c15
  have r15 := r6_0
  have hq2_0 : (0 : Int) ≤ 1 + (m3_0 : Int) * 3 := by omega
  have hq3 : ((1 + (m3_0 : Int) * 3) != (1 + (m3_0 : Int) * 3)) = false := by simp
  go_wp2_with fail
  refine (heldAccessS_any _ _ _ (1) _ _ (ownSl o15) (by omega) (by omega)).mono ?_
  rintro e w16 ⟨rfl, x16⟩
  replace o3_0 := own_ext o3_0 x16
  replace o15 := own_ext o15 x16
  replace hs0 := hs0.ext x16
  replace hs1 := hs1.ext x16
  replace xx := xx.tr x16
  have z16 : w15.heap.size ≤ w16.heap.size := x16.size
  go_wp2_with fail
  refine (toAccessS_any _ _ _ _ _ _ hs0 hN0).mono ?_
  rintro e w17 ⟨B17, d17, rfl, o17, x17⟩
  replace o3_0 := own_ext o3_0 x17
  replace o15 := own_ext o15 x17
  replace hs0 := hs0.ext x17
  replace hs1 := hs1.ext x17
  replace xx := xx.tr x17
  have z17 : w16.heap.size ≤ w17.heap.size := x17.size
  have r17 := Lib.hid o17.lt
  go_wp2_with fail
  refine (toIntS_any _ _ _ _ _ _ hs1 hN1).mono ?_
  rintro e w18 ⟨B18, d18, rfl, o18, x18⟩
  replace o3_0 := own_ext o3_0 x18
  replace o15 := own_ext o15 x18
  replace o17 := own_ext o17 x18
  replace hs0 := hs0.ext x18
  replace hs1 := hs1.ext x18
  replace xx := xx.tr x18
  have z18 : w17.heap.size ≤ w18.heap.size := x18.size
  have r18 := Lib.hid o18.lt
  go_wp2_with fail
  refine (impl_InOrder _ _ _ _ _ _ _ _ _ _ (ownSl o17) hN0 _ (ownSl o18) hN1).mono ?_
  rintro e w19 ⟨B19_0, m19_0, d19_0, rfl, o19_0, x19⟩
  replace o3_0 := own_ext o3_0 x19
  replace o15 := own_ext o15 x19
  replace o17 := own_ext o17 x19
  replace o18 := own_ext o18 x19
  replace hs0 := hs0.ext x19
  replace hs1 := hs1.ext x19
  replace xx := xx.tr x19
  have z19 : w18.heap.size ≤ w19.heap.size := x19.size
  have r19_0 := Lib.hid o19_0.lt
  obtain rfl : m3_0 = m19_0 := by have h1 := o3_0.1; have h2 := o19_0.1; omega
  go_wp2_with fail
  refine (eqAccessS_same _ _ _ _ _ _ _ _ _ (ownSl o19_0) (ownSl o3_0) (by omega)).mono ?_
  rintro e w20 ⟨rfl, x20⟩
  replace o3_0 := own_ext o3_0 x20
  replace o15 := own_ext o15 x20
  replace o19_0 := own_ext o19_0 x20
  replace hs0 := hs0.ext x20
  replace hs1 := hs1.ext x20
  replace xx := xx.tr x20
  have z20 : w19.heap.size ≤ w20.heap.size := x20.size
  go_wp2_with fail
  refine (heldAccessS_any _ _ _ (1) _ _ (ownSl o15) (by omega) (by omega)).mono ?_
  rintro e w21 ⟨rfl, x21⟩
  replace o3_0 := own_ext o3_0 x21
  replace o15 := own_ext o15 x21
  replace o19_0 := own_ext o19_0 x21
  replace hs0 := hs0.ext x21
  replace hs1 := hs1.ext x21
  replace xx := xx.tr x21
  have z21 : w20.heap.size ≤ w21.heap.size := x21.size
  go_wp2
  go_ret
  exact ⟨rfl, xx⟩
end Go.Proofs.Ytheclckjgjaecaa
