/- The contract of laws.FnVers. No condition. -/
import Derived.Test.YtnhkjgnfjphllaaVHk
import Derived.Test.YtnhkjgnfjphllaaVersQ
import Derived.Test.YtnhkjgnfjphllaaVersNew
import Derived.Test.YtnhkjgnfjphllaaRegH
import Derived.Test.YtnhkjgnfjphllaaOpenB
namespace Go.Proofs.Ytnhkjgnfjphllaa
open Go.RowKit Go.Deep
set_option linter.unusedSimpArgs false
set_option linter.unusedVariables false

theorem big_any (A : Option Addr) (n c : Nat) (w : World) : Calls Try.prog 38 #[.slice A n c] w fun e w' => e = .returned (.bool (decide ((1048576 : Int) < (n : Int)))) ∧ w = w' := by
  go_enter Try.func38, Try.ntmps38
  go_wp2
  go_ret
  exact ⟨rfl, rfl⟩
theorem big_yes (A : Option Addr) (n c : Nat) (w : World) (h : Hid ((1048576 : Int) < (n : Int))) : Calls Try.prog 38 #[.slice A n c] w fun e w' => e = .returned (.bool true) ∧ w = w' := by
  refine (big_any A n c w).mono ?_
  rintro e w' ⟨rfl, rfl⟩
  rw [decide_eq_true h.out]
  exact ⟨rfl, rfl⟩
theorem big_no (A : Option Addr) (n c : Nat) (w : World) (h : Hid (¬ (1048576 : Int) < (n : Int))) : Calls Try.prog 38 #[.slice A n c] w fun e w' => e = .returned (.bool false) ∧ w = w' := by
  refine (big_any A n c w).mono ?_
  rintro e w' ⟨rfl, rfl⟩
  rw [decide_eq_false h.out]
  exact ⟨rfl, rfl⟩
theorem Sl.low {w : World} {S : Nat → Prop} {size n : Nat} {A : Option Addr} {xs : List Value} (h : Sl w S size A n xs) : Sl w (fun j => j < w.heap.size) size A n xs :=
  ⟨h.1, fun hn => by obtain ⟨b, o, e, _, hb, hc⟩ := h.2 hn; exact ⟨b, o, e, hb, hb, hc⟩⟩
set_option maxHeartbeats 400000 in
theorem sameInts_same (A B : Option Addr) (n c d : Nat) (zs : List Int) (w : World) (S T : Nat → Prop) (ha : Sl w S 1 A n (ints zs)) (hb : Sl w T 1 B n (ints zs)) (hm : n ≤ 9223372036854775807) :
    Calls Try.prog 44 #[.slice A n c, .slice B n d] w fun e w' => e = .returned (.bool true) ∧ Ext w w' := by
  go_enter Try.func44, Try.ntmps44
  go_wp2
  go_loopw [5] (fun i wr => ∃ (k : Nat), k ≤ n ∧ i = .int .i64 k ∧ Ext w wr) (fun i _ => n - (intOf i).toNat)
  case atStart => exact ⟨0, Nat.zero_le _, rfl, Ext.refl' _⟩
  case round =>
    obtain ⟨k, hk, rfl, hx⟩ := hrel
    by_cases hlt : k < n
    · obtain ⟨b1, o1, x, rfl, hb1, hxk, hc1⟩ := (ha.ext hx).int_at hlt
      obtain ⟨b2, o2, y, rfl, hb2, hyk, hc2⟩ := (hb.ext hx).int_at hlt
      rw [hxk] at hyk
      injection hyk with hyk
      subst hyk
      have HE2 := Lib.hid hx
      clear hxk hx
      go_wp2
      go_quiet (fail)
      go_wp2
      go_roundw
      case rel => exact ⟨k + 1, by omega, by go_num, HE2.out.drN _⟩
      case measure => simp [intOf]; omega
    · go_wp2
      go_ret
      exact ⟨rfl, hx⟩
theorem byte_at {w : World} {S : Nat → Prop} {A : Option Addr} {n k : Nat} {bs : List UInt8} (hs : Sl w S 1 A n (charsD bs)) (hk : k < n) : ∃ b o x, A = some ⟨b, o, none⟩ ∧ (0 ≤ x ∧ x ≤ 255) ∧ w.cell? ⟨b, o + k, none⟩ = some (.int .u8 x) := by
  obtain ⟨b, o, e, _, hb, hc⟩ := hs.2 (by omega)
  obtain ⟨u, hu⟩ : ∃ u, bs[k]? = some u := ⟨_, List.getElem?_eq_getElem (by have h := hs.1; simp [charsD] at h; omega)⟩
  have hcj := hc k (by omega)
  have := u.toNat_lt
  exact ⟨b, o, (u.toNat : Int), e, ⟨by omega, by omega⟩, by rw [hcj]; simp [charsD, hu]⟩
set_option maxHeartbeats 1000000 in
theorem at_any (A : Option Addr) (n c : Nat) (bs : List UInt8) (k : Nat) (hk : (k : Int) ≤ 1000) (w : World) (S : Nat → Prop) (hs : Sl w S 1 A n (charsD bs)) (hn : n ≤ 1048576) :
    Calls Try.prog 42 #[.slice A n c, .int .i64 (k : Int)] w fun e w' => ∃ x : Int, e = .returned (.int .i64 x) ∧ (0 ≤ x ∧ x ≤ 255) ∧ w = w' := by
  by_cases h : (k : Int) < (n : Int)
  · obtain ⟨b, o, x, rfl, hx, k0⟩ := byte_at hs (k := k) (by omega)
    have hx0 := hx.1
    have hx1 := hx.2
    clear hs hx
    go_enter Try.func42, Try.ntmps42
    go_wp2
    go_ret
    exact ⟨_, rfl, by omega, rfl⟩
  · clear hs
    have hnI : (n : Int) ≤ 1048576 := by omega
    have hk0 : (0 : Int) ≤ (k : Int) := by omega
    go_enter Try.func42, Try.ntmps42
    go_wp2
    go_ret
    exact ⟨_, rfl, by omega, rfl⟩
theorem Mine.step_sets {P : Program} {ops : Array Oper} {o : Oper} {a : Act} {Q : Exit → Act → World → Prop} {b w : World} {rs : List Res} {K : Act → World → Prop} {E : Prop} (M : Mine b w rs) (hgd : o.guard = none) (ty : TypeId) (x y : Operand) (ho : o.op = .store ty x y) (hd : o.dst = none) (i : Nat) (j : Nat) {g : Nat} {t : TypeId} {cs : List Value} (hi : rs[i]? = some (.box g t cs.toArray))
    (hx : a.eval x = .pointer (some ⟨g, j, none⟩)) (vs : List Value) (hy : a.eval y = .agg vs.toArray) (hj : j + vs.length ≤ cs.length) (h1 : ∀ u ∈ vs, u.oneCell' = true) (hu : (P.info? ty).map (·.size) = some vs.length)
    (h : ∀ w', Mine b w' (rs.set i (.box g t (putAt cs j vs).toArray)) → K (a.put o.dst undef) w') : if Region.wanted o (yielded ops a.tmps) = true then Oper.wp P o a w K Q else E := by
  have hw : Region.wanted o (yielded ops a.tmps) = true := by simp [Region.wanted, hgd]
  rw [if_pos hw]
  have k : Chg (fun k => k = g) w (w.setCells g j vs.toArray.toList) := Chg.cells (S := fun k => k = g) rfl _ _ (Chg.refl _ w)
  exact wp_store_mid ty x y ho g j vs.toArray hx hy (there_box (M.box_at i hi) (by simpa using hj)) (by simpa using hu) (all_oneCell_toArray h1) (h _ (M.swap hi k (fun k hk => by rw [hk]; rfl) ⟨M.box_le i hi, Bx.cells vs cs j (M.box_at i hi)⟩ (fun k hk => .inl hk)))
theorem hist_puts {b w : World} {es : List Ent} {B : Option Addr} {m d : Nat} {pre : List Res} {k : Nat} {p : Ent} (M : Mine b w (pre ++ es.map erow)) (hp : es[k]? = some p) : Sl w (fun _ => True) 2 p.1.1 p.1.2.1 (p.2.puts_.flatMap Row.cells) := by
  have h : (pre ++ es.map erow)[pre.length + k]? = some (erow p) := by
    rw [List.getElem?_append_right (by omega), Nat.add_sub_cancel_left, List.getElem?_map, hp]; rfl
  exact ownSl (M.row_at _ h)
theorem newBase_ok {l : List Int} (h : valsOk l = true) : newBase l = l := by unfold newBase; rw [if_pos h]
theorem mod_in {y L : Int} (hy : 0 ≤ y) (hL : 0 ≤ L) : 0 ≤ y % (L + 1) ∧ y % (L + 1) ≤ L := by
  have h1 := Int.emod_nonneg y (show L + 1 ≠ 0 by omega)
  have h2 := Int.emod_lt_of_pos y (show 0 < L + 1 by omega)
  omega

set_option maxRecDepth 100000 in
set_option maxHeartbeats 32000000 in
theorem law_FnVers (A : Option Addr) (n c : Nat) (bs : List UInt8) (w : World) (hs : Sl w (fun _ => True) 1 A n (charsD bs)) :
    Calls Try.prog 10 #[.slice A n c] w fun e w' => e = .returned (.bool true) ∧ Ext w w' := by
  by_cases hb : (1048576 : Int) < (n : Int)
  · have HG := Lib.hid hb
    clear hb
    go_enter Try.func10, Try.ntmps10
    go_wp2_with (go_at_call 38; refine (big_yes _ _ _ _ HG).mono ?_; rintro e w' ⟨rfl, rfl⟩)
    go_ret
    exact ⟨rfl, Ext.refl' _⟩
  have HG := Lib.hid hb
  have HS := Lib.hid hs
  have HB : Hid (n ≤ 1048576) := by have h := HG.out; show n ≤ _; omega
  clear hb hs
  go_enter Try.func10, Try.ntmps10
  go_wp2_with (go_at_call 38; refine (big_no _ _ _ _ HG).mono ?_; rintro e w' ⟨rfl, rfl⟩)
  refine (DrawStateAt_any w HS.out.low HB.out).mono ?_
  rintro e w1 ⟨B0, m0, d0, zs, B, m, d, es, N, rfl, hm0, hv8, hm5, hes, M1⟩
  obtain ⟨l, hl⟩ : ∃ l : List Wrote, l = es.map (·.2) := ⟨_, rfl⟩
  have HLL := Lib.hid hl
  have HES := Lib.hid hes
  have M : Hid (Mine w w1 (.row 3 1 B0 m0 d0 (ints zs) :: .row 64 3 B m d (es.flatMap ecell) :: es.map erow)) := M1.perm (by rw [← List.cons_append]; exact List.perm_append_comm)
  have HP : Hid (∀ x ∈ l, x.puts_.length ≤ 1048576) := by
    intro x hx
    rw [hl] at hx
    obtain ⟨p, hp, rfl⟩ := List.mem_map.1 hx
    have := hes p hp
    omega
  have hlm : Hid (l.length = m) := by have h := M1.len 0 rfl; rw [flat_length ecell_length] at h; show _ = _; rw [hl, List.length_map]; omega
  have HVV := Lib.hid hv8
  clear M1 hes hv8 hl
  go_wp2_with fail
  refine (spec_HistOk B m d l _ _ (HLL.out ▸ hist_R (fr := []) (M.out.tail.perm (by rw [List.append_nil])) (fun p hp => by have := HES.out p hp; omega)) (by omega) HP.out).mono ?_
  rintro e w2 ⟨rfl, x2⟩
  replace M := Lib.hid (M.out.on x2)
  clear x2
  cases hok : histOk l
  · go_wp2
    go_ret
    exact ⟨rfl, M.out.ext⟩
  by_cases h8 : m0 = 8
  rotate_left
  · have b8 : ((m0 : Int) != 8) = true := by simp; omega
    go_wp2
    go_ret
    exact ⟨rfl, M.out.ext⟩
  subst h8
  have HOK := Lib.hid hok
  have hv := HVV.out rfl
  have HV := Lib.hid hv
  clear hok HVV
  go_wp2_with fail
  refine (impl_VersNew B0 8 d0 zs _ _ (M.out.row_sl 0 rfl) (by omega)).mono ?_
  rintro e w3 ⟨B1, m1, d1, B2, m2, d2, rfl, o1, o2, ap, x3⟩
  rw [newBase_ok hv] at o1
  rw [hv]
  clear hv
  have M9 : Mine _ w3 [.row 3 1 B1 m1 d1 (ints zs), .row 73 3 B2 m2 d2 (([] : List Ver).flatMap Ver.cells)] := ⟨x3, fun r hr => (by rcases List.mem_cons.1 hr with q | q; (subst q; exact o1); (rcases List.mem_cons.1 q with q | q; (subst q; exact o2); cases q)), List.pairwise_cons.2 ⟨fun r hr => (by rcases List.mem_cons.1 hr with q | q; (subst q; exact fun g a b => ap.out g a b); cases q), List.pairwise_cons.2 ⟨fun r hr => (by cases hr), List.Pairwise.nil⟩⟩⟩
  have hm1 : m1 = 8 := by have h := M9.len1 0 rfl; rw [ints_length] at h; rw [← h]; exact valsOk_len HV.out
  have hm2 : m2 = 0 := by have h := M9.len 1 rfl; simp at h; omega
  subst hm1 hm2
  replace M := Lib.hid (M.out.call M9)
  simp only [List.cons_append, List.nil_append] at M
  clear M9 o1 o2 ap x3
  go_wp2_with (first | ((with_reducible show wpList _ _ _ (⟨_, _, _, _, _, none⟩ :: _) _ _); first | (refine Mine.wp_alloc M.out rfl 25 rfl (.agg #[.slice none 0 0, .int .i64 0, .slice none 0 0]) (by kernel_rfl) ?_; intro gx w' M'; (try simp only [Value.cells, Act.put, List.setIfInBounds_toArray, List.set_cons_zero, List.set_cons_succ, List.drop_succ_cons, List.drop_zero, List.take_succ_cons, List.take_zero, putAt, ints_set, ints_push, List.getElem_toArray, List.getElem_cons_zero, List.getElem_cons_succ] at M'); replace M := Lib.hid M'; clear M'; (try simp only [Act.put, List.setIfInBounds_toArray, List.set_cons_zero, List.set_cons_succ, List.drop_succ_cons, List.drop_zero, List.take_succ_cons, List.take_zero, putAt, ints_set, ints_push, List.getElem_toArray, List.getElem_cons_zero, List.getElem_cons_succ])) | (refine Mine.wp_sets M.out rfl 25 _ _ rfl rfl 0 _ rfl rfl _ rfl (Nat.le_of_ble_eq_true rfl) (by simp [Value.oneCell']) (by kernel_rfl) ?_; intro w' M'; (try simp only [Act.put, List.setIfInBounds_toArray, List.set_cons_zero, List.set_cons_succ, List.drop_succ_cons, List.drop_zero, List.take_succ_cons, List.take_zero, putAt, ints_set, ints_push, List.getElem_toArray, List.getElem_cons_zero, List.getElem_cons_succ] at M'); replace M := Lib.hid M'; clear M')))
  refine (spec_Stamps B m d l _ _ (HLL.out ▸ hist_R (fr := []) (M.out.tail.tail.tail.tail.perm (by rw [List.append_nil])) (fun p hp => by have := HES.out p hp; omega)) (by omega) HP.out).mono ?_
  rintro e w4 ⟨B3, ms, d3, rfl, o3, x3⟩
  replace M := Lib.hid ((M.out.own o3 x3))
  clear o3 x3
  obtain ⟨SS, hSS⟩ : ∃ SS : List Int, SS = stampsOf l := ⟨_, rfl⟩
  have HSS := Lib.hid hSS
  have HMS : Hid (SS.length = ms) := by have h := M.out.len1 0 rfl; rw [ints_length] at h; rw [hSS]; exact h
  have HML : Hid (SS.length = l.length) := by show _ = _; rw [hSS, stamps_is HOK.out, sorted_len]
  rw [← hSS] at M
  clear hSS
  have hms : (ms : Int) ≤ 5 := by have h1 := HMS.out; have h2 := HML.out; have h3 := hlm.out; omega
  have hl6 : Hid (l.length ≤ 6) := by have h3 := hlm.out; show _ ≤ _; omega
  obtain ⟨hist, hHI⟩ : ∃ hist, hist = es.map erow := ⟨_, rfl⟩
  have HHI := Lib.hid hHI
  rw [← hHI] at M
  clear hHI
  replace M : Hid (Mine w w4 (.box gx 25 #[.slice B1 8 d1, .int .i64 0, .slice B2 0 d2] :: .row 3 1 B1 8 d1 (ints zs) :: .row 73 3 B2 0 d2 (([] : List Ver).flatMap Ver.cells) :: .row 3 1 B3 ms d3 (ints SS) :: .row 3 1 B0 8 d0 (ints zs) :: .row 64 3 B m d (es.flatMap ecell) :: hist)) := Lib.hid (M.out.perm ((List.perm_middle (l₁ := [Res.box gx 25 #[.slice B1 8 d1, .int .i64 0, .slice B2 0 d2], Res.row 3 1 B1 8 d1 (ints zs), Res.row 73 3 B2 0 d2 (([] : List Ver).flatMap Ver.cells)])).symm))
  go_wp2
  go_loopw [7, 9] (fun isv ii wr => ∃ i : Nat, i ≤ ms ∧ isv = .bool true ∧ ii = .int .i64 i ∧ Hid (∃ (B1 : Option Addr) (d1 : Nat) (B2 : Option Addr) (n2 d2 : Nat), Mine w wr (.box gx 25 #[.slice B1 8 d1, .int .i64 0, .slice B2 n2 d2] :: .row 3 1 B1 8 d1 (ints zs) :: .row 73 3 B2 n2 d2 ((vTo zs l SS i).flatMap Ver.cells) :: .row 3 1 B3 ms d3 (ints SS) :: .row 3 1 B0 8 d0 (ints zs) :: .row 64 3 B m d (es.flatMap ecell) :: hist))) (fun _ ii _ => ms - (intOf ii).toNat)
  case atStart => exact ⟨0, Nat.zero_le _, rfl, rfl, _, _, _, _, _, M.out⟩
  case round =>
    clear M
    obtain ⟨i, hi, rfl, rfl, HA⟩ := hrel
    by_cases hlt : (i : Int) < (ms : Int)
    · have HI : Hid (i < ms) := by show _ < _; omega
      obtain ⟨s, hz⟩ : ∃ s, SS[i]? = some s := ⟨_, List.getElem?_eq_getElem (by have := HMS.out; omega)⟩
      have HZ : Hid (SS[i]? = some s) := hz
      have hzi : (ints SS)[i]? = some (.int .i64 s) := by rw [ints_get, hz]; rfl
      clear hz
      go_wp2
      go_loopw [7, 10] (fun isv jj wr => ∃ j : Nat, j ≤ m ∧ isv = .bool true ∧ jj = .int .i64 j ∧ Hid (∃ (B1 : Option Addr) (d1 : Nat) (B2 : Option Addr) (n2 d2 : Nat), Mine w wr (.box gx 25 #[.slice B1 8 d1, .int .i64 0, .slice B2 n2 d2] :: .row 3 1 B1 8 d1 (ints zs) :: .row 73 3 B2 n2 d2 ((vAll zs l s (vTo zs l SS i) j).flatMap Ver.cells) :: .row 3 1 B3 ms d3 (ints SS) :: .row 3 1 B0 8 d0 (ints zs) :: .row 64 3 B m d (es.flatMap ecell) :: hist))) (fun _ jj _ => m - (intOf jj).toNat)
      case atStart => exact ⟨0, Nat.zero_le _, rfl, rfl, HA⟩
      case round =>
        clear HA
        obtain ⟨j, hj, rfl, rfl, HA⟩ := hrel
        by_cases hjn : (j : Int) < (m : Int)
        rotate_left
        · obtain rfl : m = j := by omega
          have HA2 := HA.out
          have ev : vAll zs l s (vTo zs l SS i) m = vTo zs l SS (i + 1) := by rw [vTo_next HZ.out, hlm.out]
          rw [ev] at HA2
          have HA3 := Lib.hid HA2
          clear HA HA2
          go_wp2
          go_roundw
          case rel => exact ⟨i + 1, HI.out, rfl, by go_num, HA3⟩
          case measure => have := HI.out; simp [intOf]; omega
        have HJ : Hid (j < m) := by show _ < _; omega
        obtain ⟨p, hp⟩ : ∃ p, es[j]? = some p := ⟨_, List.getElem?_eq_getElem (by have h := hlm.out; rw [HLL.out, List.length_map] at h; omega)⟩
        obtain ⟨⟨PA, pn, pc⟩, s0, s1, ps⟩ := p
        have hc0 : (es.flatMap ecell)[j * 3]? = some (.int .i64 s0) := by have h := flat_get ecell_length es j 0 _ hp (by omega); rw [Nat.add_zero] at h; exact h
        have hc2 : (es.flatMap ecell)[j * 3 + 2]? = some (.slice PA pn pc) := flat_get ecell_length es j 2 _ hp (by omega)
        have HY : Hid (l[j]? = some ⟨s0, s1, ps⟩) := by show _ = _; rw [HLL.out, List.getElem?_map, hp]; rfl
        have HPJ := Lib.hid hp
        obtain ⟨B1, d1, B2, n2, d2, M1⟩ := HA.out
        have M := Lib.hid M1
        clear HA M1 hp
        obtain ⟨gB, rfl⟩ := M.out.addr 5 rfl (by have := HJ.out; omega)
        obtain ⟨gS, rfl⟩ := M.out.addr 3 rfl (by have := HI.out; omega)
        by_cases hs0 : s0 = s
        rotate_left
        · have bs : (s0 == s) = false := by simpa using hs0
          have HS1 := Lib.hid hs0
          clear hs0
          go_wp2
          refine Mine.region_quiet M.out (by kernel_rfl) (by kernel_rfl) ?_
          repeat (first | go_big_quiet_skip | (go_big_quiet_want; first | (refine Mine.oq_getr _ _ rfl 5 _ rfl rfl _ (by assumption) _ (by first | exact Try.underlying3) (by rfl) ?_; (try simp only [Act.put, List.setIfInBounds_toArray, List.set_cons_zero, List.set_cons_succ, List.drop_succ_cons, List.drop_zero, List.take_succ_cons, List.take_zero, putAt, ints_set, ints_push, List.getElem_toArray, List.getElem_cons_zero, List.getElem_cons_succ]); go_big_quiet_on) | (refine Mine.oq_getr _ _ rfl 3 _ rfl rfl _ (by assumption) _ (by first | exact Try.underlying3) (by rfl) ?_; (try simp only [Act.put, List.setIfInBounds_toArray, List.set_cons_zero, List.set_cons_succ, List.drop_succ_cons, List.drop_zero, List.take_succ_cons, List.take_zero, putAt, ints_set, ints_push, List.getElem_toArray, List.getElem_cons_zero, List.getElem_cons_succ]); go_big_quiet_on) | (unfold Oper.quiet; apply Exists.intro; refine ⟨fun wq hq => ?_, ?_⟩; (clear hq; go_simp; first | done | rfl | exact ⟨rfl, rfl⟩); (try simp only [Act.put, List.setIfInBounds_toArray, List.set_cons_succ, List.set_cons_zero]); go_big_quiet_on)))
          refine wpQuiet_nil ?_
          intro w' M'
          replace M := Lib.hid M'
          clear M'
          go_wp2
          go_roundw
          case rel => exact ⟨j + 1, HJ.out, rfl, by go_num, Lib.hid ⟨_, _, _, _, _, by rw [vAll_no HY.out HS1.out]; exact M.out⟩⟩
          case measure => have := HJ.out; simp [intOf]; omega
        subst hs0
        have bs : (s0 == s0) = true := by simp
        have hS1 := walk_put HOK.out HV.out hl6.out (by rw [← HSS.out]; exact HZ.out) HY.out rfl
        have hLn := walk_len (k := j) HOK.out HV.out hl6.out (by rw [← HSS.out]; exact HZ.out) (by have := HJ.out; have := hlm.out; omega)
        have hLn1 := walk_len (k := j + 1) HOK.out HV.out hl6.out (by rw [← HSS.out]; exact HZ.out) (by have := HJ.out; have := hlm.out; omega)
        rw [vAll_yes HY.out rfl] at hS1 hLn1
        rw [← HSS.out] at hS1 hLn hLn1
        obtain ⟨V, hV⟩ : ∃ V, V = vAll zs l s0 (vTo zs l SS i) j := ⟨_, rfl⟩
        have HVE := Lib.hid hV
        rw [← hV] at hS1 hLn hLn1 M
        simp only at hS1 hLn1
        have HPO := Lib.hid hS1.1
        have HPT := Lib.hid hS1.2
        have HLN := Lib.hid hLn
        have HLN1 := Lib.hid hLn1
        clear hV hS1 hLn hLn1
        have hn2 : n2 ≤ 60 := by have h := M.out.len 2 rfl; rw [flat_length Ver.cells_length] at h; have := HLN.out; omega
        have hpn : pn ≤ 101 := by have h := (hist_puts (B := none) (m := 0) (d := 0) (pre := [_, _, _, _, _, _]) (HHI.out ▸ M.out) HPJ.out).flen Row.cells_length (by omega); have := HES.out _ (List.mem_of_getElem? HPJ.out); simp only at h this; omega
        go_wp2
        refine Mine.region_quiet M.out (by kernel_rfl) (by kernel_rfl) ?_
        repeat (first | go_big_quiet_skip | (go_big_quiet_want; first | (refine Mine.oq_getr _ _ rfl 5 _ rfl rfl _ (by assumption) _ (by first | exact Try.underlying3) (by rfl) ?_; (try simp only [Act.put, List.setIfInBounds_toArray, List.set_cons_zero, List.set_cons_succ, List.drop_succ_cons, List.drop_zero, List.take_succ_cons, List.take_zero, putAt, ints_set, ints_push, List.getElem_toArray, List.getElem_cons_zero, List.getElem_cons_succ]); go_big_quiet_on) | (refine Mine.oq_getr _ _ rfl 3 _ rfl rfl _ (by assumption) _ (by first | exact Try.underlying3) (by rfl) ?_; (try simp only [Act.put, List.setIfInBounds_toArray, List.set_cons_zero, List.set_cons_succ, List.drop_succ_cons, List.drop_zero, List.take_succ_cons, List.take_zero, putAt, ints_set, ints_push, List.getElem_toArray, List.getElem_cons_zero, List.getElem_cons_succ]); go_big_quiet_on) | (unfold Oper.quiet; apply Exists.intro; refine ⟨fun wq hq => ?_, ?_⟩; (clear hq; go_simp; first | done | rfl | exact ⟨rfl, rfl⟩); (try simp only [Act.put, List.setIfInBounds_toArray, List.set_cons_succ, List.set_cons_zero]); go_big_quiet_on)))
        refine wpQuiet_nil ?_
        intro w' M'
        replace M := Lib.hid M'
        clear M'
        go_wp2
        refine Mine.region_head M.out 16 (by kernel_rfl) (by kernel_rfl) ?_
        intro w' M'
        replace M := Lib.hid M'
        clear M'
        refine HQ.take (i := 0) rfl (by kernel_rfl) (by kernel_rfl) (by kernel_rfl) (by omega) rfl (fun _ _ _ _ h => h) ?_
        intro K hK
        (first | (refine Mine.rd_gets 25 _ rfl 0 _ 3 rfl rfl (Nat.le_of_ble_eq_true rfl) _ Try.underlying25 (by rfl) (by kernel_rfl) ?_; (try simp only [Act.put, List.setIfInBounds_toArray, List.set_cons_zero, List.set_cons_succ, List.drop_succ_cons, List.drop_zero, List.take_succ_cons, List.take_zero, putAt, ints_set, ints_push, List.getElem_toArray, List.getElem_cons_zero, List.getElem_cons_succ]); go_big_quiet_on) | (refine Mine.rd_getr _ _ rfl 3 _ rfl rfl _ (by assumption) _ (by first | exact Try.underlying3) (by rfl) ?_; (try simp only [Act.put, List.setIfInBounds_toArray, List.set_cons_zero, List.set_cons_succ, List.drop_succ_cons, List.drop_zero, List.take_succ_cons, List.take_zero, putAt, ints_set, ints_push, List.getElem_toArray, List.getElem_cons_zero, List.getElem_cons_succ]); go_big_quiet_on) | (refine Mine.rd_getr _ _ rfl 5 _ rfl rfl _ (by assumption) _ (by first | exact Try.underlying51) (by rfl) ?_; (try simp only [Act.put, List.setIfInBounds_toArray, List.set_cons_zero, List.set_cons_succ, List.drop_succ_cons, List.drop_zero, List.take_succ_cons, List.take_zero, putAt, ints_set, ints_push, List.getElem_toArray, List.getElem_cons_zero, List.getElem_cons_succ]); go_big_quiet_on) | (unfold Reads; apply Exists.intro; refine ⟨fun wq hq => ?_, ?_⟩; (clear hq; go_simp; first | done | rfl); (try simp only [Act.put, List.setIfInBounds_toArray, List.set_cons_succ, List.set_cons_zero]); go_big_quiet_on))
        refine HQ.take (i := 1) rfl (by kernel_rfl) (by kernel_rfl) (by kernel_rfl) (by omega) rfl (fun _ _ _ _ h => h) ?_
        intro K hK
        (first | (refine Mine.rd_gets 25 _ rfl 0 _ 3 rfl rfl (Nat.le_of_ble_eq_true rfl) _ Try.underlying25 (by rfl) (by kernel_rfl) ?_; (try simp only [Act.put, List.setIfInBounds_toArray, List.set_cons_zero, List.set_cons_succ, List.drop_succ_cons, List.drop_zero, List.take_succ_cons, List.take_zero, putAt, ints_set, ints_push, List.getElem_toArray, List.getElem_cons_zero, List.getElem_cons_succ]); go_big_quiet_on) | (refine Mine.rd_getr _ _ rfl 3 _ rfl rfl _ (by assumption) _ (by first | exact Try.underlying3) (by rfl) ?_; (try simp only [Act.put, List.setIfInBounds_toArray, List.set_cons_zero, List.set_cons_succ, List.drop_succ_cons, List.drop_zero, List.take_succ_cons, List.take_zero, putAt, ints_set, ints_push, List.getElem_toArray, List.getElem_cons_zero, List.getElem_cons_succ]); go_big_quiet_on) | (refine Mine.rd_getr _ _ rfl 5 _ rfl rfl _ (by assumption) _ (by first | exact Try.underlying51) (by rfl) ?_; (try simp only [Act.put, List.setIfInBounds_toArray, List.set_cons_zero, List.set_cons_succ, List.drop_succ_cons, List.drop_zero, List.take_succ_cons, List.take_zero, putAt, ints_set, ints_push, List.getElem_toArray, List.getElem_cons_zero, List.getElem_cons_succ]); go_big_quiet_on) | (unfold Reads; apply Exists.intro; refine ⟨fun wq hq => ?_, ?_⟩; (clear hq; go_simp; first | done | rfl); (try simp only [Act.put, List.setIfInBounds_toArray, List.set_cons_succ, List.set_cons_zero]); go_big_quiet_on))
        refine HQ.take (i := 2) rfl (by kernel_rfl) (by kernel_rfl) (by kernel_rfl) (by omega) rfl (fun _ _ _ _ h => h) ?_
        intro K hK
        (first | (refine Mine.rd_gets 25 _ rfl 0 _ 3 rfl rfl (Nat.le_of_ble_eq_true rfl) _ Try.underlying25 (by rfl) (by kernel_rfl) ?_; (try simp only [Act.put, List.setIfInBounds_toArray, List.set_cons_zero, List.set_cons_succ, List.drop_succ_cons, List.drop_zero, List.take_succ_cons, List.take_zero, putAt, ints_set, ints_push, List.getElem_toArray, List.getElem_cons_zero, List.getElem_cons_succ]); go_big_quiet_on) | (refine Mine.rd_getr _ _ rfl 3 _ rfl rfl _ (by assumption) _ (by first | exact Try.underlying3) (by rfl) ?_; (try simp only [Act.put, List.setIfInBounds_toArray, List.set_cons_zero, List.set_cons_succ, List.drop_succ_cons, List.drop_zero, List.take_succ_cons, List.take_zero, putAt, ints_set, ints_push, List.getElem_toArray, List.getElem_cons_zero, List.getElem_cons_succ]); go_big_quiet_on) | (refine Mine.rd_getr _ _ rfl 5 _ rfl rfl _ (by assumption) _ (by first | exact Try.underlying51) (by rfl) ?_; (try simp only [Act.put, List.setIfInBounds_toArray, List.set_cons_zero, List.set_cons_succ, List.drop_succ_cons, List.drop_zero, List.take_succ_cons, List.take_zero, putAt, ints_set, ints_push, List.getElem_toArray, List.getElem_cons_zero, List.getElem_cons_succ]); go_big_quiet_on) | (unfold Reads; apply Exists.intro; refine ⟨fun wq hq => ?_, ?_⟩; (clear hq; go_simp; first | done | rfl); (try simp only [Act.put, List.setIfInBounds_toArray, List.set_cons_succ, List.set_cons_zero]); go_big_quiet_on))
        refine HQ.take (i := 3) rfl (by kernel_rfl) (by kernel_rfl) (by kernel_rfl) (by omega) rfl (fun _ _ _ _ h => h) ?_
        intro K hK
        (first | (refine Mine.rd_gets 25 _ rfl 0 _ 3 rfl rfl (Nat.le_of_ble_eq_true rfl) _ Try.underlying25 (by rfl) (by kernel_rfl) ?_; (try simp only [Act.put, List.setIfInBounds_toArray, List.set_cons_zero, List.set_cons_succ, List.drop_succ_cons, List.drop_zero, List.take_succ_cons, List.take_zero, putAt, ints_set, ints_push, List.getElem_toArray, List.getElem_cons_zero, List.getElem_cons_succ]); go_big_quiet_on) | (refine Mine.rd_getr _ _ rfl 3 _ rfl rfl _ (by assumption) _ (by first | exact Try.underlying3) (by rfl) ?_; (try simp only [Act.put, List.setIfInBounds_toArray, List.set_cons_zero, List.set_cons_succ, List.drop_succ_cons, List.drop_zero, List.take_succ_cons, List.take_zero, putAt, ints_set, ints_push, List.getElem_toArray, List.getElem_cons_zero, List.getElem_cons_succ]); go_big_quiet_on) | (refine Mine.rd_getr _ _ rfl 5 _ rfl rfl _ (by assumption) _ (by first | exact Try.underlying51) (by rfl) ?_; (try simp only [Act.put, List.setIfInBounds_toArray, List.set_cons_zero, List.set_cons_succ, List.drop_succ_cons, List.drop_zero, List.take_succ_cons, List.take_zero, putAt, ints_set, ints_push, List.getElem_toArray, List.getElem_cons_zero, List.getElem_cons_succ]); go_big_quiet_on) | (unfold Reads; apply Exists.intro; refine ⟨fun wq hq => ?_, ?_⟩; (clear hq; go_simp; first | done | rfl); (try simp only [Act.put, List.setIfInBounds_toArray, List.set_cons_succ, List.set_cons_zero]); go_big_quiet_on))
        refine HQ.take (i := 4) rfl (by kernel_rfl) (by kernel_rfl) (by kernel_rfl) (by omega) rfl (fun _ _ _ _ h => h) ?_
        intro K hK
        (first | (refine Mine.rd_gets 25 _ rfl 0 _ 3 rfl rfl (Nat.le_of_ble_eq_true rfl) _ Try.underlying25 (by rfl) (by kernel_rfl) ?_; (try simp only [Act.put, List.setIfInBounds_toArray, List.set_cons_zero, List.set_cons_succ, List.drop_succ_cons, List.drop_zero, List.take_succ_cons, List.take_zero, putAt, ints_set, ints_push, List.getElem_toArray, List.getElem_cons_zero, List.getElem_cons_succ]); go_big_quiet_on) | (refine Mine.rd_getr _ _ rfl 3 _ rfl rfl _ (by assumption) _ (by first | exact Try.underlying3) (by rfl) ?_; (try simp only [Act.put, List.setIfInBounds_toArray, List.set_cons_zero, List.set_cons_succ, List.drop_succ_cons, List.drop_zero, List.take_succ_cons, List.take_zero, putAt, ints_set, ints_push, List.getElem_toArray, List.getElem_cons_zero, List.getElem_cons_succ]); go_big_quiet_on) | (refine Mine.rd_getr _ _ rfl 5 _ rfl rfl _ (by assumption) _ (by first | exact Try.underlying51) (by rfl) ?_; (try simp only [Act.put, List.setIfInBounds_toArray, List.set_cons_zero, List.set_cons_succ, List.drop_succ_cons, List.drop_zero, List.take_succ_cons, List.take_zero, putAt, ints_set, ints_push, List.getElem_toArray, List.getElem_cons_zero, List.getElem_cons_succ]); go_big_quiet_on) | (unfold Reads; apply Exists.intro; refine ⟨fun wq hq => ?_, ?_⟩; (clear hq; go_simp; first | done | rfl); (try simp only [Act.put, List.setIfInBounds_toArray, List.set_cons_succ, List.set_cons_zero]); go_big_quiet_on))
        refine HQ.take (i := 5) rfl (by kernel_rfl) (by kernel_rfl) (by kernel_rfl) (by omega) rfl (fun _ _ _ _ h => h) ?_
        intro K hK
        (first | (refine Mine.rd_gets 25 _ rfl 0 _ 3 rfl rfl (Nat.le_of_ble_eq_true rfl) _ Try.underlying25 (by rfl) (by kernel_rfl) ?_; (try simp only [Act.put, List.setIfInBounds_toArray, List.set_cons_zero, List.set_cons_succ, List.drop_succ_cons, List.drop_zero, List.take_succ_cons, List.take_zero, putAt, ints_set, ints_push, List.getElem_toArray, List.getElem_cons_zero, List.getElem_cons_succ]); go_big_quiet_on) | (refine Mine.rd_getr _ _ rfl 3 _ rfl rfl _ (by assumption) _ (by first | exact Try.underlying3) (by rfl) ?_; (try simp only [Act.put, List.setIfInBounds_toArray, List.set_cons_zero, List.set_cons_succ, List.drop_succ_cons, List.drop_zero, List.take_succ_cons, List.take_zero, putAt, ints_set, ints_push, List.getElem_toArray, List.getElem_cons_zero, List.getElem_cons_succ]); go_big_quiet_on) | (refine Mine.rd_getr _ _ rfl 5 _ rfl rfl _ (by assumption) _ (by first | exact Try.underlying51) (by rfl) ?_; (try simp only [Act.put, List.setIfInBounds_toArray, List.set_cons_zero, List.set_cons_succ, List.drop_succ_cons, List.drop_zero, List.take_succ_cons, List.take_zero, putAt, ints_set, ints_push, List.getElem_toArray, List.getElem_cons_zero, List.getElem_cons_succ]); go_big_quiet_on) | (unfold Reads; apply Exists.intro; refine ⟨fun wq hq => ?_, ?_⟩; (clear hq; go_simp; first | done | rfl); (try simp only [Act.put, List.setIfInBounds_toArray, List.set_cons_succ, List.set_cons_zero]); go_big_quiet_on))
        refine HQ.take (i := 6) rfl (by kernel_rfl) (by kernel_rfl) (by kernel_rfl) (by omega) rfl (fun _ _ _ _ h => h) ?_
        intro K hK
        (first | (refine Mine.rd_gets 25 _ rfl 0 _ 3 rfl rfl (Nat.le_of_ble_eq_true rfl) _ Try.underlying25 (by rfl) (by kernel_rfl) ?_; (try simp only [Act.put, List.setIfInBounds_toArray, List.set_cons_zero, List.set_cons_succ, List.drop_succ_cons, List.drop_zero, List.take_succ_cons, List.take_zero, putAt, ints_set, ints_push, List.getElem_toArray, List.getElem_cons_zero, List.getElem_cons_succ]); go_big_quiet_on) | (refine Mine.rd_getr _ _ rfl 3 _ rfl rfl _ (by assumption) _ (by first | exact Try.underlying3) (by rfl) ?_; (try simp only [Act.put, List.setIfInBounds_toArray, List.set_cons_zero, List.set_cons_succ, List.drop_succ_cons, List.drop_zero, List.take_succ_cons, List.take_zero, putAt, ints_set, ints_push, List.getElem_toArray, List.getElem_cons_zero, List.getElem_cons_succ]); go_big_quiet_on) | (refine Mine.rd_getr _ _ rfl 5 _ rfl rfl _ (by assumption) _ (by first | exact Try.underlying51) (by rfl) ?_; (try simp only [Act.put, List.setIfInBounds_toArray, List.set_cons_zero, List.set_cons_succ, List.drop_succ_cons, List.drop_zero, List.take_succ_cons, List.take_zero, putAt, ints_set, ints_push, List.getElem_toArray, List.getElem_cons_zero, List.getElem_cons_succ]); go_big_quiet_on) | (unfold Reads; apply Exists.intro; refine ⟨fun wq hq => ?_, ?_⟩; (clear hq; go_simp; first | done | rfl); (try simp only [Act.put, List.setIfInBounds_toArray, List.set_cons_succ, List.set_cons_zero]); go_big_quiet_on))
        refine HQ.take (i := 7) rfl (by kernel_rfl) (by kernel_rfl) (by kernel_rfl) (by omega) rfl (fun _ _ _ _ h => h) ?_
        intro K hK
        (first | (refine Mine.rd_gets 25 _ rfl 0 _ 3 rfl rfl (Nat.le_of_ble_eq_true rfl) _ Try.underlying25 (by rfl) (by kernel_rfl) ?_; (try simp only [Act.put, List.setIfInBounds_toArray, List.set_cons_zero, List.set_cons_succ, List.drop_succ_cons, List.drop_zero, List.take_succ_cons, List.take_zero, putAt, ints_set, ints_push, List.getElem_toArray, List.getElem_cons_zero, List.getElem_cons_succ]); go_big_quiet_on) | (refine Mine.rd_getr _ _ rfl 3 _ rfl rfl _ (by assumption) _ (by first | exact Try.underlying3) (by rfl) ?_; (try simp only [Act.put, List.setIfInBounds_toArray, List.set_cons_zero, List.set_cons_succ, List.drop_succ_cons, List.drop_zero, List.take_succ_cons, List.take_zero, putAt, ints_set, ints_push, List.getElem_toArray, List.getElem_cons_zero, List.getElem_cons_succ]); go_big_quiet_on) | (refine Mine.rd_getr _ _ rfl 5 _ rfl rfl _ (by assumption) _ (by first | exact Try.underlying51) (by rfl) ?_; (try simp only [Act.put, List.setIfInBounds_toArray, List.set_cons_zero, List.set_cons_succ, List.drop_succ_cons, List.drop_zero, List.take_succ_cons, List.take_zero, putAt, ints_set, ints_push, List.getElem_toArray, List.getElem_cons_zero, List.getElem_cons_succ]); go_big_quiet_on) | (unfold Reads; apply Exists.intro; refine ⟨fun wq hq => ?_, ?_⟩; (clear hq; go_simp; first | done | rfl); (try simp only [Act.put, List.setIfInBounds_toArray, List.set_cons_succ, List.set_cons_zero]); go_big_quiet_on))
        refine HQ.take (i := 8) rfl (by kernel_rfl) (by kernel_rfl) (by kernel_rfl) (by omega) rfl (fun _ _ _ _ h => h) ?_
        intro K hK
        (first | (refine Mine.rd_gets 25 _ rfl 0 _ 3 rfl rfl (Nat.le_of_ble_eq_true rfl) _ Try.underlying25 (by rfl) (by kernel_rfl) ?_; (try simp only [Act.put, List.setIfInBounds_toArray, List.set_cons_zero, List.set_cons_succ, List.drop_succ_cons, List.drop_zero, List.take_succ_cons, List.take_zero, putAt, ints_set, ints_push, List.getElem_toArray, List.getElem_cons_zero, List.getElem_cons_succ]); go_big_quiet_on) | (refine Mine.rd_getr _ _ rfl 3 _ rfl rfl _ (by assumption) _ (by first | exact Try.underlying3) (by rfl) ?_; (try simp only [Act.put, List.setIfInBounds_toArray, List.set_cons_zero, List.set_cons_succ, List.drop_succ_cons, List.drop_zero, List.take_succ_cons, List.take_zero, putAt, ints_set, ints_push, List.getElem_toArray, List.getElem_cons_zero, List.getElem_cons_succ]); go_big_quiet_on) | (refine Mine.rd_getr _ _ rfl 5 _ rfl rfl _ (by assumption) _ (by first | exact Try.underlying51) (by rfl) ?_; (try simp only [Act.put, List.setIfInBounds_toArray, List.set_cons_zero, List.set_cons_succ, List.drop_succ_cons, List.drop_zero, List.take_succ_cons, List.take_zero, putAt, ints_set, ints_push, List.getElem_toArray, List.getElem_cons_zero, List.getElem_cons_succ]); go_big_quiet_on) | (unfold Reads; apply Exists.intro; refine ⟨fun wq hq => ?_, ?_⟩; (clear hq; go_simp; first | done | rfl); (try simp only [Act.put, List.setIfInBounds_toArray, List.set_cons_succ, List.set_cons_zero]); go_big_quiet_on))
        refine HQ.take (i := 9) rfl (by kernel_rfl) (by kernel_rfl) (by kernel_rfl) (by omega) rfl (fun _ _ _ _ h => h) ?_
        intro K hK
        (first | (refine Mine.rd_gets 25 _ rfl 0 _ 3 rfl rfl (Nat.le_of_ble_eq_true rfl) _ Try.underlying25 (by rfl) (by kernel_rfl) ?_; (try simp only [Act.put, List.setIfInBounds_toArray, List.set_cons_zero, List.set_cons_succ, List.drop_succ_cons, List.drop_zero, List.take_succ_cons, List.take_zero, putAt, ints_set, ints_push, List.getElem_toArray, List.getElem_cons_zero, List.getElem_cons_succ]); go_big_quiet_on) | (refine Mine.rd_getr _ _ rfl 3 _ rfl rfl _ (by assumption) _ (by first | exact Try.underlying3) (by rfl) ?_; (try simp only [Act.put, List.setIfInBounds_toArray, List.set_cons_zero, List.set_cons_succ, List.drop_succ_cons, List.drop_zero, List.take_succ_cons, List.take_zero, putAt, ints_set, ints_push, List.getElem_toArray, List.getElem_cons_zero, List.getElem_cons_succ]); go_big_quiet_on) | (refine Mine.rd_getr _ _ rfl 5 _ rfl rfl _ (by assumption) _ (by first | exact Try.underlying51) (by rfl) ?_; (try simp only [Act.put, List.setIfInBounds_toArray, List.set_cons_zero, List.set_cons_succ, List.drop_succ_cons, List.drop_zero, List.take_succ_cons, List.take_zero, putAt, ints_set, ints_push, List.getElem_toArray, List.getElem_cons_zero, List.getElem_cons_succ]); go_big_quiet_on) | (unfold Reads; apply Exists.intro; refine ⟨fun wq hq => ?_, ?_⟩; (clear hq; go_simp; first | done | rfl); (try simp only [Act.put, List.setIfInBounds_toArray, List.set_cons_succ, List.set_cons_zero]); go_big_quiet_on))
        refine HQ.noisy (rs := [10, 14]) (by kernel_rfl) (by simp) (AllG.cons rfl (by omega) (fun K hK => ?_) (AllG.cons rfl (by omega) (fun K hK => ?_) AllG.nil))
        go_simp
        go_at_call 35
        refine (impl_VersPut_m s0 0 B1 8 d1 zs B2 n2 d2 (V) PA pn pc ps _ _ (M.out.row_sl 1 rfl) (by omega) _ (M.out.row_sl 2 rfl) (by omega) _ (hist_puts (B := none) (m := 0) (d := 0) (pre := [_, _, _, _, _, _]) (HHI.out ▸ M.out) HPJ.out) (by omega)).mono ?_
        rintro e w5 ⟨B4, n4, d4, B5, n5, d5, rfl, M4⟩
        rw [HPO.out]
        replace M := Lib.hid (M.out.call M4)
        simp only [List.cons_append, List.nil_append] at M
        clear M4
        refine hK.out _ _ (M.out.tail.tail) ?_
        clear hK K
        (try simp only [Act.put, List.setIfInBounds_toArray, List.set_cons_succ, List.set_cons_zero])
        refine HQ.take (i := 11) rfl (by kernel_rfl) (by kernel_rfl) (by kernel_rfl) (by omega) rfl (fun _ _ _ _ h => h) ?_
        intro K hK
        (first | (unfold Reads; apply Exists.intro; refine ⟨fun wq hq => ?_, ?_⟩; (clear hq; go_simp; first | done | rfl); (try simp only [Act.put, List.setIfInBounds_toArray, List.set_cons_succ, List.set_cons_zero]); go_big_quiet_on))
        refine HQ.take (i := 12) rfl (by kernel_rfl) (by kernel_rfl) (by kernel_rfl) (by omega) rfl (fun _ _ _ _ h => h) ?_
        intro K hK
        (first | (unfold Reads; apply Exists.intro; refine ⟨fun wq hq => ?_, ?_⟩; (clear hq; go_simp; first | done | rfl); (try simp only [Act.put, List.setIfInBounds_toArray, List.set_cons_succ, List.set_cons_zero]); go_big_quiet_on))
        refine HQ.take (i := 13) rfl (by kernel_rfl) (by kernel_rfl) (by kernel_rfl) (by omega) rfl (fun _ _ _ _ h => h) ?_
        intro K hK
        (first | (unfold Reads; apply Exists.intro; refine ⟨fun wq hq => ?_, ?_⟩; (clear hq; go_simp; first | done | rfl); (try simp only [Act.put, List.setIfInBounds_toArray, List.set_cons_succ, List.set_cons_zero]); go_big_quiet_on))
        refine HQ.noisy (rs := [14]) (by kernel_rfl) (by simp) (AllG.cons rfl (by omega) (fun K hK => ?_) AllG.nil)
        go_simp
        replace M := Lib.hid (M.out.box 25 #[.slice none 0 0, .int .i64 0, .slice none 0 0])
        refine hK.out _ _ (M.out.tail.tail.tail) ?_
        clear hK K
        (try simp only [Act.put, List.setIfInBounds_toArray, List.set_cons_succ, List.set_cons_zero])
        generalize w5.heap.size = gy at M ⊢
        rotate_left
        go_simp
        replace M := Lib.hid (M.out.box 25 #[.slice none 0 0, .int .i64 0, .slice none 0 0])
        refine hK.out _ _ (M.out.tail) ?_
        clear hK K
        (try simp only [Act.put, List.setIfInBounds_toArray, List.set_cons_succ, List.set_cons_zero])
        generalize w'.heap.size = gy at M ⊢
        refine HQ.noisy (rs := [10]) (by kernel_rfl) (by simp) (AllG.cons rfl (by omega) (fun K hK => ?_) AllG.nil)
        go_simp
        go_at_call 35
        refine (impl_VersPut_m s0 0 B1 8 d1 zs B2 n2 d2 (V) PA pn pc ps _ _ (M.out.row_sl 2 rfl) (by omega) _ (M.out.row_sl 3 rfl) (by omega) _ (hist_puts (B := none) (m := 0) (d := 0) (pre := [_, _, _, _, _, _, _]) (HHI.out ▸ M.out) HPJ.out) (by omega)).mono ?_
        rintro e w5 ⟨B4, n4, d4, B5, n5, d5, rfl, M4⟩
        rw [HPO.out]
        replace M := Lib.hid (M.out.call M4)
        simp only [List.cons_append, List.nil_append] at M
        clear M4
        replace M := Lib.hid (M.out.perm (List.perm_middle (l₁ := [_, _])))
        simp only [List.cons_append, List.nil_append] at M
        refine hK.out _ _ (M.out.tail.tail.tail) ?_
        clear hK K
        (try simp only [Act.put, List.setIfInBounds_toArray, List.set_cons_succ, List.set_cons_zero])
        refine HQ.take (i := 11) rfl (by kernel_rfl) (by kernel_rfl) (by kernel_rfl) (by omega) rfl (fun _ _ _ _ h => h) ?_
        intro K hK
        (first | (unfold Reads; apply Exists.intro; refine ⟨fun wq hq => ?_, ?_⟩; (clear hq; go_simp; first | done | rfl); (try simp only [Act.put, List.setIfInBounds_toArray, List.set_cons_succ, List.set_cons_zero]); go_big_quiet_on))
        refine HQ.take (i := 12) rfl (by kernel_rfl) (by kernel_rfl) (by kernel_rfl) (by omega) rfl (fun _ _ _ _ h => h) ?_
        intro K hK
        (first | (unfold Reads; apply Exists.intro; refine ⟨fun wq hq => ?_, ?_⟩; (clear hq; go_simp; first | done | rfl); (try simp only [Act.put, List.setIfInBounds_toArray, List.set_cons_succ, List.set_cons_zero]); go_big_quiet_on))
        refine HQ.take (i := 13) rfl (by kernel_rfl) (by kernel_rfl) (by kernel_rfl) (by omega) rfl (fun _ _ _ _ h => h) ?_
        intro K hK
        (first | (unfold Reads; apply Exists.intro; refine ⟨fun wq hq => ?_, ?_⟩; (clear hq; go_simp; first | done | rfl); (try simp only [Act.put, List.setIfInBounds_toArray, List.set_cons_succ, List.set_cons_zero]); go_big_quiet_on))
        rotate_left
        all_goals (
          refine HQ.noisy (rs := [15]) (by kernel_rfl) (by simp) (AllG.cons rfl (by omega) (fun K hK => ?_) AllG.nil)
          refine Mine.step_sets M.out rfl 25 _ _ rfl rfl 0 _ rfl rfl _ rfl (Nat.le_of_ble_eq_true rfl) (by simp [Value.oneCell']) (by kernel_rfl) ?_
          intro w' M'
          (try simp only [Act.put, List.setIfInBounds_toArray, List.set_cons_zero, List.set_cons_succ, List.drop_succ_cons, List.drop_zero, List.take_succ_cons, List.take_zero, putAt, ints_set, ints_push, List.getElem_toArray, List.getElem_cons_zero, List.getElem_cons_succ] at M')
          replace M := Lib.hid M'
          clear M'
          refine hK.out _ _ (M.out.tail.tail.tail) ?_
          clear hK K
          (try simp only [Act.put, List.setIfInBounds_toArray, List.set_cons_succ, List.set_cons_zero])
          refine HQ.end_ (by kernel_rfl) ?_
          simp only [List.drop_succ_cons, List.drop_zero]
          have hn4 : n4 = 8 := by have h := M.out.len1 1 rfl; rw [ints_length] at h; rw [← h]; exact valsOk_len HV.out
          subst hn4
          have hn5 : n5 ≤ 60 := by have h := M.out.len 2 rfl; rw [flat_length Ver.cells_length] at h; have := HLN1.out; omega
          go_wp2
          refine Mine.region_head M.out 16 (by kernel_rfl) (by kernel_rfl) ?_
          intro w' M'
          replace M := Lib.hid M'
          clear M'
          refine HQ.take (i := 0) rfl (by kernel_rfl) (by kernel_rfl) (by kernel_rfl) (by omega) rfl (fun _ _ _ _ h => h) ?_
          intro K hK
          (first | (refine Mine.rd_gets 25 _ rfl 0 _ 3 rfl rfl (Nat.le_of_ble_eq_true rfl) _ Try.underlying25 (by rfl) (by kernel_rfl) ?_; (try simp only [Act.put, List.setIfInBounds_toArray, List.set_cons_zero, List.set_cons_succ, List.drop_succ_cons, List.drop_zero, List.take_succ_cons, List.take_zero, putAt, ints_set, ints_push, List.getElem_toArray, List.getElem_cons_zero, List.getElem_cons_succ]); go_big_quiet_on) | (refine Mine.rd_getr _ _ rfl 6 _ rfl rfl _ (by assumption) _ (by first | exact Try.underlying3) (by rfl) ?_; (try simp only [Act.put, List.setIfInBounds_toArray, List.set_cons_zero, List.set_cons_succ, List.drop_succ_cons, List.drop_zero, List.take_succ_cons, List.take_zero, putAt, ints_set, ints_push, List.getElem_toArray, List.getElem_cons_zero, List.getElem_cons_succ]); go_big_quiet_on) | (refine Mine.rd_getr _ _ rfl 8 _ rfl rfl _ (by assumption) _ (by first | exact Try.underlying51) (by rfl) ?_; (try simp only [Act.put, List.setIfInBounds_toArray, List.set_cons_zero, List.set_cons_succ, List.drop_succ_cons, List.drop_zero, List.take_succ_cons, List.take_zero, putAt, ints_set, ints_push, List.getElem_toArray, List.getElem_cons_zero, List.getElem_cons_succ]); go_big_quiet_on) | (unfold Reads; apply Exists.intro; refine ⟨fun wq hq => ?_, ?_⟩; (clear hq; go_simp; first | done | rfl); (try simp only [Act.put, List.setIfInBounds_toArray, List.set_cons_succ, List.set_cons_zero]); go_big_quiet_on))
          refine HQ.take (i := 1) rfl (by kernel_rfl) (by kernel_rfl) (by kernel_rfl) (by omega) rfl (fun _ _ _ _ h => h) ?_
          intro K hK
          (first | (refine Mine.rd_gets 25 _ rfl 0 _ 3 rfl rfl (Nat.le_of_ble_eq_true rfl) _ Try.underlying25 (by rfl) (by kernel_rfl) ?_; (try simp only [Act.put, List.setIfInBounds_toArray, List.set_cons_zero, List.set_cons_succ, List.drop_succ_cons, List.drop_zero, List.take_succ_cons, List.take_zero, putAt, ints_set, ints_push, List.getElem_toArray, List.getElem_cons_zero, List.getElem_cons_succ]); go_big_quiet_on) | (refine Mine.rd_getr _ _ rfl 6 _ rfl rfl _ (by assumption) _ (by first | exact Try.underlying3) (by rfl) ?_; (try simp only [Act.put, List.setIfInBounds_toArray, List.set_cons_zero, List.set_cons_succ, List.drop_succ_cons, List.drop_zero, List.take_succ_cons, List.take_zero, putAt, ints_set, ints_push, List.getElem_toArray, List.getElem_cons_zero, List.getElem_cons_succ]); go_big_quiet_on) | (refine Mine.rd_getr _ _ rfl 8 _ rfl rfl _ (by assumption) _ (by first | exact Try.underlying51) (by rfl) ?_; (try simp only [Act.put, List.setIfInBounds_toArray, List.set_cons_zero, List.set_cons_succ, List.drop_succ_cons, List.drop_zero, List.take_succ_cons, List.take_zero, putAt, ints_set, ints_push, List.getElem_toArray, List.getElem_cons_zero, List.getElem_cons_succ]); go_big_quiet_on) | (unfold Reads; apply Exists.intro; refine ⟨fun wq hq => ?_, ?_⟩; (clear hq; go_simp; first | done | rfl); (try simp only [Act.put, List.setIfInBounds_toArray, List.set_cons_succ, List.set_cons_zero]); go_big_quiet_on))
          refine HQ.take (i := 2) rfl (by kernel_rfl) (by kernel_rfl) (by kernel_rfl) (by omega) rfl (fun _ _ _ _ h => h) ?_
          intro K hK
          (first | (refine Mine.rd_gets 25 _ rfl 0 _ 3 rfl rfl (Nat.le_of_ble_eq_true rfl) _ Try.underlying25 (by rfl) (by kernel_rfl) ?_; (try simp only [Act.put, List.setIfInBounds_toArray, List.set_cons_zero, List.set_cons_succ, List.drop_succ_cons, List.drop_zero, List.take_succ_cons, List.take_zero, putAt, ints_set, ints_push, List.getElem_toArray, List.getElem_cons_zero, List.getElem_cons_succ]); go_big_quiet_on) | (refine Mine.rd_getr _ _ rfl 6 _ rfl rfl _ (by assumption) _ (by first | exact Try.underlying3) (by rfl) ?_; (try simp only [Act.put, List.setIfInBounds_toArray, List.set_cons_zero, List.set_cons_succ, List.drop_succ_cons, List.drop_zero, List.take_succ_cons, List.take_zero, putAt, ints_set, ints_push, List.getElem_toArray, List.getElem_cons_zero, List.getElem_cons_succ]); go_big_quiet_on) | (refine Mine.rd_getr _ _ rfl 8 _ rfl rfl _ (by assumption) _ (by first | exact Try.underlying51) (by rfl) ?_; (try simp only [Act.put, List.setIfInBounds_toArray, List.set_cons_zero, List.set_cons_succ, List.drop_succ_cons, List.drop_zero, List.take_succ_cons, List.take_zero, putAt, ints_set, ints_push, List.getElem_toArray, List.getElem_cons_zero, List.getElem_cons_succ]); go_big_quiet_on) | (unfold Reads; apply Exists.intro; refine ⟨fun wq hq => ?_, ?_⟩; (clear hq; go_simp; first | done | rfl); (try simp only [Act.put, List.setIfInBounds_toArray, List.set_cons_succ, List.set_cons_zero]); go_big_quiet_on))
          refine HQ.take (i := 3) rfl (by kernel_rfl) (by kernel_rfl) (by kernel_rfl) (by omega) rfl (fun _ _ _ _ h => h) ?_
          intro K hK
          (first | (refine Mine.rd_gets 25 _ rfl 0 _ 3 rfl rfl (Nat.le_of_ble_eq_true rfl) _ Try.underlying25 (by rfl) (by kernel_rfl) ?_; (try simp only [Act.put, List.setIfInBounds_toArray, List.set_cons_zero, List.set_cons_succ, List.drop_succ_cons, List.drop_zero, List.take_succ_cons, List.take_zero, putAt, ints_set, ints_push, List.getElem_toArray, List.getElem_cons_zero, List.getElem_cons_succ]); go_big_quiet_on) | (refine Mine.rd_getr _ _ rfl 6 _ rfl rfl _ (by assumption) _ (by first | exact Try.underlying3) (by rfl) ?_; (try simp only [Act.put, List.setIfInBounds_toArray, List.set_cons_zero, List.set_cons_succ, List.drop_succ_cons, List.drop_zero, List.take_succ_cons, List.take_zero, putAt, ints_set, ints_push, List.getElem_toArray, List.getElem_cons_zero, List.getElem_cons_succ]); go_big_quiet_on) | (refine Mine.rd_getr _ _ rfl 8 _ rfl rfl _ (by assumption) _ (by first | exact Try.underlying51) (by rfl) ?_; (try simp only [Act.put, List.setIfInBounds_toArray, List.set_cons_zero, List.set_cons_succ, List.drop_succ_cons, List.drop_zero, List.take_succ_cons, List.take_zero, putAt, ints_set, ints_push, List.getElem_toArray, List.getElem_cons_zero, List.getElem_cons_succ]); go_big_quiet_on) | (unfold Reads; apply Exists.intro; refine ⟨fun wq hq => ?_, ?_⟩; (clear hq; go_simp; first | done | rfl); (try simp only [Act.put, List.setIfInBounds_toArray, List.set_cons_succ, List.set_cons_zero]); go_big_quiet_on))
          refine HQ.take (i := 4) rfl (by kernel_rfl) (by kernel_rfl) (by kernel_rfl) (by omega) rfl (fun _ _ _ _ h => h) ?_
          intro K hK
          (first | (refine Mine.rd_gets 25 _ rfl 0 _ 3 rfl rfl (Nat.le_of_ble_eq_true rfl) _ Try.underlying25 (by rfl) (by kernel_rfl) ?_; (try simp only [Act.put, List.setIfInBounds_toArray, List.set_cons_zero, List.set_cons_succ, List.drop_succ_cons, List.drop_zero, List.take_succ_cons, List.take_zero, putAt, ints_set, ints_push, List.getElem_toArray, List.getElem_cons_zero, List.getElem_cons_succ]); go_big_quiet_on) | (refine Mine.rd_getr _ _ rfl 6 _ rfl rfl _ (by assumption) _ (by first | exact Try.underlying3) (by rfl) ?_; (try simp only [Act.put, List.setIfInBounds_toArray, List.set_cons_zero, List.set_cons_succ, List.drop_succ_cons, List.drop_zero, List.take_succ_cons, List.take_zero, putAt, ints_set, ints_push, List.getElem_toArray, List.getElem_cons_zero, List.getElem_cons_succ]); go_big_quiet_on) | (refine Mine.rd_getr _ _ rfl 8 _ rfl rfl _ (by assumption) _ (by first | exact Try.underlying51) (by rfl) ?_; (try simp only [Act.put, List.setIfInBounds_toArray, List.set_cons_zero, List.set_cons_succ, List.drop_succ_cons, List.drop_zero, List.take_succ_cons, List.take_zero, putAt, ints_set, ints_push, List.getElem_toArray, List.getElem_cons_zero, List.getElem_cons_succ]); go_big_quiet_on) | (unfold Reads; apply Exists.intro; refine ⟨fun wq hq => ?_, ?_⟩; (clear hq; go_simp; first | done | rfl); (try simp only [Act.put, List.setIfInBounds_toArray, List.set_cons_succ, List.set_cons_zero]); go_big_quiet_on))
          refine HQ.take (i := 5) rfl (by kernel_rfl) (by kernel_rfl) (by kernel_rfl) (by omega) rfl (fun _ _ _ _ h => h) ?_
          intro K hK
          (first | (refine Mine.rd_gets 25 _ rfl 0 _ 3 rfl rfl (Nat.le_of_ble_eq_true rfl) _ Try.underlying25 (by rfl) (by kernel_rfl) ?_; (try simp only [Act.put, List.setIfInBounds_toArray, List.set_cons_zero, List.set_cons_succ, List.drop_succ_cons, List.drop_zero, List.take_succ_cons, List.take_zero, putAt, ints_set, ints_push, List.getElem_toArray, List.getElem_cons_zero, List.getElem_cons_succ]); go_big_quiet_on) | (refine Mine.rd_getr _ _ rfl 6 _ rfl rfl _ (by assumption) _ (by first | exact Try.underlying3) (by rfl) ?_; (try simp only [Act.put, List.setIfInBounds_toArray, List.set_cons_zero, List.set_cons_succ, List.drop_succ_cons, List.drop_zero, List.take_succ_cons, List.take_zero, putAt, ints_set, ints_push, List.getElem_toArray, List.getElem_cons_zero, List.getElem_cons_succ]); go_big_quiet_on) | (refine Mine.rd_getr _ _ rfl 8 _ rfl rfl _ (by assumption) _ (by first | exact Try.underlying51) (by rfl) ?_; (try simp only [Act.put, List.setIfInBounds_toArray, List.set_cons_zero, List.set_cons_succ, List.drop_succ_cons, List.drop_zero, List.take_succ_cons, List.take_zero, putAt, ints_set, ints_push, List.getElem_toArray, List.getElem_cons_zero, List.getElem_cons_succ]); go_big_quiet_on) | (unfold Reads; apply Exists.intro; refine ⟨fun wq hq => ?_, ?_⟩; (clear hq; go_simp; first | done | rfl); (try simp only [Act.put, List.setIfInBounds_toArray, List.set_cons_succ, List.set_cons_zero]); go_big_quiet_on))
          refine HQ.take (i := 6) rfl (by kernel_rfl) (by kernel_rfl) (by kernel_rfl) (by omega) rfl (fun _ _ _ _ h => h) ?_
          intro K hK
          (first | (refine Mine.rd_gets 25 _ rfl 0 _ 3 rfl rfl (Nat.le_of_ble_eq_true rfl) _ Try.underlying25 (by rfl) (by kernel_rfl) ?_; (try simp only [Act.put, List.setIfInBounds_toArray, List.set_cons_zero, List.set_cons_succ, List.drop_succ_cons, List.drop_zero, List.take_succ_cons, List.take_zero, putAt, ints_set, ints_push, List.getElem_toArray, List.getElem_cons_zero, List.getElem_cons_succ]); go_big_quiet_on) | (refine Mine.rd_getr _ _ rfl 6 _ rfl rfl _ (by assumption) _ (by first | exact Try.underlying3) (by rfl) ?_; (try simp only [Act.put, List.setIfInBounds_toArray, List.set_cons_zero, List.set_cons_succ, List.drop_succ_cons, List.drop_zero, List.take_succ_cons, List.take_zero, putAt, ints_set, ints_push, List.getElem_toArray, List.getElem_cons_zero, List.getElem_cons_succ]); go_big_quiet_on) | (refine Mine.rd_getr _ _ rfl 8 _ rfl rfl _ (by assumption) _ (by first | exact Try.underlying51) (by rfl) ?_; (try simp only [Act.put, List.setIfInBounds_toArray, List.set_cons_zero, List.set_cons_succ, List.drop_succ_cons, List.drop_zero, List.take_succ_cons, List.take_zero, putAt, ints_set, ints_push, List.getElem_toArray, List.getElem_cons_zero, List.getElem_cons_succ]); go_big_quiet_on) | (unfold Reads; apply Exists.intro; refine ⟨fun wq hq => ?_, ?_⟩; (clear hq; go_simp; first | done | rfl); (try simp only [Act.put, List.setIfInBounds_toArray, List.set_cons_succ, List.set_cons_zero]); go_big_quiet_on))
          refine HQ.take (i := 7) rfl (by kernel_rfl) (by kernel_rfl) (by kernel_rfl) (by omega) rfl (fun _ _ _ _ h => h) ?_
          intro K hK
          (first | (refine Mine.rd_gets 25 _ rfl 0 _ 3 rfl rfl (Nat.le_of_ble_eq_true rfl) _ Try.underlying25 (by rfl) (by kernel_rfl) ?_; (try simp only [Act.put, List.setIfInBounds_toArray, List.set_cons_zero, List.set_cons_succ, List.drop_succ_cons, List.drop_zero, List.take_succ_cons, List.take_zero, putAt, ints_set, ints_push, List.getElem_toArray, List.getElem_cons_zero, List.getElem_cons_succ]); go_big_quiet_on) | (refine Mine.rd_getr _ _ rfl 6 _ rfl rfl _ (by assumption) _ (by first | exact Try.underlying3) (by rfl) ?_; (try simp only [Act.put, List.setIfInBounds_toArray, List.set_cons_zero, List.set_cons_succ, List.drop_succ_cons, List.drop_zero, List.take_succ_cons, List.take_zero, putAt, ints_set, ints_push, List.getElem_toArray, List.getElem_cons_zero, List.getElem_cons_succ]); go_big_quiet_on) | (refine Mine.rd_getr _ _ rfl 8 _ rfl rfl _ (by assumption) _ (by first | exact Try.underlying51) (by rfl) ?_; (try simp only [Act.put, List.setIfInBounds_toArray, List.set_cons_zero, List.set_cons_succ, List.drop_succ_cons, List.drop_zero, List.take_succ_cons, List.take_zero, putAt, ints_set, ints_push, List.getElem_toArray, List.getElem_cons_zero, List.getElem_cons_succ]); go_big_quiet_on) | (unfold Reads; apply Exists.intro; refine ⟨fun wq hq => ?_, ?_⟩; (clear hq; go_simp; first | done | rfl); (try simp only [Act.put, List.setIfInBounds_toArray, List.set_cons_succ, List.set_cons_zero]); go_big_quiet_on))
          refine HQ.take (i := 8) rfl (by kernel_rfl) (by kernel_rfl) (by kernel_rfl) (by omega) rfl (fun _ _ _ _ h => h) ?_
          intro K hK
          (first | (refine Mine.rd_gets 25 _ rfl 0 _ 3 rfl rfl (Nat.le_of_ble_eq_true rfl) _ Try.underlying25 (by rfl) (by kernel_rfl) ?_; (try simp only [Act.put, List.setIfInBounds_toArray, List.set_cons_zero, List.set_cons_succ, List.drop_succ_cons, List.drop_zero, List.take_succ_cons, List.take_zero, putAt, ints_set, ints_push, List.getElem_toArray, List.getElem_cons_zero, List.getElem_cons_succ]); go_big_quiet_on) | (refine Mine.rd_getr _ _ rfl 6 _ rfl rfl _ (by assumption) _ (by first | exact Try.underlying3) (by rfl) ?_; (try simp only [Act.put, List.setIfInBounds_toArray, List.set_cons_zero, List.set_cons_succ, List.drop_succ_cons, List.drop_zero, List.take_succ_cons, List.take_zero, putAt, ints_set, ints_push, List.getElem_toArray, List.getElem_cons_zero, List.getElem_cons_succ]); go_big_quiet_on) | (refine Mine.rd_getr _ _ rfl 8 _ rfl rfl _ (by assumption) _ (by first | exact Try.underlying51) (by rfl) ?_; (try simp only [Act.put, List.setIfInBounds_toArray, List.set_cons_zero, List.set_cons_succ, List.drop_succ_cons, List.drop_zero, List.take_succ_cons, List.take_zero, putAt, ints_set, ints_push, List.getElem_toArray, List.getElem_cons_zero, List.getElem_cons_succ]); go_big_quiet_on) | (unfold Reads; apply Exists.intro; refine ⟨fun wq hq => ?_, ?_⟩; (clear hq; go_simp; first | done | rfl); (try simp only [Act.put, List.setIfInBounds_toArray, List.set_cons_succ, List.set_cons_zero]); go_big_quiet_on))
          refine HQ.take (i := 9) rfl (by kernel_rfl) (by kernel_rfl) (by kernel_rfl) (by omega) rfl (fun _ _ _ _ h => h) ?_
          intro K hK
          (first | (refine Mine.rd_gets 25 _ rfl 0 _ 3 rfl rfl (Nat.le_of_ble_eq_true rfl) _ Try.underlying25 (by rfl) (by kernel_rfl) ?_; (try simp only [Act.put, List.setIfInBounds_toArray, List.set_cons_zero, List.set_cons_succ, List.drop_succ_cons, List.drop_zero, List.take_succ_cons, List.take_zero, putAt, ints_set, ints_push, List.getElem_toArray, List.getElem_cons_zero, List.getElem_cons_succ]); go_big_quiet_on) | (refine Mine.rd_getr _ _ rfl 6 _ rfl rfl _ (by assumption) _ (by first | exact Try.underlying3) (by rfl) ?_; (try simp only [Act.put, List.setIfInBounds_toArray, List.set_cons_zero, List.set_cons_succ, List.drop_succ_cons, List.drop_zero, List.take_succ_cons, List.take_zero, putAt, ints_set, ints_push, List.getElem_toArray, List.getElem_cons_zero, List.getElem_cons_succ]); go_big_quiet_on) | (refine Mine.rd_getr _ _ rfl 8 _ rfl rfl _ (by assumption) _ (by first | exact Try.underlying51) (by rfl) ?_; (try simp only [Act.put, List.setIfInBounds_toArray, List.set_cons_zero, List.set_cons_succ, List.drop_succ_cons, List.drop_zero, List.take_succ_cons, List.take_zero, putAt, ints_set, ints_push, List.getElem_toArray, List.getElem_cons_zero, List.getElem_cons_succ]); go_big_quiet_on) | (unfold Reads; apply Exists.intro; refine ⟨fun wq hq => ?_, ?_⟩; (clear hq; go_simp; first | done | rfl); (try simp only [Act.put, List.setIfInBounds_toArray, List.set_cons_succ, List.set_cons_zero]); go_big_quiet_on))
          refine HQ.noisy (rs := [10, 14]) (by kernel_rfl) (by simp) (AllG.cons rfl (by omega) (fun K hK => ?_) (AllG.cons rfl (by omega) (fun K hK => ?_) AllG.nil))
          go_simp
          go_at_call 35
          refine (impl_VersPut_m s0 0 B4 8 d4 zs B5 n5 d5 (_) PA pn pc ps _ _ (M.out.row_sl 1 rfl) (by omega) _ (M.out.row_sl 2 rfl) (by omega) _ (hist_puts (B := none) (m := 0) (d := 0) (pre := [_, _, _, _, _, _, _, _, _]) (HHI.out ▸ M.out) HPJ.out) (by omega)).mono ?_
          rintro e w5 ⟨B6, n6, d6, B7, n7, d7, rfl, M4⟩
          have HT : Hid (0 < ps.length → putOk zs 0 (putL zs 0 V s0 ps) s0 ps = false) := HPT.out
          generalize putOk zs 0 (putL zs 0 V s0 ps) s0 ps = tw at HT ⊢
          replace M := Lib.hid (M.out.call M4)
          simp only [List.cons_append, List.nil_append] at M
          clear M4
          refine hK.out _ _ (M.out.tail.tail) ?_
          clear hK K
          (try simp only [Act.put, List.setIfInBounds_toArray, List.set_cons_succ, List.set_cons_zero])
          refine HQ.take (i := 11) rfl (by kernel_rfl) (by kernel_rfl) (by kernel_rfl) (by omega) rfl (fun _ _ _ _ h => h) ?_
          intro K hK
          (first | (unfold Reads; apply Exists.intro; refine ⟨fun wq hq => ?_, ?_⟩; (clear hq; go_simp; first | done | rfl); (try simp only [Act.put, List.setIfInBounds_toArray, List.set_cons_succ, List.set_cons_zero]); go_big_quiet_on))
          refine HQ.take (i := 12) rfl (by kernel_rfl) (by kernel_rfl) (by kernel_rfl) (by omega) rfl (fun _ _ _ _ h => h) ?_
          intro K hK
          (first | (unfold Reads; apply Exists.intro; refine ⟨fun wq hq => ?_, ?_⟩; (clear hq; go_simp; first | done | rfl); (try simp only [Act.put, List.setIfInBounds_toArray, List.set_cons_succ, List.set_cons_zero]); go_big_quiet_on))
          refine HQ.take (i := 13) rfl (by kernel_rfl) (by kernel_rfl) (by kernel_rfl) (by omega) rfl (fun _ _ _ _ h => h) ?_
          intro K hK
          (first | (unfold Reads; apply Exists.intro; refine ⟨fun wq hq => ?_, ?_⟩; (clear hq; go_simp; first | done | rfl); (try simp only [Act.put, List.setIfInBounds_toArray, List.set_cons_succ, List.set_cons_zero]); go_big_quiet_on))
          refine HQ.noisy (rs := [14]) (by kernel_rfl) (by simp) (AllG.cons rfl (by omega) (fun K hK => ?_) AllG.nil)
          go_simp
          replace M := Lib.hid (M.out.box 25 #[.slice none 0 0, .int .i64 0, .slice none 0 0])
          refine hK.out _ _ (M.out.tail.tail.tail) ?_
          clear hK K
          (try simp only [Act.put, List.setIfInBounds_toArray, List.set_cons_succ, List.set_cons_zero])
          generalize w5.heap.size = gz at M ⊢
          rotate_left
          go_simp
          replace M := Lib.hid (M.out.box 25 #[.slice none 0 0, .int .i64 0, .slice none 0 0])
          refine hK.out _ _ (M.out.tail) ?_
          clear hK K
          (try simp only [Act.put, List.setIfInBounds_toArray, List.set_cons_succ, List.set_cons_zero])
          generalize w'.heap.size = gz at M ⊢
          refine HQ.noisy (rs := [10]) (by kernel_rfl) (by simp) (AllG.cons rfl (by omega) (fun K hK => ?_) AllG.nil)
          go_simp
          go_at_call 35
          refine (impl_VersPut_m s0 0 B4 8 d4 zs B5 n5 d5 (_) PA pn pc ps _ _ (M.out.row_sl 2 rfl) (by omega) _ (M.out.row_sl 3 rfl) (by omega) _ (hist_puts (B := none) (m := 0) (d := 0) (pre := [_, _, _, _, _, _, _, _, _, _]) (HHI.out ▸ M.out) HPJ.out) (by omega)).mono ?_
          rintro e w5 ⟨B6, n6, d6, B7, n7, d7, rfl, M4⟩
          have HT : Hid (0 < ps.length → putOk zs 0 (putL zs 0 V s0 ps) s0 ps = false) := HPT.out
          generalize putOk zs 0 (putL zs 0 V s0 ps) s0 ps = tw at HT ⊢
          replace M := Lib.hid (M.out.call M4)
          simp only [List.cons_append, List.nil_append] at M
          clear M4
          replace M := Lib.hid (M.out.perm (List.perm_middle (l₁ := [_, _])))
          simp only [List.cons_append, List.nil_append] at M
          refine hK.out _ _ (M.out.tail.tail.tail) ?_
          clear hK K
          (try simp only [Act.put, List.setIfInBounds_toArray, List.set_cons_succ, List.set_cons_zero])
          refine HQ.take (i := 11) rfl (by kernel_rfl) (by kernel_rfl) (by kernel_rfl) (by omega) rfl (fun _ _ _ _ h => h) ?_
          intro K hK
          (first | (unfold Reads; apply Exists.intro; refine ⟨fun wq hq => ?_, ?_⟩; (clear hq; go_simp; first | done | rfl); (try simp only [Act.put, List.setIfInBounds_toArray, List.set_cons_succ, List.set_cons_zero]); go_big_quiet_on))
          refine HQ.take (i := 12) rfl (by kernel_rfl) (by kernel_rfl) (by kernel_rfl) (by omega) rfl (fun _ _ _ _ h => h) ?_
          intro K hK
          (first | (unfold Reads; apply Exists.intro; refine ⟨fun wq hq => ?_, ?_⟩; (clear hq; go_simp; first | done | rfl); (try simp only [Act.put, List.setIfInBounds_toArray, List.set_cons_succ, List.set_cons_zero]); go_big_quiet_on))
          refine HQ.take (i := 13) rfl (by kernel_rfl) (by kernel_rfl) (by kernel_rfl) (by omega) rfl (fun _ _ _ _ h => h) ?_
          intro K hK
          (first | (unfold Reads; apply Exists.intro; refine ⟨fun wq hq => ?_, ?_⟩; (clear hq; go_simp; first | done | rfl); (try simp only [Act.put, List.setIfInBounds_toArray, List.set_cons_succ, List.set_cons_zero]); go_big_quiet_on))
          rotate_left
          all_goals (
            refine HQ.noisy (rs := [15]) (by kernel_rfl) (by simp) (AllG.cons rfl (by omega) (fun K hK => ?_) AllG.nil)
            refine Mine.step_sets M.out rfl 25 _ _ rfl rfl 0 _ rfl rfl _ rfl (Nat.le_of_ble_eq_true rfl) (by simp [Value.oneCell']) (by kernel_rfl) ?_
            intro w' M'
            (try simp only [Act.put, List.setIfInBounds_toArray, List.set_cons_zero, List.set_cons_succ, List.drop_succ_cons, List.drop_zero, List.take_succ_cons, List.take_zero, putAt, ints_set, ints_push, List.getElem_toArray, List.getElem_cons_zero, List.getElem_cons_succ] at M')
            replace M := Lib.hid M'
            clear M'
            refine hK.out _ _ (M.out.tail.tail.tail) ?_
            clear hK K
            (try simp only [Act.put, List.setIfInBounds_toArray, List.set_cons_succ, List.set_cons_zero])
            refine HQ.end_ (by kernel_rfl) ?_
            simp only [List.drop_succ_cons, List.drop_zero]
            have hpl : Hid (ps.length = pn) := (hist_puts (B := none) (m := 0) (d := 0) (pre := [_, _, _, _, _, _, _, _, _, _, _, _]) (HHI.out ▸ M.out) HPJ.out).flen Row.cells_length (by omega)
            cases tw
            · clear HT
              go_wp2_with (first | ((with_reducible show wpList _ _ _ (⟨_, _, _, _, _, none⟩ :: _) _ _); first | (refine Mine.wp_gets M.out rfl 25 _ rfl 3 _ 3 rfl rfl (Nat.le_of_ble_eq_true rfl) _ Try.underlying25 (by rfl) (by kernel_rfl) ?_; (try simp only [Act.put, List.setIfInBounds_toArray, List.set_cons_zero, List.set_cons_succ, List.drop_succ_cons, List.drop_zero, List.take_succ_cons, List.take_zero, putAt, ints_set, ints_push, List.getElem_toArray, List.getElem_cons_zero, List.getElem_cons_succ])) | (refine Mine.wp_sets M.out rfl 25 _ _ rfl rfl 6 _ rfl rfl _ rfl (Nat.le_of_ble_eq_true rfl) (by simp [Value.oneCell']) (by kernel_rfl) ?_; intro w' M'; (try simp only [Act.put, List.setIfInBounds_toArray, List.set_cons_zero, List.set_cons_succ, List.drop_succ_cons, List.drop_zero, List.take_succ_cons, List.take_zero, putAt, ints_set, ints_push, List.getElem_toArray, List.getElem_cons_zero, List.getElem_cons_succ] at M'); replace M := Lib.hid M'; clear M')) | ((with_reducible show wpList _ _ _ (⟨_, .load _ _, _, _, _, some _⟩ :: _) _ _); first | (refine Mine.wp_getrg M.out (by rfl) _ _ rfl 11 _ rfl rfl _ (by assumption) _ (by first | exact Try.underlying51) (by rfl) ?_; (try simp only [Act.put, List.setIfInBounds_toArray, List.set_cons_zero, List.set_cons_succ, List.drop_succ_cons, List.drop_zero, List.take_succ_cons, List.take_zero, putAt, ints_set, ints_push, List.getElem_toArray, List.getElem_cons_zero, List.getElem_cons_succ]))))
              go_roundw
              case rel =>
                have M9 := M.out.sub (List.Sublist.cons _ (List.Sublist.cons _ (List.Sublist.cons _ (List.Sublist.cons _ (List.Sublist.cons_cons _ (List.Sublist.cons_cons _ (List.Sublist.cons_cons _ (List.Sublist.cons _ (List.Sublist.cons _ (List.Sublist.refl _))))))))))
                have M10 := M9.perm (List.perm_middle (l₁ := [_, _]))
                refine ⟨j + 1, HJ.out, rfl, by go_num, Lib.hid ⟨B4, d4, B5, n5, d5, ?_⟩⟩
                rw [vAll_yes HY.out rfl, ← HVE.out]
                exact M10
              case measure => have := HJ.out; simp [intOf]; omega
            have hp0 : pn = 0 := by have h := hpl.out; rcases Nat.eq_zero_or_pos pn with q | q; exact q; (have := HT.out (by omega); cases this)
            subst hp0
            clear HT
            go_wp2_with (first | ((with_reducible show wpList _ _ _ (⟨_, _, _, _, _, none⟩ :: _) _ _); first | (refine Mine.wp_gets M.out rfl 25 _ rfl 3 _ 3 rfl rfl (Nat.le_of_ble_eq_true rfl) _ Try.underlying25 (by rfl) (by kernel_rfl) ?_; (try simp only [Act.put, List.setIfInBounds_toArray, List.set_cons_zero, List.set_cons_succ, List.drop_succ_cons, List.drop_zero, List.take_succ_cons, List.take_zero, putAt, ints_set, ints_push, List.getElem_toArray, List.getElem_cons_zero, List.getElem_cons_succ])) | (refine Mine.wp_sets M.out rfl 25 _ _ rfl rfl 6 _ rfl rfl _ rfl (Nat.le_of_ble_eq_true rfl) (by simp [Value.oneCell']) (by kernel_rfl) ?_; intro w' M'; (try simp only [Act.put, List.setIfInBounds_toArray, List.set_cons_zero, List.set_cons_succ, List.drop_succ_cons, List.drop_zero, List.take_succ_cons, List.take_zero, putAt, ints_set, ints_push, List.getElem_toArray, List.getElem_cons_zero, List.getElem_cons_succ] at M'); replace M := Lib.hid M'; clear M')) | ((with_reducible show wpList _ _ _ (⟨_, .load _ _, _, _, _, some _⟩ :: _) _ _); first | (refine Mine.wp_getrg M.out (by rfl) _ _ rfl 11 _ rfl rfl _ (by assumption) _ (by first | exact Try.underlying51) (by rfl) ?_; (try simp only [Act.put, List.setIfInBounds_toArray, List.set_cons_zero, List.set_cons_succ, List.drop_succ_cons, List.drop_zero, List.take_succ_cons, List.take_zero, putAt, ints_set, ints_push, List.getElem_toArray, List.getElem_cons_zero, List.getElem_cons_succ]))))
            go_roundw
            case rel =>
              have M9 := M.out.sub (List.Sublist.cons _ (List.Sublist.cons _ (List.Sublist.cons _ (List.Sublist.cons _ (List.Sublist.cons_cons _ (List.Sublist.cons_cons _ (List.Sublist.cons_cons _ (List.Sublist.cons _ (List.Sublist.cons _ (List.Sublist.refl _))))))))))
              have M10 := M9.perm (List.perm_middle (l₁ := [_, _]))
              refine ⟨j + 1, HJ.out, rfl, by go_num, Lib.hid ⟨B4, d4, B5, n5, d5, ?_⟩⟩
              rw [vAll_yes HY.out rfl, ← HVE.out]
              exact M10
            case measure => have := HJ.out; simp [intOf]; omega))
    obtain rfl : ms = i := by omega
    obtain ⟨B1, d1, B2, n2, d2, M1⟩ := HA.out
    obtain ⟨V, hV⟩ : ∃ V, V = vEnd zs l := ⟨_, rfl⟩
    have e1 : vTo zs l SS ms = V := by rw [hV]; unfold vEnd; rw [← HSS.out, ← HML.out, HMS.out]
    rw [e1] at M1
    have M := Lib.hid M1
    have HVE := Lib.hid hV
    clear HA M1 e1 hlt hV
    have IV := VInv.all HOK.out HV.out hl6.out l.length (Nat.le_refl _)
    have hok : versOk zs 0 V = true := by rw [HVE.out]; exact IV.ok
    have HST : Hid (∀ n : Int, 0 ≤ n → versState zs 0 V n = stateOf zs l n) := fun n hn => by rw [HVE.out]; exact end_state HOK.out HV.out hl6.out hn
    have HVO := Lib.hid hok
    have hn2 : n2 ≤ 60 := by have h := M.out.len 2 rfl; rw [flat_length Ver.cells_length] at h; have := (versOk_parts hok).2.2.1; omega
    clear IV hok
    go_wp2_with (first | ((with_reducible show wpList _ _ _ (⟨_, _, _, _, _, none⟩ :: _) _ _); first | (refine Mine.wp_gets M.out rfl 25 _ rfl 0 _ 3 rfl rfl (Nat.le_of_ble_eq_true rfl) _ Try.underlying25 (by rfl) (by kernel_rfl) ?_; (try simp only [Act.put, List.setIfInBounds_toArray, List.set_cons_zero, List.set_cons_succ, List.drop_succ_cons, List.drop_zero, List.take_succ_cons, List.take_zero, putAt, ints_set, ints_push, List.getElem_toArray, List.getElem_cons_zero, List.getElem_cons_succ]))))
    refine (impl_VersLast 0 B1 8 d1 zs B2 n2 d2 V _ _ (M.out.row_sl 1 rfl) (by omega) _ (M.out.row_sl 2 rfl) (by omega)).mono ?_
    rintro e w5 ⟨rfl, x5⟩
    replace M := Lib.hid (M.out.on x5)
    clear x5
    obtain ⟨L, hL⟩ : ∃ L, L = versLast zs 0 V := ⟨_, rfl⟩
    rw [← hL]
    have hL0 : 0 ≤ L ∧ L ≤ 1000000 := by rw [hL]; exact versLast_in _ _ _
    obtain ⟨hLa, hLb⟩ := hL0
    have dL : decide (L < 0) = false := decide_eq_false (by omega)
    clear hL
    go_wp2_with fail
    refine (at_any A n c bs 0 (by omega) _ _ (HS.out.ext M.out.ext) HB.out).mono ?_
    rintro e w6 ⟨y, rfl, ⟨hy0, hy1⟩, rfl⟩
    have hKm := mod_in hy0 hLa
    obtain ⟨K, hK⟩ : ∃ K, K = y % (L + 1) := ⟨_, rfl⟩
    rw [← hK] at hKm
    obtain ⟨hK0, hK1⟩ := hKm
    have HKE := Lib.hid hK.symm
    have hLz : ((L + 1 : Int) == 0) = false := by simp; omega
    clear hK
    have htr := trim_right (k := K) HVO.out hK0 (by omega)
    obtain ⟨t1, t2, t3, t4, t5, t6⟩ := htr
    go_wp2_with (first | ((with_reducible show wpList _ _ _ (⟨_, _, _, _, _, none⟩ :: _) _ _); first | (refine Mine.wp_gets M.out rfl 25 _ rfl 0 _ 3 rfl rfl (Nat.le_of_ble_eq_true rfl) _ Try.underlying25 (by rfl) (by kernel_rfl) ?_; (try simp only [Act.put, List.setIfInBounds_toArray, List.set_cons_zero, List.set_cons_succ, List.drop_succ_cons, List.drop_zero, List.take_succ_cons, List.take_zero, putAt, ints_set, ints_push, List.getElem_toArray, List.getElem_cons_zero, List.getElem_cons_succ]))))
    rw [HKE.out]
    refine (impl_VersTrim_m K 0 B1 8 d1 zs B2 n2 d2 V _ _ (M.out.row_sl 1 rfl) (by omega) _ (M.out.row_sl 2 rfl) (by omega)).mono ?_
    rintro e w6 ⟨B4, n4, d4, B5, n5, d5, rfl, M4⟩
    rw [t3] at t2 t5 t6
    rw [t1, t3]
    clear t3
    generalize trimB zs 0 V K = tb at *
    generalize trimL zs 0 V K = tl at *
    replace M := Lib.hid (M.out.call M4)
    simp only [List.cons_append, List.nil_append] at M
    have HT2 := Lib.hid t2
    have HT5 := Lib.hid t5
    have HT6 := Lib.hid t6
    clear M4 t1 t2 t5 t6
    have hn5 : n5 ≤ n2 := by have h := M.out.len 1 rfl; have h2 := M.out.len 4 rfl; rw [flat_length Ver.cells_length] at h h2; omega
    have hn4 : n4 = 8 := by have h := M.out.len1 0 rfl; rw [ints_length] at h; rw [← h]; exact versOk_base HT2.out
    subst hn4
    clear t4
    have dc : decide (n2 < n5) = false := decide_eq_false (by omega)
    go_wp2_with (first | ((with_reducible show wpList _ _ _ (⟨_, _, _, _, _, none⟩ :: _) _ _); first | (refine Mine.wp_alloc M.out rfl 25 rfl (.agg #[.slice none 0 0, .int .i64 0, .slice none 0 0]) (by kernel_rfl) ?_; intro gt w' M'; (try simp only [Value.cells, Act.put, List.setIfInBounds_toArray, List.set_cons_zero, List.set_cons_succ, List.drop_succ_cons, List.drop_zero, List.take_succ_cons, List.take_zero, putAt, ints_set, ints_push, List.getElem_toArray, List.getElem_cons_zero, List.getElem_cons_succ] at M'); replace M := Lib.hid M'; clear M'; (try simp only [Act.put, List.setIfInBounds_toArray, List.set_cons_zero, List.set_cons_succ, List.drop_succ_cons, List.drop_zero, List.take_succ_cons, List.take_zero, putAt, ints_set, ints_push, List.getElem_toArray, List.getElem_cons_zero, List.getElem_cons_succ])) | (refine Mine.wp_sets M.out rfl 25 _ _ rfl rfl 0 _ rfl rfl _ rfl (Nat.le_of_ble_eq_true rfl) (by simp [Value.oneCell']) (by kernel_rfl) ?_; intro w' M'; (try simp only [Act.put, List.setIfInBounds_toArray, List.set_cons_zero, List.set_cons_succ, List.drop_succ_cons, List.drop_zero, List.take_succ_cons, List.take_zero, putAt, ints_set, ints_push, List.getElem_toArray, List.getElem_cons_zero, List.getElem_cons_succ] at M'); replace M := Lib.hid M'; clear M') | (refine Mine.wp_gets M.out rfl 25 _ rfl 3 _ 3 rfl rfl (Nat.le_of_ble_eq_true rfl) _ Try.underlying25 (by rfl) (by kernel_rfl) ?_; (try simp only [Act.put, List.setIfInBounds_toArray, List.set_cons_zero, List.set_cons_succ, List.drop_succ_cons, List.drop_zero, List.take_succ_cons, List.take_zero, putAt, ints_set, ints_push, List.getElem_toArray, List.getElem_cons_zero, List.getElem_cons_succ]))) | ((with_reducible show wpList _ _ _ (⟨_, .load _ _, _, _, _, some _⟩ :: _) _ _); first | (refine Mine.wp_getsg M.out (by rfl) 25 _ rfl 3 _ 3 rfl rfl (Nat.le_of_ble_eq_true rfl) _ Try.underlying25 (by rfl) (by kernel_rfl) ?_; (try simp only [Act.put, List.setIfInBounds_toArray, List.set_cons_zero, List.set_cons_succ, List.drop_succ_cons, List.drop_zero, List.take_succ_cons, List.take_zero, putAt, ints_set, ints_push, List.getElem_toArray, List.getElem_cons_zero, List.getElem_cons_succ]))))
    refine (spec_VersOk 0 B1 8 d1 zs B2 n2 d2 V _ _ (M.out.row_sl 4 rfl) (by omega) _ (M.out.row_sl 5 rfl) (by omega)).mono ?_
    rintro e w7 ⟨rfl, x7⟩
    rw [HVO.out]
    replace M := Lib.hid (M.out.on x7)
    clear x7
    go_wp2_with (first | ((with_reducible show wpList _ _ _ (⟨_, .load _ _, _, _, _, some _⟩ :: _) _ _); first | (refine Mine.wp_getsg M.out (by rfl) 25 _ rfl 0 _ 3 rfl rfl (Nat.le_of_ble_eq_true rfl) _ Try.underlying25 (by rfl) (by kernel_rfl) ?_; (try simp only [Act.put, List.setIfInBounds_toArray, List.set_cons_zero, List.set_cons_succ, List.drop_succ_cons, List.drop_zero, List.take_succ_cons, List.take_zero, putAt, ints_set, ints_push, List.getElem_toArray, List.getElem_cons_zero, List.getElem_cons_succ]))))
    refine (spec_VersOk _ B4 8 d4 tb B5 n5 d5 tl _ _ (M.out.row_sl 1 rfl) (by omega) _ (M.out.row_sl 2 rfl) (by omega)).mono ?_
    rintro e w7 ⟨rfl, x7⟩
    rw [HT2.out]
    replace M := Lib.hid (M.out.on x7)
    clear x7
    go_wp2_with (first | ((with_reducible show wpList _ _ _ (⟨_, .load _ _, _, _, _, some _⟩ :: _) _ _); first | (refine Mine.wp_getg M.out (by rfl) _ _ rfl 0 _ rfl rfl _ rfl _ (by first | exact Try.underlying23) (by rfl) ?_; (try simp only [Act.put, List.setIfInBounds_toArray, List.set_cons_zero, List.set_cons_succ, List.drop_succ_cons, List.drop_zero, List.take_succ_cons, List.take_zero, putAt, ints_set, ints_push, List.getElem_toArray, List.getElem_cons_zero, List.getElem_cons_succ])) | (refine Mine.wp_getg M.out (by rfl) _ _ rfl 3 _ rfl rfl _ rfl _ (by first | exact Try.underlying23) (by rfl) ?_; (try simp only [Act.put, List.setIfInBounds_toArray, List.set_cons_zero, List.set_cons_succ, List.drop_succ_cons, List.drop_zero, List.take_succ_cons, List.take_zero, putAt, ints_set, ints_push, List.getElem_toArray, List.getElem_cons_zero, List.getElem_cons_succ]))))
    go_loopw [19] (fun ii wr => ∃ i : Nat, (i : Int) ≤ L + 1 ∧ (i : Int) ≤ 41 ∧ ii = .int .i64 i ∧ Hid (Mine w wr (.box gt 25 #[.slice B4 8 d4, .int .i64 K, .slice B5 n5 d5] :: .row 3 1 B4 8 d4 (ints tb) :: .row 73 3 B5 n5 d5 (tl.flatMap Ver.cells) :: .box gx 25 #[.slice B1 8 d1, .int .i64 0, .slice B2 n2 d2] :: .row 3 1 B1 8 d1 (ints zs) :: .row 73 3 B2 n2 d2 (V.flatMap Ver.cells) :: .row 3 1 B3 ms d3 (ints SS) :: .row 3 1 B0 8 d0 (ints zs) :: .row 64 3 B m d (es.flatMap ecell) :: hist))) (fun ii _ => 41 - (intOf ii).toNat)
    case atStart => exact ⟨0, by omega, by omega, rfl, M⟩
    case round =>
      clear M
      obtain ⟨i, hi1, hi2, rfl, M⟩ := hrel
      by_cases hgo : (i : Int) ≤ L ∧ (i : Int) ≤ 40
      rotate_left
      · have hcase : ¬ (i : Int) ≤ L ∨ ((i : Int) ≤ L ∧ ¬ (i : Int) ≤ 40) := by omega
        clear hgo
        by_cases hN : N < 0
        · rcases hcase with h1 | ⟨h1, h2⟩
          all_goals
            go_wp2
            go_ret
            exact ⟨rfl, M.out.ext⟩
        have hN0 : 0 ≤ N := by omega
        rcases hcase with h1 | ⟨h1, h2⟩
        all_goals
          go_wp2_with (first | ((with_reducible show wpList _ _ _ (⟨_, .load _ _, _, _, _, some _⟩ :: _) _ _); first | (refine Mine.wp_getsg M.out (by rfl) 25 _ rfl 3 _ 3 rfl rfl (Nat.le_of_ble_eq_true rfl) _ Try.underlying25 (by rfl) (by kernel_rfl) ?_; (try simp only [Act.put, List.setIfInBounds_toArray, List.set_cons_zero, List.set_cons_succ, List.drop_succ_cons, List.drop_zero, List.take_succ_cons, List.take_zero, putAt, ints_set, ints_push, List.getElem_toArray, List.getElem_cons_zero, List.getElem_cons_succ]))))
          refine (impl_VersState N 0 B1 8 d1 zs B2 n2 d2 V _ _ (M.out.row_sl 4 rfl) (by omega) _ (M.out.row_sl 5 rfl) (by omega)).mono ?_
          rintro e w8 ⟨B8, m8, d8, rfl, o8, x8⟩
          rw [HST.out N hN0] at o8
          replace M := Lib.hid (M.out.own o8 x8)
          clear o8 x8
          have hm8 := M.out.len1 0 rfl
          rw [ints_length] at hm8
          have HM8 := Lib.hid hm8
          clear hm8
          go_wp2_with fail
          refine (spec_StateAt B0 8 d0 zs B m d l N _ _ _ (M.out.row_sl 8 rfl) (by omega) (HLL.out ▸ hist_R (fr := []) (B := B) (d := d) ((M.out.sub ((List.Sublist.cons _ (List.Sublist.cons _ (List.Sublist.cons _ (List.Sublist.cons _ (List.Sublist.cons _ (List.Sublist.cons _ (List.Sublist.cons _ (List.Sublist.cons _ (List.Sublist.cons _ (List.Sublist.refl _)))))))))))).perm (by rw [List.append_nil, HHI.out])) (fun p hp => by have := HES.out p hp; omega)) (by omega) HP.out).mono ?_
          rintro e w9 ⟨B9, m9, d9, rfl, o9, x9⟩
          replace M := Lib.hid (M.out.own o9 x9)
          clear o9 x9
          have hm9 := M.out.len1 0 rfl
          rw [ints_length, HM8.out] at hm9
          subst hm9
          have hm8 : (m8 : Int) ≤ 8 := by have h1 := HM8.out; rw [← HST.out N hN0] at h1; have := versState_le zs 0 V N; omega
          go_wp2_with fail
          refine (sameInts_same _ _ _ _ _ (stateOf zs l N) _ (fun _ => True) (fun _ => True) (M.out.row_sl 1 rfl) (M.out.row_sl 0 rfl) (by omega)).mono ?_
          rintro e w10 ⟨rfl, x10⟩
          replace M := Lib.hid (M.out.on x10)
          clear x10
          go_wp2
          go_ret
          exact ⟨rfl, M.out.ext⟩
      obtain ⟨hg1, hg2⟩ := hgo
      have HG1 : Hid ((i : Int) ≤ L) := hg1
      have HG2 : Hid ((i : Int) ≤ 40) := hg2
      have hi0 : (0 : Int) ≤ (i : Int) := by omega
      go_wp2_with fail
      refine (spec_StateAt B0 8 d0 zs B m d l (i : Int) _ _ _ (M.out.row_sl 7 rfl) (by omega) (HLL.out ▸ hist_R (fr := []) (B := B) (d := d) ((M.out.sub ((List.Sublist.cons _ (List.Sublist.cons _ (List.Sublist.cons _ (List.Sublist.cons _ (List.Sublist.cons _ (List.Sublist.cons _ (List.Sublist.cons _ (List.Sublist.cons _ (List.Sublist.refl _))))))))))).perm (by rw [List.append_nil, HHI.out])) (fun p hp => by have := HES.out p hp; omega)) (by omega) HP.out).mono ?_
      rintro e w8 ⟨B8, m8, d8, rfl, o8, x8⟩
      replace M := Lib.hid (M.out.own o8 x8)
      clear o8 x8
      have hm8 := M.out.len1 0 rfl
      rw [ints_length] at hm8
      have HM8 := Lib.hid hm8
      have hm8b : (m8 : Int) ≤ 8 := by rw [← HST.out i hi0] at hm8; have := versState_le zs 0 V i; omega
      clear hm8
      go_wp2_with (first | ((with_reducible show wpList _ _ _ (⟨_, _, _, _, _, none⟩ :: _) _ _); first | (refine Mine.wp_gets M.out rfl 25 _ rfl 4 _ 3 rfl rfl (Nat.le_of_ble_eq_true rfl) _ Try.underlying25 (by rfl) (by kernel_rfl) ?_; (try simp only [Act.put, List.setIfInBounds_toArray, List.set_cons_zero, List.set_cons_succ, List.drop_succ_cons, List.drop_zero, List.take_succ_cons, List.take_zero, putAt, ints_set, ints_push, List.getElem_toArray, List.getElem_cons_zero, List.getElem_cons_succ]))))
      refine (impl_VersState (i : Int) 0 B1 8 d1 zs B2 n2 d2 V _ _ (M.out.row_sl 5 rfl) (by omega) _ (M.out.row_sl 6 rfl) (by omega)).mono ?_
      rintro e w9 ⟨B9, m9, d9, rfl, o9, x9⟩
      rw [HST.out i hi0] at o9
      replace M := Lib.hid (M.out.own o9 x9)
      clear o9 x9
      have hm9 := M.out.len1 0 rfl
      rw [ints_length, HM8.out] at hm9
      subst hm9
      go_wp2_with fail
      refine (sameInts_same _ _ _ _ _ (stateOf zs l i) _ (fun _ => True) (fun _ => True) (M.out.row_sl 0 rfl) (M.out.row_sl 1 rfl) (by omega)).mono ?_
      rintro e w10 ⟨rfl, x10⟩
      replace M := Lib.hid (M.out.on x10)
      clear x10
      replace M := Lib.hid M.out.tail
      by_cases hik : K ≤ (i : Int)
      · skip
        go_wp2_with (first | ((with_reducible show wpList _ _ _ (⟨_, .load _ _, _, _, _, some _⟩ :: _) _ _); first | (refine Mine.wp_getsg M.out (by rfl) 25 _ rfl 1 _ 3 rfl rfl (Nat.le_of_ble_eq_true rfl) _ Try.underlying25 (by rfl) (by kernel_rfl) ?_; (try simp only [Act.put, List.setIfInBounds_toArray, List.set_cons_zero, List.set_cons_succ, List.drop_succ_cons, List.drop_zero, List.take_succ_cons, List.take_zero, putAt, ints_set, ints_push, List.getElem_toArray, List.getElem_cons_zero, List.getElem_cons_succ]))))
        refine (impl_VersState (i : Int) _ B4 8 d4 tb B5 n5 d5 tl _ _ (M.out.row_sl 2 rfl) (by omega) _ (M.out.row_sl 3 rfl) (by omega)).mono ?_
        rintro e w9 ⟨B9, m9, d9, rfl, o9, x9⟩
        rw [HT5.out i hik, HST.out i hi0] at o9
        replace M := Lib.hid (M.out.own o9 x9)
        clear o9 x9
        have hm9 := M.out.len1 0 rfl
        rw [ints_length, HM8.out] at hm9
        subst hm9
        go_wp2_with fail
        refine (sameInts_same _ _ _ _ _ (stateOf zs l i) _ (fun _ => True) (fun _ => True) (M.out.row_sl 0 rfl) (M.out.row_sl 1 rfl) (by omega)).mono ?_
        rintro e w10 ⟨rfl, x10⟩
        replace M := Lib.hid (M.out.on x10)
        clear x10
        replace M := Lib.hid M.out.tail
        go_wp2
        go_roundw
        case rel => exact ⟨i + 1, by have := HG1.out; omega, by have := HG2.out; omega, by go_num, Lib.hid M.out.tail⟩
        case measure => have := HG2.out; simp [intOf]; omega
      have hik2 : (i : Int) < K := by omega
      go_wp2_with (first | ((with_reducible show wpList _ _ _ (⟨_, .load _ _, _, _, _, some _⟩ :: _) _ _); first | (refine Mine.wp_getsg M.out (by rfl) 25 _ rfl 1 _ 3 rfl rfl (Nat.le_of_ble_eq_true rfl) _ Try.underlying25 (by rfl) (by kernel_rfl) ?_; (try simp only [Act.put, List.setIfInBounds_toArray, List.set_cons_zero, List.set_cons_succ, List.drop_succ_cons, List.drop_zero, List.take_succ_cons, List.take_zero, putAt, ints_set, ints_push, List.getElem_toArray, List.getElem_cons_zero, List.getElem_cons_succ]))))
      refine (impl_VersState (i : Int) _ B4 8 d4 tb B5 n5 d5 tl _ _ (M.out.row_sl 2 rfl) (by omega) _ (M.out.row_sl 3 rfl) (by omega)).mono ?_
      rintro e w9 ⟨B9, m9, d9, rfl, o9, x9⟩
      rw [HT6.out i hik2] at o9
      have hm9 := own_len o9
      obtain rfl : m9 = 0 := by rw [ints_length] at hm9; exact hm9.symm
      replace M := Lib.hid (M.out.on x9)
      clear o9 x9 hm9
      go_wp2
      go_roundw
      case rel => exact ⟨i + 1, by have := HG1.out; omega, by have := HG2.out; omega, by go_num, Lib.hid M.out.tail⟩
      case measure => have := HG2.out; simp [intOf]; omega
end Go.Proofs.Ytnhkjgnfjphllaa
