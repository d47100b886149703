/- Orders of all calls; MayFollow of program and reference; the contract of laws.FnExactMayFollow. No condition. -/
import Derived.Test.YtcnkmbofpppfaaaCallsOk
import Derived.Test.YtcnkmbofpppfaaaContains
namespace Go.Proofs.Ytcnkmbofpppfaaa
open Go.RowKit Go.Deep

/-- Element i of an order of m: in range, and not there before. -/
def permAt (zs : List Int) (m : Nat) (i : Nat) (x : Int) : Prop := (0 ≤ x ∧ x ≤ (m : Int) - 1) ∧ x ∉ zs.take i
noncomputable def permOk (zs : List Int) (m : Nat) : Bool := dec (AllTo (permAt zs m) zs zs.length)
theorem callsOk_len {l : List Call} (h : callsOk l = true) : l.length ≤ 7 := (dec_true h).1
theorem mem_take_iff {zs : List Int} {i : Nat} {x : Int} : x ∈ zs.take i ↔ ∃ j, j < i ∧ zs[j]? = some x := by
  rw [List.mem_take_iff_getElem]
  constructor
  · rintro ⟨j, hj, e⟩
    exact ⟨j, by omega, by rw [List.getElem?_eq_getElem (by omega), e]⟩
  · rintro ⟨j, hj, e⟩
    obtain ⟨h1, h2⟩ := List.getElem?_eq_some_iff.1 e
    exact ⟨j, by omega, h2⟩

theorem Sl.takeN {w : World} {S : Nat → Prop} {A : Option Addr} {n k : Nat} {zs : List Int} (h : Sl w S 1 A n (ints zs)) (hk : k ≤ n) : Sl w S 1 A k (ints (zs.take k)) := by
  have hl := h.len
  refine ⟨by simp [ints]; omega, fun hk0 => ?_⟩
  obtain ⟨b, o, e, hs, hb, hc⟩ := h.2 (by omega)
  refine ⟨b, o, e, hs, hb, fun j hj => ?_⟩
  rw [hc j (by omega)]
  simp [ints, List.getElem?_take]
  omega

set_option maxHeartbeats 2000000 in
theorem orderOk_any (A : Option Addr) (n c : Nat) (zs : List Int) (m : Nat) (w : World) (S : Nat → Prop) (hs : Sl w S 1 A n (ints zs)) (hm : n ≤ 1048576) (hnc : n ≤ c) (hmm : m ≤ 1048576) :
    Calls Try.prog 42 #[.slice A n c, .int .i64 m] w fun e w' => e = .returned (.bool (permOk zs m)) ∧ w = w' := by
  have H := Lib.hid hs.len
  go_enter Try.func42, Try.ntmps42
  go_wp2
  go_loop [9] (fun i => ∃ k : Nat, k ≤ n ∧ i = .int .i64 k ∧ AllTo (permAt zs m) zs k) (fun i => n - (intOf i).toNat)
  case atStart => exact ⟨0, Nat.zero_le _, rfl, AllTo.zero _ _⟩
  case round =>
    obtain ⟨k, hk, rfl, hup⟩ := hrel
    have HU := Lib.hid hup
    clear hup
    by_cases hlt : k < n
    · obtain ⟨b, o, rfl⟩ := hs.addr (by omega)
      have hkc : (k : Int) ≤ (c : Int) := by omega
      obtain ⟨x, hx, -, hc⟩ := hs.int_cell hlt
      have HX := Lib.hid hx
      have HS := Lib.hid hs
      clear hx hs
      by_cases h0 : 0 ≤ x ∧ x ≤ (m : Int) - 1
      rotate_left
      · have d0 : decide (0 ≤ x ∧ x ≤ (m : Int) - 1) = false := by simpa using h0
        go_wp2_with (go_at_call 39; refine (within_any _ _ _ _).mono ?_; rintro e w' ⟨rfl, rfl⟩)
        go_ret
        exact ⟨by rw [permOk, dec_no fun h => AllTo.not HX.out (by rw [H.out]; exact hlt) (fun q => h0 q.1) h]; rfl, rfl⟩
      have d0 : decide (0 ≤ x ∧ x ≤ (m : Int) - 1) = true := by simpa using h0
      go_wp2_with (go_at_call 39; refine (within_any _ _ _ _).mono ?_; rintro e w' ⟨rfl, rfl⟩)
      refine (Contains_any _ _ _ (zs.take k) x _ S (HS.out.takeN hk) (by omega)).mono ?_
      rintro e w' ⟨rfl, rfl⟩
      cases hmem : dec (x ∈ zs.take k)
      · have HM := Lib.hid (dec_false hmem)
        clear hmem
        go_wp2
        go_round
        case rel => exact ⟨k + 1, by omega, by go_num, HU.out.succ HX.out ⟨h0, HM.out⟩⟩
        case measure => simp [intOf]; omega
      · have HM := Lib.hid (dec_true hmem)
        clear hmem
        go_wp2
        go_ret
        exact ⟨by rw [permOk, dec_no fun h => AllTo.not HX.out (by rw [H.out]; exact hlt) (fun q => q.2 HM.out) h]; rfl, rfl⟩
    · go_wp2
      go_ret
      have e : k = zs.length := by rw [H.out]; omega
      exact ⟨by rw [permOk, dec_yes (by rw [← e]; exact HU.out)]; rfl, rfl⟩

theorem Try.infoBool : (Try.prog.info? 4).map (fun i => (i.zero, i.size, i.bytes)) = some (some (.bool false), 1, 1) := by kernel_rfl

set_option maxHeartbeats 2000000 in
theorem l20Perm_any (A : Option Addr) (n c : Nat) (zs : List Int) (m : Nat) (w : World) (S : Nat → Prop) (hs : Sl w S 1 A n (ints zs)) (hm : n ≤ 1048576) (hmm : m ≤ 1048576) :
    Calls Try.prog 41 #[.slice A n c, .int .i64 m] w fun e w' => e = .returned (.bool (dec (zs.length = m ∧ permOk zs m = true))) ∧ Ext w w' := by
  have H := Lib.hid hs.len
  by_cases hnm : n = m
  rotate_left
  · have hb : ((n : Int) != (m : Int)) = true := by simp; omega
    have HN := Lib.hid hnm
    clear hnm
    go_enter Try.func41, Try.ntmps41
    go_wp2
    go_ret
    exact ⟨by rw [dec_no fun h => HN.out (by rw [← H.out]; exact h.1)]; rfl, Ext.refl' _⟩
  subst hnm
  obtain ⟨w1, cs0, hmk, hown, hcs, hx1, hlt1⟩ := made_row (P := Try.prog) w 59 4 _ _ _ Try.underlying59 Try.infoBool n (by omega) (by unfold maxLen; omega)
  have HO := Lib.hid hown
  have HX := Lib.hid hx1
  have HCS := Lib.hid hcs
  clear hown hx1 hcs
  go_enter Try.func41, Try.ntmps41
  go_wp2
  go_loopw [6] (fun i wr => ∃ (k : Nat) (cs : List Value), k ≤ n ∧ i = .int .i64 k ∧ AllTo (permAt zs n) zs k ∧ wr.ownsRow w.heap.size 4 1 (.slice (some ⟨w.heap.size, 0, none⟩) n n) n cs ∧ (∀ j, j < n → cs[j]? = some (.bool (dec ((j : Int) ∈ zs.take k)))) ∧ Ext w wr) (fun i _ => n - (intOf i).toNat)
  case atStart =>
    refine ⟨0, _, Nat.zero_le _, rfl, AllTo.zero _ _, HO.out, fun j hj => ?_, HX.out⟩
    rw [HCS.out, Nat.mul_one]
    rw [show (madeCells (Value.bool false).cells n).toList = List.replicate n (.bool false) from toList_madeCells_one _ _]
    rw [dec_no (by simp)]
    simp [hj]
  case round =>
    obtain ⟨k, cs, hk, rfl, hup, ho, hseen, hx⟩ := hrel
    have HU := Lib.hid hup
    have HO := Lib.hid ho
    have HE := Lib.hid hx
    have HS := Lib.hid hseen
    clear hup ho hseen
    by_cases hlt : k < n
    · obtain ⟨b, o, rfl⟩ := hs.addr (by omega)
      obtain ⟨x, hxk, -, hc⟩ := (hs.ext hx).int_cell hlt
      have HX := Lib.hid hxk
      clear hxk hx
      by_cases h0 : 0 ≤ x ∧ x ≤ (n : Int) - 1
      rotate_left
      · have d0 : decide (0 ≤ x ∧ x ≤ (n : Int) - 1) = false := by simpa using h0
        go_wp2_with (go_at_call 38; refine (l1In_any _ _ _ _).mono ?_; rintro e w' ⟨rfl, rfl⟩)
        go_ret
        exact ⟨by rw [dec_no fun h => AllTo.not HX.out (by rw [H.out]; exact hlt) (fun q => h0 q.1) (dec_true h.2)]; rfl, HE.out⟩
      have d0 : decide (0 ≤ x ∧ x ≤ (n : Int) - 1) = true := by simpa using h0
      obtain ⟨xn, rfl⟩ := Int.eq_ofNat_of_zero_le h0.1
      have hxn : xn < n := by omega
      obtain ⟨g, v0, hA, -, hco, hf0⟩ := own_at HO.out hxn
      obtain rfl : w.heap.size = g := addr_inj hA
      clear hA
      have hcv := HO.out.cellAt xn (by omega)
      rw [hco, HS.out xn hxn] at hcv
      injection hcv with hcv
      subst hcv
      cases hmem : dec ((xn : Int) ∈ zs.take k)
      · have HM := Lib.hid (dec_false hmem)
        rw [hmem] at hco
        clear hmem
        go_wp2_with (go_at_call 38; refine (l1In_any _ _ _ _).mono ?_; rintro e w' ⟨rfl, rfl⟩)
        go_roundw
        case rel =>
          have hst := HO.out.stored xn (.bool true)
          refine ⟨k + 1, _, by omega, by go_num, HU.out.succ HX.out ⟨h0, HM.out⟩, hst.1, fun j hj => ?_, HE.out.sc (p := ⟨w.heap.size, _, none⟩) (Nat.le_refl _) _⟩
          have hcl := own_len HO.out
          rw [List.getElem?_set]
          have e1 : zs.take (k + 1) = zs.take k ++ [(xn : Int)] := by rw [List.take_add_one, HX.out]; rfl
          by_cases e : xn = j
          · subst e
            rw [if_pos rfl, if_pos (by omega), dec_yes (by rw [e1]; simp)]
          · rw [if_neg e, HS.out j hj]
            congr 2
            by_cases hq : (j : Int) ∈ zs.take k
            · rw [dec_yes hq, dec_yes (by rw [e1]; simp [hq])]
            · rw [dec_no hq, dec_no (by rw [e1]; simp [hq]; omega)]
        case measure => simp [intOf]; omega
      · have HM := Lib.hid (dec_true hmem)
        rw [hmem] at hco
        clear hmem
        go_wp2_with (go_at_call 38; refine (l1In_any _ _ _ _).mono ?_; rintro e w' ⟨rfl, rfl⟩)
        go_ret
        exact ⟨by rw [dec_no fun h => AllTo.not HX.out (by rw [H.out]; exact hlt) (fun q => q.2 HM.out) (dec_true h.2)]; rfl, HE.out⟩
    · clear hx
      go_wp2
      go_ret
      have e : k = zs.length := by rw [H.out]; omega
      exact ⟨by rw [dec_yes ⟨H.out, by rw [permOk, dec_yes (by rw [← e]; exact HU.out)]⟩]; rfl, HE.out⟩
theorem perm_at {zs : List Int} {m k : Nat} {x : Int} (h : permOk zs m = true) (hx : zs[k]? = some x) : ∃ xn : Nat, x = (xn : Int) ∧ xn < m := by
  have h1 := dec_true h k (List.getElem?_eq_some_iff.1 hx).1 x hx
  obtain ⟨xn, rfl⟩ := Int.eq_ofNat_of_zero_le h1.1.1
  exact ⟨xn, rfl, by have := h1.1.2; omega⟩

def pairOk (l : List Call) (ord : List Int) (a b : Nat) : Prop := ∀ x y, ord[a]? = some x → ord[b]? = some y → ∀ cx cy : Call, l[x.toNat]? = some cx → l[y.toNat]? = some cy → ¬ cy.to_ < cx.from_
theorem pair_yes {l : List Call} {ord : List Int} {a b xa xb : Nat} {ca cb : Call} (h1 : ord[a]? = some (xa : Int)) (h2 : ord[b]? = some (xb : Int)) (h3 : l[xa]? = some ca) (h4 : l[xb]? = some cb) (h : ¬ cb.to_ < ca.from_) : pairOk l ord a b := by
  intro x y hx hy cx cy hcx hcy
  rw [h1] at hx; injection hx with hx; subst hx
  rw [h2] at hy; injection hy with hy; subst hy
  rw [Int.toNat_natCast] at hcx hcy
  rw [h3] at hcx; injection hcx with hcx; subst hcx
  rw [h4] at hcy; injection hcy with hcy; subst hcy
  exact h
theorem pair_no {l : List Call} {ord : List Int} {a b xa xb : Nat} {ca cb : Call} (h1 : ord[a]? = some (xa : Int)) (h2 : ord[b]? = some (xb : Int)) (h3 : l[xa]? = some ca) (h4 : l[xb]? = some cb) (h : cb.to_ < ca.from_) : ¬ pairOk l ord a b :=
  fun hp => hp _ _ h1 h2 ca cb (by rw [Int.toNat_natCast]; exact h3) (by rw [Int.toNat_natCast]; exact h4) h
def mayP (l : List Call) (ord : List Int) : Prop := ∀ a b, a < b → b < ord.length → pairOk l ord a b
noncomputable def mayOk (l : List Call) (ord : List Int) : Bool := dec (callsOk l = true ∧ ord.length = l.length ∧ permOk ord l.length = true ∧ mayP l ord)

set_option maxHeartbeats 4000000 in
theorem spec_MayFollow (A : Option Addr) (n c : Nat) (l : List Call) (A2 : Option Addr) (n2 c2 : Nat) (l2 : List Int) (w : World) (S : Nat → Prop) (hs : Sl w S 5 A n (l.flatMap Call.cells)) (hm : n ≤ 1048576)
    (S2 : Nat → Prop) (hs2 : Sl w S2 1 A2 n2 (ints l2)) (hm2 : n2 ≤ 1048576) (_hnc : n2 ≤ c2) :
    Calls Try.prog 18 #[.slice A n c, .slice A2 n2 c2] w fun e w' => e = .returned (.bool (mayOk l l2)) ∧ Ext w w' := by
  have H := Lib.hid (hs.flen Call.cells_length (by omega))
  have H2 := Lib.hid hs2.len
  go_enter Try.func18, Try.ntmps18
  go_wp2_with fail
  refine (spec_CallsOk A n c l _ S hs (by omega)).mono ?_
  rintro e w1 ⟨rfl, x1⟩
  have X1 := Lib.hid x1
  have HS := Lib.hid hs
  have HS2 := Lib.hid hs2
  clear x1 hs hs2
  cases hok : callsOk l
  · have HN := Lib.hid hok
    clear hok
    go_wp2
    go_ret
    exact ⟨by rw [mayOk, dec_no fun h => by have := h.1; rw [HN.out] at this; exact absurd this (by simp)]; rfl, X1.out⟩
  have HY := Lib.hid hok
  clear hok
  go_wp2_with fail
  refine (l20Perm_any A2 n2 c2 l2 n _ S2 (HS2.out.ext X1.out) (by omega) (by omega)).mono ?_
  rintro e w2 ⟨rfl, x2⟩
  have X2 := Lib.hid (X1.out.tr x2)
  clear x2
  cases hp : dec (l2.length = n ∧ permOk l2 n = true)
  · have HN := Lib.hid (dec_false hp)
    clear hp
    go_wp2
    go_ret
    exact ⟨by rw [mayOk, dec_no fun h => HN.out (by rw [← H.out]; exact ⟨h.2.1, h.2.2.1⟩)]; rfl, X2.out⟩
  have HP := Lib.hid (dec_true hp).2
  have hn2 : n2 = n := by rw [← H2.out]; exact (dec_true hp).1
  clear hp
  subst hn2
  go_wp2
  go_loopw [5] (fun i wr => ∃ a : Nat, a ≤ n2 ∧ i = .int .i64 a ∧ Hid (∀ a' b, a' < a → a' < b → b < n2 → pairOk l l2 a' b) ∧ Ext w wr) (fun i _ => n2 - (intOf i).toNat)
  case atStart => exact ⟨0, Nat.zero_le _, rfl, fun a' b h => absurd h (Nat.not_lt_zero _), X2.out⟩
  case round =>
    obtain ⟨a, ha, rfl, hpr, hx⟩ := hrel
    obtain ⟨wo, rfl⟩ : ∃ wo : World, wo = wr := ⟨_, rfl⟩
    have HX := Lib.hid hx
    clear hx
    by_cases hlt : a < n2
    · obtain ⟨xa, hxa, -, -⟩ : ∃ x, l2[a]? = some x ∧ True ∧ True := ⟨l2[a]'(by rw [H2.out]; exact hlt), List.getElem?_eq_getElem _, trivial, trivial⟩
      obtain ⟨xn, rfl, hxn⟩ := perm_at HP.out hxa
      obtain ⟨b, o, rfl⟩ := HS.out.addr (by omega)
      obtain ⟨b2, o2, rfl⟩ := HS2.out.addr (by omega)
      have HXA := Lib.hid hxa
      clear hxa
      go_wp2
      go_loopw [6] (fun i wi => ∃ k : Nat, a < k ∧ k ≤ n2 ∧ i = .int .i64 k ∧ Hid (∀ b, a < b → b < k → pairOk l l2 a b) ∧ Ext w wi) (fun i _ => n2 - (intOf i).toNat)
      case atStart => exact ⟨a + 1, by omega, by omega, by go_num, fun b h1 h2 => by omega, HX.out⟩
      case round =>
        obtain ⟨k, hak, hk, rfl, hpk, hxi⟩ := hrel
        have HXI := Lib.hid hxi
        by_cases hkn : k < n2
        · obtain ⟨y, hy, -, hcy⟩ := (HS2.out.ext hxi).int_cell hkn
          obtain ⟨yn, rfl, hyn⟩ := perm_at HP.out hy
          obtain ⟨x', hx', -, hcx⟩ := (HS2.out.ext hxi).int_cell hlt
          rw [HXA.out] at hx'
          injection hx' with hx'
          subst hx'
          obtain ⟨sx, hsx, -, hcsx⟩ := (HS.out.ext hxi).flat_cell (k := xn) Call.cells_length (by omega) (by omega)
          obtain ⟨sy, hsy, -, hcsy⟩ := (HS.out.ext hxi).flat_cell (k := yn) Call.cells_length (by omega) (by omega)
          have cx0 := hcsx 0 (by omega)
          have cy1 := hcsy 1 (by omega)
          obtain ⟨p0, p1, p2, p3, p4⟩ := sx
          obtain ⟨q0, q1, q2, q3, q4⟩ := sy
          simp only [Call.cells, List.getElem?_cons_zero, List.getElem?_cons_succ, Nat.add_zero] at cx0 cy1
          have HSX := Lib.hid hsx
          have HSY := Lib.hid hsy
          have HYY := Lib.hid hy
          have hxz : (xn : Int) < (n2 : Int) := by omega
          have hyz : (yn : Int) < (n2 : Int) := by omega
          have hx0 : (0 : Int) ≤ (xn : Int) := by omega
          have hy0 : (0 : Int) ≤ (yn : Int) := by omega
          clear hsx hsy hy hcsx hcsy hxi
          by_cases hq : q1 < p0
          · go_wp2
            go_quiet (fail)
            go_wp2
            go_ret
            exact ⟨by rw [mayOk, dec_no fun h => pair_no HXA.out HYY.out HSX.out HSY.out hq (h.2.2.2 a k hak (by rw [H2.out]; exact hkn))]; rfl, HXI.out.drN _⟩
          · go_wp2
            go_quiet (fail)
            go_wp2
            go_roundw
            case rel =>
              refine ⟨k + 1, by omega, by omega, by go_num, fun b h1 h2 => ?_, HXI.out.drN _⟩
              by_cases e : b = k
              · subst e; exact pair_yes HXA.out HYY.out HSX.out HSY.out (by show ¬ q1 < p0; omega)
              · exact hpk.out b h1 (by omega)
            case measure => simp [intOf]; omega
        · clear hxi
          go_wp2
          go_roundw
          case rel =>
            refine ⟨a + 1, by omega, by go_num, fun a' b h1 h2 h3 => ?_, HXI.out⟩
            by_cases e : a' = a
            · subst e; exact hpk.out b h2 (by omega)
            · exact hpr.out a' b (by omega) h2 h3
          case measure => simp [intOf]; omega
    · go_wp2
      go_ret
      exact ⟨by rw [mayOk, dec_yes ⟨HY.out, by rw [H.out, H2.out], by rw [H.out]; exact HP.out, fun a' b h1 h2 => hpr.out a' b (by rw [H2.out] at h2; omega) h1 (by rw [H2.out] at h2; exact h2)⟩]; rfl, HX.out⟩
set_option maxHeartbeats 4000000 in
theorem impl_MayFollow (A : Option Addr) (n c : Nat) (l : List Call) (A2 : Option Addr) (n2 c2 : Nat) (l2 : List Int) (w : World) (S : Nat → Prop) (hs : Sl w S 5 A n (l.flatMap Call.cells)) (hm : n ≤ 1048576)
    (S2 : Nat → Prop) (hs2 : Sl w S2 1 A2 n2 (ints l2)) (hm2 : n2 ≤ 1048576) (hnc : n2 ≤ c2) :
    Calls Try.prog 20 #[.slice A n c, .slice A2 n2 c2] w fun e w' => e = .returned (.bool (mayOk l l2)) ∧ Ext w w' := by
  have H := Lib.hid (hs.flen Call.cells_length (by omega))
  have H2 := Lib.hid hs2.len
  go_enter Try.func20, Try.ntmps20
  go_wp2_with fail
  refine (impl_CallsOk A n c l _ S hs (by omega)).mono ?_
  rintro e w1 ⟨rfl, x1⟩
  have X1 := Lib.hid x1
  have HS := Lib.hid hs
  have HS2 := Lib.hid hs2
  clear x1 hs hs2
  cases hok : callsOk l
  · have HN := Lib.hid hok
    clear hok
    go_wp2
    go_ret
    exact ⟨by rw [mayOk, dec_no fun h => by have := h.1; rw [HN.out] at this; exact absurd this (by simp)]; rfl, X1.out⟩
  have HY := Lib.hid hok
  clear hok
  by_cases hn2 : n2 = n
  rotate_left
  · have hb : ((n2 : Int) != (n : Int)) = true := by simp; omega
    have HN := Lib.hid hn2
    clear hn2
    go_wp2
    go_ret
    exact ⟨by rw [mayOk, dec_no fun h => HN.out (by rw [← H.out, ← H2.out]; exact h.2.1)]; rfl, X1.out⟩
  subst hn2
  go_wp2_with fail
  refine (orderOk_any A2 n2 c2 l2 n2 _ S2 (HS2.out.ext X1.out) (by omega) hnc (by omega)).mono ?_
  rintro e w2 ⟨rfl, rfl⟩
  cases hp : permOk l2 n2
  · have HN := Lib.hid hp
    clear hp
    go_wp2
    go_ret
    exact ⟨by rw [mayOk, dec_no fun h => by have h1 := h.2.2.1; rw [H.out, HN.out] at h1; exact absurd h1 (by simp)]; rfl, X1.out⟩
  have HP := Lib.hid hp
  clear hp
  go_wp2
  go_loopw [28] (fun i wr => ∃ a : Nat, a ≤ n2 ∧ i = .int .i64 a ∧ Hid (∀ a' b, a' < b → b < a → pairOk l l2 a' b) ∧ Ext w wr) (fun i _ => n2 - (intOf i).toNat)
  case atStart => exact ⟨0, Nat.zero_le _, rfl, fun a' b _ h => absurd h (Nat.not_lt_zero _), X1.out⟩
  case round =>
    obtain ⟨a, ha, rfl, hpr, hx⟩ := hrel
    obtain ⟨wo, rfl⟩ : ∃ wo : World, wo = wr := ⟨_, rfl⟩
    have HX := Lib.hid hx
    by_cases hlt : a < n2
    · obtain ⟨b, o, rfl⟩ := HS.out.addr (by omega)
      obtain ⟨b2, o2, rfl⟩ := HS2.out.addr (by omega)
      obtain ⟨x, hxa, -, hcx⟩ := (HS2.out.ext hx).int_cell hlt
      obtain ⟨xn, rfl, hxn⟩ := perm_at HP.out hxa
      have HXA := Lib.hid hxa
      have hac : (a : Int) ≤ (c2 : Int) := by omega
      clear hxa hx
      go_wp2
      clear hcx
      go_loopw [37] (fun i wi => ∃ k : Nat, k ≤ a ∧ i = .int .i64 k ∧ Hid (∀ a', a' < k → pairOk l l2 a' a) ∧ Ext w wi) (fun i _ => a - (intOf i).toNat)
      case atStart => exact ⟨0, by omega, rfl, fun b h1 => by omega, HX.out⟩
      case round =>
        obtain ⟨k, hk, rfl, hpk, hxi⟩ := hrel
        have HXI := Lib.hid hxi
        by_cases hkn : k < a
        · obtain ⟨y, hy, -, hcy⟩ := (HS2.out.ext hxi).int_cell (k := k) (by omega)
          obtain ⟨yn, rfl, hyn⟩ := perm_at HP.out hy
          obtain ⟨sx, hsx, -, hcsx⟩ := (HS.out.ext hxi).flat_cell (k := xn) Call.cells_length (by omega) (by omega)
          obtain ⟨sy, hsy, -, hcsy⟩ := (HS.out.ext hxi).flat_cell (k := yn) Call.cells_length (by omega) (by omega)
          have cx1 := hcsx 1 (by omega)
          have cy0 := hcsy 0 (by omega)
          obtain ⟨p0, p1, p2, p3, p4⟩ := sx
          obtain ⟨q0, q1, q2, q3, q4⟩ := sy
          simp only [Call.cells, List.getElem?_cons_zero, List.getElem?_cons_succ, Nat.add_zero] at cx1 cy0
          have HSX := Lib.hid hsx
          have HSY := Lib.hid hsy
          have HYY := Lib.hid hy
          have hxz : (xn : Int) < (n2 : Int) := by omega
          have hyz : (yn : Int) < (n2 : Int) := by omega
          have hx0 : (0 : Int) ≤ (xn : Int) := by omega
          have hy0 : (0 : Int) ≤ (yn : Int) := by omega
          clear hsx hsy hy hcsx hcsy hxi
          by_cases hq : p1 < q0
          · go_wp2
            go_quiet (fail)
            go_wp2
            go_ret
            exact ⟨by rw [mayOk, dec_no fun h => pair_no HYY.out HXA.out HSY.out HSX.out hq (h.2.2.2 k a hkn (by rw [H2.out]; exact hlt))]; rfl, HXI.out.drN _⟩
          · go_wp2
            go_quiet (fail)
            go_wp2
            go_roundw
            case rel =>
              refine ⟨k + 1, by omega, by go_num, fun a' h1 => ?_, HXI.out.drN _⟩
              by_cases e : a' = k
              · subst e; exact pair_yes HYY.out HXA.out HSY.out HSX.out (by show ¬ p1 < q0; omega)
              · exact hpk.out a' (by omega)
            case measure => simp [intOf]; omega
        · clear hxi
          go_wp2
          go_roundw
          case rel =>
            refine ⟨a + 1, by omega, by go_num, fun a' b h1 h2 => ?_, HXI.out⟩
            by_cases e : b = a
            · subst e; exact hpk.out a' (by omega)
            · exact hpr.out a' b h1 (by omega)
          case measure => simp [intOf]; omega
    · clear hx
      go_wp2
      go_ret
      exact ⟨by rw [mayOk, dec_yes ⟨HY.out, by rw [H.out, H2.out], by rw [H.out]; exact HP.out, fun a' b h1 h2 => hpr.out a' b h1 (by rw [H2.out] at h2; omega)⟩]; rfl, HX.out⟩

set_option maxHeartbeats 4000000 in
theorem law_MayFollow (A0 : Option Addr) (n0 c0 : Nat) (l0 : List Call) (A1 : Option Addr) (n1 c1 : Nat) (l1 : List Int) (w : World) (hs0 : Sl w (fun _ => True) 5 A0 n0 (l0.flatMap Call.cells)) (hm0 : n0 ≤ 9223372036854775807) (hs1 : Sl w (fun _ => True) 1 A1 n1 (ints l1)) (hm1 : n1 ≤ 9223372036854775807) :
    Calls Try.prog 5 #[.slice A0 n0 c0, .slice A1 n1 c1] w fun e w' => e = .returned (.bool true) ∧ Ext w w' := by
  by_cases hn1 : n1 ≤ 1048576
  rotate_left
  · go_enter Try.func5, Try.ntmps5
    go_wp2
    go_ret
    exact ⟨rfl, Ext.refl' _⟩
  by_cases hn0 : (n0 : Int) ≤ (1048576 : Int)
  rotate_left
  · go_enter Try.func5, Try.ntmps5
    go_wp2_with fail
    refine (szCallS_any _ _ _ _ _ (by omega) (by omega) hm0).mono ?_
    rintro e w' ⟨rfl, rfl⟩
    rw [if_neg (by omega)]
    go_wp2
    go_ret
    exact ⟨rfl, Ext.refl' _⟩
  have hN0 : n0 ≤ 1048576 := by omega
  have hN1 : n1 ≤ 1048576 := by omega
  go_enter Try.func5, Try.ntmps5
  go_wp2_with fail
  refine (szCallS_any _ _ _ _ _ (by omega) (by omega) hm0).mono ?_
  rintro e w' ⟨rfl, rfl⟩
  rw [if_pos (by omega)]
  go_wp2_with fail
  refine (toCallS_any _ _ _ _ _ _ hs0 hN0).mono ?_
  rintro e w1 ⟨B1, d1, rfl, o1, x1⟩
  replace hs0 := hs0.ext x1
  replace hs1 := hs1.ext x1
  have xx := x1
  have z1 : w.heap.size ≤ w1.heap.size := x1.size
  have r1 := Lib.hid o1.lt
  go_wp2_with fail
  refine (toIntS_any _ _ _ _ _ _ hs1 hN1).mono ?_
  rintro e w2 ⟨B2, d2, rfl, o2, x2⟩
  replace o1 := own_ext o1 x2
  replace hs0 := hs0.ext x2
  replace hs1 := hs1.ext x2
  replace xx := xx.tr x2
  have z2 : w1.heap.size ≤ w2.heap.size := x2.size
  have r2 := Lib.hid o2.lt
  go_wp2_with fail
  refine (spec_MayFollow _ _ _ _ _ _ _ _ _ _ (ownSl o1) hN0 _ (ownSl o2) hN1 (own_cap o2)).mono ?_
  rintro e w3 ⟨rfl, x3⟩
  replace o1 := own_ext o1 x3
  replace o2 := own_ext o2 x3
  replace hs0 := hs0.ext x3
  replace hs1 := hs1.ext x3
  replace xx := xx.tr x3
  have z3 : w2.heap.size ≤ w3.heap.size := x3.size
  go_wp2_with fail
  refine (toCallS_any _ _ _ _ _ _ hs0 hN0).mono ?_
  rintro e w4 ⟨B4, d4, rfl, o4, x4⟩
  replace hs0 := hs0.ext x4
  replace hs1 := hs1.ext x4
  replace xx := xx.tr x4
  have z4 : w3.heap.size ≤ w4.heap.size := x4.size
  have r4 := Lib.hid o4.lt
  go_wp2_with fail
  refine (toIntS_any _ _ _ _ _ _ hs1 hN1).mono ?_
  rintro e w5 ⟨B5, d5, rfl, o5, x5⟩
  replace o4 := own_ext o4 x5
  replace hs0 := hs0.ext x5
  replace hs1 := hs1.ext x5
  replace xx := xx.tr x5
  have z5 : w4.heap.size ≤ w5.heap.size := x5.size
  have r5 := Lib.hid o5.lt
  go_wp2_with fail
  refine (impl_MayFollow _ _ _ _ _ _ _ _ _ _ (ownSl o4) hN0 _ (ownSl o5) hN1 (own_cap o5)).mono ?_
  rintro e w6 ⟨rfl, x6⟩
  replace o4 := own_ext o4 x6
  replace o5 := own_ext o5 x6
  replace hs0 := hs0.ext x6
  replace hs1 := hs1.ext x6
  replace xx := xx.tr x6
  have z6 : w5.heap.size ≤ w6.heap.size := x6.size
  go_wp2_with fail
  refine (toCallS_any _ _ _ _ _ _ hs0 hN0).mono ?_
  rintro e w7 ⟨B7, d7, rfl, o7, x7⟩
  replace o4 := own_ext o4 x7
  replace o5 := own_ext o5 x7
  replace hs0 := hs0.ext x7
  replace hs1 := hs1.ext x7
  replace xx := xx.tr x7
  have z7 : w6.heap.size ≤ w7.heap.size := x7.size
  have r7 := Lib.hid o7.lt
  go_wp2_with fail
  refine (eqCallS_same _ _ _ _ _ _ _ _ _ (ownSl o4) (ownSl o7) (by omega)).mono ?_
  rintro e w8 ⟨rfl, x8⟩
  replace o4 := own_ext o4 x8
  replace o5 := own_ext o5 x8
  replace o7 := own_ext o7 x8
  replace hs0 := hs0.ext x8
  replace hs1 := hs1.ext x8
  replace xx := xx.tr x8
  have z8 : w7.heap.size ≤ w8.heap.size := x8.size
  go_wp2_with fail
  refine (toIntS_any _ _ _ _ _ _ hs1 hN1).mono ?_
  rintro e w9 ⟨B9, d9, rfl, o9, x9⟩
  replace o4 := own_ext o4 x9
  replace o5 := own_ext o5 x9
  replace hs0 := hs0.ext x9
  replace hs1 := hs1.ext x9
  replace xx := xx.tr x9
  have z9 : w8.heap.size ≤ w9.heap.size := x9.size
  have r9 := Lib.hid o9.lt
  go_wp2_with fail
  refine (eqIntS_same _ _ _ _ _ _ _ _ _ (ownSl o5) (ownSl o9) (by omega)).mono ?_
  rintro e w10 ⟨rfl, x10⟩
  replace o4 := own_ext o4 x10
  replace o5 := own_ext o5 x10
  replace o9 := own_ext o9 x10
  replace hs0 := hs0.ext x10
  replace hs1 := hs1.ext x10
  replace xx := xx.tr x10
  have z10 : w9.heap.size ≤ w10.heap.size := x10.size
  go_wp2
  go_ret
  exact ⟨rfl, xx⟩
end Go.Proofs.Ytcnkmbofpppfaaa
