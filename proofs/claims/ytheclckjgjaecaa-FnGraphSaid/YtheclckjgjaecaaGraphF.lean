/- The contract of laws.FnGraph. No condition. -/
import Derived.Test.YtheclckjgjaecaaDrawG
import Derived.Test.YtheclckjgjaecaaGraphQ
import Derived.Test.YtheclckjgjaecaaCFree
import Derived.Test.YtheclckjgjaecaaTopoF
import Derived.Test.YtheclckjgjaecaaQC
namespace Go.Proofs.Ytheclckjgjaecaa
open Go.RowKit Go.Deep

set_option maxHeartbeats 400000 in
theorem sameInts_same (A B : Option Addr) (n c d : Nat) (zs : List Int) (w : World) (S T : Nat → Prop) (ha : Sl w S 1 A n (ints zs)) (hb : Sl w T 1 B n (ints zs)) (hm : n ≤ 9223372036854775807) :
    Calls Try.prog 43 #[.slice A n c, .slice B n d] w fun e w' => e = .returned (.bool true) ∧ Ext w w' := by
  go_enter Try.func43, Try.ntmps43
  go_wp2
  go_loopw [5] (fun i wr => ∃ (k : Nat), k ≤ n ∧ i = .int .i64 k ∧ Ext w wr) (fun i _ => n - (intOf i).toNat)
  case atStart => exact ⟨0, Nat.zero_le _, rfl, Ext.refl' _⟩
  case round =>
    obtain ⟨k, hk, rfl, hx⟩ := hrel
    by_cases hlt : k < n
    · obtain ⟨b1, o1, x, rfl, hb1, hxk, hc1⟩ := (ha.ext hx).int_at hlt
      obtain ⟨b2, o2, y, rfl, hb2, hyk, hc2⟩ := (hb.ext hx).int_at hlt
      rw [hxk] at hyk
      injection hyk with hyk
      subst hyk
      have HE2 := Lib.hid hx
      clear hxk hx
      go_wp2
      go_quiet (fail)
      go_wp2
      go_roundw
      case rel => exact ⟨k + 1, by omega, by go_num, HE2.out.drN _⟩
      case measure => simp [intOf]; omega
    · go_wp2
      go_ret
      exact ⟨rfl, hx⟩
theorem Same.at_ {l m : List Access} (h : Same l m) {i j : Nat} {a b : Access} (hi : l[i]? = some a) (hj : m[j]? = some b) (hw : b.who = a.who) (ho : occ m a.who j = occ l a.who i) : To l m i j := by
  have h1 := ofWho_at hi rfl
  have h2 := ofWho_at hj hw
  rw [h.who, ho, h1] at h2
  injection h2 with h2
  subst h2
  exact ⟨a, hi, hj, ho.symm⟩
/-- Where the search stands. -/
def AtP (m : List Access) (x : Int) (N k : Nat) (at_ : Int) : Prop := (at_ = -1 ∧ occ m x k ≤ N) ∨ ∃ (j : Nat) (a : Access), j < k ∧ at_ = j ∧ m[j]? = some a ∧ a.who = x ∧ occ m x j = N ∧ N < occ m x k
theorem AtP.miss {m : List Access} {x at_ : Int} {N k : Nat} {a : Access} (h : AtP m x N k at_) (ha : m[k]? = some a) (hne : a.who ≠ x) : AtP m x N (k + 1) at_ := by
  rcases h with ⟨h1, h2⟩ | ⟨j, b, h1, h2, h3, h4, h5, h6⟩
  · exact .inl ⟨h1, by rw [occ_miss ha hne]; exact h2⟩
  · exact .inr ⟨j, b, by omega, h2, h3, h4, h5, by rw [occ_miss ha hne]; exact h6⟩
theorem AtP.past {m : List Access} {x at_ : Int} {N k : Nat} {a : Access} (h : AtP m x N k at_) (ha : m[k]? = some a) (he : a.who = x) (hne : occ m x k ≠ N) : AtP m x N (k + 1) at_ := by
  rcases h with ⟨h1, h2⟩ | ⟨j, b, h1, h2, h3, h4, h5, h6⟩
  · exact .inl ⟨h1, by rw [occ_hit ha he]; omega⟩
  · exact .inr ⟨j, b, by omega, h2, h3, h4, h5, by rw [occ_hit ha he]; omega⟩
theorem AtP.here {m : List Access} {x : Int} {N k : Nat} {a : Access} (ha : m[k]? = some a) (he : a.who = x) (hN : occ m x k = N) : AtP m x N (k + 1) k :=
  .inr ⟨k, a, by omega, rfl, ha, he, hN, by rw [occ_hit ha he]; omega⟩
theorem AtP.neg {m : List Access} {x at_ : Int} {N k : Nat} (h : AtP m x N k at_) (hN : occ m x k = N) : at_ = -1 := by
  rcases h with ⟨h1, _⟩ | ⟨j, b, _, _, _, _, _, h6⟩
  · exact h1
  · omega
theorem rdTo_get (l : List Access) {k i : Nat} (h : i < k) : (rdTo l k)[i]? = some (rd l i) := by simp [rdTo, h]
theorem occ_len {l m : List Access} (h : Same l m) {i : Nat} {a : Access} (ha : l[i]? = some a) : occ l a.who i < occ m a.who m.length := by
  have h1 := occ_hit ha rfl
  have h2 := occ_mono l a.who (show i + 1 ≤ l.length from lt_of_get ha)
  have h3 : occ m a.who m.length = occ l a.who l.length := by unfold occ; rw [h.who]
  omega

set_option maxRecDepth 8000 in
set_option maxHeartbeats 16000000 in
theorem law_FnGraph (A : Option Addr) (n c : Nat) (bs : List UInt8) (w : World) (hs : Sl w (fun _ => True) 1 A n (charsD bs)) :
    Calls Try.prog 11 #[.slice A n c] w fun e w' => e = .returned (.bool true) ∧ Ext w w' := by
  by_cases hb : (1048576 : Int) < (n : Int)
  · have HG := Lib.hid hb
    clear hb
    go_enter Try.func11, Try.ntmps11
    go_wp2_with (go_at_call 40; refine (big_yes _ _ _ _ HG).mono ?_; rintro e w' ⟨rfl, rfl⟩)
    go_ret
    exact ⟨rfl, Ext.refl' _⟩
  have HG := Lib.hid hb
  have HS := Lib.hid hs
  have HB : Hid (n ≤ 1048576) := by have h := HG.out; show n ≤ _; omega
  clear hb hs
  go_enter Try.func11, Try.ntmps11
  go_wp2_with (go_at_call 40; refine (big_no _ _ _ _ HG).mono ?_; rintro e w' ⟨rfl, rfl⟩)
  refine (DrawG_any _ _ _ bs w _ HS.out.low HB.out (fun j hj => hj)).mono ?_
  rintro e w1 ⟨B, m, d, es, rfl, hm, own1, x1⟩
  have O1 := Lib.hid (ownSl own1)
  have X1 := Lib.hid x1
  have HCAP : Hid (m ≤ d) := own_cap own1
  have HL : Hid (es.length = m) := by have h := own1.1; rw [flat_length Access.cells_length] at h; show _ = _; omega
  clear own1 x1
  go_wp2_with fail
  refine (impl_ConflictFree B m d es w1 _ O1.out (by omega) HCAP.out).mono ?_
  rintro e w2 ⟨rfl, x2⟩
  have X2 := Lib.hid (X1.out.tr x2)
  have O2 := Lib.hid (O1.out.ext x2)
  clear x2
  go_wp2_with fail
  refine (spec_ConflictFree B m d es w2 _ O2.out (by omega) HCAP.out).mono ?_
  rintro e w3 ⟨rfl, x3⟩
  have X3 := Lib.hid (X2.out.tr x3)
  have O3 := Lib.hid (O2.out.ext x3)
  clear x3
  cases hcf : cfree es
  · clear hcf
    go_wp2
    go_ret
    exact ⟨rfl, X3.out⟩
  obtain ⟨hok, h9⟩ : accOk es = true ∧ (topoOf 9 (edges es)).length = 9 := by unfold cfree at hcf; simpa using hcf
  obtain ⟨hsame, hmlen, hmok⟩ := same_inord hok h9
  have HSAME := Lib.hid hsame
  have HMLEN := Lib.hid hmlen
  have HMOK := Lib.hid hmok
  have HOK := Lib.hid hok
  have H9 := Lib.hid h9
  clear hcf hok h9 hsame hmlen hmok
  go_wp2_with fail
  refine (impl_Edges B m d es w3 _ O3.out (by omega) HCAP.out).mono ?_
  rintro e w4 ⟨B4, m4, d4, rfl, own4, x4⟩
  have hm4 : m4 ≤ 1048576 := by have h1 := own4.1; rw [flat_length Edge.cells_length] at h1; have h2 := edges_le es; omega
  have X4 := Lib.hid (X3.out.tr x4)
  have O4 := Lib.hid (O3.out.ext x4)
  have E4 := Lib.hid (ownSl own4)
  clear x4 own4
  go_wp2_with fail
  refine (impl_Topo 9 B4 m4 d4 (edges es) w4 _ E4.out hm4).mono ?_
  rintro e w5 ⟨B5, m5, d5, rfl, own5, x5⟩
  have X5 := Lib.hid (X4.out.tr x5)
  have O5 := Lib.hid (O4.out.ext x5)
  have T5 := Lib.hid (ownSl own5)
  obtain rfl : m5 = 9 := by have h1 := own_len own5; rw [ints_length] at h1; have h2 := H9.out; omega
  clear x5 own5 E4
  go_wp2_with fail
  refine (impl_InOrder B m d es B5 9 d5 _ w5 _ O5.out (by omega) _ T5.out (by omega)).mono ?_
  rintro e w6 ⟨B6, m6, d6, rfl, own6, x6⟩
  have X6 := Lib.hid (X5.out.tr x6)
  have O6 := Lib.hid (O5.out.ext x6)
  have M6 := Lib.hid (ownSl own6)
  obtain rfl : m6 = m := by have h1 := own6.1; rw [flat_length Access.cells_length] at h1; have h2 := HMLEN.out; have h3 := HL.out; omega
  obtain ⟨mm, hmm⟩ : ∃ mm, mm = inord es (topoOf 9 (edges es)) := ⟨_, rfl⟩
  rw [← hmm] at HSAME HMLEN HMOK M6
  have HML : Hid (mm.length = m6) := HMLEN.out.trans HL.out
  clear x6 own6 T5 hmm HMLEN
  go_wp2_with fail
  refine (impl_LastWriters B m6 d es w6 _ O6.out (by omega)).mono ?_
  rintro e w7 ⟨B7, m7, d7, rfl, own7, x7⟩
  have X7 := Lib.hid (X6.out.tr x7)
  have O7 := Lib.hid (O6.out.ext x7)
  have M7 := Lib.hid (M6.out.ext x7)
  obtain rfl : m7 = 8 := by have h1 := own_len own7; rw [ints_length, lastw_yes HOK.out] at h1; simp [lwTo] at h1; omega
  have L7 := Lib.hid (ownSl own7)
  clear x7 own7
  go_wp2_with fail
  refine (impl_LastWriters B6 m6 d6 mm w7 _ M7.out (by omega)).mono ?_
  rintro e w8 ⟨B8, m8, d8, rfl, own8, x8⟩
  have X8 := Lib.hid (X7.out.tr x8)
  have O8 := Lib.hid (O7.out.ext x8)
  have M8 := Lib.hid (M7.out.ext x8)
  obtain rfl : m8 = 8 := by have h1 := own_len own8; rw [ints_length, lastw_yes HMOK.out] at h1; simp [lwTo] at h1; omega
  have hlw : lastw mm = lastw es := by
    rw [lastw_yes HMOK.out, lastw_yes HOK.out]
    unfold lwTo
    apply List.map_congr_left
    intro x _
    exact HSAME.out.lw x
  have L8 : Hid (Sl w8 (fun _ => True) 1 B8 8 (ints (lastw es))) := by show Sl _ _ _ _ _ _; rw [← hlw]; exact ownSl own8
  have L78 := Lib.hid (L7.out.ext x8)
  clear x8 own8 hlw
  go_wp2_with fail
  refine (sameInts_same B7 B8 8 d7 d8 _ w8 _ _ L78.out L8.out (by omega)).mono ?_
  rintro e w9 ⟨rfl, x9⟩
  have X9 := Lib.hid (X8.out.tr x9)
  have O9 := Lib.hid (O8.out.ext x9)
  have M9 := Lib.hid (M8.out.ext x9)
  have OE := Lib.hid (own_emptyT w9)
  clear x9 L7 L8 L78 M7 M8 O7 O8 M6 O6 O5 O4 O3 O2 O1 X8 X7 X6 X5 X4 X3 X2 X1
  go_wp2
  go_loopw [7, 8, 9, 10, 11, 12] (fun to i _ _ _ _ wr => ∃ (k : Nat) (Bt : Option Addr) (dt : Nat) (ts : List Int), k ≤ m6 ∧ to = .slice Bt k dt ∧ i = .int .i64 k ∧ Hid (wr.ownsRow w9.heap.size 3 1 (.slice Bt k dt) k (ints ts)) ∧ Hid (∀ p, p < k → ∃ j : Nat, ts[p]? = some (j : Int) ∧ To es mm p j) ∧ Ext w9 wr) (fun _ i _ _ _ _ _ => m6 - (intOf i).toNat)
  case atStart => exact ⟨0, _, _, [], Nat.zero_le _, rfl, rfl, OE.out, fun p h => absurd h (Nat.not_lt_zero _), (Ext.refl' _).al _⟩
  case round =>
    obtain ⟨k, Bt, dt, ts, hk, rfl, rfl, OT, HT, hx⟩ := hrel
    obtain ⟨wt, rfl⟩ : ∃ x, x = wr := ⟨wr, rfl⟩
    have XT := Lib.hid hx
    have OK := Lib.hid (O9.out.ext XT.out)
    have MK := Lib.hid (M9.out.ext XT.out)
    clear hx
    by_cases hlt : (k : Int) < (m6 : Int)
    · obtain ⟨b, o, rfl⟩ := OK.out.addr (by omega)
      obtain ⟨s, hsk, -, hc⟩ := OK.out.flat_cell (k := k) Access.cells_length (by omega) (by omega)
      have HSK := Lib.hid hsk
      have HOCC : Hid (occ es s.who k < occ mm s.who mm.length) := occ_len HSAME.out hsk
      obtain ⟨f0, f1, f2⟩ := s
      clear hsk hc
      go_wp2
      go_loopw [9, 10] (fun nn q wr => ∃ j : Nat, j ≤ k ∧ q = .int .i64 j ∧ nn = .int .i64 (occ es f0 j) ∧ Ext wt wr) (fun _ q _ => k - (intOf q).toNat)
      case atStart => exact ⟨0, Nat.zero_le _, rfl, rfl, Ext.refl' _⟩
      case round =>
        obtain ⟨j, hj, rfl, rfl, hx⟩ := hrel
        obtain ⟨wu, rfl⟩ : ∃ x, x = wr := ⟨wr, rfl⟩
        have XU := Lib.hid hx
        clear hx
        have OU := Lib.hid (OK.out.ext XU.out)
        obtain ⟨s', hsk', -, hc'⟩ := OU.out.flat_cell (k := k) Access.cells_length (by omega) (by omega)
        obtain rfl : (⟨f0, f1, f2⟩ : Access) = s' := by have h := HSK.out; rw [hsk'] at h; injection h with h; exact h.symm
        have k0 := hc' 0 (by omega)
        simp only [Access.cells, List.getElem?_cons_zero, Nat.add_zero] at k0
        clear hsk' hc'
        by_cases hlj : (j : Int) < (k : Int)
        · obtain ⟨t, htk, -, ht⟩ := OU.out.flat_cell (k := j) Access.cells_length (by omega) (by omega)
          have HTK := Lib.hid htk
          obtain ⟨g0, g1, g2⟩ := t
          have j0 := ht 0 (by omega)
          simp only [Access.cells, List.getElem?_cons_zero, Nat.add_zero] at j0
          clear htk ht
          have hoc : occ es f0 j ≤ j := ofWho_le es f0 j
          by_cases he : g0 = f0
          · have hbe : (g0 == f0) = true := by simp [he]
            have HH : Hid (occ es f0 (j + 1) = occ es f0 j + 1) := occ_hit HTK.out he
            clear he
            go_wp2
            go_quiet (fail)
            go_wp2
            go_roundw
            case rel => exact ⟨j + 1, by omega, by go_num, by rw [HH.out]; go_num, XU.out.drN _⟩
            case measure => simp [intOf]; omega
          · have hbe : (g0 == f0) = false := by simp [he]
            have HH : Hid (occ es f0 (j + 1) = occ es f0 j) := occ_miss HTK.out he
            clear he
            go_wp2
            go_quiet (fail)
            go_wp2
            go_roundw
            case rel => exact ⟨j + 1, by omega, by go_num, by rw [HH.out], XU.out.drN _⟩
            case measure => simp [intOf]; omega
        obtain rfl : j = k := by omega
        have MU := Lib.hid (MK.out.ext XU.out)
        have hoc : occ es f0 j ≤ j := ofWho_le es f0 j
        clear k0
        go_wp2
        go_loopw [9, 11, 12] (fun nn at_ q wr => ∃ (i : Nat) (a : Int), i ≤ m6 ∧ q = .int .i64 i ∧ nn = .int .i64 ((occ es f0 j : Int) - (occ mm f0 i : Int)) ∧ at_ = .int .i64 a ∧ Hid (AtP mm f0 (occ es f0 j) i a) ∧ (-1 ≤ a ∧ a < m6) ∧ Ext wu wr) (fun _ _ q _ => m6 - (intOf q).toNat)
        case atStart => exact ⟨0, -1, Nat.zero_le _, rfl, by rw [show occ mm f0 0 = 0 from rfl]; simp, rfl, .inl ⟨rfl, Nat.zero_le _⟩, by omega, Ext.refl' _⟩
        case round =>
          obtain ⟨i, a, hi, rfl, rfl, rfl, HA, har, hx⟩ := hrel
          obtain ⟨wv, rfl⟩ : ∃ x, x = wr := ⟨wr, rfl⟩
          have XV := Lib.hid hx
          clear hx
          have OV := Lib.hid (OU.out.ext XV.out)
          have MV := Lib.hid (MU.out.ext XV.out)
          obtain ⟨s', hsk', -, hc'⟩ := OV.out.flat_cell (k := j) Access.cells_length (by omega) (by omega)
          obtain rfl : (⟨f0, f1, f2⟩ : Access) = s' := by have h := HSK.out; rw [hsk'] at h; injection h with h; exact h.symm
          have k0 := hc' 0 (by omega)
          have k1 := hc' 1 (by omega)
          have k2 := hc' 2 (by omega)
          simp only [Access.cells, List.getElem?_cons_zero, List.getElem?_cons_succ, Nat.add_zero] at k0 k1 k2
          clear hsk' hc'
          by_cases hli : (i : Int) < (m6 : Int)
          · obtain ⟨b2, o2, rfl⟩ := MV.out.addr (by omega)
            obtain ⟨t, htk, -, ht⟩ := MV.out.flat_cell (k := i) Access.cells_length (by omega) (by omega)
            have HTK := Lib.hid htk
            obtain ⟨g0, g1, g2⟩ := t
            have j0 := ht 0 (by omega)
            simp only [Access.cells, List.getElem?_cons_zero, Nat.add_zero] at j0
            clear htk ht k1 k2
            have hoi : occ mm f0 i ≤ i := ofWho_le mm f0 i
            obtain ⟨N, hN⟩ : ∃ N, N = occ es f0 j := ⟨_, rfl⟩
            obtain ⟨R, hR⟩ : ∃ R, R = occ mm f0 i := ⟨_, rfl⟩
            rw [← hN] at hoc ⊢
            rw [← hR] at hoi ⊢
            have HN := Lib.hid hN
            have HR := Lib.hid hR
            have HA1 : Hid (AtP mm f0 N i a) := by show AtP _ _ _ _ _; rw [hN]; exact HA.out
            clear hN hR
            by_cases he : g0 = f0
            · have hbe : (g0 == f0) = true := by simp [he]
              have HH : Hid (occ mm f0 (i + 1) = R + 1) := by show _ = _; rw [HR.out]; exact occ_hit HTK.out he
              by_cases hz : R = N
              · have hz0 : (((N : Int) - (R : Int)) == 0) = true := by simp; omega
                have ha1 : a = -1 := HA1.out.neg (by rw [← HR.out]; exact hz)
                have HA2 : Hid (AtP mm f0 N (i + 1) i) := AtP.here HTK.out he (by rw [← HR.out]; exact hz)
                subst ha1
                clear he hz
                go_wp2
                go_quiet (fail)
                go_wp2
                go_roundw
                case rel => exact ⟨i + 1, i, by omega, by go_num, by rw [HH.out]; go_num, rfl, HA2, by omega, XV.out.drN _⟩
                case measure => simp [intOf]; omega
              · have hz0 : (((N : Int) - (R : Int)) == 0) = false := by simp; omega
                have HA2 : Hid (AtP mm f0 N (i + 1) a) := HA1.out.past HTK.out he (by rw [← HR.out]; exact hz)
                clear he hz
                go_wp2
                go_quiet (fail)
                go_wp2
                go_roundw
                case rel => exact ⟨i + 1, a, by omega, by go_num, by rw [HH.out]; go_num, rfl, HA2, by omega, XV.out.drN _⟩
                case measure => simp [intOf]; omega
            · have hbe : (g0 == f0) = false := by simp [he]
              have HH : Hid (occ mm f0 (i + 1) = R) := by show _ = _; rw [HR.out]; exact occ_miss HTK.out he
              have HA2 : Hid (AtP mm f0 N (i + 1) a) := HA1.out.miss HTK.out he
              clear he
              go_wp2
              go_quiet (fail)
              go_wp2
              go_roundw
              case rel => exact ⟨i + 1, a, by omega, by go_num, by rw [HH.out], rfl, HA2, by omega, XV.out.drN _⟩
              case measure => simp [intOf]; omega
          obtain rfl : i = m6 := by omega
          have hfound : ∃ (p : Nat), p < i ∧ a = p ∧ To es mm j p := by
            rcases HA.out with ⟨_, h2⟩ | ⟨p, y, h1, h2, h3, h4, h5, _⟩
            · have := HOCC.out; rw [HML.out] at this; exact absurd h2 (by simpa using this)
            · exact ⟨p, h1, h2, HSAME.out.at_ HSK.out h3 h4 h5⟩
          obtain ⟨p, hp, rfl, hto⟩ := hfound
          have HTO := Lib.hid hto
          obtain ⟨b2, o2, rfl⟩ := MV.out.addr (by omega)
          obtain ⟨t, htk, -, ht⟩ := MV.out.flat_cell (k := p) Access.cells_length (by omega) (by omega)
          obtain rfl : (⟨f0, f1, f2⟩ : Access) = t := by have h := (hto.left HSK.out).1; rw [htk] at h; injection h with h; exact h.symm
          have j0 := ht 0 (by omega)
          have j1 := ht 1 (by omega)
          have j2 := ht 2 (by omega)
          simp only [Access.cells, List.getElem?_cons_zero, List.getElem?_cons_succ, Nat.add_zero] at j0 j1 j2
          clear htk ht hto
          have OTV := Lib.hid (own_ext (own_ext OT.out XU.out) XV.out)
          have ZV : w9.heap.size ≤ wv.heap.size := (XT.out.tr (XU.out.tr XV.out)).size
          go_wp2
          go_quiet (fail)
          have OTD : Hid (∀ q, World.ownsRow (wv.drewN q) w9.heap.size 3 1 (.slice Bt j dt) j (ints ts)) := fun q => own_ext OTV.out ((Ext.refl' _).drN q)
          go_wp2_with (at_builtin; refine wp_push rfl (.tmp 116) (.tmp 118) _ rfl w9.heap.size 3 _ _ _ Try.underlying36 Try.infoInt rfl (by omega) Bt j dt _ rfl (OTD.out _) [.int .i64 (p : Int)] _ rfl rfl rfl (by simp [Value.oneCell']) (by omega) (by unfold maxLen; omega) ZV ?_; intro A' c' w' hown' hchg' hat')
          go_roundw
          case rel =>
            have XW : Ext w9 w' := hchg'.ext ((XT.out.tr (XU.out.tr XV.out)).drN _) (fun q hq => ((OTD.out 0).lt q hq).1)
            refine ⟨j + 1, A', c', ts ++ [(p : Int)], by omega, rfl, by go_num, by show World.ownsRow _ _ _ _ _ _ _; simpa [ints] using hown', ?_, XW⟩
            intro r hr
            have hlt : ts.length = j := by have h := own_len OT.out; rw [ints_length] at h; exact h
            by_cases e : r = j
            · subst e
              exact ⟨p, by rw [List.getElem?_append_right (by omega), hlt, Nat.sub_self]; rfl, HTO.out⟩
            · obtain ⟨q, hq1, hq2⟩ := HT.out r (by omega)
              exact ⟨q, by rw [List.getElem?_append_left (by omega)]; exact hq1, hq2⟩
          case measure => simp [intOf]; omega
    obtain rfl : k = m6 := by omega
    go_wp2_with fail
    refine (impl_ReadsFrom B k d es _ _ OK.out (by omega)).mono ?_
    rintro e w10 ⟨B10, m10, d10, rfl, own10, x10⟩
    have X10 := Lib.hid (XT.out.tr x10)
    have M10 := Lib.hid (MK.out.ext x10)
    have R10 := Lib.hid (ownSl own10)
    have T10 := Lib.hid (ownSl (own_ext OT.out x10))
    obtain rfl : m10 = k := by have h1 := own_len own10; rw [ints_length, reads_yes HOK.out] at h1; simp [rdTo] at h1; have h2 := HL.out; omega
    rw [reads_yes HOK.out, HL.out] at R10
    clear x10 own10
    go_wp2_with fail
    refine (impl_ReadsFrom B6 m10 d6 mm _ _ M10.out (by omega)).mono ?_
    rintro e w11 ⟨B11, m11, d11, rfl, own11, x11⟩
    have X11 := Lib.hid (X10.out.tr x11)
    have R11 := Lib.hid (R10.out.ext x11)
    have T11 := Lib.hid (T10.out.ext x11)
    have S11 := Lib.hid (ownSl own11)
    obtain rfl : m11 = m10 := by have h1 := own_len own11; rw [ints_length, reads_yes HMOK.out] at h1; simp [rdTo] at h1; have h2 := HML.out; omega
    rw [reads_yes HMOK.out, HML.out] at S11
    have hin : Hid (∀ p j, To es mm p j → p < m11 ∧ j < m11) := fun p j h => by
      obtain ⟨a, h1, h2, _⟩ := h
      have h3 := lt_of_get h1
      have h4 := lt_of_get h2
      rw [HL.out] at h3
      rw [HML.out] at h4
      exact ⟨h3, h4⟩
    clear x11 own11 T10 R10 M10 OT OK MK
    go_wp2
    go_loopw [15] (fun q wr => ∃ i : Nat, i ≤ m11 ∧ q = .int .i64 i ∧ Ext w11 wr) (fun q _ => m11 - (intOf q).toNat)
    case atStart => exact ⟨0, Nat.zero_le _, rfl, Ext.refl' _⟩
    case round =>
      obtain ⟨i, hi, rfl, hx⟩ := hrel
      obtain ⟨wu, rfl⟩ : ∃ x, x = wr := ⟨wr, rfl⟩
      have XU := Lib.hid hx
      clear hx
      by_cases hli : (i : Int) < (m11 : Int)
      rotate_left
      · go_wp2
        go_ret
        exact ⟨rfl, X9.out.tr (X11.out.tr XU.out)⟩
      have RU := Lib.hid (R11.out.ext XU.out)
      have TU := Lib.hid (T11.out.ext XU.out)
      have SU := Lib.hid (S11.out.ext XU.out)
      obtain ⟨j, hj1, hj2⟩ := HT.out i (by omega)
      obtain ⟨bR, oR, x, rfl, -, hx1, hxc⟩ := RU.out.int_at (k := i) (by omega)
      obtain ⟨bT, oT, y, rfl, -, hy1, hyc⟩ := TU.out.int_at (k := i) (by omega)
      obtain rfl : (j : Int) = y := by rw [hj1] at hy1; injection hy1
      obtain ⟨hpi, hji⟩ := hin.out i j hj2
      obtain ⟨bS, oS, z, rfl, -, hz1, hzc⟩ := SU.out.int_at (k := j) hji
      rw [rdTo_get es hpi] at hx1
      rw [rdTo_get mm hji] at hz1
      have HX1 : Hid (rd es i = x) := by injection hx1
      have HZ1 : Hid (rd mm j = z) := by injection hz1
      have hcase := HSAME.out.rd hj2
      rw [HX1.out, HZ1.out] at hcase
      have hjm : (j : Int) < (m11 : Int) := by omega
      clear hx1 hy1 hz1 hj1
      rcases hcase with ⟨hx0, rfl⟩ | ⟨p, q, rfl, hpi2, hto, rfl⟩
      · have d0 : decide ((m11 : Int) ≤ z) = false := decide_eq_false (by omega)
        have d1 : decide (z < 0) = true := decide_eq_true hx0
        have d2 : decide ((0 : Int) ≤ z) = false := decide_eq_false (by omega)
        clear hj2
        go_wp2
        refine region_class (fun w' => Ext wu w' ∧ w'.cell? ⟨bR, oR + i, none⟩ = some (.int .i64 z) ∧ w'.cell? ⟨bT, oT + i, none⟩ = some (.int .i64 (j : Int)) ∧ w'.cell? ⟨bS, oS + j, none⟩ = some (.int .i64 z)) (by kernel_rfl) (by kernel_rfl) ⟨(Ext.refl' _).dr, hxc, hyc, hzc⟩ ?_
        repeat (first | go_big_quiet_skip | (go_big_quiet_want; unfold Oper.quiet; apply Exists.intro; refine ⟨fun wq hq => ?_, ?_⟩; (obtain ⟨qx, q1, q2, q3⟩ := hq; go_simp; first | done | rfl); (try simp only [Act.put, List.setIfInBounds_toArray, List.set_cons_zero, List.set_cons_succ]); go_big_quiet_on))
        refine wpQuiet_nil ?_
        intro wq hq
        obtain ⟨qxe, -, -, -⟩ := hq
        have XE := Lib.hid qxe
        clear qxe
        go_wp2
        go_roundw
        case rel => exact ⟨i + 1, by omega, by go_num, XU.out.tr XE.out⟩
        case measure => simp [intOf]; omega
      · obtain ⟨hpm, hqm⟩ := hin.out p q hto
        obtain ⟨y2, hy2, -, hyc2⟩ := TU.out.int_cell (k := p) hpm
        obtain rfl : (q : Int) = y2 := by
          obtain ⟨q', h1, h2⟩ := HT.out p (by omega)
          rw [h1] at hy2
          injection hy2 with hy2
          have := hto.fn h2
          omega
        have d0 : decide ((m11 : Int) ≤ (p : Int)) = false := decide_eq_false (by omega)
        have d1 : decide ((p : Int) < 0) = false := decide_eq_false (by omega)
        have d2 : decide ((0 : Int) ≤ (p : Int)) = true := decide_eq_true (by omega)
        have d3 : decide (m11 ≤ p) = false := decide_eq_false (by omega)
        have d4 : ¬ m11 ≤ p := by omega
        clear hj2 hto hy2
        go_wp2
        refine region_class (fun w' => Ext wu w' ∧ w'.cell? ⟨bR, oR + i, none⟩ = some (.int .i64 (p : Int)) ∧ w'.cell? ⟨bT, oT + i, none⟩ = some (.int .i64 (j : Int)) ∧ w'.cell? ⟨bS, oS + j, none⟩ = some (.int .i64 (q : Int)) ∧ w'.cell? ⟨bT, oT + p, none⟩ = some (.int .i64 (q : Int))) (by kernel_rfl) (by kernel_rfl) ⟨(Ext.refl' _).dr, hxc, hyc, hzc, hyc2⟩ ?_
        repeat (first | go_big_quiet_skip | (go_big_quiet_want; unfold Oper.quiet; apply Exists.intro; refine ⟨fun wq hq => ?_, ?_⟩; (obtain ⟨qx, q1, q2, q3, q4⟩ := hq; go_simp; first | done | rfl); (try simp only [Act.put, List.setIfInBounds_toArray, List.set_cons_zero, List.set_cons_succ]); go_big_quiet_on))
        refine wpQuiet_nil ?_
        intro wq hq
        obtain ⟨qxe, -, -, -, -⟩ := hq
        have XE := Lib.hid qxe
        clear qxe
        go_wp2
        go_roundw
        case rel => exact ⟨i + 1, by omega, by go_num, XU.out.tr XE.out⟩
        case measure => simp [intOf]; omega
end Go.Proofs.Ytheclckjgjaecaa
