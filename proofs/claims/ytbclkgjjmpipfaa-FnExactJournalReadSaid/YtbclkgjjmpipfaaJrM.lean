/- The laws' helpers on entries of a journal: compare, mark, held. No condition but lengths. -/
import Derived.Test.YtbclkgjjmpipfaaJrP
import Derived.Test.YtbclkgjjmpipfaaQC
import Derived.Test.YtbclkgjjmpipfaaJst
namespace Go.Proofs.Ytbclkgjjmpipfaa
open Go.RowKit Go.Deep

theorem mem_at {es : List JE} {k : Nat} {x : JE} (h : es[k]? = some x) : x ∈ es := List.mem_iff_getElem?.2 ⟨k, h⟩
def JE.mark (x : JE) (q : Int) : JE := ⟨q, q + 1, x.A, x.n, x.c, Row.marks (q + 2) x.n⟩
def mkE (q : Int) : List JE → List JE
  | [] => []
  | x :: l => x.mark q :: mkE (q + 2 + (x.n : Int) * 2) l
def endE (q : Int) : List JE → Int
  | [] => q
  | x :: l => endE (q + 2 + (x.n : Int) * 2) l
theorem mkE_len (q : Int) (es : List JE) : (mkE q es).length = es.length := by
  induction es generalizing q with
  | nil => rfl
  | cons x l ih => simp [mkE, ih]
theorem mkE_get {es : List JE} {k : Nat} {x : JE} (h : es[k]? = some x) : ∀ q : Int, (mkE q es)[k]? = some (x.mark (endE q (es.take k))) := by
  induction es generalizing k with
  | nil => simp at h
  | cons y l ih =>
    intro q
    rcases k with _ | k
    · simp at h; subst h; rfl
    · simp only [List.getElem?_cons_succ] at h
      simp only [mkE, List.getElem?_cons_succ, List.take_succ_cons, endE]
      exact ih h _
theorem endE_succ {es : List JE} {k : Nat} {x : JE} (h : es[k]? = some x) : ∀ q : Int, endE q (es.take (k + 1)) = endE q (es.take k) + 2 + (x.n : Int) * 2 := by
  induction es generalizing k with
  | nil => simp at h
  | cons y l ih =>
    intro q
    rcases k with _ | k
    · simp at h; subst h; rfl
    · simp only [List.getElem?_cons_succ] at h
      simp only [List.take_succ_cons, endE]
      exact ih h _
theorem endE_le (es : List JE) (hn : ∀ x ∈ es, x.n ≤ 8) : ∀ q : Int, q ≤ endE q es ∧ endE q es ≤ q + 18 * (es.length : Int) := by
  induction es with
  | nil => intro q; exact ⟨Int.le_refl _, by simp [endE]⟩
  | cons x l ih =>
    intro q
    have h1 := ih (fun y hy => hn y (List.mem_cons_of_mem _ hy)) (q + 2 + (x.n : Int) * 2)
    have h2 := hn x (List.mem_cons_self ..)
    simp only [endE, List.length_cons]
    omega
theorem endE_take (es : List JE) (hn : ∀ x ∈ es, x.n ≤ 8) (hl : es.length ≤ 200) (q : Int) (k : Nat) : q ≤ endE q (es.take k) ∧ endE q (es.take k) ≤ q + 3600 := by
  have h := endE_le (es.take k) (fun x hx => hn x (List.mem_of_mem_take hx)) q
  have h2 : (es.take k).length ≤ 200 := by rw [List.length_take]; omega
  omega
theorem PW.get {es : List JE} (h : PW es) {i j : Nat} {x y : JE} (hx : es[i]? = some x) (hy : es[j]? = some y) (hne : i ≠ j) : Apart (.slice x.A x.n x.c) (.slice y.A y.n y.c) := by
  obtain ⟨h1, e1⟩ := List.getElem?_eq_some_iff.1 hx
  obtain ⟨h2, e2⟩ := List.getElem?_eq_some_iff.1 hy
  have hp := List.pairwise_iff_getElem.1 h
  rcases Nat.lt_or_gt_of_ne hne with hlt | hlt
  · have := hp i j h1 h2 hlt; rw [e1, e2] at this; exact this
  · have := hp j i h2 h1 hlt; rw [e1, e2] at this; exact this.symm
/-- The rows of the entries, the first k marked. -/
def InnerTo (w : World) (base : Nat) (q : Int) (es : List JE) (k : Nat) : Prop := ∀ i x, es[i]? = some x → w.ownsRow base 62 2 (.slice x.A x.n x.c) x.n ((if i < k then Row.marks (endE q (es.take i) + 2) x.n else x.rs).flatMap Row.cells)
theorem InnerTo.start {w : World} {base : Nat} {q : Int} {es : List JE} (h : Inner w base es) : InnerTo w base q es 0 := fun i x hx => by
  rw [if_neg (Nat.not_lt_zero _)]; exact h x (mem_at hx)
theorem InnerTo.done {w : World} {base k : Nat} {q : Int} {es : List JE} (h : InnerTo w base q es k) (hk : es.length ≤ k) : Inner w base (mkE q es) := fun y hy => by
  obtain ⟨i, hi⟩ := List.mem_iff_getElem?.1 hy
  have hl := (List.getElem?_eq_some_iff.1 hi).1
  rw [mkE_len] at hl
  have hx : es[i]? = some es[i] := List.getElem?_eq_getElem hl
  rw [mkE_get hx] at hi
  injection hi with hi
  subst hi
  have h1 := h i _ hx
  rw [if_pos (by omega)] at h1
  exact h1
theorem InnerTo.chg {w w' : World} {base k : Nat} {q : Int} {es : List JE} {S : Nat → Prop} (h : InnerTo w base q es k) (c : Chg S w w') (hS : ∀ (i : Nat) (x : JE) (g : Nat), es[i]? = some x → (Value.slice x.A x.n x.c).ownBlock = some g → ¬ S g) : InnerTo w' base q es k := fun i x hx => own_chg (h i x hx) c fun g hg => hS i x g hx hg

set_option maxHeartbeats 4000000 in
theorem markWroteS_any (B : Option Addr) (K d base : Nat) (es : List JE) (q : Int) (w : World) (ho : w.ownsRow base 33 3 (.slice B K d) K (es.flatMap JE.cells)) (hi : Inner w base es) (hp : PW es) (hn : ∀ x ∈ es, x.n ≤ 8) (hK : K ≤ 200) (hq0 : 0 ≤ q) (hq1 : q ≤ 1000) :
    Calls Try.prog 26 #[.slice B K d, .int .i64 q] w fun e w' => e = .returned (.int .i64 (endE q es)) ∧ w'.ownsRow base 33 3 (.slice B K d) K ((mkE q es).flatMap JE.cells) ∧ Inner w' base (mkE q es) ∧ Chg (fun k => base ≤ k) w w' := by
  have HLN := Lib.hid (es_len ho)
  have HO0 := Lib.hid ho
  have HI0 := Lib.hid (InnerTo.start (q := q) hi)
  have HP := Lib.hid hp
  have HN := Lib.hid hn
  clear ho hi hp hn
  go_enter Try.func26, Try.ntmps26
  go_wp2
  go_loopw [1, 5] (fun r i wr => ∃ (k : Nat) (cs : List Value), k ≤ K ∧ i = .int .i64 k ∧ r = .int .i64 (endE q (es.take k)) ∧ wr.ownsRow base 33 3 (.slice B K d) K cs ∧ Upto cs ((mkE q es).flatMap JE.cells) (k * 3) ∧ (∀ j, k ≤ j → cs[j * 3 + 2]? = (es.flatMap JE.cells)[j * 3 + 2]?) ∧ Hid (InnerTo wr base q es k) ∧ Chg (fun k => base ≤ k) w wr) (fun _ i _ => K - (intOf i).toNat)
  case atStart => exact ⟨0, _, Nat.zero_le _, rfl, rfl, HO0.out, by rw [Nat.zero_mul]; exact Upto.zero _ _, fun _ _ => rfl, HI0, Chg.refl _ _⟩
  case round =>
    obtain ⟨k, cs, hk, rfl, rfl, ho, hu, hrest, HI, hx⟩ := hrel
    have HU := Lib.hid hu
    have HX := Lib.hid hx
    have HR := Lib.hid hrest
    have HQ := Lib.hid (endE_take es HN.out (by rw [HLN.out]; exact hK) q)
    clear hu hx hrest
    by_cases hlt : (k : Int) < (K : Int)
    rotate_left
    · have HO := Lib.hid ho
      have e : Hid (k = K) := by show k = K; omega
      clear ho
      go_wp2
      go_ret
      refine ⟨by rw [e.out, List.take_of_length_le (by rw [HLN.out]; exact Nat.le_refl _)]; rfl, ?_, HI.out.done (by rw [HLN.out, e.out]; exact Nat.le_refl _), HX.out⟩
      have h := HU.out
      rw [e.out] at h
      rw [← h.all (by have := HO.out.1; omega) (by rw [flat_length JE.cells_length, mkE_len, HLN.out])]
      exact HO.out
    have HLT : Hid (k < K) := by show k < K; omega
    obtain ⟨g, rfl, hgb, hgl, hg⟩ := own_flat ho HLT.out
    obtain ⟨v0, g0, e0⟩ := hg 0 (by omega)
    obtain ⟨v1, g1, e1⟩ := hg 1 (by omega)
    rw [Nat.add_zero] at g0 e0
    obtain ⟨x, hxk⟩ : ∃ x, es[k]? = some x := ⟨_, List.getElem?_eq_getElem (by have h := HLN.out; have h2 := HLT.out; omega)⟩
    have g2 : wr.cell? ⟨g, k * 3 + 2, none⟩ = some (.slice x.A x.n x.c) := by
      rw [ho.cellAt (k * 3 + 2) (by have h := HLT.out; omega), HR.out k (Nat.le_refl _)]
      exact (flat_get JE.cells_length es k 2 x hxk (by omega)).trans rfl
    have HO := Lib.hid ho
    have HXK := Lib.hid hxk
    have HS := Lib.hid (endE_succ hxk q)
    have hn8 := HN.out x (mem_at hxk)
    have hq2 := (HQ.out k).1
    have hq3 := (HQ.out k).2
    have hmk := Lib.hid (mkE_get hxk q)
    have HRW := Lib.hid (HI.out k x hxk)
    have HAP := Lib.hid (own_kinds (HI.out k x hxk) ho (by decide))
    obtain ⟨Q, hQ⟩ : ∃ Q, Q = endE q (es.take k) := ⟨_, rfl⟩
    rw [← hQ] at HS hq2 hq3 hmk
    have HQQ := Lib.hid hQ
    have HSZ := Lib.hid hgl
    rw [← hQ]
    clear ho hxk hg hQ hlt hn8
    have HIK := Lib.hid (own_chg HRW.out ((Chg.sc (Chg.sc (Chg.refl (fun j => j = g) wr) (p := ⟨g, k * 3, none⟩) rfl (.int .i64 Q)) (p := ⟨g, k * 3 + 1, none⟩) rfl (.int .i64 (Q + 1)))) (fun h hh q => HAP.out h hh (by rw [show h = g from q]; rfl)))
    have HIKe : Hid ((if k < k then Row.marks (endE q (es.take k) + 2) x.n else x.rs) = x.rs) := if_neg (Nat.lt_irrefl _)
    go_wp2_with fail
    rw [show Q + 1 + 1 = Q + 2 by omega]
    refine (markRowS_any _ _ _ base _ (Q + 2) _ HIK.out (by omega) (by have h := HN.out x (mem_at HXK.out); omega)).mono ?_
    rintro e w4 ⟨rfl, m4, cc⟩
    have M4 := Lib.hid m4
    have CC := Lib.hid cc
    clear m4 cc
    have hxn : (x.n : Int) ≤ 8 := by have h := HN.out x (mem_at HXK.out); omega
    go_wp2
    go_roundw
    case rel =>
      have t0 := HO.out.stored (k * 3) (.int .i64 Q)
      have t1 := t0.1.stored (k * 3 + 1) (.int .i64 (Q + 1))
      have hl3 : cs.length = K * 3 := HO.out.1
      have q0 := flat_get JE.cells_length _ k 0 _ hmk.out (by omega)
      have q1 := flat_get JE.cells_length _ k 1 _ hmk.out (by omega)
      have q2 := flat_get JE.cells_length _ k 2 _ hmk.out (by omega)
      have hlt := HLT.out
      have hgg : ∀ h, (Value.slice x.A x.n x.c).ownBlock = some h → ¬ h = g := fun h hh e => HAP.out h hh (by rw [e]; rfl)
      have o4 : w4.ownsRow base 33 3 (.slice (some ⟨g, 0, none⟩) K d) K ((cs.set (k * 3) (.int .i64 Q)).set (k * 3 + 1) (.int .i64 (Q + 1))) := own_chg t1.1 CC.out (fun h hh hs => hgg h hs (by have e : some g = some h := hh; injection e with e; exact e.symm))
      refine ⟨k + 1, _, by omega, by go_num, by first | (rw [HS.out]; done) | (rw [HS.out]; first | rfl | go_num | (congr 1; omega)), o4, ?_, ?_, ?_, ?_⟩
      · rw [show (k + 1) * 3 = k * 3 + 1 + 1 + 1 by omega]
        have hu2 := Upto.set1 (Upto.set1 HU.out (by omega) q0) (by simp; omega) q1
        intro j hj
        by_cases e : j = k * 3 + 1 + 1
        · subst e
          rw [List.getElem?_set_ne (by omega), List.getElem?_set_ne (by omega), show k * 3 + 1 + 1 = k * 3 + 2 by omega, HR.out k (Nat.le_refl _), flat_get JE.cells_length es k 2 x HXK.out (by omega), q2]
          rfl
        · exact hu2 j (by omega)
      · intro j hj
        rw [List.getElem?_set_ne (by omega), List.getElem?_set_ne (by omega)]
        exact HR.out j (by omega)
      · intro i y hy
        by_cases e : i = k
        · subst e
          rw [HXK.out] at hy
          injection hy with hy
          subst hy
          rw [if_pos (by omega), ← HQQ.out]
          exact M4.out
        · have h1 := HI.out i y hy
          have h2 : (if i < k + 1 then Row.marks (endE q (es.take i) + 2) y.n else y.rs) = (if i < k then Row.marks (endE q (es.take i) + 2) y.n else y.rs) := by
            by_cases hik : i < k
            · rw [if_pos hik, if_pos (by omega)]
            · rw [if_neg hik, if_neg (by omega)]
          rw [h2]
          have ha := own_kinds h1 HO.out (by decide)
          have h3 := own_chg h1 ((Chg.sc (Chg.sc (Chg.refl (fun j => j = g) wr) (p := ⟨g, k * 3, none⟩) rfl (.int .i64 Q)) (p := ⟨g, k * 3 + 1, none⟩) rfl (.int .i64 (Q + 1)))) (fun h hh q => ha h hh (by rw [show h = g from q]; rfl))
          exact own_chg h3 CC.out (fun h hh hs => HP.out.get hy HXK.out e h hh hs)
      · refine Chg.trans ((HX.out.sc (p := ⟨g, k * 3, none⟩) hgb _).sc (p := ⟨g, k * 3 + 1, none⟩) hgb _) (CC.out.mono fun h hh => (HIK.out.lt h hh).1)
    case measure => have := HLT.out; simp [intOf]; omega

set_option maxHeartbeats 4000000 in
theorem heldWroteS_any (B : Option Addr) (K d base : Nat) (es : List JE) (q : Int) (w : World) (ho : w.ownsRow base 33 3 (.slice B K d) K ((mkE q es).flatMap JE.cells)) (hi : Inner w base (mkE q es)) (hn : ∀ x ∈ es, x.n ≤ 8) (hK : K ≤ 200) (hq0 : 0 ≤ q) (hq1 : q ≤ 1000) :
    Calls Try.prog 27 #[.slice B K d, .int .i64 q] w fun e w' => e = .returned (.int .i64 (endE q es)) ∧ Ext w w' := by
  have HLN : Hid (es.length = K) := by have h := es_len ho; rw [mkE_len] at h; exact h
  have HO := Lib.hid ho
  have HI := Lib.hid hi
  have HN := Lib.hid hn
  clear ho hi hn
  go_enter Try.func27, Try.ntmps27
  go_wp2
  go_loopw [1, 5] (fun r i wr => ∃ (k : Nat), k ≤ K ∧ i = .int .i64 k ∧ r = .int .i64 (endE q (es.take k)) ∧ Ext w wr) (fun _ i _ => K - (intOf i).toNat)
  case atStart => exact ⟨0, Nat.zero_le _, rfl, rfl, Ext.refl' _⟩
  case round =>
    obtain ⟨k, hk, rfl, rfl, hx⟩ := hrel
    have HX := Lib.hid hx
    have HQ := Lib.hid (endE_take es HN.out (by rw [HLN.out]; exact hK) q)
    clear hx
    by_cases hlt : (k : Int) < (K : Int)
    rotate_left
    · have e : Hid (k = K) := by show k = K; omega
      go_wp2
      go_ret
      exact ⟨by rw [e.out, List.take_of_length_le (by rw [HLN.out]; exact Nat.le_refl _)]; rfl, HX.out⟩
    have HLT : Hid (k < K) := by show k < K; omega
    obtain ⟨g, rfl⟩ : ∃ g, B = some ⟨g, 0, none⟩ := by
      have h3 := HLT.out
      rcases HO.out.2 with ⟨_, h0⟩ | ⟨g, cap, cur, hv, _⟩
      · omega
      · injection hv with h1; exact ⟨g, h1⟩
    obtain ⟨x, hxk⟩ : ∃ x, es[k]? = some x := ⟨_, List.getElem?_eq_getElem (by have h := HLN.out; have h2 := HLT.out; omega)⟩
    have hm := mkE_get hxk q
    have HS := Lib.hid (endE_succ hxk q)
    have hq2 := (HQ.out k).1
    have hq3 := (HQ.out k).2
    obtain ⟨c0, c1, c2⟩ := entry_at HO.out hm HLT.out
    replace c0 := HX.out.co c0
    replace c1 := HX.out.co c1
    replace c2 := HX.out.co c2
    have hrow := Lib.hid (own_ext (HI.out _ (mem_at hm)) HX.out)
    simp only [JE.mark] at c0 c1 c2
    have hn8 := HN.out x (mem_at hxk)
    obtain ⟨Q, hQ⟩ : ∃ Q, Q = endE q (es.take k) := ⟨_, rfl⟩
    have HRW : Hid (wr.ownsRow base 62 2 (.slice x.A x.n x.c) x.n ((Row.marks (Q + 2) x.n).flatMap Row.cells)) := by rw [hQ]; exact hrow.out
    rw [← hQ] at HS hq2 hq3 c0 c1
    rw [← hQ]
    clear hQ hm hxk hrow hlt
    have hxn : (x.n : Int) ≤ 8 := by omega
    have hqn : (0 : Int) ≤ Q + 2 + (x.n : Int) * 2 := by omega
    go_wp2_with fail
    rw [show Q + 1 + 1 = Q + 2 by omega]
    refine (heldRowS_any _ _ _ (Q + 2) _ _ (ownSl HRW.out) (by omega) (by omega)).mono ?_
    rintro e w4 ⟨rfl, x4⟩
    have X4 := Lib.hid (HX.out.tr x4)
    clear x4
    go_wp2
    go_roundw
    case rel => exact ⟨k + 1, by have := HLT.out; omega, by go_num, by first | (rw [HS.out]; done) | (rw [HS.out]; first | rfl | go_num | (congr 1; omega)), X4.out⟩
    case measure => have := HLT.out; simp [intOf]; omega

set_option maxHeartbeats 4000000 in
theorem eqWroteS_same (A B : Option Addr) (K c d base base' : Nat) (es fs : List JE) (w : World) (ha : w.ownsRow base 33 3 (.slice A K c) K (es.flatMap JE.cells)) (hb : w.ownsRow base' 33 3 (.slice B K d) K (fs.flatMap JE.cells)) (hi : Inner w base es) (hj : Inner w base' fs) (he : es.map JE.val = fs.map JE.val) (hn : ∀ x ∈ es, x.n ≤ 8) (hK : K ≤ 200) :
    Calls Try.prog 25 #[.slice A K c, .slice B K d] w fun e w' => e = .returned (.bool true) ∧ Ext w w' := by
  have HA := Lib.hid ha
  have HB := Lib.hid hb
  have HI := Lib.hid hi
  have HJ := Lib.hid hj
  have HE := Lib.hid he
  have HN := Lib.hid hn
  clear ha hb hi hj he hn
  go_enter Try.func25, Try.ntmps25
  go_wp2
  go_loopw [5] (fun i wr => ∃ (k : Nat), k ≤ K ∧ i = .int .i64 k ∧ Ext w wr) (fun i _ => K - (intOf i).toNat)
  case atStart => exact ⟨0, Nat.zero_le _, rfl, Ext.refl' _⟩
  case round =>
    obtain ⟨k, hk, rfl, hx⟩ := hrel
    have HX := Lib.hid hx
    clear hx
    by_cases hlt : (k : Int) < (K : Int)
    rotate_left
    · go_wp2
      go_ret
      exact ⟨rfl, HX.out⟩
    have HLT : Hid (k < K) := by show k < K; omega
    obtain ⟨g, rfl⟩ : ∃ g, A = some ⟨g, 0, none⟩ := by
      have h3 := HLT.out
      rcases HA.out.2 with ⟨_, h0⟩ | ⟨g, cap, cur, hv, _⟩
      · omega
      · injection hv with h1; exact ⟨g, h1⟩
    obtain ⟨f, rfl⟩ : ∃ g, B = some ⟨g, 0, none⟩ := by
      have h3 := HLT.out
      rcases HB.out.2 with ⟨_, h0⟩ | ⟨g, cap, cur, hv, _⟩
      · omega
      · injection hv with h1; exact ⟨g, h1⟩
    obtain ⟨x, hxk⟩ : ∃ x, es[k]? = some x := ⟨_, List.getElem?_eq_getElem (by have h := es_len HA.out; have h2 := HLT.out; omega)⟩
    obtain ⟨y, hyk⟩ : ∃ y, fs[k]? = some y := ⟨_, List.getElem?_eq_getElem (by have h := es_len HB.out; have h2 := HLT.out; omega)⟩
    have hv : x.val = y.val := by
      have h1 : (es.map JE.val)[k]? = some x.val := by rw [List.getElem?_map, hxk]; rfl
      rw [HE.out, List.getElem?_map, hyk] at h1
      injection h1 with h1
      exact h1.symm
    obtain ⟨c0, c1, c2⟩ := entry_at HA.out hxk HLT.out
    obtain ⟨e0, e1, e2⟩ := entry_at HB.out hyk HLT.out
    have rx := own_ext (HI.out _ (mem_at hxk)) HX.out
    have ry := own_ext (HJ.out _ (mem_at hyk)) HX.out
    have hn8 := HN.out x (mem_at hxk)
    obtain ⟨xa, xb, xA, xn, xc, xr⟩ := x
    obtain ⟨ya, yb, yA, yn, yc, yr⟩ := y
    simp only [JE.val, Prod.mk.injEq] at hv
    obtain ⟨rfl, rfl, rfl⟩ := hv
    have hyn : yn = xn := by
      have h1 := rx.1
      have h2 := ry.1
      simp only at h1 h2
      omega
    subst hyn
    simp only at c0 c1 c2 e0 e1 e2 rx ry hn8
    replace c0 := HX.out.co c0
    replace c1 := HX.out.co c1
    replace c2 := HX.out.co c2
    replace e0 := HX.out.co e0
    replace e1 := HX.out.co e1
    replace e2 := HX.out.co e2
    have RX := Lib.hid rx
    have RY := Lib.hid ry
    have KS : Hid (∀ w', Ext wr w' → Ext wr w' ∧ w'.cell? ⟨g, k * 3, none⟩ = some (.int .i64 xa) ∧ w'.cell? ⟨g, k * 3 + 1, none⟩ = some (.int .i64 xb) ∧ w'.cell? ⟨g, k * 3 + 2, none⟩ = some (.slice xA yn xc) ∧ w'.cell? ⟨f, k * 3, none⟩ = some (.int .i64 xa) ∧ w'.cell? ⟨f, k * 3 + 1, none⟩ = some (.int .i64 xb) ∧ w'.cell? ⟨f, k * 3 + 2, none⟩ = some (.slice yA yn yc)) := fun w' x => ⟨x, x.co c0, x.co c1, x.co c2, x.co e0, x.co e1, x.co e2⟩
    have hk0 : (0 : Int) ≤ (k : Int) := by omega
    clear rx ry hxk hyk
    go_wp2
    refine region_class (fun w' => Ext wr w' ∧ w'.cell? ⟨g, k * 3, none⟩ = some (.int .i64 xa) ∧ w'.cell? ⟨g, k * 3 + 1, none⟩ = some (.int .i64 xb) ∧ w'.cell? ⟨g, k * 3 + 2, none⟩ = some (.slice xA yn xc) ∧ w'.cell? ⟨f, k * 3, none⟩ = some (.int .i64 xa) ∧ w'.cell? ⟨f, k * 3 + 1, none⟩ = some (.int .i64 xb) ∧ w'.cell? ⟨f, k * 3 + 2, none⟩ = some (.slice yA yn yc)) (by kernel_rfl) (by kernel_rfl) (KS.out _ ((Ext.refl' _).dr)) ?_
    repeat (first | go_big_quiet_skip | (go_big_quiet_want; unfold Oper.quiet; apply Exists.intro; refine ⟨fun wq hq => ?_, ?_⟩; (obtain ⟨qx, q1, q2, q3, q4, q5, q6⟩ := hq; go_simp; first | done | rfl | (go_at_call 18; exact (eqWrote_same _ _ _ _ _ xr _ _ _ _ (ownSl (own_ext RX.out qx)) (by omega) _ (ownSl (own_ext RY.out qx))).mono fun e w2 h2 => ⟨h2.1, KS.out _ (qx.tr h2.2)⟩)); (try simp only [Act.put, List.setIfInBounds_toArray, List.set_cons_zero, List.set_cons_succ]); go_big_quiet_on))
    refine wpQuiet_nil ?_
    intro wq hq
    obtain ⟨qxe, qe1, qe2, qe3, qe4, qe5, qe6⟩ := hq
    have XE := Lib.hid qxe
    go_wp2
    go_roundw
    case rel => exact ⟨k + 1, by have := HLT.out; omega, by go_num, HX.out.tr XE.out⟩
    case measure => have := HLT.out; simp [intOf]; omega
end Go.Proofs.Ytbclkgjjmpipfaa
