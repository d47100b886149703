/- An order that fits, found by the search, is an order that fits; calls made one behind the other fit in their order alone. Plain. -/
import Derived.Test.YtcnkmbofpppfaaaLineE
namespace Go.Proofs.Ytcnkmbofpppfaaa
open Go.RowKit Go.Deep
set_option linter.unusedSimpArgs false
set_option linter.unusedVariables false

theorem fit_same {l : List Call} {o1 o2 : List Int} {v : Int} : ∀ {k : Nat}, (∀ j, j < k → o1[j]? = o2[j]?) → fit l o1 v k = fit l o2 v k
  | 0, _ => rfl
  | k + 1, h => by
    have ih := fit_same (l := l) (v := v) (k := k) fun j hj => h j (by omega)
    rw [fit, fit, ih, h k (Nat.lt_succ_self k)]
theorem nz_app_get {p : List Nat} {x j : Nat} (h : j < p.length) : (nz (p ++ [x]))[j]? = (nz p)[j]? := by
  unfold nz
  rw [List.map_append, List.getElem?_append_left (by simpa using h)]
theorem nz_app_last (p : List Nat) (x : Nat) : (nz (p ++ [x]))[p.length]? = some (x : Int) := by simp [nz]
/-- What the search holds at an order begun. -/
structure Begun (l : List Call) (v : Int) (p : List Nat) (u : Int) : Prop where
  nd : p.Nodup
  lt : ∀ x ∈ p, x < l.length
  may : mayP l (nz p)
  fits : fit l (nz p) v p.length = some u
theorem Begun.next {l : List Call} {v : Int} {p : List Nat} {u : Int} (h : Begun l v p u) {k : Nat} (hk : k < l.length) (ho : okI l p u k = true) : Begun l v (p ++ [k]) (nxt l u k) := by
  obtain ⟨h1, h2, h3⟩ := dec_true ho
  have hc := List.getElem?_eq_getElem hk
  have ec := cc_of hc
  refine ⟨nodup_push h.nd h3, fun x hx => ?_, fun a b hab hb => ?_, ?_⟩
  · rcases List.mem_append.1 hx with q | q
    · exact h.lt x q
    · simp at q; omega
  · rw [nz_length, List.length_append] at hb
    simp at hb
    by_cases hbp : b < p.length
    · have := h.may a b hab (by rw [nz_length]; exact hbp)
      intro x y hx hy
      rw [nz_app_get (by omega)] at hx
      rw [nz_app_get hbp] at hy
      exact this x y hx hy
    · obtain rfl : b = p.length := by omega
      have ha := List.getElem?_eq_getElem hab
      have hm : p[a] ∈ p := List.getElem_mem hab
      have hal := h.lt _ hm
      refine pair_yes (xa := p[a]) (xb := k) (by rw [nz_app_get hab]; exact nz_get ha) (nz_app_last p k) (List.getElem?_eq_getElem hal) hc ?_
      have := h1 _ hm
      rw [ec, cc_of (List.getElem?_eq_getElem hal)] at this
      exact this
  · rw [List.length_append]
    have e1 : fit l (nz (p ++ [k])) v p.length = some u := by rw [← h.fits]; exact fit_same fun j hj => nz_app_get hj
    have := fit_yes e1 (nz_app_last p k) hc (by unfold retOk at h2; rw [ec] at h2; exact h2)
    show fit l (nz (p ++ [k])) v (p.length + 1) = _
    rw [this]
    unfold nxt
    rw [ec]
theorem Begun.leaves {l : List Call} {v : Int} : ∀ (f : Nat) (p : List Nat) (u : Int), Begun l v p u → ∀ x ∈ leaves l (okI l) f p u, Begun l v x.1 x.2
  | 0, p, u, h, x, hx => by simp [Ytcnkmbofpppfaaa.leaves] at hx; subst hx; exact h
  | f + 1, p, u, h, x, hx => by
    obtain ⟨k, hk, ho, hr⟩ := leavesTo_mem hx
    exact Begun.leaves f _ _ (h.next hk ho) x hr
theorem allFit_begun {l : List Call} {v : Int} {x : Leaf} (hx : x ∈ allFit l v) : Begun l v x.1 x.2 ∧ x.1.length = l.length := by
  refine ⟨Begun.leaves l.length [] v ⟨List.nodup_nil, fun x h => (by cases h), fun a b _ hb => absurd hb (Nat.not_lt_zero _), rfl⟩ x hx, ?_⟩
  have := leaves_long l.length [] v x hx
  simpa using this
theorem nodup_not_take : ∀ {p : List Nat}, p.Nodup → ∀ {i x : Nat}, p[i]? = some x → x ∉ p.take i
  | [], _, i, x, h => by simp at h
  | y :: p, hd, 0, x, h => by simp
  | y :: p, hd, i + 1, x, h => by
    rw [List.nodup_cons] at hd
    rw [List.getElem?_cons_succ] at h
    rw [List.take_succ_cons, List.mem_cons]
    rintro (q | q)
    · subst q; exact hd.1 (List.mem_of_getElem? h)
    · exact nodup_not_take hd.2 h q
theorem begun_fits {l : List Call} {v : Int} {p : List Nat} {u : Int} (hv : 0 ≤ v ∧ v ≤ 65535) (hok : callsOk l = true) (h : Begun l v p u) (hl : p.length = l.length) : fitsOk v l (nz p) = true := by
  refine dec_yes ⟨hv, dec_yes ⟨hok, by rw [nz_length]; exact hl, dec_yes fun i hi x hx => ?_, h.may⟩, by rw [nz_length, h.fits]; simp⟩
  rw [nz_length] at hi
  have hp := List.getElem?_eq_getElem hi
  have := nz_get hp
  rw [hx] at this
  injection this with this
  subst this
  have hlt := h.lt _ (List.getElem_mem hi)
  refine ⟨⟨by omega, by omega⟩, ?_⟩
  unfold nz
  rw [← List.map_take, List.mem_map]
  rintro ⟨y, hy, e⟩
  have e' : y = p[i] := Int.ofNat.inj e
  rw [e'] at hy
  exact nodup_not_take h.nd hp hy
/-- Where LineOrder finds one: it fits, and its end is among the ends. -/
theorem lineO_fits {v : Int} {l : List Call} (h : (lineO v l).2 = true) : fitsOk v l (lineO v l).1 = true ∧ ∃ u, fit l (lineO v l).1 v (lineO v l).1.length = some u ∧ u ∈ lineE v l := by
  by_cases hg : (0 ≤ v ∧ v ≤ 65535) ∧ callsOk l = true
  · rw [lineO_yes hg.1 hg.2, foldO] at h ⊢
    rw [lineE_yes hg.1 hg.2 rfl]
    cases e : allFit l v with
    | nil => rw [e] at h; cases h
    | cons x L =>
      have hx : x ∈ allFit l v := by rw [e]; simp
      obtain ⟨hb, hl⟩ := allFit_begun hx
      refine ⟨begun_fits hg.1 hg.2 hb hl, x.2, by show fit l (nz x.1) v (nz x.1).length = _; rw [nz_length]; exact hb.fits, ?_⟩
      rw [(ascTo_asc _ _).2]
      have := leaves_in hg.2 _ _ _ hg.1 x hx
      exact ⟨by omega, List.mem_map.2 ⟨x, by rw [← e]; exact hx, rfl⟩⟩
  · rw [lineO_no hg] at h; cases h
/-- Ends are there where an order is. -/
theorem lineE_some (v : Int) (l : List Call) : decide (0 < (lineE v l).length) = (lineO v l).2 := by
  cases h : (lineO v l).2
  · have : lineE v l = [] := by
      by_cases hg : (0 ≤ v ∧ v ≤ 65535) ∧ callsOk l = true
      · rw [lineO_yes hg.1 hg.2, foldO] at h
        rw [lineE_yes hg.1 hg.2 rfl]
        cases e : allFit l v with
        | nil =>
          apply List.eq_nil_iff_forall_not_mem.2
          intro x hx
          have := ((ascTo_asc _ _).2 x).1 hx
          simp at this
        | cons x L => rw [e] at h; cases h
      · exact lineE_no hg
    rw [this]; rfl
  · obtain ⟨_, u, _, hu⟩ := lineO_fits h
    have := List.length_pos_of_mem hu
    simpa using this
/-- Calls made one behind the other from 0, and where they end. -/
structure Turn (l : List Call) (w : Int) : Prop where
  shape : ∀ (i : Nat) (c : Call), l[i]? = some c → c.from_ = (i : Int) * 10 ∧ c.to_ = (i : Int) * 10 + 5 ∧ (1 ≤ c.kind ∧ c.kind ≤ 4) ∧ (0 ≤ c.arg ∧ c.arg ≤ 65535) ∧ (0 ≤ c.ret ∧ c.ret ≤ 65535)
  fits : fit l (nz (List.range l.length)) 0 l.length = some w
  inn : 0 ≤ w ∧ w ≤ 65535
theorem Turn.nil : Turn [] 0 := ⟨fun i c h => by simp at h, rfl, by omega⟩
theorem callDo_ret {v k a : Int} (hv : 0 ≤ v ∧ v ≤ 65535) (ha : 0 ≤ a ∧ a ≤ 65535) : 0 ≤ (callDo v k a).2 ∧ (callDo v k a).2 ≤ 65535 := by
  rw [callDo_k hv ha]
  split
  · show (0 : Int) ≤ 0 ∧ (0 : Int) ≤ 65535; omega
  · split
    · exact hv
    · split
      · exact hv
      · split
        · exact hv
        · show (0 : Int) ≤ 0 ∧ (0 : Int) ≤ 65535; omega
theorem fit_more {l : List Call} {c : Call} {ord : List Int} {v : Int} : ∀ {k : Nat}, (∀ j x, j < k → ord[j]? = some x → x.toNat < l.length) → fit (l ++ [c]) ord v k = fit l ord v k
  | 0, _ => rfl
  | k + 1, h => by
    have ih := fit_more (l := l) (c := c) (ord := ord) (v := v) (k := k) fun j x hj => h j x (by omega)
    rw [fit, fit, ih]
    cases e : ord[k]? with
    | none => cases fit l ord v k <;> rfl
    | some x =>
      have := h k x (Nat.lt_succ_self k) e
      cases fit l ord v k with
      | none => rfl
      | some u =>
        show (match (l ++ [c])[x.toNat]? with | some c => _ | none => _) = _
        rw [List.getElem?_append_left this]
        rfl
theorem nz_range_get {n j : Nat} (h : j < n) : (nz (List.range n))[j]? = some (j : Int) := nz_get (by simp [h])
theorem Turn.push {l : List Call} {w : Int} (h : Turn l w) {k a : Int} (hk : 1 ≤ k ∧ k ≤ 4) (ha : 0 ≤ a ∧ a ≤ 65535) : Turn (l ++ [⟨(l.length : Int) * 10, (l.length : Int) * 10 + 5, k, a, (callDo w k a).2⟩]) (callDo w k a).1 := by
  refine ⟨fun i c hc => ?_, ?_, callDo_in h.inn ha⟩
  · by_cases hi : i < l.length
    · rw [List.getElem?_append_left hi] at hc
      exact h.shape i c hc
    · have hi2 := (List.getElem?_eq_some_iff.1 hc).1
      simp at hi2
      obtain rfl : i = l.length := by omega
      simp at hc
      subst hc
      exact ⟨rfl, rfl, hk, ha, callDo_ret h.inn ha⟩
  · rw [List.length_append]
    show fit _ _ 0 (l.length + 1) = _
    have e1 : fit (l ++ [⟨(l.length : Int) * 10, (l.length : Int) * 10 + 5, k, a, (callDo w k a).2⟩]) (nz (List.range (l.length + 1))) 0 l.length = some w := by
      rw [fit_more fun j x hj hx => by rw [nz_range_get (n := l.length + 1) (j := j) (by omega)] at hx; injection hx with hx; subst hx; simpa using hj, ← h.fits]
      exact fit_same fun j hj => by rw [nz_range_get (n := l.length + 1) (j := j) (by omega), nz_range_get hj]
    exact fit_yes e1 (nz_range_get (n := l.length + 1) (j := l.length) (by omega)) (c := ⟨(l.length : Int) * 10, (l.length : Int) * 10 + 5, k, a, (callDo w k a).2⟩) (by simp) rfl
theorem leavesTo_only {l : List Call} {ok : List Nat → Int → Nat → Bool} {rec : List Nat → Int → List Leaf} {p : List Nat} {v : Int} {k : Nat} (hk : ok p v k = true) : ∀ m, k < m → (∀ j, j < m → j ≠ k → ok p v j = false) → leavesTo l ok rec p v m = rec (p ++ [k]) (nxt l v k)
  | m + 1, hm, h => by
    by_cases e : k = m
    · subst e
      rw [leavesTo_yes hk, leavesTo_nil fun j hj ho => by rw [h j (by omega) (by omega)] at ho; cases ho]
      rfl
    · rw [leavesTo_no (h m (by omega) (fun q => e q.symm))]
      exact leavesTo_only hk m (by omega) fun j hj => h j (by omega)
theorem Turn.ok {l : List Call} {w : Int} (h : Turn l w) (hl : l.length ≤ 7) : callsOk l = true := by
  refine dec_yes ⟨hl, fun i hi c hc => ?_⟩
  obtain ⟨h1, h2, h3, h4, h5⟩ := h.shape i c hc
  exact ⟨⟨by omega, by omega⟩, ⟨by omega, by omega⟩, h3, h4, h5⟩
theorem Turn.walk {l : List Call} {w : Int} (h : Turn l w) : ∀ (f k : Nat) (u : Int), k + f = l.length → fit l (nz (List.range l.length)) 0 k = some u → leaves l (okS l) f (List.range k) u = [(List.range l.length, w)]
  | 0, k, u, hk, hu => by
    obtain rfl : k = l.length := by omega
    rw [h.fits] at hu
    injection hu with hu
    subst hu
    rfl
  | f + 1, k, u, hk, hu => by
    have hkl : k < l.length := by omega
    have hc := List.getElem?_eq_getElem hkl
    have ec := cc_of hc
    have sk := h.shape k _ hc
    have hret : (callDo u (l[k]).kind (l[k]).arg).2 = (l[k]).ret := by
      apply Classical.byContradiction
      intro q
      have := fit_none (fit_no hu (nz_range_get hkl) hc q) l.length (by omega)
      rw [h.fits] at this
      cases this
    have hok : okS l (List.range k) u k = true := by
      refine dec_yes ⟨by simp, fun j hj hjp => ?_, by unfold retOk; rw [ec]; exact hret⟩
      have hj2 : k ≤ j := by simpa using hjp
      have sj := h.shape j _ (List.getElem?_eq_getElem hj)
      rw [ec, cc_of (List.getElem?_eq_getElem hj)]
      omega
    show leavesTo l (okS l) (leaves l (okS l) f) (List.range k) u l.length = _
    rw [leavesTo_only hok l.length hkl fun j hj hjk => ?_]
    · rw [← List.range_succ]
      refine Turn.walk h f (k + 1) _ (by omega) ?_
      rw [fit_yes hu (nz_range_get hkl) hc hret]
      unfold nxt
      rw [ec]
    · refine dec_no fun q => ?_
      have hj2 : k ≤ j := by simpa using q.1
      have sj := h.shape j _ (List.getElem?_eq_getElem hj)
      have := q.2.1 k hkl (by simp)
      rw [ec, cc_of (List.getElem?_eq_getElem hj)] at this
      omega
theorem Turn.all {l : List Call} {w : Int} (h : Turn l w) (hl : l.length ≤ 7) : allFit l 0 = [(List.range l.length, w)] := by
  rw [← allFit_spec (h.ok hl)]
  exact h.walk l.length 0 0 (by omega) rfl
theorem Turn.order {l : List Call} {w : Int} (h : Turn l w) (hl : l.length ≤ 7) : lineO 0 l = (nz (List.range l.length), true) := by
  rw [lineO_yes (by omega) (h.ok hl), foldO, h.all hl]
theorem Turn.ends {l : List Call} {w : Int} (h : Turn l w) (hl : l.length ≤ 7) : lineE 0 l = [w] := by
  rw [lineE_yes (by omega) (h.ok hl) rfl, h.all hl]
  refine asc_same _ _ (ascTo_asc _ _).1 (by simp) fun x => ?_
  rw [(ascTo_asc _ _).2]
  have := h.inn
  simp
  omega
end Go.Proofs.Ytcnkmbofpppfaaa
