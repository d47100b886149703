/- The deque as a machine in plain words, and what stays true of it. No condition. -/
import Derived.Test.YtkkcgpoakhllkaaDqLeft
import Derived.Test.YtkkcgpoakhllkaaDqRest
namespace Go.Proofs.Ytkkcgpoakhllkaa
open Go.RowKit Go.Deep
set_option linter.unusedSimpArgs false
set_option linter.unusedVariables false

structure Dq where
  top : Int
  bottom : Int
  next : Int
  items : List Int
  own : Owner
  th : List Thief
  took : List Taken

def Dq.at_ (d : Dq) (i : Int) : Int := (d.items[i.toNat]?).getD 0
def dpush (d : Dq) : Dq :=
  if d.own.phase = 1 then { d with bottom := d.bottom + 1, own := ⟨0, 0, 0⟩ }
  else { d with items := if d.bottom = d.items.length then d.items ++ [d.next] else d.items.set d.bottom.toNat d.next, next := d.next + 1, own := ⟨1, 0, 0⟩ }
def dtake (d : Dq) (who item : Int) : Dq := { d with took := d.took ++ [⟨who, item⟩] }
def dpop (d : Dq) : Dq :=
  if d.own.phase = 0 then { d with bottom := d.bottom - 1, own := ⟨2, d.bottom - 1, 0⟩ }
  else if d.own.phase = 2 then
    if d.own.b < d.top then { d with own := ⟨4, d.top, 0⟩ }
    else if d.top < d.own.b then { d with took := d.took ++ [⟨0, d.at_ d.own.b⟩], own := ⟨0, 0, 0⟩ }
    else { d with own := ⟨3, d.own.b, d.top⟩ }
  else if d.own.phase = 3 then
    if d.top = d.own.t then { d with top := d.own.t + 1, took := d.took ++ [⟨0, d.at_ d.own.b⟩], own := ⟨4, d.own.t + 1, 0⟩ }
    else { d with own := ⟨4, d.own.t + 1, 0⟩ }
  else { d with bottom := d.own.b, own := ⟨0, 0, 0⟩ }
def dsteal (d : Dq) (k : Nat) (x : Thief) : Dq :=
  if x.phase = 0 then { d with th := d.th.set k ⟨1, d.top, x.item, x.lost⟩ }
  else if x.phase = 1 then { d with th := d.th.set k (if d.bottom ≤ x.t then ⟨0, 0, 0, x.lost⟩ else ⟨2, x.t, x.item, x.lost⟩) }
  else if x.phase = 2 then { d with th := d.th.set k ⟨3, x.t, d.at_ x.t, x.lost⟩ }
  else if d.top = x.t then { d with top := x.t + 1, took := d.took ++ [⟨(k : Int) + 1, x.item⟩], th := d.th.set k ⟨0, 0, 0, x.lost⟩ }
  else { d with th := d.th.set k ⟨0, 0, 0, x.lost + 1⟩ }
/-- One act. -/
def dact (n : Nat) (d : Dq) (a : DqAct) : Dq :=
  if a.kind = 1 ∨ a.kind = 2 then
    if d.own.phase = 1 then dpush d
    else if 2 ≤ d.own.phase ∨ a.kind = 2 then dpop d
    else if d.bottom < 40 then dpush d else d
  else if a.kind = 3 ∧ 0 ≤ a.thief ∧ a.thief < n then
    match d.th[a.thief.toNat]? with
    | some x => dsteal d a.thief.toNat x
    | none => d
  else d
def dstart (n : Nat) : Dq := ⟨0, 0, 1, [], ⟨0, 0, 0⟩, List.replicate n ⟨0, 0, 0, 0⟩, []⟩
def dplay (n : Nat) (l : List DqAct) (k : Nat) : Dq := (l.take k).foldl (dact n) (dstart n)
theorem dplay_zero (n : Nat) (l : List DqAct) : dplay n l 0 = dstart n := rfl
theorem dplay_succ {n : Nat} {l : List DqAct} {k : Nat} {a : DqAct} (h : l[k]? = some a) : dplay n l (k + 1) = dact n (dplay n l k) a := by
  unfold dplay
  rw [List.take_add_one, h, List.foldl_append]
  rfl

/-- Where what is in it ends, the owner's step undone. -/
def Dq.vb (d : Dq) : Int := if d.own.phase = 2 ∨ d.own.phase = 3 then d.own.b + 1 else if d.own.phase = 4 then d.own.b else d.bottom
/-- What is in it. -/
def Dq.live (d : Dq) : List Int := (d.items.take (d.vb.toNat + (if d.own.phase = 1 then 1 else 0))).drop d.top.toNat
structure Dq.Th (d : Dq) (N : Nat) (x : Thief) : Prop where
  ph : 0 ≤ x.phase ∧ x.phase ≤ 3
  lost : 0 ≤ x.lost ∧ x.lost ≤ N
  t : 0 ≤ x.t ∧ x.t ≤ d.top
  two : x.phase = 2 → x.t < d.items.length ∧ (x.t = d.top → d.top < d.vb)
  three : x.phase = 3 → x.t = d.top → d.top < d.vb ∧ d.items[x.t.toNat]? = some x.item
structure Dq.Inv (d : Dq) (n N : Nat) : Prop where
  th : d.th.length = n
  thief : ∀ x ∈ d.th, d.Th N x
  ph : 0 ≤ d.own.phase ∧ d.own.phase ≤ 4
  top : 0 ≤ d.top ∧ d.top ≤ d.vb
  vb : d.vb ≤ 40 ∧ d.vb ≤ d.items.length ∧ d.items.length ≤ 40
  one : d.own.phase = 1 → d.bottom < d.items.length ∧ d.bottom ≤ 39
  two : d.own.phase = 2 ∨ d.own.phase = 3 → d.bottom = d.own.b
  three : d.own.phase = 3 → d.own.t = d.own.b ∧ d.own.t ≤ d.top
  four : d.own.phase = 4 → d.bottom = d.own.b - 1
  next : 1 ≤ d.next ∧ d.next ≤ N + 1
  all : (d.took.map (·.item) ++ d.live).Perm ((List.range (d.next - 1).toNat).map fun i : Nat => (i : Int) + 1)
  who : ∀ x ∈ d.took, 0 ≤ x.who ∧ x.who ≤ n
  tk : d.took.length ≤ N

theorem dq_at {d : Dq} {i : Int} (h0 : 0 ≤ i) (h : i < d.items.length) : d.items[i.toNat]? = some (d.at_ i) := by
  have h1 : i.toNat < d.items.length := by omega
  unfold Dq.at_
  rw [List.getElem?_eq_getElem h1]; rfl
theorem inv_start (n : Nat) : (dstart n).Inv n 0 := by
  refine ⟨by simp [dstart], ?_, by simp [dstart], by simp [dstart, Dq.vb], by simp [dstart, Dq.vb], by simp [dstart], by simp [dstart], by simp [dstart], by simp [dstart], by simp [dstart], ?_, by simp [dstart], by simp [dstart]⟩
  · intro x hx
    have e : x = ⟨0, 0, 0, 0⟩ := List.eq_of_mem_replicate hx
    subst e
    exact ⟨by simp, by simp, by simp [dstart], by simp, by simp⟩
  · simp [dstart, Dq.live]
/-- The last of what is in it goes. -/
theorem drop_last {l : List Int} {t b : Nat} {x : Int} (hb : l[b]? = some x) (ht : t ≤ b) : (l.take (b + 1)).drop t = (l.take b).drop t ++ [x] := by
  have hl : b < l.length := (List.getElem?_eq_some_iff.1 hb).1
  rw [List.take_add_one, hb, List.drop_append_of_le_length (by rw [List.length_take]; omega)]
  rfl
/-- The first goes. -/
theorem drop_first {l : List Int} {t b : Nat} {x : Int} (ht : l[t]? = some x) (h : t < b) : (l.take b).drop t = x :: (l.take b).drop (t + 1) := by
  have hl : t < l.length := (List.getElem?_eq_some_iff.1 ht).1
  have hk : (l.take b)[t]? = some x := by rw [List.getElem?_take, if_pos h, ht]
  have hkl := (List.getElem?_eq_some_iff.1 hk)
  rw [List.drop_eq_getElem_cons hkl.1, hkl.2]
theorem perm_last {a b c : List Int} {x : Int} (h : (a ++ (b ++ [x])).Perm c) : ((a ++ [x]) ++ b).Perm c := by
  refine List.Perm.trans ?_ h
  rw [List.append_assoc]
  exact List.Perm.append_left a (List.perm_append_comm)
theorem perm_first {a b c : List Int} {x : Int} (h : (a ++ (x :: b)).Perm c) : ((a ++ [x]) ++ b).Perm c := by
  rw [List.append_assoc]; exact h
theorem range_next {k : Int} (h : 1 ≤ k) : (List.range (k + 1 - 1).toNat).map (fun i : Nat => (i : Int) + 1) = (List.range (k - 1).toNat).map (fun i : Nat => (i : Int) + 1) ++ [k] := by
  rw [show (k + 1 - 1).toNat = (k - 1).toNat + 1 by omega, List.range_succ, List.map_append]
  simp
  omega
theorem th_mono {d d' : Dq} {N : Nat} {x : Thief} (h : d.Th N x) (ht : d.top ≤ d'.top) (hi : d.items.length ≤ d'.items.length)
    (h2 : x.t = d'.top → d.top < d.vb → d.top = d'.top → d'.top < d'.vb) (h3 : d.top = d'.top → d.top < d.vb → d'.items[d.top.toNat]? = d.items[d.top.toNat]?) : d'.Th (N + 1) x := by
  refine ⟨h.ph, ⟨h.lost.1, by have := h.lost.2; omega⟩, ⟨h.t.1, by have := h.t.2; omega⟩, fun hp => ?_, fun hp he => ?_⟩
  · obtain ⟨a, b⟩ := h.two hp
    refine ⟨by omega, fun e => ?_⟩
    have h5 := h.t.2
    have e2 : d.top = d'.top := by omega
    exact h2 e (b (by omega)) e2
  · have h5 := h.t.2
    have e2 : d.top = d'.top := by omega
    obtain ⟨a, b⟩ := h.three hp (by omega)
    refine ⟨h2 he a e2, ?_⟩
    have e3 : x.t = d.top := by omega
    rw [e3] at b ⊢
    rw [h3 e2 a]
    exact b

theorem inv_push {d : Dq} {n N : Nat} (h : d.Inv n N) (hp : d.own.phase = 1 ∨ (d.own.phase = 0 ∧ d.bottom < 40)) : (dpush d).Inv n (N + 1) := by
  rcases hp with hp | ⟨hp, hb⟩
  · have e : dpush d = { d with bottom := d.bottom + 1, own := ⟨0, 0, 0⟩ } := if_pos hp
    have v0 : d.vb = d.bottom := by simp [Dq.vb, hp]
    have v1 : (dpush d).vb = d.bottom + 1 := by rw [e]; simp [Dq.vb]
    have o := h.one hp
    have ht := h.top
    have hv := h.vb
    have hl : (dpush d).live = d.live := by
      unfold Dq.live
      rw [v1, v0, e]
      simp only [hp, if_true]
      rw [show (d.bottom + 1).toNat + (if (0 : Int) = 1 then 1 else 0) = d.bottom.toNat + 1 by simp; omega]
    refine ⟨by rw [e]; exact h.th, fun x hx => ?_, by rw [e]; simp, by rw [v1]; simp only [e]; omega, by rw [v1]; simp only [e]; omega, by rw [e]; simp, by rw [e]; simp, by rw [e]; simp, by rw [e]; simp, ?_, ?_, ?_, ?_⟩
    · refine th_mono (h.thief x (by rw [e] at hx; exact hx)) (by rw [e]; exact Int.le_refl _) (by rw [e]; exact Nat.le_refl _) (fun _ a b => ?_) (fun _ _ => by rw [e])
      rw [v1]; rw [v0] at a; omega
    · have := h.next; rw [e]; exact ⟨this.1, by show d.next ≤ _; omega⟩
    · rw [hl]; rw [e]; exact h.all
    · rw [e]; exact h.who
    · have := h.tk; rw [e]; show d.took.length ≤ _; omega
  · have e : dpush d = { d with items := if d.bottom = d.items.length then d.items ++ [d.next] else d.items.set d.bottom.toNat d.next, next := d.next + 1, own := ⟨1, 0, 0⟩ } := if_neg (by omega)
    have v0 : d.vb = d.bottom := by simp [Dq.vb, hp]
    have v1 : (dpush d).vb = d.bottom := by rw [e]; simp [Dq.vb]
    have ht := h.top
    have hv := h.vb
    rw [v0] at ht hv
    obtain ⟨B, hB⟩ : ∃ B : Nat, d.bottom = (B : Int) := ⟨d.bottom.toNat, by omega⟩
    have hlen : (dpush d).items.length = max d.items.length (B + 1) := by
      rw [e]
      show (if d.bottom = d.items.length then d.items ++ [d.next] else d.items.set d.bottom.toNat d.next).length = _
      split
      · rw [List.length_append, List.length_singleton]; omega
      · rw [List.length_set]; omega
    have hget : (dpush d).items[B]? = some d.next := by
      rw [e]
      show (if d.bottom = d.items.length then d.items ++ [d.next] else d.items.set d.bottom.toNat d.next)[B]? = _
      split
      · rw [List.getElem?_append_right (by omega), show B - d.items.length = 0 by omega]; rfl
      · rw [List.getElem?_set, if_pos (by omega), if_pos (by omega)]
    have hlow : ∀ i, i < B → (dpush d).items[i]? = d.items[i]? := by
      intro i hi
      rw [e]
      show (if d.bottom = d.items.length then d.items ++ [d.next] else d.items.set d.bottom.toNat d.next)[i]? = _
      split
      · rw [List.getElem?_append_left (by omega)]
      · rw [List.getElem?_set, if_neg (by omega)]
    have htk : (dpush d).items.take B = d.items.take B := by
      apply List.ext_getElem?
      intro i
      rw [List.getElem?_take, List.getElem?_take]
      split
      · exact hlow i (by assumption)
      · rfl
    have hl : (dpush d).live = d.live ++ [d.next] := by
      have e1 : (dpush d).own.phase = 1 := by rw [e]
      have e2 : (dpush d).top = d.top := by rw [e]
      unfold Dq.live
      rw [v1, v0, e1, e2, hp, if_pos rfl, if_neg (by decide), hB, Int.toNat_natCast, Nat.add_zero B, drop_last hget (by omega), htk]
    refine ⟨by rw [e]; exact h.th, fun x hx => ?_, by rw [e]; simp, by rw [v1]; simp only [e]; omega, ?_, ?_, by rw [e]; simp, by rw [e]; simp, by rw [e]; simp, ?_, ?_, ?_, ?_⟩
    · refine th_mono (h.thief x (by rw [e] at hx; exact hx)) (by rw [e]; exact Int.le_refl _) (by rw [hlen]; omega) (fun _ a b => ?_) (fun a b => ?_)
      · rw [v1]; rw [v0] at a; omega
      · rw [v0] at b; exact hlow _ (by omega)
    · rw [v1, hlen]; omega
    · intro _; rw [hlen]; have e2 : (dpush d).bottom = d.bottom := by rw [e]
      rw [e2]; omega
    · have := h.next; rw [e]; show 1 ≤ d.next + 1 ∧ d.next + 1 ≤ _; omega
    · rw [hl]
      have e2 : (dpush d).next = d.next + 1 := by rw [e]
      have e3 : (dpush d).took = d.took := by rw [e]
      rw [e2, e3, range_next h.next.1, ← List.append_assoc]
      exact h.all.append_right _
    · rw [e]; exact h.who
    · have := h.tk; rw [e]; show d.took.length ≤ _; omega

theorem inv_pop {d : Dq} {n N : Nat} (h : d.Inv n N) (hp : d.own.phase ≠ 1) : (dpop d).Inv n (N + 1) := by
  have ht := h.top
  have hv := h.vb
  have hph := h.ph
  have hnx := h.next
  have htk := h.tk
  by_cases h0 : d.own.phase = 0
  · have e : dpop d = { d with bottom := d.bottom - 1, own := ⟨2, d.bottom - 1, 0⟩ } := if_pos h0
    have v0 : d.vb = d.bottom := by simp [Dq.vb, h0]
    have v1 : (dpop d).vb = d.vb := by rw [v0, e]; simp [Dq.vb]
    have hl : (dpop d).live = d.live := by unfold Dq.live; rw [v1, e]; simp [h0]
    refine ⟨by rw [e]; exact h.th, fun x hx => ?_, by rw [e]; simp, by rw [v1]; simp only [e]; omega, by rw [v1]; simp only [e]; omega, by rw [e]; simp, by rw [e]; simp, by rw [e]; simp, by rw [e]; simp, ?_, ?_, by rw [e]; exact h.who, ?_⟩
    · exact th_mono (h.thief x (by rw [e] at hx; exact hx)) (by rw [e]; exact Int.le_refl _) (by rw [e]; exact Nat.le_refl _) (fun _ a b => by rw [v1]; omega) (fun _ _ => by rw [e])
    · rw [e]; show 1 ≤ d.next ∧ d.next ≤ _; omega
    · rw [hl, e]; exact h.all
    · rw [e]; show d.took.length ≤ _; omega
  by_cases h2 : d.own.phase = 2
  · have b2 := h.two (.inl h2)
    have v0 : d.vb = d.own.b + 1 := by simp [Dq.vb, h2]
    by_cases c1 : d.own.b < d.top
    · have e : dpop d = { d with own := ⟨4, d.top, 0⟩ } := by unfold dpop; rw [if_neg h0, if_pos h2, if_pos c1]
      have v1 : (dpop d).vb = d.vb := by rw [v0, e]; simp [Dq.vb]; omega
      have hl : (dpop d).live = d.live := by unfold Dq.live; rw [v1, e]; simp [h2]
      refine ⟨by rw [e]; exact h.th, fun x hx => ?_, by rw [e]; simp, by rw [v1]; simp only [e]; omega, by rw [v1]; simp only [e]; omega, by rw [e]; simp, by rw [e]; simp, by rw [e]; simp, ?_, ?_, ?_, by rw [e]; exact h.who, ?_⟩
      · exact th_mono (h.thief x (by rw [e] at hx; exact hx)) (by rw [e]; exact Int.le_refl _) (by rw [e]; exact Nat.le_refl _) (fun _ a b => by rw [v1]; omega) (fun _ _ => by rw [e])
      · intro _; rw [e]; show d.bottom = d.top - 1; omega
      · rw [e]; show 1 ≤ d.next ∧ d.next ≤ _; omega
      · rw [hl, e]; exact h.all
      · rw [e]; show d.took.length ≤ _; omega
    by_cases c2 : d.top < d.own.b
    · have e : dpop d = { d with took := d.took ++ [⟨0, d.at_ d.own.b⟩], own := ⟨0, 0, 0⟩ } := by unfold dpop; rw [if_neg h0, if_pos h2, if_neg c1, if_pos c2]
      have v1 : (dpop d).vb = d.own.b := by rw [e]; simp [Dq.vb]; exact b2
      have hat := dq_at (d := d) (i := d.own.b) (by omega) (by omega)
      have hl : d.live = (dpop d).live ++ [d.at_ d.own.b] := by
        have e1 : (dpop d).own.phase = 0 := by rw [e]
        have e2 : (dpop d).top = d.top := by rw [e]
        have e3 : (dpop d).items = d.items := by rw [e]
        unfold Dq.live
        rw [v1, v0, e1, e2, e3, h2, if_neg (by decide), if_neg (by decide), Nat.add_zero, Nat.add_zero, show (d.own.b + 1).toNat = d.own.b.toNat + 1 by omega, drop_last hat (by omega)]
      refine ⟨by rw [e]; exact h.th, fun x hx => ?_, by rw [e]; simp, by rw [v1]; simp only [e]; omega, by rw [v1]; simp only [e]; omega, by rw [e]; simp, by rw [e]; simp, by rw [e]; simp, by rw [e]; simp, ?_, ?_, ?_, ?_⟩
      · exact th_mono (h.thief x (by rw [e] at hx; exact hx)) (by rw [e]; exact Int.le_refl _) (by rw [e]; exact Nat.le_refl _) (fun _ a b => by rw [v1]; omega) (fun _ _ => by rw [e])
      · rw [e]; show 1 ≤ d.next ∧ d.next ≤ _; omega
      · have ha := h.all
        rw [hl] at ha
        have e4 : (dpop d).took.map (·.item) = d.took.map (·.item) ++ [d.at_ d.own.b] := by rw [e]; simp
        have e5 : (dpop d).next = d.next := by rw [e]
        rw [e4, e5]
        exact perm_last ha
      · intro x hx
        rw [e] at hx
        rcases List.mem_append.1 hx with q | q
        · exact h.who x q
        · rw [List.mem_singleton.1 q]; exact ⟨Int.le_refl _, by show (0 : Int) ≤ _; omega⟩
      · rw [e]; show (d.took ++ [_]).length ≤ _; rw [List.length_append, List.length_singleton]; omega
    · have e : dpop d = { d with own := ⟨3, d.own.b, d.top⟩ } := by unfold dpop; rw [if_neg h0, if_pos h2, if_neg c1, if_neg c2]
      have v1 : (dpop d).vb = d.vb := by rw [v0, e]; simp [Dq.vb]
      have hl : (dpop d).live = d.live := by unfold Dq.live; rw [v1, e]; simp [h2]
      refine ⟨by rw [e]; exact h.th, fun x hx => ?_, by rw [e]; simp, by rw [v1]; simp only [e]; omega, by rw [v1]; simp only [e]; omega, by rw [e]; simp, ?_, ?_, by rw [e]; simp, ?_, ?_, by rw [e]; exact h.who, ?_⟩
      · exact th_mono (h.thief x (by rw [e] at hx; exact hx)) (by rw [e]; exact Int.le_refl _) (by rw [e]; exact Nat.le_refl _) (fun _ a b => by rw [v1]; omega) (fun _ _ => by rw [e])
      · intro _; rw [e]; exact b2
      · intro _; rw [e]; show d.top = d.own.b ∧ d.top ≤ d.top; omega
      · rw [e]; show 1 ≤ d.next ∧ d.next ≤ _; omega
      · rw [hl, e]; exact h.all
      · rw [e]; show d.took.length ≤ _; omega
  by_cases h3 : d.own.phase = 3
  · have b2 := h.two (.inr h3)
    obtain ⟨b3, b4⟩ := h.three h3
    have v0 : d.vb = d.own.b + 1 := by simp [Dq.vb, h3]
    by_cases c1 : d.top = d.own.t
    · have e : dpop d = { d with top := d.own.t + 1, took := d.took ++ [⟨0, d.at_ d.own.b⟩], own := ⟨4, d.own.t + 1, 0⟩ } := by unfold dpop; rw [if_neg h0, if_neg h2, if_pos h3, if_pos c1]
      have v1 : (dpop d).vb = d.vb := by rw [v0, e]; simp [Dq.vb]; omega
      have hat := dq_at (d := d) (i := d.own.b) (by omega) (by omega)
      have hl : d.live = d.at_ d.own.b :: (dpop d).live := by
        have e1 : (dpop d).own.phase = 4 := by rw [e]
        have e2 : (dpop d).top = d.own.t + 1 := by rw [e]
        have e3 : (dpop d).items = d.items := by rw [e]
        unfold Dq.live
        rw [v1, v0, e1, e2, e3, h3, if_neg (by decide), if_neg (by decide), Nat.add_zero, show d.top.toNat = d.own.b.toNat by omega, drop_first hat (by omega), show (d.own.t + 1).toNat = d.own.b.toNat + 1 by omega]
      refine ⟨by rw [e]; exact h.th, fun x hx => ?_, by rw [e]; simp, by rw [v1]; simp only [e]; omega, by rw [v1]; simp only [e]; omega, by rw [e]; simp, by rw [e]; simp, by rw [e]; simp, ?_, ?_, ?_, ?_, ?_⟩
      · exact th_mono (h.thief x (by rw [e] at hx; exact hx)) (by rw [e]; show d.top ≤ d.own.t + 1; omega) (by rw [e]; exact Nat.le_refl _) (fun _ a b => by rw [e] at b; have : d.top = d.own.t + 1 := b; omega) (fun _ _ => by rw [e])
      · intro _; rw [e]; show d.bottom = d.own.t + 1 - 1; omega
      · rw [e]; show 1 ≤ d.next ∧ d.next ≤ _; omega
      · have ha := h.all
        rw [hl] at ha
        have e4 : (dpop d).took.map (·.item) = d.took.map (·.item) ++ [d.at_ d.own.b] := by rw [e]; simp
        have e5 : (dpop d).next = d.next := by rw [e]
        rw [e4, e5]
        exact perm_first ha
      · intro x hx
        rw [e] at hx
        rcases List.mem_append.1 hx with q | q
        · exact h.who x q
        · rw [List.mem_singleton.1 q]; exact ⟨Int.le_refl _, by show (0 : Int) ≤ _; omega⟩
      · rw [e]; show (d.took ++ [_]).length ≤ _; rw [List.length_append, List.length_singleton]; omega
    · have e : dpop d = { d with own := ⟨4, d.own.t + 1, 0⟩ } := by unfold dpop; rw [if_neg h0, if_neg h2, if_pos h3, if_neg c1]
      have v1 : (dpop d).vb = d.vb := by rw [v0, e]; simp [Dq.vb]; omega
      have hl : (dpop d).live = d.live := by unfold Dq.live; rw [v1, e]; simp [h3]
      refine ⟨by rw [e]; exact h.th, fun x hx => ?_, by rw [e]; simp, by rw [v1]; simp only [e]; omega, by rw [v1]; simp only [e]; omega, by rw [e]; simp, by rw [e]; simp, by rw [e]; simp, ?_, ?_, ?_, by rw [e]; exact h.who, ?_⟩
      · exact th_mono (h.thief x (by rw [e] at hx; exact hx)) (by rw [e]; exact Int.le_refl _) (by rw [e]; exact Nat.le_refl _) (fun _ a b => by rw [v1]; omega) (fun _ _ => by rw [e])
      · intro _; rw [e]; show d.bottom = d.own.t + 1 - 1; omega
      · rw [e]; show 1 ≤ d.next ∧ d.next ≤ _; omega
      · rw [hl, e]; exact h.all
      · rw [e]; show d.took.length ≤ _; omega
  have h4 : d.own.phase = 4 := by omega
  have e : dpop d = { d with bottom := d.own.b, own := ⟨0, 0, 0⟩ } := by unfold dpop; rw [if_neg h0, if_neg h2, if_neg h3]
  have v0 : d.vb = d.own.b := by simp [Dq.vb, h4]
  have v1 : (dpop d).vb = d.vb := by rw [v0, e]; simp [Dq.vb]
  have hl : (dpop d).live = d.live := by unfold Dq.live; rw [v1, e]; simp [h4]
  refine ⟨by rw [e]; exact h.th, fun x hx => ?_, by rw [e]; simp, by rw [v1]; simp only [e]; omega, by rw [v1]; simp only [e]; omega, by rw [e]; simp, by rw [e]; simp, by rw [e]; simp, by rw [e]; simp, ?_, ?_, by rw [e]; exact h.who, ?_⟩
  · exact th_mono (h.thief x (by rw [e] at hx; exact hx)) (by rw [e]; exact Int.le_refl _) (by rw [e]; exact Nat.le_refl _) (fun _ a b => by rw [v1]; omega) (fun _ _ => by rw [e])
  · rw [e]; show 1 ≤ d.next ∧ d.next ≤ _; omega
  · rw [hl, e]; exact h.all
  · rw [e]; show d.took.length ≤ _; omega

theorem set_all {l : List Thief} {p : Thief → Prop} {k : Nat} {y : Thief} (h : ∀ x ∈ l, p x) (hy : p y) : ∀ x ∈ l.set k y, p x := fun x hx => by
  rcases List.mem_or_eq_of_mem_set hx with q | q
  · exact h x q
  · rw [q]; exact hy
theorem inv_steal {d : Dq} {n N k : Nat} {x : Thief} (h : d.Inv n N) (hx : d.th[k]? = some x) : (dsteal d k x).Inv n (N + 1) := by
  have ht := h.top
  have hv := h.vb
  have hnx := h.next
  have htk := h.tk
  have hT := h.thief x (List.mem_of_getElem? hx)
  have hkn : k < n := by have := (List.getElem?_eq_some_iff.1 hx).1; have := h.th; omega
  have hbv : d.bottom ≤ d.vb := by
    have h1 := h.ph
    have h2 := h.two
    have h4 := h.four
    unfold Dq.vb
    by_cases c : d.own.phase = 2 ∨ d.own.phase = 3
    · rw [if_pos c]; have := h2 c; omega
    · rw [if_neg c]
      by_cases c4 : d.own.phase = 4
      · rw [if_pos c4]; have := h4 c4; omega
      · rw [if_neg c4]; exact Int.le_refl _
  have keep : ∀ (y : Thief), d.Th (N + 1) y → ({ d with th := d.th.set k y } : Dq).Inv n (N + 1) := by
    intro y hy
    refine ⟨by show (d.th.set k y).length = n; rw [List.length_set]; exact h.th, ?_, h.ph, ht, hv, h.one, h.two, h.three, h.four, ⟨hnx.1, by show d.next ≤ _; omega⟩, h.all, h.who, by show d.took.length ≤ _; omega⟩
    intro z hz
    have hz' : d.Th (N + 1) z := set_all (p := fun z => d.Th (N + 1) z) (fun z hz => th_mono (h.thief z hz) (Int.le_refl _) (Nat.le_refl _) (fun _ a _ => a) fun _ _ => rfl) hy z hz
    exact ⟨hz'.ph, hz'.lost, hz'.t, hz'.two, hz'.three⟩
  have hlost := hT.lost
  have hxt := hT.t
  by_cases h0 : x.phase = 0
  · have e : dsteal d k x = { d with th := d.th.set k ⟨1, d.top, x.item, x.lost⟩ } := if_pos h0
    rw [e]
    exact keep _ ⟨by simp, ⟨hlost.1, by show x.lost ≤ _; omega⟩, ⟨ht.1, Int.le_refl _⟩, by simp, by simp⟩
  by_cases h1 : x.phase = 1
  · have e : dsteal d k x = { d with th := d.th.set k (if d.bottom ≤ x.t then ⟨0, 0, 0, x.lost⟩ else ⟨2, x.t, x.item, x.lost⟩) } := by unfold dsteal; rw [if_neg h0, if_pos h1]
    rw [e]
    refine keep _ ?_
    by_cases c : d.bottom ≤ x.t
    · rw [if_pos c]
      exact ⟨by simp, ⟨hlost.1, by show x.lost ≤ _; omega⟩, ⟨Int.le_refl _, ht.1⟩, by simp, by simp⟩
    · rw [if_neg c]
      exact ⟨by simp, ⟨hlost.1, by show x.lost ≤ _; omega⟩, hxt, fun _ => ⟨by show x.t < _; omega, fun q => by have : x.t = d.top := q; omega⟩, by simp⟩
  by_cases h2 : x.phase = 2
  · have e : dsteal d k x = { d with th := d.th.set k ⟨3, x.t, d.at_ x.t, x.lost⟩ } := by unfold dsteal; rw [if_neg h0, if_neg h1, if_pos h2]
    rw [e]
    obtain ⟨a, b⟩ := hT.two h2
    exact keep _ ⟨by simp, ⟨hlost.1, by show x.lost ≤ _; omega⟩, hxt, by simp, fun _ q => ⟨b q, dq_at hxt.1 a⟩⟩
  have h3 : x.phase = 3 := by have := hT.ph; omega
  by_cases c : d.top = x.t
  · have e : dsteal d k x = { d with top := x.t + 1, took := d.took ++ [⟨(k : Int) + 1, x.item⟩], th := d.th.set k ⟨0, 0, 0, x.lost⟩ } := by unfold dsteal; rw [if_neg h0, if_neg h1, if_neg h2, if_pos c]
    obtain ⟨a, b⟩ := hT.three h3 c.symm
    have v1 : (dsteal d k x).vb = d.vb := by rw [e]; rfl
    have hl : d.live = x.item :: (dsteal d k x).live := by
      have e1 : (dsteal d k x).own = d.own := by rw [e]
      have e2 : (dsteal d k x).top = x.t + 1 := by rw [e]
      have e3 : (dsteal d k x).items = d.items := by rw [e]
      unfold Dq.live
      rw [v1, e1, e2, e3, show d.top.toNat = x.t.toNat by omega, drop_first b (by split <;> omega), show (x.t + 1).toNat = x.t.toNat + 1 by omega]
    refine ⟨by rw [e]; show (d.th.set k _).length = n; rw [List.length_set]; exact h.th, ?_, by rw [e]; exact h.ph, ?_, by rw [v1]; rw [e]; exact hv, by rw [e]; exact h.one, by rw [e]; exact h.two, ?_, by rw [e]; exact h.four, ?_, ?_, ?_, ?_⟩
    · intro z hz
      have hz2 : z ∈ d.th.set k ⟨0, 0, 0, x.lost⟩ := by rw [e] at hz; exact hz
      rcases List.mem_or_eq_of_mem_set hz2 with q | q
      · exact th_mono (h.thief z q) (by rw [e]; show d.top ≤ x.t + 1; omega) (by rw [e]; exact Nat.le_refl _) (fun _ a b => by rw [e] at b; have : d.top = x.t + 1 := b; omega) (fun _ _ => by rw [e])
      · subst q
        exact ⟨by simp, ⟨hlost.1, by show x.lost ≤ _; omega⟩, ⟨Int.le_refl _, by rw [e]; show (0 : Int) ≤ x.t + 1; omega⟩, by simp, by simp⟩
    · rw [v1, e]; show 0 ≤ x.t + 1 ∧ x.t + 1 ≤ d.vb; omega
    · intro q
      have q' : d.own.phase = 3 := by rw [e] at q; exact q
      obtain ⟨r1, r2⟩ := h.three q'
      rw [e]; exact ⟨r1, by show d.own.t ≤ x.t + 1; omega⟩
    · rw [e]; show 1 ≤ d.next ∧ d.next ≤ _; omega
    · have ha := h.all
      rw [hl] at ha
      have e4 : (dsteal d k x).took.map (·.item) = d.took.map (·.item) ++ [x.item] := by rw [e]; simp
      have e5 : (dsteal d k x).next = d.next := by rw [e]
      rw [e4, e5]
      exact perm_first ha
    · intro z hz
      rw [e] at hz
      rcases List.mem_append.1 hz with q | q
      · exact h.who z q
      · rw [List.mem_singleton.1 q]; show 0 ≤ (k : Int) + 1 ∧ (k : Int) + 1 ≤ n; omega
    · rw [e]; show (d.took ++ [_]).length ≤ _; rw [List.length_append, List.length_singleton]; omega
  · have e : dsteal d k x = { d with th := d.th.set k ⟨0, 0, 0, x.lost + 1⟩ } := by unfold dsteal; rw [if_neg h0, if_neg h1, if_neg h2, if_neg c]
    rw [e]
    exact keep _ ⟨by simp, ⟨by show 0 ≤ x.lost + 1; omega, by show x.lost + 1 ≤ _; omega⟩, ⟨Int.le_refl _, ht.1⟩, by simp, by simp⟩

theorem Dq.Inv.more {d : Dq} {n N : Nat} (h : d.Inv n N) : d.Inv n (N + 1) :=
  ⟨h.th, fun x hx => th_mono (h.thief x hx) (Int.le_refl _) (Nat.le_refl _) (fun _ a _ => a) fun _ _ => rfl, h.ph, h.top, h.vb, h.one, h.two, h.three, h.four, ⟨h.next.1, by have := h.next.2; omega⟩, h.all, h.who, by have := h.tk; omega⟩
theorem inv_act {d : Dq} {n N : Nat} (h : d.Inv n N) (a : DqAct) : (dact n d a).Inv n (N + 1) := by
  unfold dact
  by_cases c1 : a.kind = 1 ∨ a.kind = 2
  · rw [if_pos c1]
    by_cases p1 : d.own.phase = 1
    · rw [if_pos p1]; exact inv_push h (.inl p1)
    rw [if_neg p1]
    by_cases p2 : 2 ≤ d.own.phase ∨ a.kind = 2
    · rw [if_pos p2]; exact inv_pop h p1
    rw [if_neg p2]
    by_cases p3 : d.bottom < 40
    · rw [if_pos p3]; exact inv_push h (.inr ⟨by have := h.ph; omega, p3⟩)
    · rw [if_neg p3]; exact h.more
  · rw [if_neg c1]
    by_cases c2 : a.kind = 3 ∧ 0 ≤ a.thief ∧ a.thief < n
    · rw [if_pos c2]
      cases hx : d.th[a.thief.toNat]? with
      | none => exact h.more
      | some x => exact inv_steal h hx
    · rw [if_neg c2]; exact h.more
theorem inv_play (n : Nat) (l : List DqAct) : ∀ k, k ≤ l.length → (dplay n l k).Inv n k
  | 0, _ => inv_start n
  | k + 1, hk => by
    rw [dplay_succ (List.getElem?_eq_getElem (show k < l.length by omega))]
    exact inv_act (inv_play n l k (by omega)) _
end Go.Proofs.Ytkkcgpoakhllkaa
