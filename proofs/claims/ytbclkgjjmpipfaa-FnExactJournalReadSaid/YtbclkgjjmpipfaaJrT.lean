/- JournalRead of program and reference. No condition but the length. -/
import Derived.Test.YtbclkgjjmpipfaaRwL
import Derived.Test.YtbclkgjjmpipfaaUnf
namespace Go.Proofs.Ytbclkgjjmpipfaa
open Go.RowKit Go.Deep

/-- An entry of a journal in memory. -/
structure JE where
  a : Int
  b : Int
  A : Option Addr
  n : Nat
  c : Nat
  rs : List Row
def JE.cells (x : JE) : List Value := [.int .i64 x.a, .int .i64 x.b, .slice x.A x.n x.c]
theorem JE.cells_length (x : JE) : x.cells.length = 3 := rfl
def JE.val (x : JE) : Int × Int × List Row := (x.a, x.b, x.rs)
def lastA (l : List (Int × Int × List Row)) : Int := (l.getLast?.map fun x => x.1).getD 0
theorem lastA_snoc (l : List (Int × Int × List Row)) (x : Int × Int × List Row) : lastA (l ++ [x]) = x.1 := by simp [lastA]
def JStop (t : ByteArray) (l : List (Int × Int × List Row)) : Prop := unfN t = 0 ∨ rwOk (unfS t) = false ∨ rwA (unfS t) ≤ lastA l
/-- What stands in the log: at most m entries, and the place behind them. -/
noncomputable def jTo (s : ByteArray) : Nat → List (Int × Int × List Row) × Nat
  | 0 => ([], 0)
  | m + 1 => if dec (JStop (s.extract (jTo s m).2 s.size) (jTo s m).1) = true then jTo s m
    else ((jTo s m).1 ++ [(rwA (unfS (s.extract (jTo s m).2 s.size)), rwB (unfS (s.extract (jTo s m).2 s.size)), rwR (unfS (s.extract (jTo s m).2 s.size)))], (jTo s m).2 + unfN (s.extract (jTo s m).2 s.size))
theorem jTo_stop {s : ByteArray} {m at_ : Nat} {l : List (Int × Int × List Row)} (h : jTo s m = (l, at_)) (hs : JStop (s.extract at_ s.size) l) : ∀ n, m ≤ n → jTo s n = (l, at_) := by
  intro n
  induction n with
  | zero => intro hn; rw [show (0 : Nat) = m by omega]; exact h
  | succ n ih =>
    intro hn
    by_cases e : m = n + 1
    · rw [← e]; exact h
    · unfold jTo
      rw [ih (by omega), if_pos (dec_yes hs)]
theorem jTo_next {s : ByteArray} {m at_ : Nat} {l : List (Int × Int × List Row)} (h : jTo s m = (l, at_)) (hs : ¬ JStop (s.extract at_ s.size) l) :
    jTo s (m + 1) = (l ++ [(rwA (unfS (s.extract at_ s.size)), rwB (unfS (s.extract at_ s.size)), rwR (unfS (s.extract at_ s.size)))], at_ + unfN (s.extract at_ s.size)) := by
  unfold jTo
  rw [h, dec_no hs]
  rfl
theorem unfN_le (t : ByteArray) : unfN t ≤ t.size := by
  by_cases h : UnfOk t
  · rw [(unf_yes h).2]; exact h.2.1
  · rw [(unf_no h).2]; omega
theorem unfS_size (t : ByteArray) : (unfS t).size ≤ t.size := by
  by_cases h : UnfOk t
  · rw [(unf_yes h).1, ByteArray.size_extract]; omega
  · rw [(unf_no h).1]; exact Nat.zero_le _
theorem rw_pos {u : ByteArray} (h : rwOk u = true) : 1 ≤ rwA u := by
  unfold rwOk at h
  cases hr : readW u with
  | none => rw [hr] at h; cases h
  | some r =>
    obtain ⟨a, b, rs⟩ := r
    rw [(rw_yes hr).1]
    unfold readW at hr
    split at hr
    · cases hr
    · rename_i xs p hv
      split at hr
      · split at hr
        · cases hr
        · rename_i rs' q _
          split at hr
          · rename_i hd
            injection hr with hr
            injection hr with h1 h2
            injection h2 with h2 h3
            have hs := dec_true hd
            rw [h1, h2, h3] at hs
            cases hw : wroteOk a b rs
            · have he : showOf a b rs = ⟨#[]⟩ := by unfold showOf; rw [hw]; rfl
              rw [he] at hs
              rw [← hs] at hv
              have hk : rvK ([] : List UInt8) = 0 := by have h := rvK_le []; simpa using h
              rw [head_no (.inl hk)] at hv
              cases hv
            · exact (dec_true hw).1.1
          · cases hr
      · cases hr
def lenOfV : Value → Nat
  | .slice _ n _ => n
  | _ => 0
/-- Two rows of different kinds lie in two blocks. -/
theorem own_kinds {w : World} {b b' : Nat} {e e' : TypeId} {z z' n n' : Nat} {v v' : Value} {xs xs' : List Value} (h : w.ownsRow b e z v n xs) (h' : w.ownsRow b' e' z' v' n' xs') (hne : e ≠ e') : Apart v v' := fun g hg hg' => by
  rcases h.2 with ⟨rfl, _⟩ | ⟨g1, cap, cur, rfl, _, hh, _⟩
  · simp [Value.ownBlock] at hg
  · rcases h'.2 with ⟨rfl, _⟩ | ⟨g2, cap', cur', rfl, _, hh', _⟩
    · simp [Value.ownBlock] at hg'
    · have e1 : g1 = g := by simpa [Value.ownBlock] using hg
      have e2 : g2 = g := by simpa [Value.ownBlock] using hg'
      subst e1
      subst e2
      rw [hh] at hh'
      injection hh' with hh'
      injection hh' with _ ht
      exact hne ht
/-- The entries' own rows. -/
def Inner (w : World) (base : Nat) (es : List JE) : Prop := ∀ x ∈ es, w.ownsRow base 62 2 (.slice x.A x.n x.c) x.n (x.rs.flatMap Row.cells)
theorem Inner.ext {w w' : World} {base : Nat} {es : List JE} (h : Inner w base es) (k : Ext w w') : Inner w' base es := fun x hx => own_ext (h x hx) k
theorem Inner.chg {w w' : World} {base b : Nat} {es : List JE} {S : Nat → Prop} {v : Value} {n : Nat} {xs : List Value} (h : Inner w base es) (ho : w.ownsRow b 33 3 v n xs) (k : Chg S w w') (hS : ∀ g, S g → v.ownBlock = some g) : Inner w' base es := fun x hx =>
  own_chg (h x hx) k fun g hg hs => own_kinds (h x hx) ho (by decide) g hg (hS g hs)
theorem Inner.snoc {w : World} {base : Nat} {es : List JE} {x : JE} (h : Inner w base es) (hx : w.ownsRow base 62 2 (.slice x.A x.n x.c) x.n (x.rs.flatMap Row.cells)) : Inner w base (es ++ [x]) := fun y hy => by
  rcases List.mem_append.1 hy with hy | hy
  · exact h y hy
  · rw [List.mem_singleton] at hy; subst hy; exact hx
theorem own_empty40 (w : World) : (w.alloc (.cells #[] 33)).ownsRow w.heap.size 33 3 (.slice (some ⟨w.heap.size, 0, none⟩) 0 0) 0 (([] : List JE).flatMap JE.cells) :=
  World.ownsRow_lit w #[] 0 (Nat.le_refl _) (Nat.zero_le _) (by simp)
theorem Try.infoWroteJ : (Try.prog.info? 33).map (fun i => (i.zero, i.size, i.bytes)) = some (some (.agg #[.int .i64 0, .int .i64 0, .slice none 0 0]), 3, 40) := by kernel_rfl
theorem Try.underWroteJ : Try.prog.underlying 40 = some (.slice 33) := by kernel_rfl
theorem last_at {es : List JE} {l : List (Int × Int × List Row)} {j : Nat} (h : es.map JE.val = l) (hl : l.length = j + 1) : ∃ x, es[j]? = some x ∧ x.a = lastA l := by
  subst h
  have hl' : es.length = j + 1 := by simpa using hl
  refine ⟨es[j], List.getElem?_eq_getElem (by omega), ?_⟩
  unfold lastA
  rw [List.getLast?_eq_getElem?, hl, Nat.add_sub_cancel, List.getElem?_map, List.getElem?_eq_getElem (by omega)]
  rfl

end Go.Proofs.Ytbclkgjjmpipfaa
