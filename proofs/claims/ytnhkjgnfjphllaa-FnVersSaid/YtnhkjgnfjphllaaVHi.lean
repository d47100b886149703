/- l11Hist: what a history is drawn of. No condition but the code's length. -/
import Derived.Test.YtnhkjgnfjphllaaVHd
namespace Go.Proofs.Ytnhkjgnfjphllaa
open Go.RowKit Go.Deep
set_option linter.unusedSimpArgs false
set_option linter.unusedVariables false

theorem Try.infoWrote : (Try.prog.info? 64).map (fun i => (i.zero, i.size, i.bytes)) = some (some (.agg #[.int .i64 0, .int .i64 0, .slice none 0 0]), 3, 40) := by kernel_rfl
theorem own_emptyWr (w : World) : (w.alloc (.cells #[] 64)).ownsRow w.heap.size 64 3 (.slice (some ⟨w.heap.size, 0, none⟩) 0 0) 0 (([] : List Ent).flatMap ecell) :=
  World.ownsRow_lit w #[] 0 (Nat.le_refl _) (Nat.zero_le _) (by simp)
theorem own_oneWr (w : World) (p : Ent) : (w.alloc (.cells (ecell p).toArray 64)).ownsRow w.heap.size 64 3 (.slice (some ⟨w.heap.size, 0, none⟩) 1 1) 1 (([p] : List Ent).flatMap ecell) := by
  have h := World.ownsRow_lit (base := w.heap.size) (e := 64) (size := 3) w (ecell p).toArray 1 (Nat.le_refl _) (by unfold maxLen; omega) rfl
  simpa using h
theorem ents_one (es : List Ent) : ∀ u ∈ es.flatMap ecell, u.oneCell' = true := by
  intro u hu
  obtain ⟨x, _, hx⟩ := List.mem_flatMap.1 hu
  simp [ecell] at hx
  rcases hx with h | h | h <;> subst h <;> rfl
/-- The history drawn so far. -/
def HistM (b w : World) (g : Nat) (A : Option Addr) (n c : Nat) (bs : List UInt8) (fr : List Res) (B : Option Addr) (m d : Nat) : Prop := ∃ es : List Ent, (∀ p ∈ es, p.2.puts_.length ≤ 100) ∧ CurM b w g A n c bs (.row 64 3 B m d (es.flatMap ecell) :: (es.map erow ++ fr))
theorem HistM.behind {b w : World} {g : Nat} {A : Option Addr} {n c : Nat} {bs : List UInt8} {fr : List Res} {B : Option Addr} {m d : Nat} {es : List Ent} {p : Ent} (h0 : ∀ p ∈ es, p.2.puts_.length ≤ 100) (hp : p.2.puts_.length ≤ 100) (C : CurM b w g A n c bs (erow p :: .row 64 3 B m d (es.flatMap ecell ++ ecell p) :: (es.map erow ++ fr))) : HistM b w g A n c bs fr B m d := by
  refine ⟨es ++ [p], fun q hq => ?_, ?_⟩
  · rcases List.mem_append.1 hq with h | h
    · exact h0 q h
    · simp at h; subst h; exact hp
  · obtain ⟨i, q, h1, h2, M⟩ := C.st
    refine ⟨⟨i, q, h1, h2, ?_⟩, C.sl⟩
    rw [List.map_append, List.append_assoc, List.flatMap_append]
    have M2 := M.perm (List.Perm.cons _ (List.Perm.swap _ _ _))
    refine Mine.perm (rs := _ :: _ :: erow p :: (es.map erow ++ fr)) (by simpa using M2) (List.Perm.cons _ (List.Perm.cons _ ?_))
    exact List.perm_middle.symm
theorem HistM.front {b w : World} {g : Nat} {A : Option Addr} {n c : Nat} {bs : List UInt8} {fr : List Res} {B : Option Addr} {m d : Nat} {es : List Ent} {p : Ent} (h0 : ∀ p ∈ es, p.2.puts_.length ≤ 100) (hp : p.2.puts_.length ≤ 100) (C : CurM b w g A n c bs (.row 64 3 B m d (ecell p ++ es.flatMap ecell) :: erow p :: (es.map erow ++ fr))) : HistM b w g A n c bs fr B m d := by
  refine ⟨p :: es, fun q hq => ?_, by simpa using C⟩
  rcases List.mem_cons.1 hq with h | h
  · subst h; exact hp
  · exact h0 q h
end Go.Proofs.Ytnhkjgnfjphllaa
