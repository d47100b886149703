/- A history that is owned: a row of entries, the puts of each a row of its own; how it reads. No condition. -/
import Derived.Test.YtnhkjgnfjphllaaVDr
namespace Go.Proofs.Ytnhkjgnfjphllaa
open Go.RowKit Go.Deep
set_option linter.unusedSimpArgs false
set_option linter.unusedVariables false

/-- An entry and where its puts lie. -/
abbrev Ent := (Option Addr × Nat × Nat) × Wrote
def ecell (p : Ent) : List Value := [.int .i64 p.2.stamp_, .int .i64 p.2.who_, .slice p.1.1 p.1.2.1 p.1.2.2]
def erow (p : Ent) : Res := .row 84 2 p.1.1 p.1.2.1 p.1.2.2 (p.2.puts_.flatMap Row.cells)
theorem ecell_length (p : Ent) : (ecell p).length = 3 := rfl
theorem hist_R {b w : World} {es : List Ent} {B : Option Addr} {m d : Nat} {fr : List Res} (M : Mine b w (.row 64 3 B m d (es.flatMap ecell) :: (es.map erow ++ fr))) (hp : ∀ p ∈ es, p.2.puts_.length ≤ 1048576) :
    SlR Wrote.R 3 w (fun _ => True) B m (es.map (·.2)) := by
  have h := M.row_sl 0 rfl
  have hl : es.length = m := h.flen ecell_length (by omega)
  refine ⟨by simpa using hl, fun hn => ?_⟩
  obtain ⟨b', o, e, hS, hb, hc⟩ := h.2 hn
  refine ⟨b', o, e, trivial, hb, fun k x hx => ?_⟩
  rw [List.getElem?_map] at hx
  obtain ⟨p, hpk, rfl⟩ := Option.map_eq_some_iff.1 hx
  have hk := (List.getElem?_eq_some_iff.1 hpk).1
  have hi : (Res.row 64 3 B m d (es.flatMap ecell) :: (es.map erow ++ fr))[k + 1]? = some (erow p) := by
    rw [List.getElem?_cons_succ, List.getElem?_append_left (by simpa using hk), List.getElem?_map, hpk]; rfl
  have hr := M.row_at (k + 1) hi
  have hn0 : p.2.puts_.length = p.1.2.1 := (ownSl hr).flen Row.cells_length (by omega)
  refine ⟨ecell p, ⟨p.1.1, p.1.2.1, p.1.2.2, rfl, own_cap hr, ?_, ownSl hr⟩, fun j hj => ?_⟩
  · have := hp p (List.mem_of_getElem? hpk); omega
  · rw [Nat.add_assoc]
    exact (hc (k * 3 + j) (by omega)).trans (flat_get ecell_length es k j p hpk hj)
end Go.Proofs.Ytnhkjgnfjphllaa
