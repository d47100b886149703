/- How a slice of bytes that came in reads. No condition. -/
import Derived.Test.YtnhkjgnfjphllaaOpen
import Derived.Test.YtnhkjgnfjphllaaDraw
namespace Go.Proofs.Ytnhkjgnfjphllaa
open Go.ChangeShapes Go.WideShapes Go.ChangeAt Go.RowKit Go.Deep

theorem wf_u8 {z : Int} (h : (Lit.int .u8 z).wf = true) : 0 ≤ z ∧ z ≤ 255 := by
  simp [Lit.wf, IntKind.min, IntKind.max, IntKind.signed, IntKind.bits] at h
  omega
theorem opens_bytes {P : Program} {t e : TypeId} (ht : P.underlying t = some (.slice e)) (he : P.underlying e = some (.int .u8)) (hc : P.cellsOf e = 1) :
    Opens P t (fun w cs (l : List UInt8) => ∃ A n c, cs = [.slice A n c] ∧ n ≤ c ∧ c ≤ maxLen ∧ l.length = n ∧ True ∧ Sl w (fun _ => True) 1 A n (charsD l)) := by
  intro H enc w base spare held fuel cs x h
  obtain ⟨l, A, n, c, h1, h2, h3, h4, h5, h6⟩ := opens_flat (cells := fun z : Int => [Value.int .u8 z]) ht hc (by omega) (fun _ => rfl) (opens_int he) H enc w base spare held fuel cs x h
  refine ⟨l.map fun z => UInt8.ofNat z.toNat, A, n, c, h1, h2, h3, by simpa using h4, trivial, ?_⟩
  have e1 : charsD (l.map fun z => UInt8.ofNat z.toNat) = l.flatMap (fun z => [Value.int .u8 z]) := by
    clear h4 h6
    induction l with
    | nil => rfl
    | cons z l ih =>
      have hz := wf_u8 (h5 z (List.mem_cons_self ..))
      have e2 : ((UInt8.ofNat z.toNat).toNat : Int) = z := by simp ; omega
      show .int .u8 ((UInt8.ofNat z.toNat).toNat : Int) :: charsD (l.map fun z => UInt8.ofNat z.toNat) = .int .u8 z :: l.flatMap (fun z => [Value.int .u8 z])
      rw [e2, ih (fun a ha => h5 a (List.mem_cons_of_mem _ ha))]
  rw [e1]
  exact h6
end Go.Proofs.Ytnhkjgnfjphllaa
