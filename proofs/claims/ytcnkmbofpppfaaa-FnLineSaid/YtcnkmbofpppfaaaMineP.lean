/- append(s, xs...) onto an owned row in a region that draws; what a box shows. No condition. -/
import Derived.Test.YtcnkmbofpppfaaaMineV
import Derived.Test.YtcnkmbofpppfaaaPour
import Derived.Test.YtcnkmbofpppfaaaFlat
namespace Go.Proofs.Ytcnkmbofpppfaaa
open Go.RowKit Go.Deep
set_option linter.unusedSimpArgs false
set_option linter.unusedVariables false

/-- append(s, xs...) at a row of the call's own, as a step of a region that draws. -/
theorem Mine.step_pour {P : Program} {ops : Array Oper} {o : Oper} {a : Act} {Q : Exit → Act → World → Prop} {b w : World} {rs : List Res} {K : Act → World → Prop} {E : Prop} (M : Mine b w rs) (hgd : o.guard = none) (s x : Operand) (t : TypeId) (ho : o.op = .call { callee := .builtin .append, args := #[s, x], argTypes := #[t, t] })
    (e : TypeId) (z : Value) (size bytes : Nat) (ht : P.underlying t = some (.slice e)) (hf : (P.info? e).map (fun i => (i.zero, i.size, i.bytes)) = some (some z, size, bytes)) (hzs : z.cells.size = size) (hsz : 0 < size)
    (i : Nat) {A0 : Option Addr} {n0 c0 : Nat} {xs : List Value} (hi : rs[i]? = some (.row e size A0 n0 c0 xs)) (hs : a.eval s = .slice A0 n0 c0)
    (S : Nat → Prop) (A : Option Addr) (m c : Nat) (news : List Value) (hx : a.eval x = .slice A m c) (hr : Sl w S size A m news) (h1 : ∀ u ∈ news, u.oneCell' = true)
    (hbytes : (n0 + m) * bytes ≤ 140737488355328) (h63 : n0 + m ≤ maxLen)
    (h : ∀ A' c' w', Mine b w' (rs.set i (.row e size A' (n0 + m) c' (xs ++ news))) → K (a.put o.dst (.slice A' (n0 + m) c')) w') :
    if Region.wanted o (yielded ops a.tmps) = true then Oper.wp P o a w K Q else E := by
  have hw : Region.wanted o (yielded ops a.tmps) = true := by simp [Region.wanted, hgd]
  rw [if_pos hw]
  obtain ⟨i0, hf, hz0, hz1, hz2⟩ := info_parts hf
  obtain ⟨v', w', hrun, h2, h3, h5⟩ := run_pour (P := P) w b.heap.size t o.type e i0 z size bytes ht hf hz0 hz1 hz2 hzs hsz (.slice A0 n0 c0) n0 xs (M.row_at i hi) S A m c news hr h1 h63 hbytes M.size
  obtain ⟨A', c', rfl⟩ : ∃ A' c', v' = .slice A' (n0 + m) c' := by
    rcases h2.2 with ⟨hv, h0⟩ | ⟨g, cap, cur, hv, _⟩
    · exact ⟨none, 0, by rw [hv, h0]⟩
    · exact ⟨_, _, hv⟩
  unfold Oper.wp execOp
  simp [ho, resolve, invoke, builtin, hs, hx, hrun, Result.andThen]
  refine h A' c' w' (M.swap hi ((Chg.refl _ w).grown h3 (fun k hk => .inl hk)) (fun g hg => hg) h2 fun g hg => ?_)
  rcases h5 with q | q
  · exact .inl (by show (Value.slice A0 n0 c0).ownBlock = some g; rw [← q]; exact hg)
  · right
    have hg' : (Value.slice A' (n0 + m) c').ownBlock = some g := hg
    rw [q] at hg'
    injection hg' with hg'
    omega
theorem Mine.box_sl {b w : World} {rs : List Res} (M : Mine b w rs) (i : Nat) {g : Nat} {t : TypeId} {xs : List Value} (hi : rs[i]? = some (.box g t xs.toArray)) : Sl w (fun _ => True) 1 (some ⟨g, 0, none⟩) xs.length xs :=
  ⟨by omega, fun _ => ⟨g, 0, rfl, trivial, (M.box_at i hi).lt, fun j _ => by rw [(M.box_at i hi).cell]; simp⟩⟩
theorem Mine.flip' {b w : World} {r s : Res} {fr : List Res} (M : Mine b w (r :: s :: fr)) : Mine b w (s :: r :: fr) := M.perm (List.Perm.swap _ _ _)
/-- A thing goes behind the first ones. -/
theorem Mine.sink {b w : World} {r : Res} (l : List Res) {fr : List Res} (M : Mine b w (r :: (l ++ fr))) : Mine b w (l ++ r :: fr) := M.perm List.perm_middle.symm
theorem Mine.rise {b w : World} {r : Res} (l : List Res) {fr : List Res} (M : Mine b w (l ++ r :: fr)) : Mine b w (r :: (l ++ fr)) := M.perm List.perm_middle
/-- One thing of the middle goes. -/
theorem Mine.drop_at {b w : World} {r : Res} (l : List Res) {fr : List Res} (M : Mine b w (l ++ r :: fr)) : Mine b w (l ++ fr) := (M.rise l).sub (List.Sublist.cons _ (List.Sublist.refl _))
end Go.Proofs.Ytcnkmbofpppfaaa
