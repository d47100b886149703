/- The pool, owned: words. No condition. -/
import Derived.Test.YtfkbomcbcjjlbaaPoolD
import Derived.Test.YtfkbomcbcjjlbaaFlat
namespace Go.Proofs.Ytfkbomcbcjjlbaa
open Go.RowKit Go.Deep
set_option linter.unusedSimpArgs false
set_option linter.unusedVariables false

/-- A new thing takes an old one's place. -/
theorem Mine.repl {b w : World} {r : Res} {rs : List Res} (M : Mine b w (r :: rs)) {i : Nat} (hi : i < rs.length) : Mine b w (rs.set i r) := by
  have e : rs = rs.take i ++ rs[i] :: rs.drop (i + 1) := by rw [← List.drop_eq_getElem_cons hi, List.take_append_drop]
  have e2 : rs.set i r = rs.take i ++ r :: rs.drop (i + 1) := List.set_eq_take_append_cons_drop.trans (by rw [if_pos hi])
  have M1 : Mine b w (r :: (rs.take i ++ rs[i] :: rs.drop (i + 1))) := by rw [← e]; exact M
  have M2 : Mine b w (rs.take i ++ r :: (rs[i] :: rs.drop (i + 1))) := M1.perm List.perm_middle.symm
  rw [e2]
  exact M2.sub (List.Sublist.append_left (.cons_cons r (.cons _ (List.Sublist.refl _))) _)
/-- A queue's slice. -/
abbrev Hdr := Option Addr × Nat × Nat
def Hdr.val (t : Hdr) : Value := .slice t.1 t.2.1 t.2.2
def qcells (qs : List Hdr) : List Value := qs.map Hdr.val
def qrows : List Hdr → List Order → List Res
  | t :: qs, o :: os => .row 3 1 t.1 t.2.1 t.2.2 (ints o.kids_) :: qrows qs os
  | _, _ => []
theorem qrows_len : ∀ (qs : List Hdr) (os : List Order), qs.length = os.length → (qrows qs os).length = os.length
  | [], [], _ => rfl
  | t :: qs, o :: os, h => by rw [qrows, List.length_cons, List.length_cons, qrows_len qs os (by simpa using h)]
theorem qrows_get : ∀ {qs : List Hdr} {os : List Order} {q : Nat} {t : Hdr} {o : Order}, qs[q]? = some t → os[q]? = some o → (qrows qs os)[q]? = some (.row 3 1 t.1 t.2.1 t.2.2 (ints o.kids_))
  | [], _, _, _, _, h, _ => by simp at h
  | _ :: _, [], _, _, _, _, h => by simp at h
  | t' :: qs, o' :: os, 0, t, o, h, k => by simp at h k; subst h k; rfl
  | t' :: qs, o' :: os, q + 1, t, o, h, k => by
    rw [qrows, List.getElem?_cons_succ]
    exact qrows_get (by simpa using h) (by simpa using k)
theorem qrows_set : ∀ {qs : List Hdr} {os : List Order} {q : Nat} (t : Hdr) (l : List Int), qs.length = os.length → (qrows qs os).set q (.row 3 1 t.1 t.2.1 t.2.2 (ints l)) = qrows (qs.set q t) (os.set q ⟨l⟩)
  | [], [], _, _, _, _ => by simp [qrows]
  | t' :: qs, o' :: os, 0, t, l, _ => by simp [qrows]
  | t' :: qs, o' :: os, q + 1, t, l, h => by
    rw [List.set_cons_succ, List.set_cons_succ, qrows, qrows, List.set_cons_succ, qrows_set t l (by simpa using h)]
theorem qcells_set (qs : List Hdr) (q : Nat) (t : Hdr) : (qcells qs).set q (.slice t.1 t.2.1 t.2.2) = qcells (qs.set q t) := by
  unfold qcells
  rw [List.map_set]
  rfl
theorem qcells_get {qs : List Hdr} {q : Nat} {t : Hdr} (h : qs[q]? = some t) : (qcells qs)[q]? = some (.slice t.1 t.2.1 t.2.2) := by
  unfold qcells
  rw [List.getElem?_map, h]
  rfl
def plc (H0 HC HS HL HT HR HE : Hdr) : List Value := [H0.val, HC.val, HS.val, HL.val, HT.val, HR.val, HE.val]
/-- A pool that is owned, behind its variable. -/
def PoolM (b w : World) (g : Nat) (p : Pool) (fr : List Res) : Prop := ∃ (qs : List Hdr) (H0 HC HS HL HT HR HE : Hdr), qs.length = p.queues_.length ∧
  Mine b w (.box g 36 (plc H0 HC HS HL HT HR HE).toArray :: .row 62 1 H0.1 H0.2.1 H0.2.2 (qcells qs) :: .row 3 1 HC.1 HC.2.1 HC.2.2 (ints p.cur_) :: .row 3 1 HS.1 HS.2.1 HS.2.2 (ints p.spawned_) :: .row 3 1 HL.1 HL.2.1 HL.2.2 (ints p.left_) :: .row 3 1 HT.1 HT.2.1 HT.2.2 (ints p.state_) :: .row 3 1 HR.1 HR.2.1 HR.2.2 (ints p.ran_) :: .row 3 1 HE.1 HE.2.1 HE.2.2 (ints p.ended_) :: (qrows qs p.queues_ ++ fr))
/-- A pool that is owned, as a value. -/
def PoolV (b w : World) (vs : List Value) (p : Pool) (fr : List Res) : Prop := ∃ (qs : List Hdr) (H0 HC HS HL HT HR HE : Hdr), vs = plc H0 HC HS HL HT HR HE ∧ qs.length = p.queues_.length ∧
  Mine b w (.row 62 1 H0.1 H0.2.1 H0.2.2 (qcells qs) :: .row 3 1 HC.1 HC.2.1 HC.2.2 (ints p.cur_) :: .row 3 1 HS.1 HS.2.1 HS.2.2 (ints p.spawned_) :: .row 3 1 HL.1 HL.2.1 HL.2.2 (ints p.left_) :: .row 3 1 HT.1 HT.2.1 HT.2.2 (ints p.state_) :: .row 3 1 HR.1 HR.2.1 HR.2.2 (ints p.ran_) :: .row 3 1 HE.1 HE.2.1 HE.2.2 (ints p.ended_) :: (qrows qs p.queues_ ++ fr))
end Go.Proofs.Ytfkbomcbcjjlbaa
