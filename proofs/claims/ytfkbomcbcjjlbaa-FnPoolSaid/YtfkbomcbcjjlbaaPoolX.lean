/- PoolDrain: words. No condition. -/
import Derived.Test.YtfkbomcbcjjlbaaPoolPI
namespace Go.Proofs.Ytfkbomcbcjjlbaa
open Go.RowKit Go.Deep
set_option linter.unusedSimpArgs false
set_option linter.unusedVariables false

theorem wtl_bound {α : Type} (f : α → Nat) (c : Nat) : ∀ (l : List α), (∀ a ∈ l, f a ≤ c) → wtl f l ≤ l.length * (c + 1)
  | [], _ => by simp [wtl]
  | a :: l, h => by
    have h1 := wtl_bound f c l fun x hx => h x (List.mem_cons_of_mem _ hx)
    have h2 := h a (List.mem_cons_self ..)
    simp only [wtl, List.length_cons, Nat.succ_mul]
    omega
theorem PInv.wt_le {ps : List Int} {wk : Nat} {p : Pool} {lo : Int} (hok : tasksOk ps = true) (hwk : wk ≤ 4) (h : PInv ps wk lo p) : Pool.wt p ≤ 1000 := by
  have hps := task_len hok
  have h1 := wtl_bound Order.wt 20 p.queues_ fun o ho => Nat.le_trans (h.q_len ho) hps
  have h2 := h.ran_len
  have h3 := h.end_len
  have e1 := h.lq
  have e2 := h.lc
  have e3 := h.lsp
  have e4 := h.ll
  have e5 := h.ls
  have h4 : p.queues_.length * (20 + 1) ≤ 4 * 21 := by rw [e1]; omega
  unfold Pool.wt
  omega
theorem poolR {b w : World} {qs : List Hdr} {H0 HC HS HL HT HR HE : Hdr} {p : Pool} {fr : List Res} (hq : qs.length = p.queues_.length) (hw : Pool.wt p ≤ 1000)
    (M : Mine b w (.row 62 1 H0.1 H0.2.1 H0.2.2 (qcells qs) :: .row 3 1 HC.1 HC.2.1 HC.2.2 (ints p.cur_) :: .row 3 1 HS.1 HS.2.1 HS.2.2 (ints p.spawned_) :: .row 3 1 HL.1 HL.2.1 HL.2.2 (ints p.left_) :: .row 3 1 HT.1 HT.2.1 HT.2.2 (ints p.state_) :: .row 3 1 HR.1 HR.2.1 HR.2.2 (ints p.ran_) :: .row 3 1 HE.1 HE.2.1 HE.2.2 (ints p.ended_) :: (qrows qs p.queues_ ++ fr))) : Pool.R w (fun _ => True) (plc H0 HC HS HL HT HR HE) p := by
  unfold Pool.wt at hw
  have l0 := M.len1 0 rfl
  have l1 := M.len1 1 rfl
  have l2 := M.len1 2 rfl
  have l3 := M.len1 3 rfl
  have l4 := M.len1 4 rfl
  have l5 := M.len1 5 rfl
  have l6 := M.len1 6 rfl
  rw [ints_length] at l1 l2 l3 l4 l5 l6
  unfold qcells at l0
  rw [List.length_map, hq] at l0
  have hql := wtl_len Order.wt p.queues_
  refine ⟨H0.1, H0.2.1, H0.2.2, HC.1, HC.2.1, HC.2.2, HS.1, HS.2.1, HS.2.2, HL.1, HL.2.1, HL.2.2, HT.1, HT.2.1, HT.2.2, HR.1, HR.2.1, HR.2.2, HE.1, HE.2.1, HE.2.2, rfl, ⟨M.cap 0 rfl, by omega, ?_⟩, ⟨M.cap 1 rfl, by omega, M.row_sl 1 rfl⟩, ⟨M.cap 2 rfl, by omega, M.row_sl 2 rfl⟩, ⟨M.cap 3 rfl, by omega, M.row_sl 3 rfl⟩, ⟨M.cap 4 rfl, by omega, M.row_sl 4 rfl⟩, ⟨M.cap 5 rfl, by omega, M.row_sl 5 rfl⟩, ⟨M.cap 6 rfl, by omega, M.row_sl 6 rfl⟩⟩
  refine ⟨l0, fun hn => ?_⟩
  have hs := M.row_sl 0 rfl
  obtain ⟨b0, o0, e, hb, hlt, hc⟩ := hs.2 hn
  refine ⟨b0, o0, e, trivial, hlt, fun k x hx => ?_⟩
  have hk : k < qs.length := by have := (List.getElem?_eq_some_iff.1 hx).1; omega
  obtain ⟨t, ht⟩ : ∃ t, qs[k]? = some t := ⟨_, List.getElem?_eq_getElem hk⟩
  have r := app_get (fr := fr) (qrows_get ht hx)
  have lk := M.len1 (k + 7) r
  rw [ints_length] at lk
  have hwk := wtl_at Order.wt hx
  unfold Order.wt at hwk
  refine ⟨[.slice t.1 t.2.1 t.2.2], ⟨t.1, t.2.1, t.2.2, rfl, M.cap (k + 7) r, by unfold Order.wt at hw; omega, M.row_sl (k + 7) r⟩, fun j hj => ?_⟩
  obtain rfl : j = 0 := by omega
  have h1 := hc k (by omega)
  rw [qcells_get ht] at h1
  simpa using h1
theorem over_dec (p : Pool) : poolOver p = dec (overP p) := by
  unfold poolOver
  congr 1
  apply propext
  constructor
  · intro h i hi
    have := h i hi _ (gi_get hi)
    exact this
  · intro h i hi a ha
    have := h i hi
    rw [show st p i = gi p.state_ i from rfl, gi_of ha] at this
    exact this
noncomputable def poolDrain (ps : List Int) (wk : Int) (l : List Pick) : Pool × Nat := if tasksOk ps = true ∧ (1 ≤ wk ∧ wk ≤ 4) ∧ l.length ≤ 300 then (pdrain ps wk.toNat 200 (pplay ps wk.toNat (pks l) l.length), pcount ps wk.toNat 200 (pplay ps wk.toNat (pks l) l.length)) else (pzero, 0)
theorem drain_stop {ps : List Int} {wk f : Nat} {p : Pool} (h : overP p) : pdrain ps wk (f + 1) p = p ∧ pcount ps wk (f + 1) p = 0 := by
  unfold pdrain pcount
  rw [dec_yes h]
  exact ⟨if_pos rfl, if_pos rfl⟩
theorem drain_go {ps : List Int} {wk f : Nat} {p : Pool} (h : ¬ overP p) : pdrain ps wk (f + 1) p = pdrain ps wk f (pround ps wk p wk) ∧ pcount ps wk (f + 1) p = pcount ps wk f (pround ps wk p wk) + 1 := by
  rw [pdrain, pcount, dec_no h]
  exact ⟨if_neg (by decide), if_neg (by decide)⟩
theorem Mine.wp_getsg {P : Program} {ops : Array Oper} {rest : List Oper} {o : Oper} {a : Act} {Q : Exit → Act → World → Prop} {b w : World} {rs : List Res} (M : Mine b w rs) (hw : Region.wanted o (yielded ops a.tmps) = true) (ty : TypeId) (x : Operand) (ho : o.op = .load ty x) (i j m : Nat) {g : Nat} {t : TypeId} {cs : List Value} (hi : rs[i]? = some (.box g t cs.toArray)) (hx : a.eval x = .pointer (some ⟨g, j, none⟩)) (hm : j + m ≤ cs.length)
    (d : TypeDesc) (hu : P.underlying ty = some d) (hd : d.isRow = true) (hf : (P.info? ty).map (·.size) = some m) (h : wpList P ops Q rest (a.put o.dst (.agg ((cs.drop j).take m).toArray)) w) : wpList P ops Q (o :: rest) a w :=
  BigFrame.wpList_want hw fun _ hK => by
    have hrun := run_loadVar_mid (P := P) w g j ty ((cs.drop j).take m) d (fun k v hv => by
      rw [(M.box_at i hi).cell]
      rw [List.getElem?_take] at hv
      split at hv
      · rw [List.getElem?_drop] at hv; simpa using hv
      · cases hv) hu hd (by rw [hf, List.length_take, List.length_drop]; congr 1; omega)
    unfold Oper.wp execOp
    simp only [ho, hx, Instr.loadAt, Instr.sureAddr, Sem.run_bind, Sem.run_pure, Result.andThen_ok, hrun]
    exact hK _ _ h
/-- What a call has made stands ahead of what was there. -/
theorem Mine.join {b w w' : World} {rs rs' : List Res} (M : Mine b w rs) (k : Mine w w' (rs' ++ [])) : Mine b w' (rs' ++ rs) := by
  rw [List.append_nil] at k
  exact M.call k

end Go.Proofs.Ytfkbomcbcjjlbaa
