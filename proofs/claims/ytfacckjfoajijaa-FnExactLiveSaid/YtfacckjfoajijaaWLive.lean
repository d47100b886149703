/- Indices of the roots that have a property. No condition. -/
import Derived.Test.YtfacckjfoajijaaWSet
import Derived.Test.YtfacckjfoajijaaWWorld
import Derived.Test.YtfacckjfoajijaaMineA
import Derived.Test.YtfacckjfoajijaaFlat
namespace Go.Proofs.Ytfacckjfoajijaa
open Go.RowKit Go.Deep
set_option linter.unusedSimpArgs false
set_option linter.unusedVariables false

/-- The indices below k of those that have the property. -/
def pickTo (p : Root → Bool) (l : List Root) : Nat → List Int
  | 0 => []
  | k + 1 => match l[k]? with
    | some r => if p r = true then pickTo p l k ++ [(k : Int)] else pickTo p l k
    | none => pickTo p l k
theorem pick_yes {p : Root → Bool} {l : List Root} {k : Nat} {r : Root} (h : l[k]? = some r) (hp : p r = true) : pickTo p l (k + 1) = pickTo p l k ++ [(k : Int)] := by simp [pickTo, h, hp]
theorem pick_no {p : Root → Bool} {l : List Root} {k : Nat} {r : Root} (h : l[k]? = some r) (hp : p r = false) : pickTo p l (k + 1) = pickTo p l k := by simp [pickTo, h, hp]
theorem pick_len (p : Root → Bool) (l : List Root) : ∀ k, (pickTo p l k).length ≤ k
  | 0 => Nat.le_refl _
  | k + 1 => by
    have ih := pick_len p l k
    rw [pickTo]
    split
    · split
      · rw [List.length_append]; simp; omega
      · omega
    · omega
theorem pick_mem {p : Root → Bool} {l : List Root} {x : Int} : ∀ {k : Nat}, x ∈ pickTo p l k ↔ ∃ (i : Nat) (r : Root), i < k ∧ x = (i : Int) ∧ l[i]? = some r ∧ p r = true
  | 0 => by simp [pickTo]
  | k + 1 => by
    have ih := pick_mem (p := p) (l := l) (x := x) (k := k)
    constructor
    · intro h
      rw [pickTo] at h
      split at h
      · rename_i r hr
        split at h
        · rename_i hp
          rcases List.mem_append.1 h with q | q
          · obtain ⟨i, s, a, b, c, d⟩ := ih.1 q
            exact ⟨i, s, by omega, b, c, d⟩
          · simp at q; exact ⟨k, r, by omega, q, hr, hp⟩
        · obtain ⟨i, s, a, b, c, d⟩ := ih.1 h
          exact ⟨i, s, by omega, b, c, d⟩
      · obtain ⟨i, s, a, b, c, d⟩ := ih.1 h
        exact ⟨i, s, by omega, b, c, d⟩
    · rintro ⟨i, r, hi, hx, hr, hp⟩
      by_cases e : i = k
      · subst e; rw [pick_yes hr hp]; exact List.mem_append_right _ (by rw [hx]; exact List.mem_singleton.2 rfl)
      · have h1 := ih.2 ⟨i, r, by omega, hx, hr, hp⟩
        rw [pickTo]
        split
        · split
          · exact List.mem_append_left _ h1
          · exact h1
        · exact h1
theorem pick_asc (p : Root → Bool) (l : List Root) : ∀ k, (pickTo p l k).Pairwise (· < ·)
  | 0 => List.Pairwise.nil
  | k + 1 => by
    have ih := pick_asc p l k
    rw [pickTo]
    split
    · split
      · rw [List.pairwise_append]
        refine ⟨ih, by simp, fun a ha b hb => ?_⟩
        obtain ⟨i, r, h1, h2, _⟩ := pick_mem.1 ha
        simp at hb; omega
      · exact ih
    · exact ih
theorem own_emptyI (w : World) : (w.alloc (.cells #[] 3)).ownsRow w.heap.size 3 1 (.slice (some ⟨w.heap.size, 0, none⟩) 0 0) 0 (ints []) :=
  World.ownsRow_lit w #[] 0 (Nat.le_refl _) (Nat.zero_le _) (by simp [ints])
theorem Root.first {w : World} {S : Nat → Prop} {row : List Value} {r : Root} (h : Root.R w S row r) : row.toArray[0]? = some (.int .i64 r.phase_) := by
  obtain ⟨A0, n0, c0, A1, n1, c1, A2, n2, c2, A3, n3, c3, A4, n4, c4, A5, n5, c5, A6, n6, c6, A7, n7, c7, A8, n8, c8, A9, n9, c9, A10, n10, c10, A11, n11, c11, A12, n12, c12, A13, n13, c13, rfl⟩ := Root.R_cells h
  rfl
theorem Root.R_one {w : World} {S : Nat → Prop} {row : List Value} {r : Root} (h : Root.R w S row r) : ∀ v ∈ row, v.oneCell' = true := by
  obtain ⟨A0, n0, c0, A1, n1, c1, A2, n2, c2, A3, n3, c3, A4, n4, c4, A5, n5, c5, A6, n6, c6, A7, n7, c7, A8, n8, c8, A9, n9, c9, A10, n10, c10, A11, n11, c11, A12, n12, c12, A13, n13, c13, rfl⟩ := Root.R_cells h
  simp [Value.oneCell']
/-- A root of the caller's: its row, where it lies. -/
theorem root_at {w : World} {S : Nat → Prop} {b o n k : Nat} {l : List Root} (h : SlR Root.R 40 w S (some ⟨b, o, none⟩) n l) (hk : k < n) : ∃ (r : Root) (row : List Value), l[k]? = some r ∧ b < w.heap.size ∧ Root.R w S row r ∧ row.length = 40 ∧ w.rangeAt b (o + k * 40) row := by
  obtain ⟨r, row, hr, hb, hrw, hc⟩ := h.at_ hk
  exact ⟨r, row, hr, hb, hrw, Root.R_good.len hrw, SlR.range Root.R_good hrw hc⟩
/-- Alive: neither idle nor done. -/
noncomputable def liveB (r : Root) : Bool := dec (r.phase_ ≠ 0 ∧ r.phase_ ≠ 8)
noncomputable def liveOf (x : GWorld) : List Int := pickTo liveB x.roots_ x.roots_.length
theorem roots_le (x : GWorld) (h : GWorld.wt x ≤ 1048576) : x.roots_.length ≤ 1048576 := by
  have h1 := wtl_len Root.wt x.roots_
  unfold GWorld.wt at h
  omega

set_option maxRecDepth 8000 in
set_option maxHeartbeats 16000000 in
theorem impl_Live (x : GWorld) (cs : List Value) (w : World) (S : Nat → Prop) (h : GWorld.R w S cs x) (_hw : GWorld.wt x ≤ 1048576) :
    Calls Try.prog 21 #[.agg cs.toArray] w fun e w' => ∃ B m d, e = .returned (.slice B m d) ∧ w'.ownsRow w.heap.size 3 1 (.slice B m d) m (ints (liveOf x)) ∧ Ext w w' := by
  obtain ⟨v0, v1, A2, n2, c2, A3, n3, c3, A4, n4, c4, rfl, h0, h1, ⟨kh2, mh2, h2⟩, ⟨kh3, mh3, h3⟩, ⟨kh4, mh4, h4⟩⟩ := h
  obtain ⟨A0, n0, c0, rfl⟩ := Mem.R_cells h0
  obtain ⟨A1, n1, c1, rfl⟩ := Shelf.R_cells h1
  have HR := Lib.hid h3
  have HRN := Lib.hid h3.1
  have hn3 : n3 ≤ 1048576 := by have a := roots_le x _hw; have b := HRN.out; omega
  clear h0 h1 h2 h3 h4
  have M : Hid (Mine w (w.alloc (.cells #[.int .i64 x.now_, .int .i64 x.token_, .int .i64 x.mem_.clock_, .slice A0 n0 c0, .slice A1 n1 c1, .int .i64 x.shelf_.count_, .slice A2 n2 c2, .slice A3 n3 c3, .slice A4 n4 c4] 74)) [.box w.heap.size 74 #[.int .i64 x.now_, .int .i64 x.token_, .int .i64 x.mem_.clock_, .slice A0 n0 c0, .slice A1 n1 c1, .int .i64 x.shelf_.count_, .slice A2 n2 c2, .slice A3 n3 c3, .slice A4 n4 c4]]) := (Mine.refl w).box 74 #[.int .i64 x.now_, .int .i64 x.token_, .int .i64 x.mem_.clock_, .slice A0 n0 c0, .slice A1 n1 c1, .int .i64 x.shelf_.count_, .slice A2 n2 c2, .slice A3 n3 c3, .slice A4 n4 c4]
  skip
  show Calls Try.prog _ #[.agg #[.int .i64 x.now_, .int .i64 x.token_, .int .i64 x.mem_.clock_, .slice A0 n0 c0, .slice A1 n1 c1, .int .i64 x.shelf_.count_, .slice A2 n2 c2, .slice A3 n3 c3, .slice A4 n4 c4]] w _
  go_enter Try.func21, Try.ntmps21
  replace M := Lib.hid (M.out.own (own_emptyI _) ((Ext.refl' _).al _))
  simp only [World.heap_alloc_size] at M
  go_wp2_with (first | ((with_reducible show wpList _ _ _ (⟨_, _, _, _, _, none⟩ :: _) _ _); first | (refine Mine.wp_get M.out rfl _ _ rfl 1 _ rfl rfl _ rfl _ (by first | exact Try.underlying71) (by rfl) ?_; (try simp only [Act.put, List.setIfInBounds_toArray, List.set_cons_zero, List.set_cons_succ, List.drop_succ_cons, List.drop_zero, List.take_succ_cons, List.take_zero, putAt, ints_set, ints_push, List.getElem_toArray, List.getElem_cons_zero, List.getElem_cons_succ]))))
  go_loopw [3, 10] (fun u i wr => ∃ (k m d : Nat) (B : Option Addr), k ≤ n3 ∧ u = .slice B m d ∧ i = .int .i64 k ∧ Hid (Mine w wr [.row 3 1 B m d (ints (pickTo liveB x.roots_ k)), .box w.heap.size 74 #[.int .i64 x.now_, .int .i64 x.token_, .int .i64 x.mem_.clock_, .slice A0 n0 c0, .slice A1 n1 c1, .int .i64 x.shelf_.count_, .slice A2 n2 c2, .slice A3 n3 c3, .slice A4 n4 c4]])) (fun _ i _ => n3 - (intOf i).toNat)
  case atStart => exact ⟨0, _, _, _, Nat.zero_le _, rfl, rfl, M⟩
  case round =>
    clear M
    obtain ⟨k, m, d, B, hk, rfl, rfl, M⟩ := hrel
    by_cases hlt : (k : Int) < (n3 : Int)
    rotate_left
    · have e : Hid (k = x.roots_.length) := by show k = _; have a := HRN.out; omega
      go_wp2
      go_ret
      exact ⟨_, _, _, rfl, by unfold liveOf; rw [← e.out]; exact M.out.row_at 0 rfl, M.out.ext⟩
    have HLT : Hid (k < n3) := by show _ < _; omega
    obtain ⟨b, o, rfl⟩ := HR.out.addr (by omega)
    obtain ⟨r, row, hsk, hrb, hrw, hrl, hrg⟩ := root_at HR.out (k := k) (by omega)
    have HSK := Lib.hid hsk
    have HRW := Lib.hid hrw
    have HRL := Lib.hid hrl
    have HRG := Lib.hid hrg
    have HRB := Lib.hid hrb
    have hf0 := Root.first hrw
    clear hsk hrw hrl hrg hrb
    have hm : m ≤ 1048576 := by have h1 := M.out.len1 0 rfl; rw [ints_length] at h1; have h2 := pick_len liveB x.roots_ k; omega
    by_cases h0 : r.phase_ = 0
    · have b0 : (r.phase_ != 0) = false := by simp [h0]
      have HN : Hid (liveB r = false) := dec_no fun q => q.1 h0
      clear h0
      go_wp2_with (first | ((with_reducible show wpList _ _ _ (⟨_, _, _, _, _, none⟩ :: _) _ _); first | (refine Mine.wp_arg M.out rfl 49 _ rfl _ _ rfl row HRG.out HRB.out _ Try.underlying49 (by rfl) (by rw [HRL.out]; kernel_rfl) ?_; (try simp only [Act.put, List.setIfInBounds_toArray, List.set_cons_zero, List.set_cons_succ, List.drop_succ_cons, List.drop_zero, List.take_succ_cons, List.take_zero, putAt, ints_set, ints_push, List.getElem_toArray, List.getElem_cons_zero, List.getElem_cons_succ])) | (refine Mine.wp_allocany M.out rfl 49 rfl 40 (by kernel_rfl) ?_; intro gx w' zx hzx M'; replace M := Lib.hid M'; clear M'; (try simp only [Act.put, List.setIfInBounds_toArray, List.set_cons_zero, List.set_cons_succ, List.drop_succ_cons, List.drop_zero, List.take_succ_cons, List.take_zero, putAt, ints_set, ints_push, List.getElem_toArray, List.getElem_cons_zero, List.getElem_cons_succ])) | (refine Mine.wp_setall M.out rfl 49 _ _ rfl rfl 0 rfl rfl _ rfl (by rw [hzx, HRL.out]) (Root.R_one HRW.out) (by rw [HRL.out]; kernel_rfl) ?_; intro w' M'; (try simp only [Act.put, List.setIfInBounds_toArray, List.set_cons_zero, List.set_cons_succ, List.drop_succ_cons, List.drop_zero, List.take_succ_cons, List.take_zero, putAt, ints_set, ints_push, List.getElem_toArray, List.getElem_cons_zero, List.getElem_cons_succ] at M'); replace M := Lib.hid M'; clear M') | (refine Mine.wp_get M.out rfl _ _ rfl 0 _ rfl rfl _ (by assumption) _ (by first | exact Try.underlying3) (by rfl) ?_; (try simp only [Act.put, List.setIfInBounds_toArray, List.set_cons_zero, List.set_cons_succ, List.drop_succ_cons, List.drop_zero, List.take_succ_cons, List.take_zero, putAt, ints_set, ints_push, List.getElem_toArray, List.getElem_cons_zero, List.getElem_cons_succ]))))
      go_roundw
      case rel => exact ⟨k + 1, m, d, B, HLT.out, rfl, by go_num, Lib.hid (by rw [pick_no HSK.out HN.out]; exact M.out.tail)⟩
      case measure => have := HLT.out; simp [intOf]; omega
    have b0 : (r.phase_ != 0) = true := by simp [h0]
    by_cases h8 : r.phase_ = 8
    · have b8 : (r.phase_ != 8) = false := by simp [h8]
      have HN : Hid (liveB r = false) := dec_no fun q => q.2 h8
      clear h0 h8
      go_wp2_with (first | ((with_reducible show wpList _ _ _ (⟨_, _, _, _, _, none⟩ :: _) _ _); first | (refine Mine.wp_arg M.out rfl 49 _ rfl _ _ rfl row HRG.out HRB.out _ Try.underlying49 (by rfl) (by rw [HRL.out]; kernel_rfl) ?_; (try simp only [Act.put, List.setIfInBounds_toArray, List.set_cons_zero, List.set_cons_succ, List.drop_succ_cons, List.drop_zero, List.take_succ_cons, List.take_zero, putAt, ints_set, ints_push, List.getElem_toArray, List.getElem_cons_zero, List.getElem_cons_succ])) | (refine Mine.wp_allocany M.out rfl 49 rfl 40 (by kernel_rfl) ?_; intro gx w' zx hzx M'; replace M := Lib.hid M'; clear M'; (try simp only [Act.put, List.setIfInBounds_toArray, List.set_cons_zero, List.set_cons_succ, List.drop_succ_cons, List.drop_zero, List.take_succ_cons, List.take_zero, putAt, ints_set, ints_push, List.getElem_toArray, List.getElem_cons_zero, List.getElem_cons_succ])) | (refine Mine.wp_setall M.out rfl 49 _ _ rfl rfl 0 rfl rfl _ rfl (by rw [hzx, HRL.out]) (Root.R_one HRW.out) (by rw [HRL.out]; kernel_rfl) ?_; intro w' M'; (try simp only [Act.put, List.setIfInBounds_toArray, List.set_cons_zero, List.set_cons_succ, List.drop_succ_cons, List.drop_zero, List.take_succ_cons, List.take_zero, putAt, ints_set, ints_push, List.getElem_toArray, List.getElem_cons_zero, List.getElem_cons_succ] at M'); replace M := Lib.hid M'; clear M') | (refine Mine.wp_get M.out rfl _ _ rfl 0 _ rfl rfl _ (by assumption) _ (by first | exact Try.underlying3) (by rfl) ?_; (try simp only [Act.put, List.setIfInBounds_toArray, List.set_cons_zero, List.set_cons_succ, List.drop_succ_cons, List.drop_zero, List.take_succ_cons, List.take_zero, putAt, ints_set, ints_push, List.getElem_toArray, List.getElem_cons_zero, List.getElem_cons_succ]))) | ((with_reducible show wpList _ _ _ (⟨_, .load _ _, _, _, _, some _⟩ :: _) _ _); first | (refine Mine.wp_getg M.out (by rfl) _ _ rfl 0 _ rfl rfl _ (by assumption) _ (by first | exact Try.underlying3) (by rfl) ?_; (try simp only [Act.put, List.setIfInBounds_toArray, List.set_cons_zero, List.set_cons_succ, List.drop_succ_cons, List.drop_zero, List.take_succ_cons, List.take_zero, putAt, ints_set, ints_push, List.getElem_toArray, List.getElem_cons_zero, List.getElem_cons_succ]))))
      go_roundw
      case rel => exact ⟨k + 1, m, d, B, HLT.out, rfl, by go_num, Lib.hid (by rw [pick_no HSK.out HN.out]; exact M.out.tail)⟩
      case measure => have := HLT.out; simp [intOf]; omega
    have b8 : (r.phase_ != 8) = true := by simp [h8]
    have HY : Hid (liveB r = true) := dec_yes ⟨h0, h8⟩
    clear h0 h8
    go_wp2_with (first | (at_builtin; refine Mine.wp_push M.out rfl _ _ 22 rfl 3 _ _ _ Try.underlying22 Try.infoInt rfl (by omega) 1 rfl rfl _ _ rfl rfl rfl (by simp [Value.oneCell']) (by omega) (by unfold maxLen; omega) ?_; intro A2 c2 w' M'; (try simp only [Act.put, List.setIfInBounds_toArray, List.set_cons_zero, List.set_cons_succ, List.drop_succ_cons, List.drop_zero, List.take_succ_cons, List.take_zero, putAt, ints_set, ints_push, List.getElem_toArray, List.getElem_cons_zero, List.getElem_cons_succ] at M'); replace M := Lib.hid M'; clear M') | ((with_reducible show wpList _ _ _ (⟨_, _, _, _, _, none⟩ :: _) _ _); first | (refine Mine.wp_arg M.out rfl 49 _ rfl _ _ rfl row HRG.out HRB.out _ Try.underlying49 (by rfl) (by rw [HRL.out]; kernel_rfl) ?_; (try simp only [Act.put, List.setIfInBounds_toArray, List.set_cons_zero, List.set_cons_succ, List.drop_succ_cons, List.drop_zero, List.take_succ_cons, List.take_zero, putAt, ints_set, ints_push, List.getElem_toArray, List.getElem_cons_zero, List.getElem_cons_succ])) | (refine Mine.wp_allocany M.out rfl 49 rfl 40 (by kernel_rfl) ?_; intro gx w' zx hzx M'; replace M := Lib.hid M'; clear M'; (try simp only [Act.put, List.setIfInBounds_toArray, List.set_cons_zero, List.set_cons_succ, List.drop_succ_cons, List.drop_zero, List.take_succ_cons, List.take_zero, putAt, ints_set, ints_push, List.getElem_toArray, List.getElem_cons_zero, List.getElem_cons_succ])) | (refine Mine.wp_setall M.out rfl 49 _ _ rfl rfl 0 rfl rfl _ rfl (by rw [hzx, HRL.out]) (Root.R_one HRW.out) (by rw [HRL.out]; kernel_rfl) ?_; intro w' M'; (try simp only [Act.put, List.setIfInBounds_toArray, List.set_cons_zero, List.set_cons_succ, List.drop_succ_cons, List.drop_zero, List.take_succ_cons, List.take_zero, putAt, ints_set, ints_push, List.getElem_toArray, List.getElem_cons_zero, List.getElem_cons_succ] at M'); replace M := Lib.hid M'; clear M') | (refine Mine.wp_get M.out rfl _ _ rfl 0 _ rfl rfl _ (by assumption) _ (by first | exact Try.underlying3) (by rfl) ?_; (try simp only [Act.put, List.setIfInBounds_toArray, List.set_cons_zero, List.set_cons_succ, List.drop_succ_cons, List.drop_zero, List.take_succ_cons, List.take_zero, putAt, ints_set, ints_push, List.getElem_toArray, List.getElem_cons_zero, List.getElem_cons_succ]))) | ((with_reducible show wpList _ _ _ (⟨_, .load _ _, _, _, _, some _⟩ :: _) _ _); first | (refine Mine.wp_getg M.out (by rfl) _ _ rfl 0 _ rfl rfl _ (by assumption) _ (by first | exact Try.underlying3) (by rfl) ?_; (try simp only [Act.put, List.setIfInBounds_toArray, List.set_cons_zero, List.set_cons_succ, List.drop_succ_cons, List.drop_zero, List.take_succ_cons, List.take_zero, putAt, ints_set, ints_push, List.getElem_toArray, List.getElem_cons_zero, List.getElem_cons_succ]))))
    skip
    go_roundw
    case rel => exact ⟨k + 1, _, _, _, HLT.out, rfl, by go_num, Lib.hid (by rw [pick_yes HSK.out HY.out]; exact M.out.tail)⟩
    case measure => have := HLT.out; simp [intOf]; omega
set_option maxRecDepth 8000 in
set_option maxHeartbeats 8000000 in
theorem l17Live_any (r : Root) (row : List Value) (w : World) (S : Nat → Prop) (h : Root.R w S row r) :
    Calls Try.prog 68 #[.agg row.toArray] w fun e w' => e = .returned (.bool (liveB r)) ∧ Ext w w' := by
  have hf0 := Root.first h
  have M : Hid (Mine w (w.alloc (.cells row.toArray 49)) [.box w.heap.size 49 row.toArray]) := (Mine.refl w).box 49 row.toArray
  clear h
  by_cases h0 : r.phase_ = 0
  · have b0 : (r.phase_ != 0) = false := by simp [h0]
    have HN : Hid (liveB r = false) := dec_no fun q => q.1 h0
    clear h0
    go_enter Try.func68, Try.ntmps68
    go_wp2_with (first | ((with_reducible show wpList _ _ _ (⟨_, _, _, _, _, none⟩ :: _) _ _); first | (refine Mine.wp_get M.out rfl _ _ rfl 0 _ rfl rfl _ (by assumption) _ (by first | exact Try.underlying3) (by rfl) ?_; (try simp only [Act.put, List.setIfInBounds_toArray, List.set_cons_zero, List.set_cons_succ, List.drop_succ_cons, List.drop_zero, List.take_succ_cons, List.take_zero, putAt, ints_set, ints_push, List.getElem_toArray, List.getElem_cons_zero, List.getElem_cons_succ]))))
    go_ret
    exact ⟨by rw [HN.out]; rfl, M.out.ext⟩
  have b0 : (r.phase_ != 0) = true := by simp [h0]
  by_cases h8 : r.phase_ = 8
  · have b8 : (r.phase_ != 8) = false := by simp [h8]
    have HN : Hid (liveB r = false) := dec_no fun q => q.2 h8
    clear h0 h8
    go_enter Try.func68, Try.ntmps68
    go_wp2_with (first | ((with_reducible show wpList _ _ _ (⟨_, _, _, _, _, none⟩ :: _) _ _); first | (refine Mine.wp_get M.out rfl _ _ rfl 0 _ rfl rfl _ (by assumption) _ (by first | exact Try.underlying3) (by rfl) ?_; (try simp only [Act.put, List.setIfInBounds_toArray, List.set_cons_zero, List.set_cons_succ, List.drop_succ_cons, List.drop_zero, List.take_succ_cons, List.take_zero, putAt, ints_set, ints_push, List.getElem_toArray, List.getElem_cons_zero, List.getElem_cons_succ]))) | ((with_reducible show wpList _ _ _ (⟨_, .load _ _, _, _, _, some _⟩ :: _) _ _); first | (refine Mine.wp_getg M.out (by rfl) _ _ rfl 0 _ rfl rfl _ (by assumption) _ (by first | exact Try.underlying3) (by rfl) ?_; (try simp only [Act.put, List.setIfInBounds_toArray, List.set_cons_zero, List.set_cons_succ, List.drop_succ_cons, List.drop_zero, List.take_succ_cons, List.take_zero, putAt, ints_set, ints_push, List.getElem_toArray, List.getElem_cons_zero, List.getElem_cons_succ]))))
    go_ret
    exact ⟨by rw [HN.out]; rfl, M.out.ext⟩
  have b8 : (r.phase_ != 8) = true := by simp [h8]
  have HN : Hid (liveB r = true) := dec_yes ⟨h0, h8⟩
  clear h0 h8
  go_enter Try.func68, Try.ntmps68
  go_wp2_with (first | ((with_reducible show wpList _ _ _ (⟨_, _, _, _, _, none⟩ :: _) _ _); first | (refine Mine.wp_get M.out rfl _ _ rfl 0 _ rfl rfl _ (by assumption) _ (by first | exact Try.underlying3) (by rfl) ?_; (try simp only [Act.put, List.setIfInBounds_toArray, List.set_cons_zero, List.set_cons_succ, List.drop_succ_cons, List.drop_zero, List.take_succ_cons, List.take_zero, putAt, ints_set, ints_push, List.getElem_toArray, List.getElem_cons_zero, List.getElem_cons_succ]))) | ((with_reducible show wpList _ _ _ (⟨_, .load _ _, _, _, _, some _⟩ :: _) _ _); first | (refine Mine.wp_getg M.out (by rfl) _ _ rfl 0 _ rfl rfl _ (by assumption) _ (by first | exact Try.underlying3) (by rfl) ?_; (try simp only [Act.put, List.setIfInBounds_toArray, List.set_cons_zero, List.set_cons_succ, List.drop_succ_cons, List.drop_zero, List.take_succ_cons, List.take_zero, putAt, ints_set, ints_push, List.getElem_toArray, List.getElem_cons_zero, List.getElem_cons_succ]))))
  go_ret
  exact ⟨by rw [HN.out]; rfl, M.out.ext⟩
set_option maxRecDepth 8000 in
set_option maxHeartbeats 16000000 in
theorem spec_Live (x : GWorld) (cs : List Value) (w : World) (S : Nat → Prop) (h : GWorld.R w S cs x) (_hw : GWorld.wt x ≤ 1048576) :
    Calls Try.prog 20 #[.agg cs.toArray] w fun e w' => ∃ B m d, e = .returned (.slice B m d) ∧ w'.ownsRow w.heap.size 3 1 (.slice B m d) m (ints (liveOf x)) ∧ Ext w w' := by
  obtain ⟨v0, v1, A2, n2, c2, A3, n3, c3, A4, n4, c4, rfl, h0, h1, ⟨kh2, mh2, h2⟩, ⟨kh3, mh3, h3⟩, ⟨kh4, mh4, h4⟩⟩ := h
  obtain ⟨A0, n0, c0, rfl⟩ := Mem.R_cells h0
  obtain ⟨A1, n1, c1, rfl⟩ := Shelf.R_cells h1
  have HR := Lib.hid h3
  have HRN := Lib.hid h3.1
  have hn3 : n3 ≤ 1048576 := by have a := roots_le x _hw; have b := HRN.out; omega
  clear h0 h1 h2 h3 h4
  have M : Hid (Mine w (w.alloc (.cells #[.int .i64 x.now_, .int .i64 x.token_, .int .i64 x.mem_.clock_, .slice A0 n0 c0, .slice A1 n1 c1, .int .i64 x.shelf_.count_, .slice A2 n2 c2, .slice A3 n3 c3, .slice A4 n4 c4] 74)) [.box w.heap.size 74 #[.int .i64 x.now_, .int .i64 x.token_, .int .i64 x.mem_.clock_, .slice A0 n0 c0, .slice A1 n1 c1, .int .i64 x.shelf_.count_, .slice A2 n2 c2, .slice A3 n3 c3, .slice A4 n4 c4]]) := (Mine.refl w).box 74 #[.int .i64 x.now_, .int .i64 x.token_, .int .i64 x.mem_.clock_, .slice A0 n0 c0, .slice A1 n1 c1, .int .i64 x.shelf_.count_, .slice A2 n2 c2, .slice A3 n3 c3, .slice A4 n4 c4]
  skip
  show Calls Try.prog _ #[.agg #[.int .i64 x.now_, .int .i64 x.token_, .int .i64 x.mem_.clock_, .slice A0 n0 c0, .slice A1 n1 c1, .int .i64 x.shelf_.count_, .slice A2 n2 c2, .slice A3 n3 c3, .slice A4 n4 c4]] w _
  go_enter Try.func20, Try.ntmps20
  replace M := Lib.hid (M.out.own (own_emptyI _) ((Ext.refl' _).al _))
  simp only [World.heap_alloc_size] at M
  go_wp2_with (first | ((with_reducible show wpList _ _ _ (⟨_, _, _, _, _, none⟩ :: _) _ _); first | (refine Mine.wp_get M.out rfl _ _ rfl 1 _ rfl rfl _ rfl _ (by first | exact Try.underlying71) (by rfl) ?_; (try simp only [Act.put, List.setIfInBounds_toArray, List.set_cons_zero, List.set_cons_succ, List.drop_succ_cons, List.drop_zero, List.take_succ_cons, List.take_zero, putAt, ints_set, ints_push, List.getElem_toArray, List.getElem_cons_zero, List.getElem_cons_succ]))))
  go_loopw [3, 4] (fun u i wr => ∃ (k m d : Nat) (B : Option Addr), k ≤ n3 ∧ u = .slice B m d ∧ i = .int .i64 k ∧ Hid (Mine w wr [.row 3 1 B m d (ints (pickTo liveB x.roots_ k)), .box w.heap.size 74 #[.int .i64 x.now_, .int .i64 x.token_, .int .i64 x.mem_.clock_, .slice A0 n0 c0, .slice A1 n1 c1, .int .i64 x.shelf_.count_, .slice A2 n2 c2, .slice A3 n3 c3, .slice A4 n4 c4]])) (fun _ i _ => n3 - (intOf i).toNat)
  case atStart => exact ⟨0, _, _, _, Nat.zero_le _, rfl, rfl, M⟩
  case round =>
    clear M
    obtain ⟨k, m, d, B, hk, rfl, rfl, M⟩ := hrel
    by_cases hlt : (k : Int) < (n3 : Int)
    rotate_left
    · have e : Hid (k = x.roots_.length) := by show k = _; have a := HRN.out; omega
      go_wp2_with (first | ((with_reducible show wpList _ _ _ (⟨_, _, _, _, _, none⟩ :: _) _ _); first | (refine Mine.wp_get M.out rfl _ _ rfl 1 _ rfl rfl _ rfl _ (by first | exact Try.underlying71) (by rfl) ?_; (try simp only [Act.put, List.setIfInBounds_toArray, List.set_cons_zero, List.set_cons_succ, List.drop_succ_cons, List.drop_zero, List.take_succ_cons, List.take_zero, putAt, ints_set, ints_push, List.getElem_toArray, List.getElem_cons_zero, List.getElem_cons_succ]))))
      go_ret
      exact ⟨_, _, _, rfl, by unfold liveOf; rw [← e.out]; exact M.out.row_at 0 rfl, M.out.ext⟩
    have HLT : Hid (k < n3) := by show _ < _; omega
    obtain ⟨b, o, rfl⟩ := HR.out.addr (by omega)
    obtain ⟨r, row, hsk, hrb, hrw, hrl, hrg⟩ := root_at HR.out (k := k) (by omega)
    have HSK := Lib.hid hsk
    have HRW := Lib.hid hrw
    have HRL := Lib.hid hrl
    have HRG := Lib.hid hrg
    have HRB := Lib.hid hrb
    have hf0 := Root.first hrw
    clear hsk hrw hrl hrg hrb
    have hm : m ≤ 1048576 := by have h1 := M.out.len1 0 rfl; rw [ints_length] at h1; have h2 := pick_len liveB x.roots_ k; omega
    go_wp2_with (first | ((with_reducible show wpList _ _ _ (⟨_, _, _, _, _, none⟩ :: _) _ _); first | (refine Mine.wp_get M.out rfl _ _ rfl 1 _ rfl rfl _ rfl _ (by first | exact Try.underlying71) (by rfl) ?_; (try simp only [Act.put, List.setIfInBounds_toArray, List.set_cons_zero, List.set_cons_succ, List.drop_succ_cons, List.drop_zero, List.take_succ_cons, List.take_zero, putAt, ints_set, ints_push, List.getElem_toArray, List.getElem_cons_zero, List.getElem_cons_succ])) | (refine Mine.wp_arg M.out rfl 49 _ rfl _ _ rfl row HRG.out HRB.out _ Try.underlying49 (by rfl) (by rw [HRL.out]; kernel_rfl) ?_; (try simp only [Act.put, List.setIfInBounds_toArray, List.set_cons_zero, List.set_cons_succ, List.drop_succ_cons, List.drop_zero, List.take_succ_cons, List.take_zero, putAt, ints_set, ints_push, List.getElem_toArray, List.getElem_cons_zero, List.getElem_cons_succ]))))
    refine (l17Live_any r row _ _ (Root.R_good.ext HRW.out M.out.ext)).mono ?_
    rintro e w1 ⟨rfl, x1⟩
    replace M := Lib.hid (M.out.on x1)
    clear x1 hf0
    cases hv : liveB r
    · have HN := Lib.hid hv
      clear hv
      go_wp2
      go_roundw
      case rel => exact ⟨k + 1, m, d, B, HLT.out, rfl, by go_num, Lib.hid (by rw [pick_no HSK.out HN.out]; exact M.out)⟩
      case measure => have := HLT.out; simp [intOf]; omega
    have HY := Lib.hid hv
    clear hv
    go_wp2_with (first | (at_builtin; refine Mine.wp_push M.out rfl _ _ 22 rfl 3 _ _ _ Try.underlying22 Try.infoInt rfl (by omega) 0 rfl rfl _ _ rfl rfl rfl (by simp [Value.oneCell']) (by omega) (by unfold maxLen; omega) ?_; intro A2 c2 w' M'; (try simp only [Act.put, List.setIfInBounds_toArray, List.set_cons_zero, List.set_cons_succ, List.drop_succ_cons, List.drop_zero, List.take_succ_cons, List.take_zero, putAt, ints_set, ints_push, List.getElem_toArray, List.getElem_cons_zero, List.getElem_cons_succ] at M'); replace M := Lib.hid M'; clear M'))
    go_roundw
    case rel => exact ⟨k + 1, _, _, _, HLT.out, rfl, by go_num, Lib.hid (by rw [pick_yes HSK.out HY.out]; exact M.out)⟩
    case measure => have := HLT.out; simp [intOf]; omega
end Go.Proofs.Ytfacckjfoajijaa
