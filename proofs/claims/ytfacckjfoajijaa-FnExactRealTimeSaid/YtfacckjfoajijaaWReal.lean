/- RealTime of the program. No condition. -/
import Derived.Test.YtfacckjfoajijaaWRankI
namespace Go.Proofs.Ytfacckjfoajijaa
open Go.RowKit Go.Deep
set_option linter.unusedSimpArgs false
set_option linter.unusedVariables false

def RT1 (x : GWorld) (r : Root) (L : List Int) (k : Nat) : Prop := ∀ (j : Nat) (b : Int), j < k → L[j]? = some b → ¬ (r.phase_ = 8 ∧ r.ended_ < (rootAt x b).began_)
def RTo (x : GWorld) (L : List Int) (k : Nat) : Prop := ∀ (i : Nat) (a : Int), i < k → L[i]? = some a → RT1 x (rootAt x a) L i
theorem RT1.zero (x : GWorld) (r : Root) (L : List Int) : RT1 x r L 0 := fun j b h => absurd h (Nat.not_lt_zero _)
theorem RTo.zero (x : GWorld) (L : List Int) : RTo x L 0 := fun i a h => absurd h (Nat.not_lt_zero _)
theorem RT1.next {x : GWorld} {r s : Root} {L : List Int} {k : Nat} {b : Int} (h : RT1 x r L k) (hb : L[k]? = some b) (hs : rootAt x b = s) (hn : ¬ (r.phase_ = 8 ∧ r.ended_ < s.began_)) : RT1 x r L (k + 1) := by
  intro j c hj hc
  by_cases e : j = k
  · subst e; rw [hb] at hc; injection hc with hc; subst hc; rw [hs]; exact hn
  · exact h j c (by omega) hc
theorem RTo.next {x : GWorld} {r : Root} {L : List Int} {k : Nat} {a : Int} (h : RTo x L k) (ha : L[k]? = some a) (hr : rootAt x a = r) (h1 : RT1 x r L k) : RTo x L (k + 1) := by
  intro i c hi hc
  by_cases e : i = k
  · subst e; rw [ha] at hc; injection hc with hc; subst hc; rw [hr]; exact h1
  · exact h i c (by omega) hc
noncomputable def realOf (x : GWorld) : Bool := dec (RTo x (ranksOf x) (ranksOf x).length)
theorem real_no {x : GWorld} {L : List Int} (hL : L = ranksOf x) {i j : Nat} {a b : Int} {r s : Root} (ha : L[i]? = some a) (hb : L[j]? = some b) (hij : j < i) (hr : rootAt x a = r) (hs : rootAt x b = s) (h8 : r.phase_ = 8) (hlt : r.ended_ < s.began_) : realOf x = false := by
  subst hL hr hs
  exact dec_no fun h => h i a (List.getElem?_eq_some_iff.1 ha).1 ha j b hij hb ⟨h8, hlt⟩
theorem ranks_ix {x : GWorld} {q : Nat} {y : Int} (h : (ranksOf x)[q]? = some y) : ∃ i : Nat, i < x.roots_.length ∧ y = (i : Int) := by
  obtain ⟨i, r, h1, h2, _⟩ := pick_mem.1 ((rank_perm _ _).subset (List.mem_of_getElem? h))
  exact ⟨i, h1, h2⟩

set_option maxRecDepth 8000 in
set_option maxHeartbeats 16000000 in
theorem impl_RealTime (x : GWorld) (cs : List Value) (w : World) (S : Nat → Prop) (h : GWorld.R w S cs x) (_hw : GWorld.wt x ≤ 1048576) :
    Calls Try.prog 27 #[.agg cs.toArray] w fun e w' => e = .returned (.bool (realOf x)) ∧ Ext w w' := by
  have HG := Lib.hid h
  obtain ⟨v0, v1, A2, n2, c2, A3, n3, c3, A4, n4, c4, rfl, h0, h1, ⟨kh2, mh2, h2⟩, ⟨kh3, mh3, h3⟩, ⟨kh4, mh4, h4⟩⟩ := h
  obtain ⟨A0, n0, c0, rfl⟩ := Mem.R_cells h0
  obtain ⟨A1, n1, c1, rfl⟩ := Shelf.R_cells h1
  have HR := Lib.hid h3
  have HRN := Lib.hid h3.1
  have hn3 : n3 ≤ 1048576 := by have a := roots_le x _hw; have b := HRN.out; omega
  clear h0 h1 h2 h3 h4
  have M : Hid (Mine w (w.alloc (.cells #[.int .i64 x.now_, .int .i64 x.token_, .int .i64 x.mem_.clock_, .slice A0 n0 c0, .slice A1 n1 c1, .int .i64 x.shelf_.count_, .slice A2 n2 c2, .slice A3 n3 c3, .slice A4 n4 c4] 74)) [.box w.heap.size 74 #[.int .i64 x.now_, .int .i64 x.token_, .int .i64 x.mem_.clock_, .slice A0 n0 c0, .slice A1 n1 c1, .int .i64 x.shelf_.count_, .slice A2 n2 c2, .slice A3 n3 c3, .slice A4 n4 c4]]) := (Mine.refl w).box 74 #[.int .i64 x.now_, .int .i64 x.token_, .int .i64 x.mem_.clock_, .slice A0 n0 c0, .slice A1 n1 c1, .int .i64 x.shelf_.count_, .slice A2 n2 c2, .slice A3 n3 c3, .slice A4 n4 c4]
  show Calls Try.prog _ #[.agg #[.int .i64 x.now_, .int .i64 x.token_, .int .i64 x.mem_.clock_, .slice A0 n0 c0, .slice A1 n1 c1, .int .i64 x.shelf_.count_, .slice A2 n2 c2, .slice A3 n3 c3, .slice A4 n4 c4]] w _
  go_enter Try.func27, Try.ntmps27
  go_wp2_with (first | ((with_reducible show wpList _ _ _ (⟨_, _, _, _, _, none⟩ :: _) _ _); first | (refine Mine.wp_getall M.out rfl 74 _ rfl 0 rfl rfl _ Try.underlying74 (by rfl) (by kernel_rfl) ?_; (try simp only [Act.put, List.setIfInBounds_toArray, List.set_cons_zero, List.set_cons_succ, List.drop_succ_cons, List.drop_zero, List.take_succ_cons, List.take_zero, putAt, ints_set, ints_push, List.getElem_toArray, List.getElem_cons_zero, List.getElem_cons_succ]))))
  refine (impl_Ranks2 x _ _ S (GWorld.R_good.ext HG.out M.out.ext) _hw).mono ?_
  rintro e w1 ⟨g, m, d, rfl, ho, x1⟩
  replace M := Lib.hid (M.out.own ho x1)
  clear x1 ho
  obtain ⟨L, hL⟩ : ∃ L, L = ranksOf x := ⟨_, rfl⟩
  rw [← hL] at M
  have HL := Lib.hid hL
  have HM : Hid (L.length = m) := by show _ = _; have h1 := M.out.len1 0 rfl; rwa [ints_length] at h1
  have hm : m ≤ 1048576 := by have h1 := HM.out; have h2 := ranks_len x; have h3 := HRN.out; rw [hL] at h1; omega
  have hcap : m ≤ d := M.out.cap 0 rfl
  have hcap2 : (m : Int) ≤ (d : Int) := by omega
  have HIX : Hid (∀ (q : Nat) (y : Int), L[q]? = some y → ∃ i : Nat, i < n3 ∧ y = (i : Int)) := fun q y h => by obtain ⟨i, h1, h2⟩ := ranks_ix (hL ▸ h); exact ⟨i, by have a := HRN.out; omega, h2⟩
  clear hL
  go_wp2
  go_loopw [13] (fun iv wr => ∃ (i : Nat), i ≤ m ∧ iv = .int .i64 i ∧ Hid (RTo x L i) ∧ Hid (Mine w wr [.row 3 1 (some ⟨g, 0, none⟩) m d (ints L), .box w.heap.size 74 #[.int .i64 x.now_, .int .i64 x.token_, .int .i64 x.mem_.clock_, .slice A0 n0 c0, .slice A1 n1 c1, .int .i64 x.shelf_.count_, .slice A2 n2 c2, .slice A3 n3 c3, .slice A4 n4 c4]])) (fun iv _ => m - (intOf iv).toNat)
  case atStart => exact ⟨0, Nat.zero_le _, rfl, RTo.zero _ _, M⟩
  case round =>
    clear M
    obtain ⟨i, hi, rfl, HT, M⟩ := hrel
    by_cases hlt : (i : Int) < (m : Int)
    rotate_left
    · have HZ : Hid (realOf x = true) := dec_yes (by have h1 := HT.out; have e : i = (ranksOf x).length := (by have a := HM.out; rw [HL.out] at a; omega); rw [← e, ← HL.out]; exact h1)
      go_wp2
      go_ret
      exact ⟨by rw [HZ.out]; first | done | rfl, M.out.ext⟩
    have HLT : Hid (i < m) := by show _ < _; omega
    obtain ⟨xi, hxi⟩ : ∃ y, L[i]? = some y := ⟨_, List.getElem?_eq_getElem (by have := HLT.out; have := HM.out; omega)⟩
    obtain ⟨i0, hi0, rfl⟩ := HIX.out _ _ hxi
    have HXI := Lib.hid hxi
    have gxi : (ints L)[i]? = some (.int .i64 (i0 : Int)) := ints_at hxi
    obtain ⟨b, o, rfl⟩ := HR.out.addr (by omega)
    obtain ⟨r, row, hsk, hrb, hrw, hrl, hrg⟩ := root_at HR.out hi0
    have HROOT := Lib.hid (rootAt_is hsk)
    have HRW := Lib.hid hrw
    have HRL := Lib.hid hrl
    have HRG := Lib.hid hrg
    have HRB := Lib.hid hrb
    have f0 := Root.first hrw
    have f10 := Root.at10 hrw
    have hi1 : (i0 : Int) < (n3 : Int) := by omega
    clear hxi hi0 hsk hrw hrl hrg hrb
    have hid : (i : Int) ≤ (d : Int) := by omega
    go_wp2_with (first | ((with_reducible show wpList _ _ _ (⟨_, _, _, _, _, none⟩ :: _) _ _); first | (refine Mine.wp_getr M.out rfl _ _ rfl 0 _ rfl rfl _ (by assumption) _ (by first | exact Try.underlying3) (by rfl) ?_; (try simp only [Act.put, List.setIfInBounds_toArray, List.set_cons_zero, List.set_cons_succ, List.drop_succ_cons, List.drop_zero, List.take_succ_cons, List.take_zero, putAt, ints_set, ints_push, List.getElem_toArray, List.getElem_cons_zero, List.getElem_cons_succ])) | (refine Mine.wp_get M.out rfl _ _ rfl 1 _ rfl rfl _ rfl _ (by first | exact Try.underlying71) (by rfl) ?_; (try simp only [Act.put, List.setIfInBounds_toArray, List.set_cons_zero, List.set_cons_succ, List.drop_succ_cons, List.drop_zero, List.take_succ_cons, List.take_zero, putAt, ints_set, ints_push, List.getElem_toArray, List.getElem_cons_zero, List.getElem_cons_succ])) | (refine Mine.wp_arg M.out rfl 49 _ rfl _ _ rfl row HRG.out HRB.out _ Try.underlying49 (by rfl) (by rw [HRL.out]; kernel_rfl) ?_; (try simp only [Act.put, List.setIfInBounds_toArray, List.set_cons_zero, List.set_cons_succ, List.drop_succ_cons, List.drop_zero, List.take_succ_cons, List.take_zero, putAt, ints_set, ints_push, List.getElem_toArray, List.getElem_cons_zero, List.getElem_cons_succ])) | (refine Mine.wp_allocany M.out rfl 49 rfl 40 (by kernel_rfl) ?_; intro gx w' zx hzx M'; replace M := Lib.hid M'; clear M'; (try simp only [Act.put, List.setIfInBounds_toArray, List.set_cons_zero, List.set_cons_succ, List.drop_succ_cons, List.drop_zero, List.take_succ_cons, List.take_zero, putAt, ints_set, ints_push, List.getElem_toArray, List.getElem_cons_zero, List.getElem_cons_succ])) | (refine Mine.wp_setall M.out rfl 49 _ _ rfl rfl 0 rfl rfl _ rfl (by rw [hzx, HRL.out]) (Root.R_one HRW.out) (by rw [HRL.out]; kernel_rfl) ?_; intro w' M'; (try simp only [Act.put, List.setIfInBounds_toArray, List.set_cons_zero, List.set_cons_succ, List.drop_succ_cons, List.drop_zero, List.take_succ_cons, List.take_zero, putAt, ints_set, ints_push, List.getElem_toArray, List.getElem_cons_zero, List.getElem_cons_succ] at M'); replace M := Lib.hid M'; clear M')))
    go_loopw [27] (fun jv wr => ∃ (j : Nat), j ≤ i ∧ jv = .int .i64 j ∧ Hid (RT1 x r L j) ∧ Hid (Mine w wr [.box gx 49 row.toArray, .row 3 1 (some ⟨g, 0, none⟩) m d (ints L), .box w.heap.size 74 #[.int .i64 x.now_, .int .i64 x.token_, .int .i64 x.mem_.clock_, .slice A0 n0 c0, .slice A1 n1 c1, .int .i64 x.shelf_.count_, .slice A2 n2 c2, .slice (some ⟨b, o, none⟩) n3 c3, .slice A4 n4 c4]])) (fun jv _ => i - (intOf jv).toNat)
    case atStart => exact ⟨0, Nat.zero_le _, rfl, RT1.zero _ _ _, M⟩
    case round =>
      clear M
      obtain ⟨j, hj, rfl, HT1, M⟩ := hrel
      by_cases hjl : (j : Int) < (i : Int)
      rotate_left
      · have HT2 : Hid (RT1 x r L i) := by have e : j = i := (by omega); rw [← e]; exact HT1.out
        go_wp2
        go_roundw
        case rel => exact ⟨i + 1, HLT.out, by go_num, HT.out.next HXI.out HROOT.out HT2.out, Lib.hid M.out.tail⟩
        case measure => have := HLT.out; simp [intOf]; omega
      have HJL : Hid (j < i) := by show _ < _; omega
      have hjm : (j : Int) < (m : Int) := by have := HLT.out; omega
      obtain ⟨yj, hyj⟩ : ∃ y, L[j]? = some y := ⟨_, List.getElem?_eq_getElem (by have := HLT.out; have := HJL.out; have := HM.out; omega)⟩
      obtain ⟨j0, hj0, rfl⟩ := HIX.out _ _ hyj
      have HYJ := Lib.hid hyj
      have gyj : (ints L)[j]? = some (.int .i64 (j0 : Int)) := ints_at hyj
      obtain ⟨s, row2, hsk2, -, hrw2, hrl2, hrg2⟩ := root_at HR.out hj0
      have HROOT2 := Lib.hid (rootAt_is hsk2)
      have HRW2 := Lib.hid hrw2
      have HRL2 := Lib.hid hrl2
      have HRG2 := Lib.hid hrg2
      have k9 := Root.at9 hrw2
      have HBG : Hid (w.cell? ⟨b, o + j0 * 40 + 9, none⟩ = some (.int .i64 s.began_) ∧ b < w.heap.size) := ⟨hrg2 9 _ (by simpa using k9), HRB.out⟩
      have hj1 : (j0 : Int) < (n3 : Int) := by omega
      clear hyj hj0 hsk2 hrw2 hrl2 hrg2
      by_cases h8 : r.phase_ = 8
      rotate_left
      · have b8 : (r.phase_ == 8) = false := by simp [h8]
        have HN : Hid (¬ (r.phase_ = 8 ∧ r.ended_ < s.began_)) := fun q => h8 q.1
        clear h8
        go_wp2_with (first | ((with_reducible show wpList _ _ _ (⟨_, _, _, _, _, none⟩ :: _) _ _); first | (refine Mine.wp_getr M.out rfl _ _ rfl 1 _ rfl rfl _ (by assumption) _ (by first | exact Try.underlying3) (by rfl) ?_; (try simp only [Act.put, List.setIfInBounds_toArray, List.set_cons_zero, List.set_cons_succ, List.drop_succ_cons, List.drop_zero, List.take_succ_cons, List.take_zero, putAt, ints_set, ints_push, List.getElem_toArray, List.getElem_cons_zero, List.getElem_cons_succ]))))
        refine Mine.region_quiet M.out (by kernel_rfl) (by kernel_rfl) ?_
        repeat (first | go_big_quiet_skip | (go_big_quiet_want; first | (refine Mine.oq_get _ _ rfl 0 _ rfl rfl _ (by assumption) _ (by first | exact Try.underlying3) (by rfl) ?_; (try simp only [Act.put, List.setIfInBounds_toArray, List.set_cons_zero, List.set_cons_succ, List.drop_succ_cons, List.drop_zero, List.take_succ_cons, List.take_zero, putAt, ints_set, ints_push, List.getElem_toArray, List.getElem_cons_zero, List.getElem_cons_succ]); go_big_quiet_on) | (refine Mine.oq_get _ _ rfl 2 _ rfl rfl _ rfl _ (by first | exact Try.underlying71) (by rfl) ?_; (try simp only [Act.put, List.setIfInBounds_toArray, List.set_cons_zero, List.set_cons_succ, List.drop_succ_cons, List.drop_zero, List.take_succ_cons, List.take_zero, putAt, ints_set, ints_push, List.getElem_toArray, List.getElem_cons_zero, List.getElem_cons_succ]); go_big_quiet_on) | (refine Mine.oq_arg 3 _ rfl _ _ HBG.out rfl _ Try.underlying3 (by rfl) ?_; (try simp only [Act.put, List.setIfInBounds_toArray, List.set_cons_zero, List.set_cons_succ, List.drop_succ_cons, List.drop_zero, List.take_succ_cons, List.take_zero, putAt, ints_set, ints_push, List.getElem_toArray, List.getElem_cons_zero, List.getElem_cons_succ]); go_big_quiet_on) | (unfold Oper.quiet; apply Exists.intro; refine ⟨fun wq hq => ?_, ?_⟩; (clear hq; go_simp; first | done | rfl | exact ⟨rfl, rfl⟩); (try simp only [Act.put, List.setIfInBounds_toArray, List.set_cons_succ, List.set_cons_zero]); go_big_quiet_on)))
        refine wpQuiet_nil ?_
        intro w' M'
        replace M := Lib.hid M'
        clear M'
        go_wp2
        go_roundw
        case rel => exact ⟨j + 1, HJL.out, by go_num, HT1.out.next HYJ.out HROOT2.out HN.out, M⟩
        case measure => have := HJL.out; simp [intOf]; omega
      have b8 : (r.phase_ == 8) = true := by simp [h8]
      by_cases hlt2 : r.ended_ < s.began_
      · have HZ : Hid (realOf x = false) := real_no HL.out HXI.out HYJ.out HJL.out HROOT.out HROOT2.out h8 hlt2
        clear h8
        go_wp2_with (first | ((with_reducible show wpList _ _ _ (⟨_, _, _, _, _, none⟩ :: _) _ _); first | (refine Mine.wp_getr M.out rfl _ _ rfl 1 _ rfl rfl _ (by assumption) _ (by first | exact Try.underlying3) (by rfl) ?_; (try simp only [Act.put, List.setIfInBounds_toArray, List.set_cons_zero, List.set_cons_succ, List.drop_succ_cons, List.drop_zero, List.take_succ_cons, List.take_zero, putAt, ints_set, ints_push, List.getElem_toArray, List.getElem_cons_zero, List.getElem_cons_succ]))))
        refine Mine.region_quiet M.out (by kernel_rfl) (by kernel_rfl) ?_
        repeat (first | go_big_quiet_skip | (go_big_quiet_want; first | (refine Mine.oq_get _ _ rfl 0 _ rfl rfl _ (by assumption) _ (by first | exact Try.underlying3) (by rfl) ?_; (try simp only [Act.put, List.setIfInBounds_toArray, List.set_cons_zero, List.set_cons_succ, List.drop_succ_cons, List.drop_zero, List.take_succ_cons, List.take_zero, putAt, ints_set, ints_push, List.getElem_toArray, List.getElem_cons_zero, List.getElem_cons_succ]); go_big_quiet_on) | (refine Mine.oq_get _ _ rfl 2 _ rfl rfl _ rfl _ (by first | exact Try.underlying71) (by rfl) ?_; (try simp only [Act.put, List.setIfInBounds_toArray, List.set_cons_zero, List.set_cons_succ, List.drop_succ_cons, List.drop_zero, List.take_succ_cons, List.take_zero, putAt, ints_set, ints_push, List.getElem_toArray, List.getElem_cons_zero, List.getElem_cons_succ]); go_big_quiet_on) | (refine Mine.oq_arg 3 _ rfl _ _ HBG.out rfl _ Try.underlying3 (by rfl) ?_; (try simp only [Act.put, List.setIfInBounds_toArray, List.set_cons_zero, List.set_cons_succ, List.drop_succ_cons, List.drop_zero, List.take_succ_cons, List.take_zero, putAt, ints_set, ints_push, List.getElem_toArray, List.getElem_cons_zero, List.getElem_cons_succ]); go_big_quiet_on) | (unfold Oper.quiet; apply Exists.intro; refine ⟨fun wq hq => ?_, ?_⟩; (clear hq; go_simp; first | done | rfl | exact ⟨rfl, rfl⟩); (try simp only [Act.put, List.setIfInBounds_toArray, List.set_cons_succ, List.set_cons_zero]); go_big_quiet_on)))
        refine wpQuiet_nil ?_
        intro w' M'
        replace M := Lib.hid M'
        clear M'
        go_wp2
        go_ret
        exact ⟨by rw [HZ.out]; first | done | rfl, M.out.ext⟩
      have HN : Hid (¬ (r.phase_ = 8 ∧ r.ended_ < s.began_)) := fun q => hlt2 q.2
      clear h8
      go_wp2_with (first | ((with_reducible show wpList _ _ _ (⟨_, _, _, _, _, none⟩ :: _) _ _); first | (refine Mine.wp_getr M.out rfl _ _ rfl 1 _ rfl rfl _ (by assumption) _ (by first | exact Try.underlying3) (by rfl) ?_; (try simp only [Act.put, List.setIfInBounds_toArray, List.set_cons_zero, List.set_cons_succ, List.drop_succ_cons, List.drop_zero, List.take_succ_cons, List.take_zero, putAt, ints_set, ints_push, List.getElem_toArray, List.getElem_cons_zero, List.getElem_cons_succ]))))
      refine Mine.region_quiet M.out (by kernel_rfl) (by kernel_rfl) ?_
      repeat (first | go_big_quiet_skip | (go_big_quiet_want; first | (refine Mine.oq_get _ _ rfl 0 _ rfl rfl _ (by assumption) _ (by first | exact Try.underlying3) (by rfl) ?_; (try simp only [Act.put, List.setIfInBounds_toArray, List.set_cons_zero, List.set_cons_succ, List.drop_succ_cons, List.drop_zero, List.take_succ_cons, List.take_zero, putAt, ints_set, ints_push, List.getElem_toArray, List.getElem_cons_zero, List.getElem_cons_succ]); go_big_quiet_on) | (refine Mine.oq_get _ _ rfl 2 _ rfl rfl _ rfl _ (by first | exact Try.underlying71) (by rfl) ?_; (try simp only [Act.put, List.setIfInBounds_toArray, List.set_cons_zero, List.set_cons_succ, List.drop_succ_cons, List.drop_zero, List.take_succ_cons, List.take_zero, putAt, ints_set, ints_push, List.getElem_toArray, List.getElem_cons_zero, List.getElem_cons_succ]); go_big_quiet_on) | (refine Mine.oq_arg 3 _ rfl _ _ HBG.out rfl _ Try.underlying3 (by rfl) ?_; (try simp only [Act.put, List.setIfInBounds_toArray, List.set_cons_zero, List.set_cons_succ, List.drop_succ_cons, List.drop_zero, List.take_succ_cons, List.take_zero, putAt, ints_set, ints_push, List.getElem_toArray, List.getElem_cons_zero, List.getElem_cons_succ]); go_big_quiet_on) | (unfold Oper.quiet; apply Exists.intro; refine ⟨fun wq hq => ?_, ?_⟩; (clear hq; go_simp; first | done | rfl | exact ⟨rfl, rfl⟩); (try simp only [Act.put, List.setIfInBounds_toArray, List.set_cons_succ, List.set_cons_zero]); go_big_quiet_on)))
      refine wpQuiet_nil ?_
      intro w' M'
      replace M := Lib.hid M'
      clear M'
      go_wp2
      go_roundw
      case rel => exact ⟨j + 1, HJL.out, by go_num, HT1.out.next HYJ.out HROOT2.out HN.out, M⟩
      case measure => have := HJL.out; simp [intOf]; omega
end Go.Proofs.Ytfacckjfoajijaa
