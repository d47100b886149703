/- Marks of a world's structs with depth: that they end, and what they may change. No condition but sizes. -/
import Derived.Test.YtfacckjfoajijaaGreatWMarkF
namespace Go.Proofs.YtfacckjfoajijaaGreat
open Go.RowKit Go.Deep
set_option linter.unusedSimpArgs false
set_option linter.unusedVariables false

def Mark.ct (x : Mark) : Nat := 4 + x.regs_.length
def Mark.ca (x : Mark) : Nat := x.regs_.length
theorem Mark.ct_le (x : Mark) : Mark.ct x ≤ 64 * (Mark.wt x + 1) := by
  skip
  unfold Mark.ct Mark.wt
  omega
set_option maxRecDepth 20000 in
set_option maxHeartbeats 16000000 in
theorem shakeMarkS_any (A : Option Addr) (n c : Nat) (l : List Mark) (q : Int) (w : World) (S : Nat → Prop) (h : SlW Mark.W 154 5 w S A n c l) (hS : ∀ g, S g → g < w.heap.size) (hq : 0 ≤ q) (hqn : q + (ctl Mark.ct l : Nat) ≤ 9007199254740992) (hm : n ≤ 9223372036854775807) :
    Calls Tryz.prog 57 #[.slice A n c, .int .i64 q] w fun e w' => e = .returned (.int .i64 (q + (ctl Mark.ct l : Nat))) ∧ Chg S w w' := by
  obtain ⟨hl, cs0, lab, ho0, hr0⟩ := h
  have HL := Lib.hid hl
  have HO0 := Lib.hid ho0
  have HR0 := Lib.hid hr0
  have HS := Lib.hid hS
  clear hl ho0 hr0 hS
  go_enter Tryz.func57, Tryz.ntmps57
  go_wp2
  go_loopw [1, 5] (fun r i wr => ∃ k : Nat, k ≤ n ∧ i = .int .i64 k ∧ r = .int .i64 (q + (ctl Mark.ct (l.take k) : Nat)) ∧ Hid (Chg (fun j => S j ∧ lab j ≤ k) w wr) ∧ Hid (∀ g, A = some ⟨g, 0, none⟩ → 0 < n → Shake 154 5 g n c k (fun _ => True) cs0 (fun j => S j ∧ lab j ≤ k) w wr)) (fun _ i _ => n - (intOf i).toNat)
  case atStart => exact ⟨0, Nat.zero_le _, rfl, by simp [ctl], Chg.refl _ _, fun g hA hn => by subst hA; exact Shake.zero HO0.out.1 (by have h := HO0.out.2 g rfl; exact ⟨h.1, by rw [h.2]; exact Nat.le_refl _⟩)⟩
  case round =>
    obtain ⟨k, hk, rfl, rfl, HX, HM⟩ := hrel
    by_cases hlt : (k : Int) < (n : Int)
    rotate_left
    · have e : Hid (k = n) := by show k = n; omega
      go_wp2
      go_ret
      exact ⟨by (rw [e.out, ← HL.out, List.take_length]) <;> rfl, HX.out.mono fun _ h => h.1⟩
    have HLT : Hid (k < n) := by show k < n; omega
    obtain ⟨g, rfl, hgS, hgl, -⟩ := HO0.out.at_ HLT.out
    have M0 := HM.out g rfl (by have := HLT.out; omega)
    obtain ⟨x, hxk⟩ : ∃ x, l[k]? = some x := ⟨_, List.getElem?_eq_getElem (by have h := HL.out; omega)⟩
    obtain ⟨row, h, hrow⟩ := HR0.out k HLT.out x hxk
    obtain ⟨A0, n0, c0, lam, rfl, ⟨kh0, mh0, h0⟩⟩ := h
    obtain rfl : n0 = x.regs_.length := by have a := h0.sl.len; omega
    have L0 := Lib.hid h0
    clear h0
    have IX4 : cs0[k * 5 + 4]? = some (.slice A0 x.regs_.length c0) := hrow 4 (by omega)
    have HCT := Lib.hid (ctl_take (f := Mark.ct) hxk)
    have hle := ctl_le (f := Mark.ct) l (k + 1)
    obtain ⟨Q, hQ⟩ : ∃ Q : Int, Q = q + (ctl Mark.ct (l.take k) : Nat) := ⟨_, rfl⟩
    have hQ0 : 0 ≤ Q := by omega
    have hQn : Q + (Mark.ct x : Nat) ≤ 9007199254740992 := by have a := HCT.out; omega
    unfold Mark.ct at hQn
    have HQ := Lib.hid hQ
    have hg0 : lab g = 0 := hgS.2
    have M : Hid (Shake 154 5 g n c k (fun f => f ∈ [4]) cs0 (fun j => S j ∧ (lab j ≤ k ∨ (lab j = k + 1 ∧ (lam j < 0)))) w wr) := Lib.hid ((M0.leafs fun _ _ => trivial).mono fun j h => ⟨h.1, .inl h.2⟩)
    rw [← hQ]
    clear hQ hrow hxk hle hgl hgS HX HM M0
    go_wp2_with ((with_reducible show wpList _ _ _ (⟨_, _, _, _, _, none⟩ :: _) _ _); first | (refine Shake.wp_put M.out HLT.out rfl _ _ _ rfl rfl _ rfl _ (by (conv => lhs; whnf) <;> rfl) (by decide) (by decide) (by rfl) (by kernel_rfl) ?_; intro w' M'; replace M := Lib.hid M'; clear M') | (refine Shake.wp_put0 M.out HLT.out rfl _ _ _ rfl rfl rfl _ (by (conv => lhs; whnf) <;> rfl) (by decide) (by decide) (by rfl) (by kernel_rfl) ?_; intro w' M'; replace M := Lib.hid M'; clear M') | (refine Shake.wp_put2 M.out HLT.out rfl _ _ _ rfl rfl _ _ rfl _ (by (conv => lhs; whnf) <;> rfl) (by decide) (by decide) (by rfl) (by kernel_rfl) ?_; intro w' M'; replace M := Lib.hid M'; clear M') | (refine Shake.wp_get M.out HLT.out rfl _ _ rfl _ rfl (by decide) (by decide) _ (by assumption) _ (by first | exact Tryz.underlying25) (by rfl) ?_; (try simp only [Act.put, List.setIfInBounds_toArray, List.set_cons_zero, List.set_cons_succ, List.drop_succ_cons, List.drop_zero, List.take_succ_cons, List.take_zero, putAt, ints_set, ints_push, List.getElem_toArray, List.getElem_cons_zero, List.getElem_cons_succ])) | (refine Shake.wp_get0 M.out HLT.out rfl _ _ rfl rfl (by decide) (by decide) _ (by assumption) _ (by first | exact Tryz.underlying25) (by rfl) ?_; (try simp only [Act.put, List.setIfInBounds_toArray, List.set_cons_zero, List.set_cons_succ, List.drop_succ_cons, List.drop_zero, List.take_succ_cons, List.take_zero, putAt, ints_set, ints_push, List.getElem_toArray, List.getElem_cons_zero, List.getElem_cons_succ])) | (refine Shake.wp_get2 M.out HLT.out rfl _ _ rfl _ _ rfl (by decide) (by decide) _ (by assumption) _ (by first | exact Tryz.underlying25) (by rfl) ?_; (try simp only [Act.put, List.setIfInBounds_toArray, List.set_cons_zero, List.set_cons_succ, List.drop_succ_cons, List.drop_zero, List.take_succ_cons, List.take_zero, putAt, ints_set, ints_push, List.getElem_toArray, List.getElem_cons_zero, List.getElem_cons_succ])))
    refine (shk3 (markIntS_ow _ _ _ x.regs_ _ _ _ (OwS.chg L0.out M.out.chg (fun i h1 h2 => by obtain ⟨h1, e0⟩ := h1; have e9 := h1.2; obtain ⟨-, h2⟩ := h2; omega)) (by omega) (by omega))).mono ?_
    rintro e w1 ⟨Q1, rfl, E1, c1⟩
    have hq1 : 0 ≤ Q1 := by have a := E1.out; omega
    have hr1 : Q1 + ((0 : Nat) : Int) ≤ 9007199254740992 := by have a := E1.out; omega
    clear hQ0 hQn
    replace M : Hid (Shake 154 5 g n c k (fun f => f ∈ [4]) cs0 (fun j => S j ∧ (lab j ≤ k ∨ (lab j = k + 1 ∧ (lam j ≤ 0)))) w w1) := Lib.hid (M.out.call c1 (fun h1 => by obtain ⟨h1, e0⟩ := h1; have e9 := h1.2; omega) (fun j h1 => ⟨h1.1.1, by obtain ⟨h1, e0⟩ := h1; have e9 := h1.2; omega⟩) (fun j h => ⟨h.1, by have h2 := h.2; omega⟩))
    clear c1
    go_wp2_with ((with_reducible show wpList _ _ _ (⟨_, _, _, _, _, none⟩ :: _) _ _); first | (refine Shake.wp_put M.out HLT.out rfl _ _ _ rfl rfl _ rfl _ (by (conv => lhs; whnf) <;> rfl) (by decide) (by decide) (by rfl) (by kernel_rfl) ?_; intro w' M'; replace M := Lib.hid M'; clear M') | (refine Shake.wp_put0 M.out HLT.out rfl _ _ _ rfl rfl rfl _ (by (conv => lhs; whnf) <;> rfl) (by decide) (by decide) (by rfl) (by kernel_rfl) ?_; intro w' M'; replace M := Lib.hid M'; clear M') | (refine Shake.wp_put2 M.out HLT.out rfl _ _ _ rfl rfl _ _ rfl _ (by (conv => lhs; whnf) <;> rfl) (by decide) (by decide) (by rfl) (by kernel_rfl) ?_; intro w' M'; replace M := Lib.hid M'; clear M') | (refine Shake.wp_get M.out HLT.out rfl _ _ rfl _ rfl (by decide) (by decide) _ (by assumption) _ (by first | exact Tryz.underlying25) (by rfl) ?_; (try simp only [Act.put, List.setIfInBounds_toArray, List.set_cons_zero, List.set_cons_succ, List.drop_succ_cons, List.drop_zero, List.take_succ_cons, List.take_zero, putAt, ints_set, ints_push, List.getElem_toArray, List.getElem_cons_zero, List.getElem_cons_succ])) | (refine Shake.wp_get0 M.out HLT.out rfl _ _ rfl rfl (by decide) (by decide) _ (by assumption) _ (by first | exact Tryz.underlying25) (by rfl) ?_; (try simp only [Act.put, List.setIfInBounds_toArray, List.set_cons_zero, List.set_cons_succ, List.drop_succ_cons, List.drop_zero, List.take_succ_cons, List.take_zero, putAt, ints_set, ints_push, List.getElem_toArray, List.getElem_cons_zero, List.getElem_cons_succ])) | (refine Shake.wp_get2 M.out HLT.out rfl _ _ rfl _ _ rfl (by decide) (by decide) _ (by assumption) _ (by first | exact Tryz.underlying25) (by rfl) ?_; (try simp only [Act.put, List.setIfInBounds_toArray, List.set_cons_zero, List.set_cons_succ, List.drop_succ_cons, List.drop_zero, List.take_succ_cons, List.take_zero, putAt, ints_set, ints_push, List.getElem_toArray, List.getElem_cons_zero, List.getElem_cons_succ])))
    go_roundw
    case rel =>
      have M9 := (M.out.next).mono (T' := fun j => S j ∧ lab j ≤ k + 1) fun j h => ⟨h.1, by have h2 := h.2; omega⟩
      refine ⟨k + 1, HLT.out, by go_num, by congr 1; have a := HCT.out; have b := HQ.out; have aE1 := E1.out; have cc : Mark.ct x = 4 + x.regs_.length := rfl; omega, M9.chg, fun g2 hA _ => ?_⟩
      obtain rfl := addr_inj hA
      exact M9
    case measure => have h := HLT.out; simp [intOf]; omega
def KidMark.ct (x : KidMark) : Nat := 2 + x.regs_.length
def KidMark.ca (x : KidMark) : Nat := x.regs_.length
theorem KidMark.ct_le (x : KidMark) : KidMark.ct x ≤ 64 * (KidMark.wt x + 1) := by
  skip
  unfold KidMark.ct KidMark.wt
  omega
set_option maxRecDepth 20000 in
set_option maxHeartbeats 16000000 in
theorem shakeKidMarkS_any (A : Option Addr) (n c : Nat) (l : List KidMark) (q : Int) (w : World) (S : Nat → Prop) (h : SlW KidMark.W 181 3 w S A n c l) (hS : ∀ g, S g → g < w.heap.size) (hq : 0 ≤ q) (hqn : q + (ctl KidMark.ct l : Nat) ≤ 9007199254740992) (hm : n ≤ 9223372036854775807) :
    Calls Tryz.prog 82 #[.slice A n c, .int .i64 q] w fun e w' => e = .returned (.int .i64 (q + (ctl KidMark.ct l : Nat))) ∧ Chg S w w' := by
  obtain ⟨hl, cs0, lab, ho0, hr0⟩ := h
  have HL := Lib.hid hl
  have HO0 := Lib.hid ho0
  have HR0 := Lib.hid hr0
  have HS := Lib.hid hS
  clear hl ho0 hr0 hS
  go_enter Tryz.func82, Tryz.ntmps82
  go_wp2
  go_loopw [1, 5] (fun r i wr => ∃ k : Nat, k ≤ n ∧ i = .int .i64 k ∧ r = .int .i64 (q + (ctl KidMark.ct (l.take k) : Nat)) ∧ Hid (Chg (fun j => S j ∧ lab j ≤ k) w wr) ∧ Hid (∀ g, A = some ⟨g, 0, none⟩ → 0 < n → Shake 181 3 g n c k (fun _ => True) cs0 (fun j => S j ∧ lab j ≤ k) w wr)) (fun _ i _ => n - (intOf i).toNat)
  case atStart => exact ⟨0, Nat.zero_le _, rfl, by simp [ctl], Chg.refl _ _, fun g hA hn => by subst hA; exact Shake.zero HO0.out.1 (by have h := HO0.out.2 g rfl; exact ⟨h.1, by rw [h.2]; exact Nat.le_refl _⟩)⟩
  case round =>
    obtain ⟨k, hk, rfl, rfl, HX, HM⟩ := hrel
    by_cases hlt : (k : Int) < (n : Int)
    rotate_left
    · have e : Hid (k = n) := by show k = n; omega
      go_wp2
      go_ret
      exact ⟨by (rw [e.out, ← HL.out, List.take_length]) <;> rfl, HX.out.mono fun _ h => h.1⟩
    have HLT : Hid (k < n) := by show k < n; omega
    obtain ⟨g, rfl, hgS, hgl, -⟩ := HO0.out.at_ HLT.out
    have M0 := HM.out g rfl (by have := HLT.out; omega)
    obtain ⟨x, hxk⟩ : ∃ x, l[k]? = some x := ⟨_, List.getElem?_eq_getElem (by have h := HL.out; omega)⟩
    obtain ⟨row, h, hrow⟩ := HR0.out k HLT.out x hxk
    obtain ⟨A0, n0, c0, lam, rfl, ⟨kh0, mh0, h0⟩⟩ := h
    obtain rfl : n0 = x.regs_.length := by have a := h0.sl.len; omega
    have L0 := Lib.hid h0
    clear h0
    have IX2 : cs0[k * 3 + 2]? = some (.slice A0 x.regs_.length c0) := hrow 2 (by omega)
    have HCT := Lib.hid (ctl_take (f := KidMark.ct) hxk)
    have hle := ctl_le (f := KidMark.ct) l (k + 1)
    obtain ⟨Q, hQ⟩ : ∃ Q : Int, Q = q + (ctl KidMark.ct (l.take k) : Nat) := ⟨_, rfl⟩
    have hQ0 : 0 ≤ Q := by omega
    have hQn : Q + (KidMark.ct x : Nat) ≤ 9007199254740992 := by have a := HCT.out; omega
    unfold KidMark.ct at hQn
    have HQ := Lib.hid hQ
    have hg0 : lab g = 0 := hgS.2
    have M : Hid (Shake 181 3 g n c k (fun f => f ∈ [2]) cs0 (fun j => S j ∧ (lab j ≤ k ∨ (lab j = k + 1 ∧ (lam j < 0)))) w wr) := Lib.hid ((M0.leafs fun _ _ => trivial).mono fun j h => ⟨h.1, .inl h.2⟩)
    rw [← hQ]
    clear hQ hrow hxk hle hgl hgS HX HM M0
    go_wp2_with ((with_reducible show wpList _ _ _ (⟨_, _, _, _, _, none⟩ :: _) _ _); first | (refine Shake.wp_put M.out HLT.out rfl _ _ _ rfl rfl _ rfl _ (by (conv => lhs; whnf) <;> rfl) (by decide) (by decide) (by rfl) (by kernel_rfl) ?_; intro w' M'; replace M := Lib.hid M'; clear M') | (refine Shake.wp_put0 M.out HLT.out rfl _ _ _ rfl rfl rfl _ (by (conv => lhs; whnf) <;> rfl) (by decide) (by decide) (by rfl) (by kernel_rfl) ?_; intro w' M'; replace M := Lib.hid M'; clear M') | (refine Shake.wp_put2 M.out HLT.out rfl _ _ _ rfl rfl _ _ rfl _ (by (conv => lhs; whnf) <;> rfl) (by decide) (by decide) (by rfl) (by kernel_rfl) ?_; intro w' M'; replace M := Lib.hid M'; clear M') | (refine Shake.wp_get M.out HLT.out rfl _ _ rfl _ rfl (by decide) (by decide) _ (by assumption) _ (by first | exact Tryz.underlying25) (by rfl) ?_; (try simp only [Act.put, List.setIfInBounds_toArray, List.set_cons_zero, List.set_cons_succ, List.drop_succ_cons, List.drop_zero, List.take_succ_cons, List.take_zero, putAt, ints_set, ints_push, List.getElem_toArray, List.getElem_cons_zero, List.getElem_cons_succ])) | (refine Shake.wp_get0 M.out HLT.out rfl _ _ rfl rfl (by decide) (by decide) _ (by assumption) _ (by first | exact Tryz.underlying25) (by rfl) ?_; (try simp only [Act.put, List.setIfInBounds_toArray, List.set_cons_zero, List.set_cons_succ, List.drop_succ_cons, List.drop_zero, List.take_succ_cons, List.take_zero, putAt, ints_set, ints_push, List.getElem_toArray, List.getElem_cons_zero, List.getElem_cons_succ])) | (refine Shake.wp_get2 M.out HLT.out rfl _ _ rfl _ _ rfl (by decide) (by decide) _ (by assumption) _ (by first | exact Tryz.underlying25) (by rfl) ?_; (try simp only [Act.put, List.setIfInBounds_toArray, List.set_cons_zero, List.set_cons_succ, List.drop_succ_cons, List.drop_zero, List.take_succ_cons, List.take_zero, putAt, ints_set, ints_push, List.getElem_toArray, List.getElem_cons_zero, List.getElem_cons_succ])))
    refine (shk3 (markIntS_ow _ _ _ x.regs_ _ _ _ (OwS.chg L0.out M.out.chg (fun i h1 h2 => by obtain ⟨h1, e0⟩ := h1; have e9 := h1.2; obtain ⟨-, h2⟩ := h2; omega)) (by omega) (by omega))).mono ?_
    rintro e w1 ⟨Q1, rfl, E1, c1⟩
    have hq1 : 0 ≤ Q1 := by have a := E1.out; omega
    have hr1 : Q1 + ((0 : Nat) : Int) ≤ 9007199254740992 := by have a := E1.out; omega
    clear hQ0 hQn
    replace M : Hid (Shake 181 3 g n c k (fun f => f ∈ [2]) cs0 (fun j => S j ∧ (lab j ≤ k ∨ (lab j = k + 1 ∧ (lam j ≤ 0)))) w w1) := Lib.hid (M.out.call c1 (fun h1 => by obtain ⟨h1, e0⟩ := h1; have e9 := h1.2; omega) (fun j h1 => ⟨h1.1.1, by obtain ⟨h1, e0⟩ := h1; have e9 := h1.2; omega⟩) (fun j h => ⟨h.1, by have h2 := h.2; omega⟩))
    clear c1
    go_wp2_with ((with_reducible show wpList _ _ _ (⟨_, _, _, _, _, none⟩ :: _) _ _); first | (refine Shake.wp_put M.out HLT.out rfl _ _ _ rfl rfl _ rfl _ (by (conv => lhs; whnf) <;> rfl) (by decide) (by decide) (by rfl) (by kernel_rfl) ?_; intro w' M'; replace M := Lib.hid M'; clear M') | (refine Shake.wp_put0 M.out HLT.out rfl _ _ _ rfl rfl rfl _ (by (conv => lhs; whnf) <;> rfl) (by decide) (by decide) (by rfl) (by kernel_rfl) ?_; intro w' M'; replace M := Lib.hid M'; clear M') | (refine Shake.wp_put2 M.out HLT.out rfl _ _ _ rfl rfl _ _ rfl _ (by (conv => lhs; whnf) <;> rfl) (by decide) (by decide) (by rfl) (by kernel_rfl) ?_; intro w' M'; replace M := Lib.hid M'; clear M') | (refine Shake.wp_get M.out HLT.out rfl _ _ rfl _ rfl (by decide) (by decide) _ (by assumption) _ (by first | exact Tryz.underlying25) (by rfl) ?_; (try simp only [Act.put, List.setIfInBounds_toArray, List.set_cons_zero, List.set_cons_succ, List.drop_succ_cons, List.drop_zero, List.take_succ_cons, List.take_zero, putAt, ints_set, ints_push, List.getElem_toArray, List.getElem_cons_zero, List.getElem_cons_succ])) | (refine Shake.wp_get0 M.out HLT.out rfl _ _ rfl rfl (by decide) (by decide) _ (by assumption) _ (by first | exact Tryz.underlying25) (by rfl) ?_; (try simp only [Act.put, List.setIfInBounds_toArray, List.set_cons_zero, List.set_cons_succ, List.drop_succ_cons, List.drop_zero, List.take_succ_cons, List.take_zero, putAt, ints_set, ints_push, List.getElem_toArray, List.getElem_cons_zero, List.getElem_cons_succ])) | (refine Shake.wp_get2 M.out HLT.out rfl _ _ rfl _ _ rfl (by decide) (by decide) _ (by assumption) _ (by first | exact Tryz.underlying25) (by rfl) ?_; (try simp only [Act.put, List.setIfInBounds_toArray, List.set_cons_zero, List.set_cons_succ, List.drop_succ_cons, List.drop_zero, List.take_succ_cons, List.take_zero, putAt, ints_set, ints_push, List.getElem_toArray, List.getElem_cons_zero, List.getElem_cons_succ])))
    go_roundw
    case rel =>
      have M9 := (M.out.next).mono (T' := fun j => S j ∧ lab j ≤ k + 1) fun j h => ⟨h.1, by have h2 := h.2; omega⟩
      refine ⟨k + 1, HLT.out, by go_num, by congr 1; have a := HCT.out; have b := HQ.out; have aE1 := E1.out; have cc : KidMark.ct x = 2 + x.regs_.length := rfl; omega, M9.chg, fun g2 hA _ => ?_⟩
      obtain rfl := addr_inj hA
      exact M9
    case measure => have h := HLT.out; simp [intOf]; omega
def KidRun.ct (x : KidRun) : Nat := 11 + x.regs_.length + x.seen_.length * 3 + x.writes_.length * 2 + ctl KidMark.ct x.marks_
def KidRun.ca (x : KidRun) : Nat := x.regs_.length + x.seen_.length * 3 + x.writes_.length * 2 + ctl KidMark.ct x.marks_
theorem KidRun.ct_le (x : KidRun) : KidRun.ct x ≤ 64 * (KidRun.wt x + 1) := by
  have c0 := ctl_bound (f := KidMark.ct) (wt := KidMark.wt) (b := 64) KidMark.ct_le (l := x.marks_)
  unfold KidRun.ct KidRun.wt
  omega
set_option maxRecDepth 20000 in
set_option maxHeartbeats 16000000 in
theorem shakeKidRunS_any (A : Option Addr) (n c : Nat) (l : List KidRun) (q : Int) (w : World) (S : Nat → Prop) (h : SlW KidRun.W 161 15 w S A n c l) (hS : ∀ g, S g → g < w.heap.size) (hq : 0 ≤ q) (hqn : q + (ctl KidRun.ct l : Nat) ≤ 9007199254740992) (hm : n ≤ 9223372036854775807) :
    Calls Tryz.prog 60 #[.slice A n c, .int .i64 q] w fun e w' => e = .returned (.int .i64 (q + (ctl KidRun.ct l : Nat))) ∧ Chg S w w' := by
  obtain ⟨hl, cs0, lab, ho0, hr0⟩ := h
  have HL := Lib.hid hl
  have HO0 := Lib.hid ho0
  have HR0 := Lib.hid hr0
  have HS := Lib.hid hS
  clear hl ho0 hr0 hS
  go_enter Tryz.func60, Tryz.ntmps60
  go_wp2
  go_loopw [1, 5] (fun r i wr => ∃ k : Nat, k ≤ n ∧ i = .int .i64 k ∧ r = .int .i64 (q + (ctl KidRun.ct (l.take k) : Nat)) ∧ Hid (Chg (fun j => S j ∧ lab j ≤ k) w wr) ∧ Hid (∀ g, A = some ⟨g, 0, none⟩ → 0 < n → Shake 161 15 g n c k (fun _ => True) cs0 (fun j => S j ∧ lab j ≤ k) w wr)) (fun _ i _ => n - (intOf i).toNat)
  case atStart => exact ⟨0, Nat.zero_le _, rfl, by simp [ctl], Chg.refl _ _, fun g hA hn => by subst hA; exact Shake.zero HO0.out.1 (by have h := HO0.out.2 g rfl; exact ⟨h.1, by rw [h.2]; exact Nat.le_refl _⟩)⟩
  case round =>
    obtain ⟨k, hk, rfl, rfl, HX, HM⟩ := hrel
    by_cases hlt : (k : Int) < (n : Int)
    rotate_left
    · have e : Hid (k = n) := by show k = n; omega
      go_wp2
      go_ret
      exact ⟨by (rw [e.out, ← HL.out, List.take_length]) <;> rfl, HX.out.mono fun _ h => h.1⟩
    have HLT : Hid (k < n) := by show k < n; omega
    obtain ⟨g, rfl, hgS, hgl, -⟩ := HO0.out.at_ HLT.out
    have M0 := HM.out g rfl (by have := HLT.out; omega)
    obtain ⟨x, hxk⟩ : ∃ x, l[k]? = some x := ⟨_, List.getElem?_eq_getElem (by have h := HL.out; omega)⟩
    obtain ⟨row, h, hrow⟩ := HR0.out k HLT.out x hxk
    obtain ⟨A0, n0, c0, A1, n1, c1, A2, n2, c2, A3, n3, c3, lam, rfl, ⟨kh0, mh0, h0⟩, ⟨kh1, mh1, h1⟩, ⟨kh2, mh2, h2⟩, ⟨kh3, mh3, h3⟩⟩ := h
    obtain rfl : n0 = x.regs_.length := by have a := h0.sl.len; omega
    have L0 := Lib.hid h0
    clear h0
    obtain rfl : n1 = x.seen_.length := by have a := h1.sl.flen Entry.cells_length (by omega); omega
    have L1 := Lib.hid h1
    clear h1
    obtain rfl : n2 = x.writes_.length := by have a := h2.sl.flen Row.cells_length (by omega); omega
    have L2 := Lib.hid h2
    clear h2
    obtain rfl : n3 = x.marks_.length := by have a := h3.1; omega
    have L3 := Lib.hid h3
    clear h3
    have IX6 : cs0[k * 15 + 6]? = some (.slice A0 x.regs_.length c0) := hrow 6 (by omega)
    have IX7 : cs0[k * 15 + 7]? = some (.slice A1 x.seen_.length c1) := hrow 7 (by omega)
    have IX8 : cs0[k * 15 + 8]? = some (.slice A2 x.writes_.length c2) := hrow 8 (by omega)
    have IX9 : cs0[k * 15 + 9]? = some (.slice A3 x.marks_.length c3) := hrow 9 (by omega)
    have HCT := Lib.hid (ctl_take (f := KidRun.ct) hxk)
    have hle := ctl_le (f := KidRun.ct) l (k + 1)
    obtain ⟨Q, hQ⟩ : ∃ Q : Int, Q = q + (ctl KidRun.ct (l.take k) : Nat) := ⟨_, rfl⟩
    have hQ0 : 0 ≤ Q := by omega
    have hQn : Q + (KidRun.ct x : Nat) ≤ 9007199254740992 := by have a := HCT.out; omega
    unfold KidRun.ct at hQn
    have HQ := Lib.hid hQ
    have hg0 : lab g = 0 := hgS.2
    have M : Hid (Shake 161 15 g n c k (fun f => f ∈ [6, 7, 8, 9]) cs0 (fun j => S j ∧ (lab j ≤ k ∨ (lab j = k + 1 ∧ (lam j < 0)))) w wr) := Lib.hid ((M0.leafs fun _ _ => trivial).mono fun j h => ⟨h.1, .inl h.2⟩)
    rw [← hQ]
    clear hQ hrow hxk hle hgl hgS HX HM M0
    go_wp2_with ((with_reducible show wpList _ _ _ (⟨_, _, _, _, _, none⟩ :: _) _ _); first | (refine Shake.wp_put M.out HLT.out rfl _ _ _ rfl rfl _ rfl _ (by (conv => lhs; whnf) <;> rfl) (by decide) (by decide) (by rfl) (by kernel_rfl) ?_; intro w' M'; replace M := Lib.hid M'; clear M') | (refine Shake.wp_put0 M.out HLT.out rfl _ _ _ rfl rfl rfl _ (by (conv => lhs; whnf) <;> rfl) (by decide) (by decide) (by rfl) (by kernel_rfl) ?_; intro w' M'; replace M := Lib.hid M'; clear M') | (refine Shake.wp_put2 M.out HLT.out rfl _ _ _ rfl rfl _ _ rfl _ (by (conv => lhs; whnf) <;> rfl) (by decide) (by decide) (by rfl) (by kernel_rfl) ?_; intro w' M'; replace M := Lib.hid M'; clear M') | (refine Shake.wp_get M.out HLT.out rfl _ _ rfl _ rfl (by decide) (by decide) _ (by assumption) _ (by first | exact Tryz.underlying63 | exact Tryz.underlying159 | exact Tryz.underlying56 | exact Tryz.underlying25) (by rfl) ?_; (try simp only [Act.put, List.setIfInBounds_toArray, List.set_cons_zero, List.set_cons_succ, List.drop_succ_cons, List.drop_zero, List.take_succ_cons, List.take_zero, putAt, ints_set, ints_push, List.getElem_toArray, List.getElem_cons_zero, List.getElem_cons_succ])) | (refine Shake.wp_get0 M.out HLT.out rfl _ _ rfl rfl (by decide) (by decide) _ (by assumption) _ (by first | exact Tryz.underlying63 | exact Tryz.underlying159 | exact Tryz.underlying56 | exact Tryz.underlying25) (by rfl) ?_; (try simp only [Act.put, List.setIfInBounds_toArray, List.set_cons_zero, List.set_cons_succ, List.drop_succ_cons, List.drop_zero, List.take_succ_cons, List.take_zero, putAt, ints_set, ints_push, List.getElem_toArray, List.getElem_cons_zero, List.getElem_cons_succ])) | (refine Shake.wp_get2 M.out HLT.out rfl _ _ rfl _ _ rfl (by decide) (by decide) _ (by assumption) _ (by first | exact Tryz.underlying63 | exact Tryz.underlying159 | exact Tryz.underlying56 | exact Tryz.underlying25) (by rfl) ?_; (try simp only [Act.put, List.setIfInBounds_toArray, List.set_cons_zero, List.set_cons_succ, List.drop_succ_cons, List.drop_zero, List.take_succ_cons, List.take_zero, putAt, ints_set, ints_push, List.getElem_toArray, List.getElem_cons_zero, List.getElem_cons_succ])))
    refine (shk3 (markIntS_ow _ _ _ x.regs_ _ _ _ (OwS.chg L0.out M.out.chg (fun i h1 h2 => by obtain ⟨h1, e0⟩ := h1; have e9 := h1.2; obtain ⟨-, h2⟩ := h2; omega)) (by omega) (by omega))).mono ?_
    rintro e w1 ⟨Q1, rfl, E1, c1⟩
    have hq1 : 0 ≤ Q1 := by have a := E1.out; omega
    have hr1 : Q1 + ((5 + x.seen_.length * 3 + x.writes_.length * 2 + ctl KidMark.ct x.marks_ : Nat) : Int) ≤ 9007199254740992 := by have a := E1.out; omega
    clear hQ0 hQn
    replace M : Hid (Shake 161 15 g n c k (fun f => f ∈ [6, 7, 8, 9]) cs0 (fun j => S j ∧ (lab j ≤ k ∨ (lab j = k + 1 ∧ (lam j ≤ 0)))) w w1) := Lib.hid (M.out.call c1 (fun h1 => by obtain ⟨h1, e0⟩ := h1; have e9 := h1.2; omega) (fun j h1 => ⟨h1.1.1, by obtain ⟨h1, e0⟩ := h1; have e9 := h1.2; omega⟩) (fun j h => ⟨h.1, by have h2 := h.2; omega⟩))
    clear c1
    go_wp2_with ((with_reducible show wpList _ _ _ (⟨_, _, _, _, _, none⟩ :: _) _ _); first | (refine Shake.wp_put M.out HLT.out rfl _ _ _ rfl rfl _ rfl _ (by (conv => lhs; whnf) <;> rfl) (by decide) (by decide) (by rfl) (by kernel_rfl) ?_; intro w' M'; replace M := Lib.hid M'; clear M') | (refine Shake.wp_put0 M.out HLT.out rfl _ _ _ rfl rfl rfl _ (by (conv => lhs; whnf) <;> rfl) (by decide) (by decide) (by rfl) (by kernel_rfl) ?_; intro w' M'; replace M := Lib.hid M'; clear M') | (refine Shake.wp_put2 M.out HLT.out rfl _ _ _ rfl rfl _ _ rfl _ (by (conv => lhs; whnf) <;> rfl) (by decide) (by decide) (by rfl) (by kernel_rfl) ?_; intro w' M'; replace M := Lib.hid M'; clear M') | (refine Shake.wp_get M.out HLT.out rfl _ _ rfl _ rfl (by decide) (by decide) _ (by assumption) _ (by first | exact Tryz.underlying63 | exact Tryz.underlying159 | exact Tryz.underlying56 | exact Tryz.underlying25) (by rfl) ?_; (try simp only [Act.put, List.setIfInBounds_toArray, List.set_cons_zero, List.set_cons_succ, List.drop_succ_cons, List.drop_zero, List.take_succ_cons, List.take_zero, putAt, ints_set, ints_push, List.getElem_toArray, List.getElem_cons_zero, List.getElem_cons_succ])) | (refine Shake.wp_get0 M.out HLT.out rfl _ _ rfl rfl (by decide) (by decide) _ (by assumption) _ (by first | exact Tryz.underlying63 | exact Tryz.underlying159 | exact Tryz.underlying56 | exact Tryz.underlying25) (by rfl) ?_; (try simp only [Act.put, List.setIfInBounds_toArray, List.set_cons_zero, List.set_cons_succ, List.drop_succ_cons, List.drop_zero, List.take_succ_cons, List.take_zero, putAt, ints_set, ints_push, List.getElem_toArray, List.getElem_cons_zero, List.getElem_cons_succ])) | (refine Shake.wp_get2 M.out HLT.out rfl _ _ rfl _ _ rfl (by decide) (by decide) _ (by assumption) _ (by first | exact Tryz.underlying63 | exact Tryz.underlying159 | exact Tryz.underlying56 | exact Tryz.underlying25) (by rfl) ?_; (try simp only [Act.put, List.setIfInBounds_toArray, List.set_cons_zero, List.set_cons_succ, List.drop_succ_cons, List.drop_zero, List.take_succ_cons, List.take_zero, putAt, ints_set, ints_push, List.getElem_toArray, List.getElem_cons_zero, List.getElem_cons_succ])))
    refine (shk3 (markEntryS_ow _ _ _ x.seen_ _ _ _ (OwS.chg L1.out M.out.chg (fun i h1 h2 => by obtain ⟨h1, e0⟩ := h1; have e9 := h1.2; obtain ⟨-, h2⟩ := h2; omega)) (by omega) (by omega))).mono ?_
    rintro e w1 ⟨Q2, rfl, E2, c1⟩
    have hq2 : 0 ≤ Q2 := by have a := E2.out; omega
    have hr2 : Q2 + ((5 + x.writes_.length * 2 + ctl KidMark.ct x.marks_ : Nat) : Int) ≤ 9007199254740992 := by have a := E2.out; omega
    clear hq1 hr1
    replace M : Hid (Shake 161 15 g n c k (fun f => f ∈ [6, 7, 8, 9]) cs0 (fun j => S j ∧ (lab j ≤ k ∨ (lab j = k + 1 ∧ (lam j ≤ 1)))) w w1) := Lib.hid (M.out.call c1 (fun h1 => by obtain ⟨h1, e0⟩ := h1; have e9 := h1.2; omega) (fun j h1 => ⟨h1.1.1, by obtain ⟨h1, e0⟩ := h1; have e9 := h1.2; omega⟩) (fun j h => ⟨h.1, by have h2 := h.2; omega⟩))
    clear c1
    go_wp2_with ((with_reducible show wpList _ _ _ (⟨_, _, _, _, _, none⟩ :: _) _ _); first | (refine Shake.wp_put M.out HLT.out rfl _ _ _ rfl rfl _ rfl _ (by (conv => lhs; whnf) <;> rfl) (by decide) (by decide) (by rfl) (by kernel_rfl) ?_; intro w' M'; replace M := Lib.hid M'; clear M') | (refine Shake.wp_put0 M.out HLT.out rfl _ _ _ rfl rfl rfl _ (by (conv => lhs; whnf) <;> rfl) (by decide) (by decide) (by rfl) (by kernel_rfl) ?_; intro w' M'; replace M := Lib.hid M'; clear M') | (refine Shake.wp_put2 M.out HLT.out rfl _ _ _ rfl rfl _ _ rfl _ (by (conv => lhs; whnf) <;> rfl) (by decide) (by decide) (by rfl) (by kernel_rfl) ?_; intro w' M'; replace M := Lib.hid M'; clear M') | (refine Shake.wp_get M.out HLT.out rfl _ _ rfl _ rfl (by decide) (by decide) _ (by assumption) _ (by first | exact Tryz.underlying63 | exact Tryz.underlying159 | exact Tryz.underlying56 | exact Tryz.underlying25) (by rfl) ?_; (try simp only [Act.put, List.setIfInBounds_toArray, List.set_cons_zero, List.set_cons_succ, List.drop_succ_cons, List.drop_zero, List.take_succ_cons, List.take_zero, putAt, ints_set, ints_push, List.getElem_toArray, List.getElem_cons_zero, List.getElem_cons_succ])) | (refine Shake.wp_get0 M.out HLT.out rfl _ _ rfl rfl (by decide) (by decide) _ (by assumption) _ (by first | exact Tryz.underlying63 | exact Tryz.underlying159 | exact Tryz.underlying56 | exact Tryz.underlying25) (by rfl) ?_; (try simp only [Act.put, List.setIfInBounds_toArray, List.set_cons_zero, List.set_cons_succ, List.drop_succ_cons, List.drop_zero, List.take_succ_cons, List.take_zero, putAt, ints_set, ints_push, List.getElem_toArray, List.getElem_cons_zero, List.getElem_cons_succ])) | (refine Shake.wp_get2 M.out HLT.out rfl _ _ rfl _ _ rfl (by decide) (by decide) _ (by assumption) _ (by first | exact Tryz.underlying63 | exact Tryz.underlying159 | exact Tryz.underlying56 | exact Tryz.underlying25) (by rfl) ?_; (try simp only [Act.put, List.setIfInBounds_toArray, List.set_cons_zero, List.set_cons_succ, List.drop_succ_cons, List.drop_zero, List.take_succ_cons, List.take_zero, putAt, ints_set, ints_push, List.getElem_toArray, List.getElem_cons_zero, List.getElem_cons_succ])))
    refine (shk3 (markRowS_ow _ _ _ x.writes_ _ _ _ (OwS.chg L2.out M.out.chg (fun i h1 h2 => by obtain ⟨h1, e0⟩ := h1; have e9 := h1.2; obtain ⟨-, h2⟩ := h2; omega)) (by omega) (by omega))).mono ?_
    rintro e w1 ⟨Q3, rfl, E3, c1⟩
    have hq3 : 0 ≤ Q3 := by have a := E3.out; omega
    have hr3 : Q3 + ((5 + ctl KidMark.ct x.marks_ : Nat) : Int) ≤ 9007199254740992 := by have a := E3.out; omega
    clear hq2 hr2
    replace M : Hid (Shake 161 15 g n c k (fun f => f ∈ [6, 7, 8, 9]) cs0 (fun j => S j ∧ (lab j ≤ k ∨ (lab j = k + 1 ∧ (lam j ≤ 2)))) w w1) := Lib.hid (M.out.call c1 (fun h1 => by obtain ⟨h1, e0⟩ := h1; have e9 := h1.2; omega) (fun j h1 => ⟨h1.1.1, by obtain ⟨h1, e0⟩ := h1; have e9 := h1.2; omega⟩) (fun j h => ⟨h.1, by have h2 := h.2; omega⟩))
    clear c1
    go_wp2_with ((with_reducible show wpList _ _ _ (⟨_, _, _, _, _, none⟩ :: _) _ _); first | (refine Shake.wp_put M.out HLT.out rfl _ _ _ rfl rfl _ rfl _ (by (conv => lhs; whnf) <;> rfl) (by decide) (by decide) (by rfl) (by kernel_rfl) ?_; intro w' M'; replace M := Lib.hid M'; clear M') | (refine Shake.wp_put0 M.out HLT.out rfl _ _ _ rfl rfl rfl _ (by (conv => lhs; whnf) <;> rfl) (by decide) (by decide) (by rfl) (by kernel_rfl) ?_; intro w' M'; replace M := Lib.hid M'; clear M') | (refine Shake.wp_put2 M.out HLT.out rfl _ _ _ rfl rfl _ _ rfl _ (by (conv => lhs; whnf) <;> rfl) (by decide) (by decide) (by rfl) (by kernel_rfl) ?_; intro w' M'; replace M := Lib.hid M'; clear M') | (refine Shake.wp_get M.out HLT.out rfl _ _ rfl _ rfl (by decide) (by decide) _ (by assumption) _ (by first | exact Tryz.underlying63 | exact Tryz.underlying159 | exact Tryz.underlying56 | exact Tryz.underlying25) (by rfl) ?_; (try simp only [Act.put, List.setIfInBounds_toArray, List.set_cons_zero, List.set_cons_succ, List.drop_succ_cons, List.drop_zero, List.take_succ_cons, List.take_zero, putAt, ints_set, ints_push, List.getElem_toArray, List.getElem_cons_zero, List.getElem_cons_succ])) | (refine Shake.wp_get0 M.out HLT.out rfl _ _ rfl rfl (by decide) (by decide) _ (by assumption) _ (by first | exact Tryz.underlying63 | exact Tryz.underlying159 | exact Tryz.underlying56 | exact Tryz.underlying25) (by rfl) ?_; (try simp only [Act.put, List.setIfInBounds_toArray, List.set_cons_zero, List.set_cons_succ, List.drop_succ_cons, List.drop_zero, List.take_succ_cons, List.take_zero, putAt, ints_set, ints_push, List.getElem_toArray, List.getElem_cons_zero, List.getElem_cons_succ])) | (refine Shake.wp_get2 M.out HLT.out rfl _ _ rfl _ _ rfl (by decide) (by decide) _ (by assumption) _ (by first | exact Tryz.underlying63 | exact Tryz.underlying159 | exact Tryz.underlying56 | exact Tryz.underlying25) (by rfl) ?_; (try simp only [Act.put, List.setIfInBounds_toArray, List.set_cons_zero, List.set_cons_succ, List.drop_succ_cons, List.drop_zero, List.take_succ_cons, List.take_zero, putAt, ints_set, ints_push, List.getElem_toArray, List.getElem_cons_zero, List.getElem_cons_succ])))
    refine (shk (shakeKidMarkS_any _ _ _ x.marks_ _ _ _ (SlW.chg KidMark.W_good L3.out M.out.chg (fun i h1 h2 => by obtain ⟨h1, e0⟩ := h1; have e9 := h1.2; obtain ⟨-, h2⟩ := h2; omega)) (fun i hi => Nat.lt_of_lt_of_le (HS.out i hi.1.1) M.out.chg.size) (by omega) (by omega) (by omega))).mono ?_
    rintro e w1 ⟨Q4, rfl, E4, c1⟩
    have hq4 : 0 ≤ Q4 := by have a := E4.out; omega
    have hr4 : Q4 + ((5 : Nat) : Int) ≤ 9007199254740992 := by have a := E4.out; omega
    clear hq3 hr3
    replace M : Hid (Shake 161 15 g n c k (fun f => f ∈ [6, 7, 8, 9]) cs0 (fun j => S j ∧ (lab j ≤ k ∨ (lab j = k + 1 ∧ (lam j ≤ 3)))) w w1) := Lib.hid (M.out.call c1 (fun h1 => by obtain ⟨h1, e0⟩ := h1; have e9 := h1.2; omega) (fun j h1 => ⟨h1.1.1, by obtain ⟨h1, e0⟩ := h1; have e9 := h1.2; omega⟩) (fun j h => ⟨h.1, by have h2 := h.2; omega⟩))
    clear c1
    go_wp2_with ((with_reducible show wpList _ _ _ (⟨_, _, _, _, _, none⟩ :: _) _ _); first | (refine Shake.wp_put M.out HLT.out rfl _ _ _ rfl rfl _ rfl _ (by (conv => lhs; whnf) <;> rfl) (by decide) (by decide) (by rfl) (by kernel_rfl) ?_; intro w' M'; replace M := Lib.hid M'; clear M') | (refine Shake.wp_put0 M.out HLT.out rfl _ _ _ rfl rfl rfl _ (by (conv => lhs; whnf) <;> rfl) (by decide) (by decide) (by rfl) (by kernel_rfl) ?_; intro w' M'; replace M := Lib.hid M'; clear M') | (refine Shake.wp_put2 M.out HLT.out rfl _ _ _ rfl rfl _ _ rfl _ (by (conv => lhs; whnf) <;> rfl) (by decide) (by decide) (by rfl) (by kernel_rfl) ?_; intro w' M'; replace M := Lib.hid M'; clear M') | (refine Shake.wp_get M.out HLT.out rfl _ _ rfl _ rfl (by decide) (by decide) _ (by assumption) _ (by first | exact Tryz.underlying63 | exact Tryz.underlying159 | exact Tryz.underlying56 | exact Tryz.underlying25) (by rfl) ?_; (try simp only [Act.put, List.setIfInBounds_toArray, List.set_cons_zero, List.set_cons_succ, List.drop_succ_cons, List.drop_zero, List.take_succ_cons, List.take_zero, putAt, ints_set, ints_push, List.getElem_toArray, List.getElem_cons_zero, List.getElem_cons_succ])) | (refine Shake.wp_get0 M.out HLT.out rfl _ _ rfl rfl (by decide) (by decide) _ (by assumption) _ (by first | exact Tryz.underlying63 | exact Tryz.underlying159 | exact Tryz.underlying56 | exact Tryz.underlying25) (by rfl) ?_; (try simp only [Act.put, List.setIfInBounds_toArray, List.set_cons_zero, List.set_cons_succ, List.drop_succ_cons, List.drop_zero, List.take_succ_cons, List.take_zero, putAt, ints_set, ints_push, List.getElem_toArray, List.getElem_cons_zero, List.getElem_cons_succ])) | (refine Shake.wp_get2 M.out HLT.out rfl _ _ rfl _ _ rfl (by decide) (by decide) _ (by assumption) _ (by first | exact Tryz.underlying63 | exact Tryz.underlying159 | exact Tryz.underlying56 | exact Tryz.underlying25) (by rfl) ?_; (try simp only [Act.put, List.setIfInBounds_toArray, List.set_cons_zero, List.set_cons_succ, List.drop_succ_cons, List.drop_zero, List.take_succ_cons, List.take_zero, putAt, ints_set, ints_push, List.getElem_toArray, List.getElem_cons_zero, List.getElem_cons_succ])))
    go_roundw
    case rel =>
      have M9 := (M.out.next).mono (T' := fun j => S j ∧ lab j ≤ k + 1) fun j h => ⟨h.1, by have h2 := h.2; omega⟩
      refine ⟨k + 1, HLT.out, by go_num, by congr 1; have a := HCT.out; have b := HQ.out; have aE1 := E1.out; have aE2 := E2.out; have aE3 := E3.out; have aE4 := E4.out; have cc : KidRun.ct x = 11 + x.regs_.length + x.seen_.length * 3 + x.writes_.length * 2 + ctl KidMark.ct x.marks_ := rfl; omega, M9.chg, fun g2 hA _ => ?_⟩
      obtain rfl := addr_inj hA
      exact M9
    case measure => have h := HLT.out; simp [intOf]; omega
def Wrote.ct (x : Wrote) : Nat := 2 + x.puts_.length * 2
def Wrote.ca (x : Wrote) : Nat := x.puts_.length * 2
theorem Wrote.ct_le (x : Wrote) : Wrote.ct x ≤ 64 * (Wrote.wt x + 1) := by
  skip
  unfold Wrote.ct Wrote.wt
  omega
set_option maxRecDepth 20000 in
set_option maxHeartbeats 16000000 in
theorem shakeWroteS_any (A : Option Addr) (n c : Nat) (l : List Wrote) (q : Int) (w : World) (S : Nat → Prop) (h : SlW Wrote.W 114 3 w S A n c l) (hS : ∀ g, S g → g < w.heap.size) (hq : 0 ≤ q) (hqn : q + (ctl Wrote.ct l : Nat) ≤ 9007199254740992) (hm : n ≤ 9223372036854775807) :
    Calls Tryz.prog 38 #[.slice A n c, .int .i64 q] w fun e w' => e = .returned (.int .i64 (q + (ctl Wrote.ct l : Nat))) ∧ Chg S w w' := by
  obtain ⟨hl, cs0, lab, ho0, hr0⟩ := h
  have HL := Lib.hid hl
  have HO0 := Lib.hid ho0
  have HR0 := Lib.hid hr0
  have HS := Lib.hid hS
  clear hl ho0 hr0 hS
  go_enter Tryz.func38, Tryz.ntmps38
  go_wp2
  go_loopw [1, 5] (fun r i wr => ∃ k : Nat, k ≤ n ∧ i = .int .i64 k ∧ r = .int .i64 (q + (ctl Wrote.ct (l.take k) : Nat)) ∧ Hid (Chg (fun j => S j ∧ lab j ≤ k) w wr) ∧ Hid (∀ g, A = some ⟨g, 0, none⟩ → 0 < n → Shake 114 3 g n c k (fun _ => True) cs0 (fun j => S j ∧ lab j ≤ k) w wr)) (fun _ i _ => n - (intOf i).toNat)
  case atStart => exact ⟨0, Nat.zero_le _, rfl, by simp [ctl], Chg.refl _ _, fun g hA hn => by subst hA; exact Shake.zero HO0.out.1 (by have h := HO0.out.2 g rfl; exact ⟨h.1, by rw [h.2]; exact Nat.le_refl _⟩)⟩
  case round =>
    obtain ⟨k, hk, rfl, rfl, HX, HM⟩ := hrel
    by_cases hlt : (k : Int) < (n : Int)
    rotate_left
    · have e : Hid (k = n) := by show k = n; omega
      go_wp2
      go_ret
      exact ⟨by (rw [e.out, ← HL.out, List.take_length]) <;> rfl, HX.out.mono fun _ h => h.1⟩
    have HLT : Hid (k < n) := by show k < n; omega
    obtain ⟨g, rfl, hgS, hgl, -⟩ := HO0.out.at_ HLT.out
    have M0 := HM.out g rfl (by have := HLT.out; omega)
    obtain ⟨x, hxk⟩ : ∃ x, l[k]? = some x := ⟨_, List.getElem?_eq_getElem (by have h := HL.out; omega)⟩
    obtain ⟨row, h, hrow⟩ := HR0.out k HLT.out x hxk
    obtain ⟨A0, n0, c0, lam, rfl, ⟨kh0, mh0, h0⟩⟩ := h
    obtain rfl : n0 = x.puts_.length := by have a := h0.sl.flen Row.cells_length (by omega); omega
    have L0 := Lib.hid h0
    clear h0
    have IX2 : cs0[k * 3 + 2]? = some (.slice A0 x.puts_.length c0) := hrow 2 (by omega)
    have HCT := Lib.hid (ctl_take (f := Wrote.ct) hxk)
    have hle := ctl_le (f := Wrote.ct) l (k + 1)
    obtain ⟨Q, hQ⟩ : ∃ Q : Int, Q = q + (ctl Wrote.ct (l.take k) : Nat) := ⟨_, rfl⟩
    have hQ0 : 0 ≤ Q := by omega
    have hQn : Q + (Wrote.ct x : Nat) ≤ 9007199254740992 := by have a := HCT.out; omega
    unfold Wrote.ct at hQn
    have HQ := Lib.hid hQ
    have hg0 : lab g = 0 := hgS.2
    have M : Hid (Shake 114 3 g n c k (fun f => f ∈ [2]) cs0 (fun j => S j ∧ (lab j ≤ k ∨ (lab j = k + 1 ∧ (lam j < 0)))) w wr) := Lib.hid ((M0.leafs fun _ _ => trivial).mono fun j h => ⟨h.1, .inl h.2⟩)
    rw [← hQ]
    clear hQ hrow hxk hle hgl hgS HX HM M0
    go_wp2_with ((with_reducible show wpList _ _ _ (⟨_, _, _, _, _, none⟩ :: _) _ _); first | (refine Shake.wp_put M.out HLT.out rfl _ _ _ rfl rfl _ rfl _ (by (conv => lhs; whnf) <;> rfl) (by decide) (by decide) (by rfl) (by kernel_rfl) ?_; intro w' M'; replace M := Lib.hid M'; clear M') | (refine Shake.wp_put0 M.out HLT.out rfl _ _ _ rfl rfl rfl _ (by (conv => lhs; whnf) <;> rfl) (by decide) (by decide) (by rfl) (by kernel_rfl) ?_; intro w' M'; replace M := Lib.hid M'; clear M') | (refine Shake.wp_put2 M.out HLT.out rfl _ _ _ rfl rfl _ _ rfl _ (by (conv => lhs; whnf) <;> rfl) (by decide) (by decide) (by rfl) (by kernel_rfl) ?_; intro w' M'; replace M := Lib.hid M'; clear M') | (refine Shake.wp_get M.out HLT.out rfl _ _ rfl _ rfl (by decide) (by decide) _ (by assumption) _ (by first | exact Tryz.underlying56) (by rfl) ?_; (try simp only [Act.put, List.setIfInBounds_toArray, List.set_cons_zero, List.set_cons_succ, List.drop_succ_cons, List.drop_zero, List.take_succ_cons, List.take_zero, putAt, ints_set, ints_push, List.getElem_toArray, List.getElem_cons_zero, List.getElem_cons_succ])) | (refine Shake.wp_get0 M.out HLT.out rfl _ _ rfl rfl (by decide) (by decide) _ (by assumption) _ (by first | exact Tryz.underlying56) (by rfl) ?_; (try simp only [Act.put, List.setIfInBounds_toArray, List.set_cons_zero, List.set_cons_succ, List.drop_succ_cons, List.drop_zero, List.take_succ_cons, List.take_zero, putAt, ints_set, ints_push, List.getElem_toArray, List.getElem_cons_zero, List.getElem_cons_succ])) | (refine Shake.wp_get2 M.out HLT.out rfl _ _ rfl _ _ rfl (by decide) (by decide) _ (by assumption) _ (by first | exact Tryz.underlying56) (by rfl) ?_; (try simp only [Act.put, List.setIfInBounds_toArray, List.set_cons_zero, List.set_cons_succ, List.drop_succ_cons, List.drop_zero, List.take_succ_cons, List.take_zero, putAt, ints_set, ints_push, List.getElem_toArray, List.getElem_cons_zero, List.getElem_cons_succ])))
    refine (shk3 (markRowS_ow _ _ _ x.puts_ _ _ _ (OwS.chg L0.out M.out.chg (fun i h1 h2 => by obtain ⟨h1, e0⟩ := h1; have e9 := h1.2; obtain ⟨-, h2⟩ := h2; omega)) (by omega) (by omega))).mono ?_
    rintro e w1 ⟨Q1, rfl, E1, c1⟩
    have hq1 : 0 ≤ Q1 := by have a := E1.out; omega
    have hr1 : Q1 + ((0 : Nat) : Int) ≤ 9007199254740992 := by have a := E1.out; omega
    clear hQ0 hQn
    replace M : Hid (Shake 114 3 g n c k (fun f => f ∈ [2]) cs0 (fun j => S j ∧ (lab j ≤ k ∨ (lab j = k + 1 ∧ (lam j ≤ 0)))) w w1) := Lib.hid (M.out.call c1 (fun h1 => by obtain ⟨h1, e0⟩ := h1; have e9 := h1.2; omega) (fun j h1 => ⟨h1.1.1, by obtain ⟨h1, e0⟩ := h1; have e9 := h1.2; omega⟩) (fun j h => ⟨h.1, by have h2 := h.2; omega⟩))
    clear c1
    go_wp2_with ((with_reducible show wpList _ _ _ (⟨_, _, _, _, _, none⟩ :: _) _ _); first | (refine Shake.wp_put M.out HLT.out rfl _ _ _ rfl rfl _ rfl _ (by (conv => lhs; whnf) <;> rfl) (by decide) (by decide) (by rfl) (by kernel_rfl) ?_; intro w' M'; replace M := Lib.hid M'; clear M') | (refine Shake.wp_put0 M.out HLT.out rfl _ _ _ rfl rfl rfl _ (by (conv => lhs; whnf) <;> rfl) (by decide) (by decide) (by rfl) (by kernel_rfl) ?_; intro w' M'; replace M := Lib.hid M'; clear M') | (refine Shake.wp_put2 M.out HLT.out rfl _ _ _ rfl rfl _ _ rfl _ (by (conv => lhs; whnf) <;> rfl) (by decide) (by decide) (by rfl) (by kernel_rfl) ?_; intro w' M'; replace M := Lib.hid M'; clear M') | (refine Shake.wp_get M.out HLT.out rfl _ _ rfl _ rfl (by decide) (by decide) _ (by assumption) _ (by first | exact Tryz.underlying56) (by rfl) ?_; (try simp only [Act.put, List.setIfInBounds_toArray, List.set_cons_zero, List.set_cons_succ, List.drop_succ_cons, List.drop_zero, List.take_succ_cons, List.take_zero, putAt, ints_set, ints_push, List.getElem_toArray, List.getElem_cons_zero, List.getElem_cons_succ])) | (refine Shake.wp_get0 M.out HLT.out rfl _ _ rfl rfl (by decide) (by decide) _ (by assumption) _ (by first | exact Tryz.underlying56) (by rfl) ?_; (try simp only [Act.put, List.setIfInBounds_toArray, List.set_cons_zero, List.set_cons_succ, List.drop_succ_cons, List.drop_zero, List.take_succ_cons, List.take_zero, putAt, ints_set, ints_push, List.getElem_toArray, List.getElem_cons_zero, List.getElem_cons_succ])) | (refine Shake.wp_get2 M.out HLT.out rfl _ _ rfl _ _ rfl (by decide) (by decide) _ (by assumption) _ (by first | exact Tryz.underlying56) (by rfl) ?_; (try simp only [Act.put, List.setIfInBounds_toArray, List.set_cons_zero, List.set_cons_succ, List.drop_succ_cons, List.drop_zero, List.take_succ_cons, List.take_zero, putAt, ints_set, ints_push, List.getElem_toArray, List.getElem_cons_zero, List.getElem_cons_succ])))
    go_roundw
    case rel =>
      have M9 := (M.out.next).mono (T' := fun j => S j ∧ lab j ≤ k + 1) fun j h => ⟨h.1, by have h2 := h.2; omega⟩
      refine ⟨k + 1, HLT.out, by go_num, by congr 1; have a := HCT.out; have b := HQ.out; have aE1 := E1.out; have cc : Wrote.ct x = 2 + x.puts_.length * 2 := rfl; omega, M9.chg, fun g2 hA _ => ?_⟩
      obtain rfl := addr_inj hA
      exact M9
    case measure => have h := HLT.out; simp [intOf]; omega

end Go.Proofs.YtfacckjfoajijaaGreat
