/- JournalState of program and reference; the contract of laws.FnExactJournalState. No condition. -/
import Derived.Test.YtbclkgjjmpipfaaJrI
import Derived.Test.YtbclkgjjmpipfaaJrS
import Derived.Test.YtbclkgjjmpipfaaOvl
namespace Go.Proofs.Ytbclkgjjmpipfaa
open Go.RowKit Go.Deep

noncomputable def jsTo (c : List Int) (l : List (Int × Int × List Row)) (k : Nat) : List Int := (l.take k).foldl (fun c x => overlayOf c x.2.2) c
theorem jsTo_succ {c : List Int} {l : List (Int × Int × List Row)} {k : Nat} {x : Int × Int × List Row} (h : l[k]? = some x) : jsTo c l (k + 1) = overlayOf (jsTo c l k) x.2.2 := by
  unfold jsTo
  rw [List.take_add_one, h]
  simp [List.foldl_append]
theorem jsTo_le {c : List Int} (hc : c.length ≤ 8) (l : List (Int × Int × List Row)) (k : Nat) : (jsTo c l k).length ≤ 8 := by
  unfold jsTo
  generalize l.take k = r
  induction r generalizing c with
  | nil => exact hc
  | cons x r ih => exact ih (overlay_le _ _)
noncomputable def stateJ (c : List Int) (s : ByteArray) : List Int := if valsOk c = true then jsTo c (jTo s 200).1 (jTo s 200).1.length else []
theorem stateJ_le (c : List Int) (s : ByteArray) : (stateJ c s).length ≤ 8 := by
  unfold stateJ
  split
  · rename_i h; exact jsTo_le (by rw [valsOk_len h]; omega) _ _
  · simp
theorem jTo_rows (s : ByteArray) (m : Nat) : ∀ x ∈ (jTo s m).1, x.2.2.length ≤ 8 := by
  induction m with
  | zero => intro x hx; cases hx
  | succ m ih =>
    intro x hx
    unfold jTo at hx
    split at hx
    · exact ih x hx
    · rcases List.mem_append.1 hx with h | h
      · exact ih x h
      · rw [List.mem_singleton] at h; subst h; exact rwR_le _
theorem jTo_len (s : ByteArray) (m : Nat) : (jTo s m).1.length ≤ m := by
  induction m with
  | zero => exact Nat.le_refl _
  | succ m ih =>
    unfold jTo
    split
    · omega
    · rw [List.length_append]
      have : ([(rwA (unfS (s.extract (jTo s m).2 s.size)), rwB (unfS (s.extract (jTo s m).2 s.size)), rwR (unfS (s.extract (jTo s m).2 s.size)))] : List (Int × Int × List Row)).length = 1 := rfl
      omega
/-- An entry of the own row, where it lies. -/
theorem entry_at {w : World} {base k d g i : Nat} {es : List JE} {x : JE} (h : w.ownsRow base 33 3 (.slice (some ⟨g, 0, none⟩) k d) k (es.flatMap JE.cells)) (hx : es[i]? = some x) (hi : i < k) :
    w.cell? ⟨g, i * 3, none⟩ = some (.int .i64 x.a) ∧ w.cell? ⟨g, i * 3 + 1, none⟩ = some (.int .i64 x.b) ∧ w.cell? ⟨g, i * 3 + 2, none⟩ = some (.slice x.A x.n x.c) := by
  refine ⟨?_, ?_, ?_⟩
  · rw [h.cellAt (i * 3) (by omega)]; exact (flat_get JE.cells_length es i 0 x hx (by omega)).trans rfl
  · rw [h.cellAt (i * 3 + 1) (by omega)]; exact (flat_get JE.cells_length es i 1 x hx (by omega)).trans rfl
  · rw [h.cellAt (i * 3 + 2) (by omega)]; exact (flat_get JE.cells_length es i 2 x hx (by omega)).trans rfl
theorem es_len {w : World} {base k : Nat} {v : Value} {es : List JE} (h : w.ownsRow base 33 3 v k (es.flatMap JE.cells)) : es.length = k := by
  have h1 := h.1
  rw [flat_length JE.cells_length] at h1
  omega

set_option maxHeartbeats 4000000 in
theorem impl_JournalState (A0 : Option Addr) (n0 c0 : Nat) (l0 : List Int) (s : ByteArray) (hss : s.size ≤ 1099511627776) (w : World) (S0 : Nat → Prop) (hs0 : Sl w S0 1 A0 n0 (ints l0)) (hm0 : n0 ≤ 1048576) :
    Calls Try.prog 32 #[.slice A0 n0 c0, .string s] w fun e w' => ∃ B m d, e = .returned (.slice B m d) ∧ w'.ownsRow w.heap.size 3 1 (.slice B m d) m (ints (stateJ l0 s)) ∧ Ext w w' := by
  have H0 := Lib.hid hs0.len
  have HS0 := Lib.hid hs0
  cases hv : valsOk l0
  · have HN : Hid (stateJ l0 s = []) := by unfold stateJ; rw [hv]; rfl
    go_enter Try.func32, Try.ntmps32
    go_wp2_with (go_at_call 56; refine (areValues_any _ _ _ l0 _ S0 hs0 (by omega)).mono ?_; rintro e w' ⟨rfl, rfl⟩)
    go_ret
    exact ⟨_, _, _, rfl, by rw [HN.out]; exact World.ownsRow_nil _ _ _ _, Ext.refl' _⟩
  have HY : Hid (stateJ l0 s = jsTo l0 (jTo s 200).1 (jTo s 200).1.length) := by unfold stateJ; rw [hv]; rfl
  have H8 := Lib.hid (valsOk_len hv)
  go_enter Try.func32, Try.ntmps32
  go_wp2_with (go_at_call 56; refine (areValues_any _ _ _ l0 _ S0 hs0 (by omega)).mono ?_; rintro e w' ⟨rfl, rfl⟩)
  clear hv
  go_wp2_with fail
  refine (copyInts_any _ _ _ l0 _ S0 HS0.out hm0).mono ?_
  rintro e w2 ⟨B2, d2, rfl, own2, x2⟩
  have X2 := Lib.hid x2
  have O2 := Lib.hid own2
  clear x2 own2
  clear hs0
  go_wp2_with fail
  refine (impl_JournalRead s hss _).mono ?_
  rintro e w3 ⟨B, K, d, es, at_, rfl, hes, -, own3, inn3, x3⟩
  have HES := Lib.hid hes
  have HLN := Lib.hid (es_len own3)
  have O3 := Lib.hid own3
  have I3 := Lib.hid inn3
  have P3 := Lib.hid (own_ext O2.out x3)
  have X3 := Lib.hid (X2.out.tr x3)
  have hlen : Hid ((jTo s 200).1.length = K) := by show _ = _; rw [← hes, List.length_map]; exact HLN.out
  clear hes own3 inn3 x3
  go_wp2
  go_loopw [5, 22] (fun u i wr => ∃ (k m : Nat) (C : Option Addr) (dd : Nat), k ≤ K ∧ i = .int .i64 k ∧ u = .slice C m dd ∧ Hid (wr.ownsRow w.heap.size 3 1 (.slice C m dd) m (ints (jsTo l0 (jTo s 200).1 k))) ∧ Ext w3 wr) (fun _ i _ => K - (intOf i).toNat)
  case atStart => exact ⟨0, n0, _, _, Nat.zero_le _, rfl, rfl, P3.out, Ext.refl' _⟩
  case round =>
    obtain ⟨k, m, C, dd, hk, rfl, rfl, HO, hx⟩ := hrel
    have HX := Lib.hid hx
    have HK := Lib.hid hk
    clear hx hk
    by_cases hlt : (k : Int) < (K : Int)
    rotate_left
    · have e : Hid (k = (jTo s 200).1.length) := by have h := hlen.out; have h2 := HK.out; show k = _; omega
      go_wp2
      go_ret
      exact ⟨_, _, _, rfl, by rw [HY.out, ← e.out]; exact HO.out, X3.out.tr HX.out⟩
    have HLT : Hid (k < K) := by show k < K; omega
    obtain ⟨g, rfl⟩ : ∃ g, B = some ⟨g, 0, none⟩ := by
      have h3 := HLT.out
      rcases O3.out.2 with ⟨_, h0⟩ | ⟨g, cap, cur, hv, _⟩
      · omega
      · injection hv with h1; exact ⟨g, h1⟩
    obtain ⟨x, hxk⟩ : ∃ x, es[k]? = some x := ⟨_, List.getElem?_eq_getElem (by have h := HLN.out; have h2 := HLT.out; omega)⟩
    obtain ⟨c0, c1, c2⟩ := entry_at O3.out hxk HLT.out
    have hgl := (O3.out.lt g rfl).2
    have hin := I3.out x (List.mem_iff_getElem?.2 ⟨k, hxk⟩)
    have hl : (jTo s 200).1[k]? = some x.val := by rw [← HES.out, List.getElem?_map, hxk]; rfl
    have HN := Lib.hid (jsTo_succ (c := l0) hl)
    have h8 := jTo_rows s 200 x.val (List.mem_iff_getElem?.2 ⟨k, hl⟩)
    have hxn : Hid (x.n ≤ 1048576) := by
      have h1 := hin.1
      rw [flat_length Row.cells_length] at h1
      have h2 : x.rs.length ≤ 8 := h8
      show x.n ≤ _
      omega
    have hmn : Hid (m ≤ 1048576) := by
      have h1 := own_len1 HO.out
      have h2 := jsTo_le (c := l0) (by rw [H8.out]; omega) (jTo s 200).1 k
      show m ≤ _
      omega
    have HIN := Lib.hid (own_ext hin HX.out)
    replace c0 := HX.out.co c0
    replace c1 := HX.out.co c1
    replace c2 := HX.out.co c2
    have zx : w3.heap.size ≤ wr.heap.size := HX.out.size
    have hk1 : (0 : Int) ≤ (k : Int) := by omega
    have hkb : (k : Int) ≤ 1048576 := by have h := jTo_len s 200; have h2 := hlen.out; have h3 := HLT.out; omega
    have zw : w.heap.size ≤ wr.heap.size := Nat.le_trans X3.out.size zx
    clear hin hl h8 hxk
    go_wp2_with fail
    refine (impl_Overlay _ m _ (jsTo l0 (jTo s 200).1 k) _ x.n _ x.rs _ _ (ownSl (own_ext HO.out ((Ext.refl' _).al _))) hmn.out _ (ownSl (own_ext HIN.out ((Ext.refl' _).al _))) hxn.out).mono ?_
    rintro e w4 ⟨B4, m4, d4, rfl, own4, x4⟩
    have O4 := Lib.hid (own_base (b' := w.heap.size) own4 (Nat.le_trans zw (((Ext.refl' _).al _)).size))
    have X4 : Hid (Ext wr w4) := Ext.tr ((Ext.refl' _).al _) x4
    clear own4 x4
    go_wp2
    go_roundw
    case rel => exact ⟨k + 1, m4, B4, d4, by have h9 : k < K := HLT.out; omega, by go_num, rfl, by rw [HN.out]; exact O4.out, HX.out.tr X4.out⟩
    case measure => have := HLT.out; simp [intOf]; omega


set_option maxHeartbeats 4000000 in
theorem spec_JournalState (A0 : Option Addr) (n0 c0 : Nat) (l0 : List Int) (s : ByteArray) (hss : s.size ≤ 1099511627776) (w : World) (S0 : Nat → Prop) (hs0 : Sl w S0 1 A0 n0 (ints l0)) (hm0 : n0 ≤ 1048576) :
    Calls Try.prog 30 #[.slice A0 n0 c0, .string s] w fun e w' => ∃ B m d, e = .returned (.slice B m d) ∧ w'.ownsRow w.heap.size 3 1 (.slice B m d) m (ints (stateJ l0 s)) ∧ Ext w w' := by
  have H0 := Lib.hid hs0.len
  have HS0 := Lib.hid hs0
  cases hv : valsOk l0
  · have HN : Hid (stateJ l0 s = []) := by unfold stateJ; rw [hv]; rfl
    go_enter Try.func30, Try.ntmps30
    go_wp2_with (go_at_call 54; refine (l3Vals_any _ _ _ l0 _ S0 hs0 (by omega)).mono ?_; rintro e w' ⟨rfl, rfl⟩)
    go_ret
    exact ⟨_, _, _, rfl, by rw [HN.out]; exact own_emptyC w, (Ext.refl' _).al _⟩
  have HY : Hid (stateJ l0 s = jsTo l0 (jTo s 200).1 (jTo s 200).1.length) := by unfold stateJ; rw [hv]; rfl
  have H8 := Lib.hid (valsOk_len hv)
  go_enter Try.func30, Try.ntmps30
  go_wp2_with (first | (go_at_call 54; refine (l3Vals_any _ _ _ l0 _ S0 hs0 (by omega)).mono ?_; rintro e w' ⟨rfl, rfl⟩) | (at_builtin; refine wp_pour rfl _ _ _ rfl w.heap.size 3 _ _ _ Try.underlying48 Try.infoInt rfl (by omega) (.slice (some ⟨w.heap.size, 0, none⟩) 0 0) 0 (ints []) rfl (own_emptyC w) S0 A0 n0 c0 (ints l0) rfl (HS0.out.ext ((Ext.refl' w).al _)) (ints_one l0) (by omega) (by unfold maxLen; omega) (by simp) ?_; intro B2 d2 w2 hown hchg hat))
  clear hv
  have O2 : Hid (w2.ownsRow w.heap.size 3 1 (.slice B2 n0 d2) n0 (ints l0)) := by show World.ownsRow _ _ _ _ _ _ _; simpa [ints] using hown
  have X2 := Lib.hid (hchg.ext ((Ext.refl' w).al _) (fun k hk => by simp [Value.ownBlock] at hk; omega))
  clear hown hchg hat
  clear hs0
  go_wp2_with fail
  refine (spec_JournalRead s hss _).mono ?_
  rintro e w3 ⟨B, K, d, es, at_, rfl, hes, -, own3, inn3, x3⟩
  have HES := Lib.hid hes
  have HLN := Lib.hid (es_len own3)
  have O3 := Lib.hid own3
  have I3 := Lib.hid inn3
  have P3 := Lib.hid (own_ext O2.out x3)
  have X3 := Lib.hid (X2.out.tr x3)
  have hlen : Hid ((jTo s 200).1.length = K) := by show _ = _; rw [← hes, List.length_map]; exact HLN.out
  clear hes own3 inn3 x3
  go_wp2
  go_loopw [5, 8] (fun u i wr => ∃ (k m : Nat) (C : Option Addr) (dd : Nat), k ≤ K ∧ i = .int .i64 k ∧ u = .slice C m dd ∧ Hid (wr.ownsRow w.heap.size 3 1 (.slice C m dd) m (ints (jsTo l0 (jTo s 200).1 k))) ∧ Ext w3 wr) (fun _ i _ => K - (intOf i).toNat)
  case atStart => exact ⟨0, n0, _, _, Nat.zero_le _, rfl, rfl, P3.out, Ext.refl' _⟩
  case round =>
    obtain ⟨k, m, C, dd, hk, rfl, rfl, HO, hx⟩ := hrel
    have HX := Lib.hid hx
    have HK := Lib.hid hk
    clear hx hk
    by_cases hlt : (k : Int) < (K : Int)
    rotate_left
    · have e : Hid (k = (jTo s 200).1.length) := by have h := hlen.out; have h2 := HK.out; show k = _; omega
      go_wp2
      go_ret
      exact ⟨_, _, _, rfl, by rw [HY.out, ← e.out]; exact HO.out, X3.out.tr HX.out⟩
    have HLT : Hid (k < K) := by show k < K; omega
    obtain ⟨g, rfl⟩ : ∃ g, B = some ⟨g, 0, none⟩ := by
      have h3 := HLT.out
      rcases O3.out.2 with ⟨_, h0⟩ | ⟨g, cap, cur, hv, _⟩
      · omega
      · injection hv with h1; exact ⟨g, h1⟩
    obtain ⟨x, hxk⟩ : ∃ x, es[k]? = some x := ⟨_, List.getElem?_eq_getElem (by have h := HLN.out; have h2 := HLT.out; omega)⟩
    obtain ⟨c0, c1, c2⟩ := entry_at O3.out hxk HLT.out
    have hgl := (O3.out.lt g rfl).2
    have hin := I3.out x (List.mem_iff_getElem?.2 ⟨k, hxk⟩)
    have hl : (jTo s 200).1[k]? = some x.val := by rw [← HES.out, List.getElem?_map, hxk]; rfl
    have HN := Lib.hid (jsTo_succ (c := l0) hl)
    have h8 := jTo_rows s 200 x.val (List.mem_iff_getElem?.2 ⟨k, hl⟩)
    have hxn : Hid (x.n ≤ 1048576) := by
      have h1 := hin.1
      rw [flat_length Row.cells_length] at h1
      have h2 : x.rs.length ≤ 8 := h8
      show x.n ≤ _
      omega
    have hmn : Hid (m ≤ 1048576) := by
      have h1 := own_len1 HO.out
      have h2 := jsTo_le (c := l0) (by rw [H8.out]; omega) (jTo s 200).1 k
      show m ≤ _
      omega
    have HIN := Lib.hid (own_ext hin HX.out)
    replace c0 := HX.out.co c0
    replace c1 := HX.out.co c1
    replace c2 := HX.out.co c2
    have zx : w3.heap.size ≤ wr.heap.size := HX.out.size
    have hk1 : (0 : Int) ≤ (k : Int) := by omega
    have hkb : (k : Int) ≤ 1048576 := by have h := jTo_len s 200; have h2 := hlen.out; have h3 := HLT.out; omega
    have zw : w.heap.size ≤ wr.heap.size := Nat.le_trans X3.out.size zx
    clear hin hl h8 hxk
    go_wp2_with fail
    refine (spec_Overlay _ m _ (jsTo l0 (jTo s 200).1 k) _ x.n _ x.rs _ _ (ownSl (own_ext HO.out (Ext.refl' _))) hmn.out _ (ownSl (own_ext HIN.out (Ext.refl' _))) hxn.out).mono ?_
    rintro e w4 ⟨B4, m4, d4, rfl, own4, x4⟩
    have O4 := Lib.hid (own_base (b' := w.heap.size) own4 (Nat.le_trans zw ((Ext.refl' _)).size))
    have X4 : Hid (Ext wr w4) := Ext.tr (Ext.refl' _) x4
    clear own4 x4
    go_wp2
    go_roundw
    case rel => exact ⟨k + 1, m4, B4, d4, by have h9 : k < K := HLT.out; omega, by go_num, rfl, by rw [HN.out]; exact O4.out, HX.out.tr X4.out⟩
    case measure => have := HLT.out; simp [intOf]; omega

set_option maxHeartbeats 8000000 in
theorem law_JournalState (A0 : Option Addr) (n0 c0 : Nat) (l0 : List Int) (s1 : ByteArray) (w : World) (hs0 : Sl w (fun _ => True) 1 A0 n0 (ints l0)) (hm0 : n0 ≤ 9223372036854775807) :
    Calls Try.prog 9 #[.slice A0 n0 c0, .string s1] w fun e w' => e = .returned (.bool true) ∧ Ext w w' := by
  have hsO0 := hs0
  by_cases hn0 : n0 ≤ 1048576
  rotate_left
  · go_enter Try.func9, Try.ntmps9
    go_wp2
    go_ret
    exact ⟨rfl, (Ext.refl' w)⟩
  by_cases hn1 : (s1.size : Int) ≤ 1048576
  rotate_left
  · go_enter Try.func9, Try.ntmps9
    go_wp2
    go_ret
    exact ⟨rfl, (Ext.refl' w)⟩
  have hSS1 := Lib.hid (show s1.size ≤ 1099511627776 by omega)
  have hN0 : n0 ≤ 1048576 := by omega
  go_enter Try.func9, Try.ntmps9
  go_wp2_with fail
  refine (toIntS_any _ _ _ _ _ _ hs0 hN0).mono ?_
  rintro e w1 ⟨B1_0, d1_0, rfl, o1_0, x1⟩
  have zw1 : w.heap.size + 0 ≤ w1.heap.size := by have h := x1.size; (try simp at h); omega
  have xx := x1
  replace hs0 := hsO0.ext xx
  clear x1
  have r1_0 : Hid (∀ g, (Value.slice B1_0 n0 d1_0).ownBlock = some g → w.heap.size + 0 ≤ g ∧ g < w1.heap.size) := fun g hg => by have h := o1_0.lt g hg; (try simp only [World.heap_alloc_size] at h); omega
  go_wp2_with fail
  refine (spec_JournalState _ _ _ _ _ hSS1.out _ _ (ownSl o1_0) hN0).mono ?_
  rintro e w2 ⟨B2_0_0, m2_0_0, d2_0_0, rfl, o2_0_0, x2⟩
  have zw2 : w1.heap.size + 0 ≤ w2.heap.size := by have h := x2.size; (try simp at h); omega
  replace o1_0 := own_ext o1_0 x2
  replace xx := xx.tr x2
  replace hs0 := hsO0.ext xx
  clear x2
  have r2_0_0 : Hid (∀ g, (Value.slice B2_0_0 m2_0_0 d2_0_0).ownBlock = some g → w1.heap.size + 0 ≤ g ∧ g < w2.heap.size) := fun g hg => by have h := o2_0_0.lt g hg; (try simp only [World.heap_alloc_size] at h); omega
  clear o1_0
  have bd0_0 : m2_0_0 ≤ 1048576 := by have h1 := own_len o2_0_0; have h2 := stateJ_le l0 s1; rw [ints_length] at h1; omega
  go_wp2_with fail
  refine (toIntS_any _ _ _ _ _ _ hs0 hN0).mono ?_
  rintro e w3 ⟨B3_0, d3_0, rfl, o3_0, x3⟩
  have zw3 : w2.heap.size + 0 ≤ w3.heap.size := by have h := x3.size; (try simp at h); omega
  replace o2_0_0 := own_ext o2_0_0 x3
  replace xx := xx.tr x3
  replace hs0 := hsO0.ext xx
  clear x3
  have r3_0 : Hid (∀ g, (Value.slice B3_0 n0 d3_0).ownBlock = some g → w2.heap.size + 0 ≤ g ∧ g < w3.heap.size) := fun g hg => by have h := o3_0.lt g hg; (try simp only [World.heap_alloc_size] at h); omega
  go_wp2_with fail
  refine (impl_JournalState _ _ _ _ _ hSS1.out _ _ (ownSl o3_0) hN0).mono ?_
  rintro e w4 ⟨B4_0_0, m4_0_0, d4_0_0, rfl, o4_0_0, x4⟩
  have zw4 : w3.heap.size + 0 ≤ w4.heap.size := by have h := x4.size; (try simp at h); omega
  replace o2_0_0 := own_ext o2_0_0 x4
  replace o3_0 := own_ext o3_0 x4
  replace xx := xx.tr x4
  replace hs0 := hsO0.ext xx
  clear x4
  have r4_0_0 : Hid (∀ g, (Value.slice B4_0_0 m4_0_0 d4_0_0).ownBlock = some g → w3.heap.size + 0 ≤ g ∧ g < w4.heap.size) := fun g hg => by have h := o4_0_0.lt g hg; (try simp only [World.heap_alloc_size] at h); omega
  obtain rfl : m2_0_0 = m4_0_0 := by have h1 := o2_0_0.1; have h2 := o4_0_0.1; omega
  go_wp2_with fail
  refine (eqIntS_same _ _ _ _ _ _ _ _ _ (ownSl o4_0_0) (ownSl o2_0_0) (by omega)).mono ?_
  rintro e w5 ⟨rfl, x5⟩
  have zw5 : w4.heap.size + 0 ≤ w5.heap.size := by have h := x5.size; (try simp at h); omega
  replace o2_0_0 := own_ext o2_0_0 x5
  replace o3_0 := own_ext o3_0 x5
  replace o4_0_0 := own_ext o4_0_0 x5
  replace xx := xx.tr x5
  replace hs0 := hsO0.ext xx
  clear x5
  go_wp2_with fail
  refine (toIntS_any _ _ _ _ _ _ hs0 hN0).mono ?_
  rintro e w6 ⟨B6_0, d6_0, rfl, o6_0, x6⟩
  have zw6 : w5.heap.size + 0 ≤ w6.heap.size := by have h := x6.size; (try simp at h); omega
  replace o2_0_0 := own_ext o2_0_0 x6
  replace o3_0 := own_ext o3_0 x6
  replace o4_0_0 := own_ext o4_0_0 x6
  replace xx := xx.tr x6
  replace hs0 := hsO0.ext xx
  clear x6
  have r6_0 : Hid (∀ g, (Value.slice B6_0 n0 d6_0).ownBlock = some g → w5.heap.size + 0 ≤ g ∧ g < w6.heap.size) := fun g hg => by have h := o6_0.lt g hg; (try simp only [World.heap_alloc_size] at h); omega
  go_wp2_with fail
  refine (eqIntS_same _ _ _ _ _ _ _ _ _ (ownSl o3_0) (ownSl o6_0) (by omega)).mono ?_
  rintro e w7 ⟨rfl, x7⟩
  have zw7 : w6.heap.size + 0 ≤ w7.heap.size := by have h := x7.size; (try simp at h); omega
  replace o2_0_0 := own_ext o2_0_0 x7
  replace o3_0 := own_ext o3_0 x7
  replace o4_0_0 := own_ext o4_0_0 x7
  replace o6_0 := own_ext o6_0 x7
  replace xx := xx.tr x7
  replace hs0 := hsO0.ext xx
  clear x7
  clear o6_0
  go_wp2_with fail
  refine (markIntS_any _ _ _ _ _ (1) _ o3_0 (by omega) (by omega)).mono ?_
  rintro e w8 ⟨rfl, o8_0, cc⟩
  have zw8 : w7.heap.size + 0 ≤ w8.heap.size := by have h := cc.size; (try simp at h); omega
  replace o2_0_0 := own_chg o2_0_0 cc (fun g hg qq => by have h2 := r3_0.out _ qq; have h1 := r2_0_0.out g hg; omega)
  replace o4_0_0 := own_chg o4_0_0 cc (fun g hg qq => by have h2 := r3_0.out _ qq; have h1 := r4_0_0.out g hg; omega)
  replace xx := cc.ext xx (fun g qq => by have h2 := r3_0.out _ qq; skip; omega)
  replace hs0 := hsO0.ext xx
  clear cc
  clear o3_0
  have r8_0 := r3_0
  clear o8_0
  have hq1 : (0 : Int) ≤ 1 + (n0 : Int) := by omega
  go_wp2_with fail
  refine (eqIntS_same _ _ _ _ _ _ _ _ _ (ownSl o4_0_0) (ownSl o2_0_0) (by omega)).mono ?_
  rintro e w9 ⟨rfl, x9⟩
  have zw9 : w8.heap.size + 0 ≤ w9.heap.size := by have h := x9.size; (try simp at h); omega
  replace o2_0_0 := own_ext o2_0_0 x9
  replace o4_0_0 := own_ext o4_0_0 x9
  replace xx := xx.tr x9
  replace hs0 := hsO0.ext xx
  clear x9
  go_wp2_with fail
  refine (markIntS_any _ _ _ _ _ (1) _ o4_0_0 (by omega) (by omega)).mono ?_
  rintro e w10 ⟨rfl, o10_0, cc⟩
  have zw10 : w9.heap.size + 0 ≤ w10.heap.size := by have h := cc.size; (try simp at h); omega
  replace o2_0_0 := own_chg o2_0_0 cc (fun g hg qq => by have h2 := r4_0_0.out _ qq; have h1 := r2_0_0.out g hg; omega)
  replace xx := cc.ext xx (fun g qq => by have h2 := r4_0_0.out _ qq; skip; omega)
  replace hs0 := hsO0.ext xx
  clear cc
  clear o4_0_0
  have r10_0 := r4_0_0
  have hq2_0 : (0 : Int) ≤ 1 + (m2_0_0 : Int) := by omega
  have hq3 : ((1 + (m2_0_0 : Int)) != (1 + (m2_0_0 : Int))) = false := by simp
  go_wp2_with fail
  refine (heldIntS_any _ _ _ (1) _ _ (ownSl o10_0) (by omega) (by omega)).mono ?_
  rintro e w11 ⟨rfl, hx11⟩
  have x11 := Ext.of_eq hx11
  clear hx11
  have zw11 : w10.heap.size + 0 ≤ w11.heap.size := by have h := x11.size; (try simp at h); omega
  replace o2_0_0 := own_ext o2_0_0 x11
  replace o10_0 := own_ext o10_0 x11
  replace xx := xx.tr x11
  replace hs0 := hsO0.ext xx
  clear x11
  go_wp2_with fail
  refine (toIntS_any _ _ _ _ _ _ hs0 hN0).mono ?_
  rintro e w12 ⟨B12_0, d12_0, rfl, o12_0, x12⟩
  have zw12 : w11.heap.size + 0 ≤ w12.heap.size := by have h := x12.size; (try simp at h); omega
  replace o2_0_0 := own_ext o2_0_0 x12
  replace o10_0 := own_ext o10_0 x12
  replace xx := xx.tr x12
  replace hs0 := hsO0.ext xx
  clear x12
  have r12_0 : Hid (∀ g, (Value.slice B12_0 n0 d12_0).ownBlock = some g → w11.heap.size + 0 ≤ g ∧ g < w12.heap.size) := fun g hg => by have h := o12_0.lt g hg; (try simp only [World.heap_alloc_size] at h); omega
  go_wp2_with fail
  refine (impl_JournalState _ _ _ _ _ hSS1.out _ _ (ownSl o12_0) hN0).mono ?_
  rintro e w13 ⟨B13_0_0, m13_0_0, d13_0_0, rfl, o13_0_0, x13⟩
  have zw13 : w12.heap.size + 0 ≤ w13.heap.size := by have h := x13.size; (try simp at h); omega
  replace o2_0_0 := own_ext o2_0_0 x13
  replace o10_0 := own_ext o10_0 x13
  replace o12_0 := own_ext o12_0 x13
  replace xx := xx.tr x13
  replace hs0 := hsO0.ext xx
  clear x13
  have r13_0_0 : Hid (∀ g, (Value.slice B13_0_0 m13_0_0 d13_0_0).ownBlock = some g → w12.heap.size + 0 ≤ g ∧ g < w13.heap.size) := fun g hg => by have h := o13_0_0.lt g hg; (try simp only [World.heap_alloc_size] at h); omega
  clear o12_0
  obtain rfl : m2_0_0 = m13_0_0 := by have h1 := o2_0_0.1; have h2 := o13_0_0.1; omega
  go_wp2_with fail
  refine (eqIntS_same _ _ _ _ _ _ _ _ _ (ownSl o13_0_0) (ownSl o2_0_0) (by omega)).mono ?_
  rintro e w14 ⟨rfl, x14⟩
  have zw14 : w13.heap.size + 0 ≤ w14.heap.size := by have h := x14.size; (try simp at h); omega
  replace o2_0_0 := own_ext o2_0_0 x14
  replace o10_0 := own_ext o10_0 x14
  replace o13_0_0 := own_ext o13_0_0 x14
  replace xx := xx.tr x14
  replace hs0 := hsO0.ext xx
  clear x14
  go_wp2_with fail
  refine (heldIntS_any _ _ _ (1) _ _ (ownSl o10_0) (by omega) (by omega)).mono ?_
  rintro e w15 ⟨rfl, hx15⟩
  have x15 := Ext.of_eq hx15
  clear hx15
  have zw15 : w14.heap.size + 0 ≤ w15.heap.size := by have h := x15.size; (try simp at h); omega
  replace o2_0_0 := own_ext o2_0_0 x15
  replace o10_0 := own_ext o10_0 x15
  replace o13_0_0 := own_ext o13_0_0 x15
  replace xx := xx.tr x15
  replace hs0 := hsO0.ext xx
  clear x15
  go_wp2
  go_ret
  exact ⟨rfl, xx⟩
end Go.Proofs.Ytbclkgjjmpipfaa
