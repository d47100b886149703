/- The laws' helpers on Call. No condition but lengths. -/
import Derived.Test.YtcnkmbofpppfaaaInts
import Derived.Deep.RegionWith
namespace Go.Proofs.Ytcnkmbofpppfaaa
open Go.RowKit Go.Deep

/-! ### Call -/
structure Call where
  from_ : Int
  to_ : Int
  kind : Int
  arg : Int
  ret : Int
deriving Inhabited, DecidableEq
def Call.cells (s : Call) : List Value := [.int .i64 s.from_, .int .i64 s.to_, .int .i64 s.kind, .int .i64 s.arg, .int .i64 s.ret]
theorem Call.cells_length (s : Call) : s.cells.length = 5 := rfl
/-- Its integers are integers of Go's. -/
def Call.good (s : Call) : Prop := (Lit.int .i64 s.from_).wf = true ∧ (Lit.int .i64 s.to_).wf = true ∧ (Lit.int .i64 s.kind).wf = true ∧ (Lit.int .i64 s.arg).wf = true ∧ (Lit.int .i64 s.ret).wf = true
theorem opens_Call : Opens Try.prog 23 (fun _ cs (s : Call) => cs = s.cells ∧ s.good) := by
  intro H enc w base spare held fuel cs x h
  obtain ⟨hl, m, hf⟩ := trod_fields Try.underlying23 (by kernel_rfl) (by kernel_rfl) h
  obtain ⟨v0, y0, e0, t0⟩ := hf 0 _ rfl
  obtain ⟨f0, h0, -, g0⟩ := DataW.trod_int Try.underlying3 t0
  injection h0 with h0 _; subst h0
  obtain ⟨v1, y1, e1, t1⟩ := hf 1 _ rfl
  obtain ⟨f1, h1, -, g1⟩ := DataW.trod_int Try.underlying3 t1
  injection h1 with h1 _; subst h1
  obtain ⟨v2, y2, e2, t2⟩ := hf 2 _ rfl
  obtain ⟨f2, h2, -, g2⟩ := DataW.trod_int Try.underlying3 t2
  injection h2 with h2 _; subst h2
  obtain ⟨v3, y3, e3, t3⟩ := hf 3 _ rfl
  obtain ⟨f3, h3, -, g3⟩ := DataW.trod_int Try.underlying3 t3
  injection h3 with h3 _; subst h3
  obtain ⟨v4, y4, e4, t4⟩ := hf 4 _ rfl
  obtain ⟨f4, h4, -, g4⟩ := DataW.trod_int Try.underlying3 t4
  injection h4 with h4 _; subst h4
  refine ⟨⟨f0, f1, f2, f3, f4⟩, ?_, ⟨g0, g1, g2, g3, g4⟩⟩
  match cs, hl with
  | [c0, c1, c2, c3, c4], _ =>
    simp only [List.getElem?_cons_succ, List.getElem?_cons_zero, Option.some.injEq] at e0 e1 e2 e3 e4
    subst e0 e1 e2 e3 e4
    rfl

theorem toCall_any (f0 : Int) (f1 : Int) (f2 : Int) (f3 : Int) (f4 : Int) (w : World) :
    Calls Try.prog 11 #[.agg #[.int .i64 f0, .int .i64 f1, .int .i64 f2, .int .i64 f3, .int .i64 f4]] w fun e w' => e = .returned (.agg #[.int .i64 f0, .int .i64 f1, .int .i64 f2, .int .i64 f3, .int .i64 f4]) ∧ Ext w w' := by
  go_enter Try.func11, Try.ntmps11
  go_wp2
  refine bodyPost_ret (v := .agg #[.int .i64 f0, .int .i64 f1, .int .i64 f2, .int .i64 f3, .int .i64 f4]) (by simp [results, Try.results11, go_sem]) rfl ⟨rfl, ?_⟩
  repeat (first | exact Ext.refl' _ | refine Ext.al ?_ _ | refine Ext.sc ?_ (by simp) _)

theorem Try.infoCall : (Try.prog.info? 26).map (fun i => (i.zero, i.size, i.bytes)) = some (some (.agg #[.int .i64 0, .int .i64 0, .int .i64 0, .int .i64 0, .int .i64 0]), 5, 40) := by kernel_rfl

set_option maxHeartbeats 2000000 in
theorem toCallS_any (A : Option Addr) (n c : Nat) (l : List Call) (w : World) (S : Nat → Prop) (hs : Sl w S 5 A n (l.flatMap Call.cells)) (hm : n ≤ 1048576) :
    Calls Try.prog 15 #[.slice A n c] w fun e w' => ∃ B d, e = .returned (.slice B n d) ∧ w'.ownsRow w.heap.size 26 5 (.slice B n d) n (l.flatMap Call.cells) ∧ Ext w w' := by
  obtain ⟨w1, cs0, hmk, hown, -, hx1, hlt⟩ := made_row (P := Try.prog) w 32 26 _ _ _ Try.underlying32 Try.infoCall n (by omega) (by unfold maxLen; omega)
  have HO := Lib.hid hown
  have HX := Lib.hid hx1
  clear hown hx1
  go_enter Try.func15, Try.ntmps15
  go_wp2
  go_loopw [4] (fun i wr => ∃ (k : Nat) (cs : List Value), k ≤ n ∧ i = .int .i64 k ∧ wr.ownsRow w.heap.size 26 5 (.slice (some ⟨w.heap.size, 0, none⟩) n n) n cs ∧ Upto cs (l.flatMap Call.cells) (k * 5) ∧ Ext w wr) (fun i _ => n - (intOf i).toNat)
  case atStart => exact ⟨0, _, Nat.zero_le _, rfl, HO.out, Upto.zero _ _, HX.out⟩
  case round =>
    obtain ⟨k, cs, hk, rfl, ho, hu, hx⟩ := hrel
    by_cases hlt : k < n
    · obtain ⟨b, o, s, rfl, hb, hxk, hc⟩ := (hs.ext hx).flat_at Call.cells_length (by omega) hlt
      obtain ⟨f0, f1, f2, f3, f4⟩ := s
      have c0 := hc 0 (by omega)
      have c1 := hc 1 (by omega)
      have c2 := hc 2 (by omega)
      have c3 := hc 3 (by omega)
      have c4 := hc 4 (by omega)
      simp only [Call.cells, List.getElem?_cons_zero, List.getElem?_cons_succ, Nat.add_zero] at c0 c1 c2 c3 c4
      have HX2 := Lib.hid hxk
      have HO2 := Lib.hid ho
      have HE2 := Lib.hid hx
      clear hxk ho hx hc
      go_wp2_with fail
      refine (toCall_any _ _ _ _ _ _).mono ?_
      rintro e w2 ⟨rfl, hx2⟩
      have ho2 := own_ext HO2.out hx2
      obtain ⟨g, hA, -, -, hg⟩ := own_flat ho2 hlt
      obtain rfl : w.heap.size = g := addr_inj hA
      obtain ⟨v0, g0, e0⟩ := hg 0 (by omega)
      obtain ⟨v1, g1, e1⟩ := hg 1 (by omega)
      obtain ⟨v2, g2, e2⟩ := hg 2 (by omega)
      obtain ⟨v3, g3, e3⟩ := hg 3 (by omega)
      obtain ⟨v4, g4, e4⟩ := hg 4 (by omega)
      rw [Nat.add_zero] at g0 e0
      have HX3 := Lib.hid hx2
      have HO3 := Lib.hid ho2
      clear hx2 ho2 hg
      go_wp2
      go_roundw
      case rel =>
        have t0 := HO3.out.stored (k * 5) (.int .i64 f0)
        have t1 := t0.1.stored (k * 5 + 1) (.int .i64 f1)
        have t2 := t1.1.stored (k * 5 + 2) (.int .i64 f2)
        have t3 := t2.1.stored (k * 5 + 3) (.int .i64 f3)
        have t4 := t3.1.stored (k * 5 + 4) (.int .i64 f4)
        have hl3 : cs.length = n * 5 := HO3.out.1
        have q0 := flat_get Call.cells_length l k 0 _ HX2.out (by omega)
        have q1 := flat_get Call.cells_length l k 1 _ HX2.out (by omega)
        have q2 := flat_get Call.cells_length l k 2 _ HX2.out (by omega)
        have q3 := flat_get Call.cells_length l k 3 _ HX2.out (by omega)
        have q4 := flat_get Call.cells_length l k 4 _ HX2.out (by omega)
        refine ⟨k + 1, _, by omega, by go_num, t4.1, ?_, ?_⟩
        · rw [show (k + 1) * 5 = k * 5 + 4 + 1 by omega]
          refine Upto.set1 (Upto.set1 (Upto.set1 (Upto.set1 (Upto.set1 hu (by omega) ?_) (by simp; omega) ?_) (by simp; omega) ?_) (by simp; omega) ?_) (by simp; omega) ?_
          · exact q0
          · exact q1
          · exact q2
          · exact q3
          · exact q4
        · exact ((((((HE2.out.tr HX3.out)).sc (p := ⟨w.heap.size, _, none⟩) (Nat.le_refl _) _).sc (p := ⟨w.heap.size, _, none⟩) (Nat.le_refl _) _).sc (p := ⟨w.heap.size, _, none⟩) (Nat.le_refl _) _).sc (p := ⟨w.heap.size, _, none⟩) (Nat.le_refl _) _).sc (p := ⟨w.heap.size, _, none⟩) (Nat.le_refl _) _
      case measure => simp [intOf]; omega
    · go_wp2
      go_ret
      refine ⟨_, _, rfl, ?_, hx⟩
      have : k = n := by omega
      subst this
      rw [← hu.all ho.1 hs.1]
      exact ho

set_option maxHeartbeats 1000000 in
theorem eqCall_same (f0 : Int) (f1 : Int) (f2 : Int) (f3 : Int) (f4 : Int) (w : World) :
    Calls Try.prog 40 #[.agg #[.int .i64 f0, .int .i64 f1, .int .i64 f2, .int .i64 f3, .int .i64 f4], .agg #[.int .i64 f0, .int .i64 f1, .int .i64 f2, .int .i64 f3, .int .i64 f4]] w fun e w' => e = .returned (.bool true) ∧ Ext w w' := by
  go_enter Try.func40, Try.ntmps40
  go_wp2
  go_ret
  refine ⟨rfl, ?_⟩
  repeat (first | exact Ext.refl' _ | refine Ext.al ?_ _)

set_option maxHeartbeats 2000000 in
theorem eqCallS_same (A B : Option Addr) (n c d : Nat) (l : List Call) (w : World) (S T : Nat → Prop) (ha : Sl w S 5 A n (l.flatMap Call.cells)) (hb : Sl w T 5 B n (l.flatMap Call.cells)) (hm : n ≤ 9223372036854775807) :
    Calls Try.prog 17 #[.slice A n c, .slice B n d] w fun e w' => e = .returned (.bool true) ∧ Ext w w' := by
  go_enter Try.func17, Try.ntmps17
  go_wp2
  go_loopw [5] (fun i wr => ∃ (k : Nat), k ≤ n ∧ i = .int .i64 k ∧ Ext w wr) (fun i _ => n - (intOf i).toNat)
  case atStart => exact ⟨0, Nat.zero_le _, rfl, Ext.refl' _⟩
  case round =>
    obtain ⟨k, hk, rfl, hx⟩ := hrel
    by_cases hlt : k < n
    · obtain ⟨b1, o1, s, rfl, hb1, hxk, hc1⟩ := (ha.ext hx).flat_at Call.cells_length (by omega) hlt
      obtain ⟨b2, o2, s', rfl, hb2, hyk, hc2⟩ := (hb.ext hx).flat_at Call.cells_length (by omega) hlt
      rw [hxk] at hyk
      injection hyk with hyk
      subst hyk
      obtain ⟨f0, f1, f2, f3, f4⟩ := s
      have c0 := hc1 0 (by omega)
      have c1 := hc1 1 (by omega)
      have c2 := hc1 2 (by omega)
      have c3 := hc1 3 (by omega)
      have c4 := hc1 4 (by omega)
      have d0 := hc2 0 (by omega)
      have d1 := hc2 1 (by omega)
      have d2 := hc2 2 (by omega)
      have d3 := hc2 3 (by omega)
      have d4 := hc2 4 (by omega)
      simp only [Call.cells, List.getElem?_cons_zero, List.getElem?_cons_succ, Nat.add_zero] at c0 c1 c2 c3 c4 d0 d1 d2 d3 d4
      have HE2 := Lib.hid hx
      clear hxk hx hc1 hc2
      go_wp2
      go_region_with (go_at_call 40; refine (eqCall_same _ _ _ _ _ _).mono ?_; rintro e w2 ⟨rfl, hx2⟩)
      all_goals
        have HE3 := Lib.hid hx2
        clear hx2
        go_wp2
        go_roundw
        case rel => exact ⟨k + 1, by omega, by go_num, HE2.out.tr (Ext.tr (Ext.dr (Ext.refl' _)) HE3.out)⟩
        case measure => simp [intOf]; omega
    · go_wp2
      go_ret
      exact ⟨rfl, hx⟩

theorem szCallS_any (A : Option Addr) (n c : Nat) (q : Int) (w : World) (hq : 0 ≤ q) (hq2 : q ≤ 1048576) (hn : n ≤ 9223372036854775807) :
    Calls Try.prog 13 #[.slice A n c, .int .i64 q] w fun e w' => e = .returned (.int .i64 (if (n : Int) ≤ q then q - n else -1)) ∧ w = w' := by
  by_cases h : (n : Int) ≤ q
  · go_enter Try.func13, Try.ntmps13
    go_wp2
    go_ret
    exact ⟨by first | rfl | (simp; done) | simp [h], rfl⟩
  · go_enter Try.func13, Try.ntmps13
    go_wp2
    go_ret
    exact ⟨by first | rfl | (simp; done) | simp [h], rfl⟩

def Call.mark (q : Int) : Call := ⟨q, q + 1, q + 1 + 1, q + 1 + 1 + 1, q + 1 + 1 + 1 + 1⟩
def Call.marks (q : Int) (n : Nat) : List Call := (List.range n).map fun i : Nat => Call.mark (q + i * 5)
theorem Call.marks_length (q : Int) (n : Nat) : (Call.marks q n).length = n := by simp [Call.marks]
theorem Call.marks_get (q : Int) (n i : Nat) (h : i < n) : (Call.marks q n)[i]? = some (Call.mark (q + i * 5)) := by simp [Call.marks, h]

set_option maxHeartbeats 2000000 in
theorem markCallS_any (A : Option Addr) (n c : Nat) (base : Nat) (cs0 : List Value) (q : Int) (w : World) (ho0 : w.ownsRow base 26 5 (.slice A n c) n cs0) (hq : 0 ≤ q) (hqn : q + n * 5 ≤ 9007199254740992) :
    Calls Try.prog 26 #[.slice A n c, .int .i64 q] w fun e w' => e = .returned (.int .i64 (q + n * 5)) ∧ w'.ownsRow base 26 5 (.slice A n c) n ((Call.marks q n).flatMap Call.cells) ∧ Chg (fun k => (Value.slice A n c).ownBlock = some k) w w' := by
  have HO := Lib.hid ho0
  clear ho0
  go_enter Try.func26, Try.ntmps26
  go_wp2
  go_loopw [1, 5] (fun r i wr => ∃ (k : Nat) (cs : List Value), k ≤ n ∧ i = .int .i64 k ∧ r = .int .i64 (q + k * 5) ∧ wr.ownsRow base 26 5 (.slice A n c) n cs ∧ Upto cs ((Call.marks q n).flatMap Call.cells) (k * 5) ∧ Chg (fun k => (Value.slice A n c).ownBlock = some k) w wr) (fun _ i _ => n - (intOf i).toNat)
  case atStart => exact ⟨0, _, Nat.zero_le _, rfl, by simp, HO.out, by rw [Nat.zero_mul]; exact Upto.zero _ _, Chg.refl _ _⟩
  case round =>
    obtain ⟨k, cs, hk, rfl, rfl, ho, hu, hx⟩ := hrel
    by_cases hlt : k < n
    · obtain ⟨g, rfl, -, -, hg⟩ := own_flat ho hlt
      obtain ⟨v0, g0, e0⟩ := hg 0 (by omega)
      obtain ⟨v1, g1, e1⟩ := hg 1 (by omega)
      obtain ⟨v2, g2, e2⟩ := hg 2 (by omega)
      obtain ⟨v3, g3, e3⟩ := hg 3 (by omega)
      obtain ⟨v4, g4, e4⟩ := hg 4 (by omega)
      rw [Nat.add_zero] at g0 e0
      have HO2 := Lib.hid ho
      have HE2 := Lib.hid hx
      clear ho hx hg
      go_wp2
      go_roundw
      case rel =>
        have t0 := HO2.out.stored (k * 5) (.int .i64 (q + k * 5))
        have t1 := t0.1.stored (k * 5 + 1) (.int .i64 (q + k * 5 + 1))
        have t2 := t1.1.stored (k * 5 + 2) (.int .i64 (q + k * 5 + 1 + 1))
        have t3 := t2.1.stored (k * 5 + 3) (.int .i64 (q + k * 5 + 1 + 1 + 1))
        have t4 := t3.1.stored (k * 5 + 4) (.int .i64 (q + k * 5 + 1 + 1 + 1 + 1))
        have hl3 : cs.length = n * 5 := HO2.out.1
        have hmk := Call.marks_get q n k hlt
        have q0 := flat_get Call.cells_length _ k 0 _ hmk (by omega)
        have q1 := flat_get Call.cells_length _ k 1 _ hmk (by omega)
        have q2 := flat_get Call.cells_length _ k 2 _ hmk (by omega)
        have q3 := flat_get Call.cells_length _ k 3 _ hmk (by omega)
        have q4 := flat_get Call.cells_length _ k 4 _ hmk (by omega)
        refine ⟨k + 1, _, by omega, by go_num, by go_num, t4.1, ?_, ?_⟩
        · rw [show (k + 1) * 5 = k * 5 + 4 + 1 by omega]
          refine Upto.set1 (Upto.set1 (Upto.set1 (Upto.set1 (Upto.set1 hu (by omega) ?_) (by simp; omega) ?_) (by simp; omega) ?_) (by simp; omega) ?_) (by simp; omega) ?_
          · exact q0
          · exact q1
          · exact q2
          · exact q3
          · exact q4
        · exact (((((HE2.out).grown t0.2 (fun j hj => .inl hj)).grown t1.2 (fun j hj => .inl hj)).grown t2.2 (fun j hj => .inl hj)).grown t3.2 (fun j hj => .inl hj)).grown t4.2 (fun j hj => .inl hj)
      case measure => simp [intOf]; omega
    · go_wp2
      go_ret
      have : k = n := by omega
      subst this
      refine ⟨rfl, ?_, hx⟩
      rw [← hu.all ho.1 (by rw [flat_length Call.cells_length, Call.marks_length])]
      exact ho

end Go.Proofs.Ytcnkmbofpppfaaa
