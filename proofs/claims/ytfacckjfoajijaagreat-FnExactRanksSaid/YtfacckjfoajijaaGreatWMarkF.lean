/- Marks of the flat structs of a world. No condition but sizes. -/
import Derived.Test.YtfacckjfoajijaaGreatWWorld
import Derived.Test.YtfacckjfoajijaaGreatShake
import Derived.Test.YtfacckjfoajijaaGreatMineW
namespace Go.Proofs.YtfacckjfoajijaaGreat
open Go.RowKit Go.Deep
set_option linter.unusedSimpArgs false
set_option linter.unusedVariables false

theorem markIntS_ow (A : Option Addr) (n c : Nat) (zs : List Int) (q : Int) (w : World) (S : Nat → Prop) (h : OwS w S 3 1 A n c (ints zs)) (hq : 0 ≤ q) (hqn : q + n ≤ 9007199254740992) :
    Calls Tryz.prog 11 #[.slice A n c, .int .i64 q] w fun e w' => e = .returned (.int .i64 (q + n)) ∧ OwS w' S 3 1 A n c (ints (marks q n)) ∧ Chg S w w' :=
  (markIntS_any A n c 0 _ q w h.1 hq hqn).mono fun _ _ ⟨h1, h2, h3⟩ => ⟨h1, ⟨h2, h.2⟩, h3.mono fun k hk => h.2 k hk⟩
def Word.mark (q : Int) : Word := ⟨q, q + 1, q + 1 + 1⟩
def Word.marks (q : Int) (n : Nat) : List Word := (List.range n).map fun i : Nat => Word.mark (q + i * 3)
theorem Word.marks_length (q : Int) (n : Nat) : (Word.marks q n).length = n := by simp [Word.marks]
theorem Word.marks_get (q : Int) (n i : Nat) (h : i < n) : (Word.marks q n)[i]? = some (Word.mark (q + i * 3)) := by simp [Word.marks, h]

set_option maxHeartbeats 2000000 in
theorem markWordS_any (A : Option Addr) (n c : Nat) (base : Nat) (cs0 : List Value) (q : Int) (w : World) (ho0 : w.ownsRow base 133 3 (.slice A n c) n cs0) (hq : 0 ≤ q) (hqn : q + n * 3 ≤ 9007199254740992) :
    Calls Tryz.prog 55 #[.slice A n c, .int .i64 q] w fun e w' => e = .returned (.int .i64 (q + n * 3)) ∧ w'.ownsRow base 133 3 (.slice A n c) n ((Word.marks q n).flatMap Word.cells) ∧ Chg (fun k => (Value.slice A n c).ownBlock = some k) w w' := by
  have HO := Lib.hid ho0
  clear ho0
  go_enter Tryz.func55, Tryz.ntmps55
  go_wp2
  go_loopw [1, 5] (fun r i wr => ∃ (k : Nat) (cs : List Value), k ≤ n ∧ i = .int .i64 k ∧ r = .int .i64 (q + k * 3) ∧ wr.ownsRow base 133 3 (.slice A n c) n cs ∧ Upto cs ((Word.marks q n).flatMap Word.cells) (k * 3) ∧ Chg (fun k => (Value.slice A n c).ownBlock = some k) w wr) (fun _ i _ => n - (intOf i).toNat)
  case atStart => exact ⟨0, _, Nat.zero_le _, rfl, by simp, HO.out, by rw [Nat.zero_mul]; exact Upto.zero _ _, Chg.refl _ _⟩
  case round =>
    obtain ⟨k, cs, hk, rfl, rfl, ho, hu, hx⟩ := hrel
    by_cases hlt : k < n
    · obtain ⟨g, rfl, -, -, hg⟩ := own_flat ho hlt
      obtain ⟨v0, g0, e0⟩ := hg 0 (by omega)
      obtain ⟨v1, g1, e1⟩ := hg 1 (by omega)
      obtain ⟨v2, g2, e2⟩ := hg 2 (by omega)
      rw [Nat.add_zero] at g0 e0
      have HO2 := Lib.hid ho
      have HE2 := Lib.hid hx
      clear ho hx hg
      go_wp2
      go_roundw
      case rel =>
        have t0 := HO2.out.stored (k * 3) (.int .i64 (q + k * 3))
        have t1 := t0.1.stored (k * 3 + 1) (.int .i64 (q + k * 3 + 1))
        have t2 := t1.1.stored (k * 3 + 2) (.int .i64 (q + k * 3 + 1 + 1))
        have hl3 : cs.length = n * 3 := HO2.out.1
        have hmk := Word.marks_get q n k hlt
        have q0 := flat_get Word.cells_length _ k 0 _ hmk (by omega)
        have q1 := flat_get Word.cells_length _ k 1 _ hmk (by omega)
        have q2 := flat_get Word.cells_length _ k 2 _ hmk (by omega)
        refine ⟨k + 1, _, by omega, by go_num, by go_num, t2.1, ?_, ?_⟩
        · rw [show (k + 1) * 3 = k * 3 + 2 + 1 by omega]
          refine Upto.set1 (Upto.set1 (Upto.set1 hu (by omega) ?_) (by simp; omega) ?_) (by simp; omega) ?_
          · exact q0
          · exact q1
          · exact q2
        · exact (((HE2.out).grown t0.2 (fun j hj => .inl hj)).grown t1.2 (fun j hj => .inl hj)).grown t2.2 (fun j hj => .inl hj)
      case measure => simp [intOf]; omega
    · go_wp2
      go_ret
      have : k = n := by omega
      subst this
      refine ⟨rfl, ?_, hx⟩
      rw [← hu.all ho.1 (by rw [flat_length Word.cells_length, Word.marks_length])]
      exact ho

theorem markWordS_ow (A : Option Addr) (n c : Nat) (l : List Word) (q : Int) (w : World) (S : Nat → Prop) (h : OwS w S 133 3 A n c (l.flatMap Word.cells)) (hq : 0 ≤ q) (hqn : q + n * 3 ≤ 9007199254740992) :
    Calls Tryz.prog 55 #[.slice A n c, .int .i64 q] w fun e w' => e = .returned (.int .i64 (q + n * 3)) ∧ OwS w' S 133 3 A n c ((Word.marks q n).flatMap Word.cells) ∧ Chg S w w' :=
  (markWordS_any A n c 0 _ q w h.1 hq hqn).mono fun _ _ ⟨h1, h2, h3⟩ => ⟨h1, ⟨h2, h.2⟩, h3.mono fun k hk => h.2 k hk⟩
def Row.mark (q : Int) : Row := ⟨q, q + 1⟩
def Row.marks (q : Int) (n : Nat) : List Row := (List.range n).map fun i : Nat => Row.mark (q + i * 2)
theorem Row.marks_length (q : Int) (n : Nat) : (Row.marks q n).length = n := by simp [Row.marks]
theorem Row.marks_get (q : Int) (n i : Nat) (h : i < n) : (Row.marks q n)[i]? = some (Row.mark (q + i * 2)) := by simp [Row.marks, h]

set_option maxHeartbeats 2000000 in
theorem markRowS_any (A : Option Addr) (n c : Nat) (base : Nat) (cs0 : List Value) (q : Int) (w : World) (ho0 : w.ownsRow base 152 2 (.slice A n c) n cs0) (hq : 0 ≤ q) (hqn : q + n * 2 ≤ 9007199254740992) :
    Calls Tryz.prog 56 #[.slice A n c, .int .i64 q] w fun e w' => e = .returned (.int .i64 (q + n * 2)) ∧ w'.ownsRow base 152 2 (.slice A n c) n ((Row.marks q n).flatMap Row.cells) ∧ Chg (fun k => (Value.slice A n c).ownBlock = some k) w w' := by
  have HO := Lib.hid ho0
  clear ho0
  go_enter Tryz.func56, Tryz.ntmps56
  go_wp2
  go_loopw [1, 5] (fun r i wr => ∃ (k : Nat) (cs : List Value), k ≤ n ∧ i = .int .i64 k ∧ r = .int .i64 (q + k * 2) ∧ wr.ownsRow base 152 2 (.slice A n c) n cs ∧ Upto cs ((Row.marks q n).flatMap Row.cells) (k * 2) ∧ Chg (fun k => (Value.slice A n c).ownBlock = some k) w wr) (fun _ i _ => n - (intOf i).toNat)
  case atStart => exact ⟨0, _, Nat.zero_le _, rfl, by simp, HO.out, by rw [Nat.zero_mul]; exact Upto.zero _ _, Chg.refl _ _⟩
  case round =>
    obtain ⟨k, cs, hk, rfl, rfl, ho, hu, hx⟩ := hrel
    by_cases hlt : k < n
    · obtain ⟨g, rfl, -, -, hg⟩ := own_flat ho hlt
      obtain ⟨v0, g0, e0⟩ := hg 0 (by omega)
      obtain ⟨v1, g1, e1⟩ := hg 1 (by omega)
      rw [Nat.add_zero] at g0 e0
      have HO2 := Lib.hid ho
      have HE2 := Lib.hid hx
      clear ho hx hg
      go_wp2
      go_roundw
      case rel =>
        have t0 := HO2.out.stored (k * 2) (.int .i64 (q + k * 2))
        have t1 := t0.1.stored (k * 2 + 1) (.int .i64 (q + k * 2 + 1))
        have hl3 : cs.length = n * 2 := HO2.out.1
        have hmk := Row.marks_get q n k hlt
        have q0 := flat_get Row.cells_length _ k 0 _ hmk (by omega)
        have q1 := flat_get Row.cells_length _ k 1 _ hmk (by omega)
        refine ⟨k + 1, _, by omega, by go_num, by go_num, t1.1, ?_, ?_⟩
        · rw [show (k + 1) * 2 = k * 2 + 1 + 1 by omega]
          refine Upto.set1 (Upto.set1 hu (by omega) ?_) (by simp; omega) ?_
          · exact q0
          · exact q1
        · exact ((HE2.out).grown t0.2 (fun j hj => .inl hj)).grown t1.2 (fun j hj => .inl hj)
      case measure => simp [intOf]; omega
    · go_wp2
      go_ret
      have : k = n := by omega
      subst this
      refine ⟨rfl, ?_, hx⟩
      rw [← hu.all ho.1 (by rw [flat_length Row.cells_length, Row.marks_length])]
      exact ho

theorem markRowS_ow (A : Option Addr) (n c : Nat) (l : List Row) (q : Int) (w : World) (S : Nat → Prop) (h : OwS w S 152 2 A n c (l.flatMap Row.cells)) (hq : 0 ≤ q) (hqn : q + n * 2 ≤ 9007199254740992) :
    Calls Tryz.prog 56 #[.slice A n c, .int .i64 q] w fun e w' => e = .returned (.int .i64 (q + n * 2)) ∧ OwS w' S 152 2 A n c ((Row.marks q n).flatMap Row.cells) ∧ Chg S w w' :=
  (markRowS_any A n c 0 _ q w h.1 hq hqn).mono fun _ _ ⟨h1, h2, h3⟩ => ⟨h1, ⟨h2, h.2⟩, h3.mono fun k hk => h.2 k hk⟩
def Entry.mark (q : Int) : Entry := ⟨q, q + 1, q + 1 + 1⟩
def Entry.marks (q : Int) (n : Nat) : List Entry := (List.range n).map fun i : Nat => Entry.mark (q + i * 3)
theorem Entry.marks_length (q : Int) (n : Nat) : (Entry.marks q n).length = n := by simp [Entry.marks]
theorem Entry.marks_get (q : Int) (n i : Nat) (h : i < n) : (Entry.marks q n)[i]? = some (Entry.mark (q + i * 3)) := by simp [Entry.marks, h]

set_option maxHeartbeats 2000000 in
theorem markEntryS_any (A : Option Addr) (n c : Nat) (base : Nat) (cs0 : List Value) (q : Int) (w : World) (ho0 : w.ownsRow base 158 3 (.slice A n c) n cs0) (hq : 0 ≤ q) (hqn : q + n * 3 ≤ 9007199254740992) :
    Calls Tryz.prog 59 #[.slice A n c, .int .i64 q] w fun e w' => e = .returned (.int .i64 (q + n * 3)) ∧ w'.ownsRow base 158 3 (.slice A n c) n ((Entry.marks q n).flatMap Entry.cells) ∧ Chg (fun k => (Value.slice A n c).ownBlock = some k) w w' := by
  have HO := Lib.hid ho0
  clear ho0
  go_enter Tryz.func59, Tryz.ntmps59
  go_wp2
  go_loopw [1, 5] (fun r i wr => ∃ (k : Nat) (cs : List Value), k ≤ n ∧ i = .int .i64 k ∧ r = .int .i64 (q + k * 3) ∧ wr.ownsRow base 158 3 (.slice A n c) n cs ∧ Upto cs ((Entry.marks q n).flatMap Entry.cells) (k * 3) ∧ Chg (fun k => (Value.slice A n c).ownBlock = some k) w wr) (fun _ i _ => n - (intOf i).toNat)
  case atStart => exact ⟨0, _, Nat.zero_le _, rfl, by simp, HO.out, by rw [Nat.zero_mul]; exact Upto.zero _ _, Chg.refl _ _⟩
  case round =>
    obtain ⟨k, cs, hk, rfl, rfl, ho, hu, hx⟩ := hrel
    by_cases hlt : k < n
    · obtain ⟨g, rfl, -, -, hg⟩ := own_flat ho hlt
      obtain ⟨v0, g0, e0⟩ := hg 0 (by omega)
      obtain ⟨v1, g1, e1⟩ := hg 1 (by omega)
      obtain ⟨v2, g2, e2⟩ := hg 2 (by omega)
      rw [Nat.add_zero] at g0 e0
      have HO2 := Lib.hid ho
      have HE2 := Lib.hid hx
      clear ho hx hg
      go_wp2
      go_roundw
      case rel =>
        have t0 := HO2.out.stored (k * 3) (.int .i64 (q + k * 3))
        have t1 := t0.1.stored (k * 3 + 1) (.int .i64 (q + k * 3 + 1))
        have t2 := t1.1.stored (k * 3 + 2) (.int .i64 (q + k * 3 + 1 + 1))
        have hl3 : cs.length = n * 3 := HO2.out.1
        have hmk := Entry.marks_get q n k hlt
        have q0 := flat_get Entry.cells_length _ k 0 _ hmk (by omega)
        have q1 := flat_get Entry.cells_length _ k 1 _ hmk (by omega)
        have q2 := flat_get Entry.cells_length _ k 2 _ hmk (by omega)
        refine ⟨k + 1, _, by omega, by go_num, by go_num, t2.1, ?_, ?_⟩
        · rw [show (k + 1) * 3 = k * 3 + 2 + 1 by omega]
          refine Upto.set1 (Upto.set1 (Upto.set1 hu (by omega) ?_) (by simp; omega) ?_) (by simp; omega) ?_
          · exact q0
          · exact q1
          · exact q2
        · exact (((HE2.out).grown t0.2 (fun j hj => .inl hj)).grown t1.2 (fun j hj => .inl hj)).grown t2.2 (fun j hj => .inl hj)
      case measure => simp [intOf]; omega
    · go_wp2
      go_ret
      have : k = n := by omega
      subst this
      refine ⟨rfl, ?_, hx⟩
      rw [← hu.all ho.1 (by rw [flat_length Entry.cells_length, Entry.marks_length])]
      exact ho

theorem markEntryS_ow (A : Option Addr) (n c : Nat) (l : List Entry) (q : Int) (w : World) (S : Nat → Prop) (h : OwS w S 158 3 A n c (l.flatMap Entry.cells)) (hq : 0 ≤ q) (hqn : q + n * 3 ≤ 9007199254740992) :
    Calls Tryz.prog 59 #[.slice A n c, .int .i64 q] w fun e w' => e = .returned (.int .i64 (q + n * 3)) ∧ OwS w' S 158 3 A n c ((Entry.marks q n).flatMap Entry.cells) ∧ Chg S w w' :=
  (markEntryS_any A n c 0 _ q w h.1 hq hqn).mono fun _ _ ⟨h1, h2, h3⟩ => ⟨h1, ⟨h2, h.2⟩, h3.mono fun k hk => h.2 k hk⟩
def Undo.mark (q : Int) : Undo := ⟨q, q + 1, q + 1 + 1⟩
def Undo.marks (q : Int) (n : Nat) : List Undo := (List.range n).map fun i : Nat => Undo.mark (q + i * 3)
theorem Undo.marks_length (q : Int) (n : Nat) : (Undo.marks q n).length = n := by simp [Undo.marks]
theorem Undo.marks_get (q : Int) (n i : Nat) (h : i < n) : (Undo.marks q n)[i]? = some (Undo.mark (q + i * 3)) := by simp [Undo.marks, h]

set_option maxHeartbeats 2000000 in
theorem markUndoS_any (A : Option Addr) (n c : Nat) (base : Nat) (cs0 : List Value) (q : Int) (w : World) (ho0 : w.ownsRow base 156 3 (.slice A n c) n cs0) (hq : 0 ≤ q) (hqn : q + n * 3 ≤ 9007199254740992) :
    Calls Tryz.prog 58 #[.slice A n c, .int .i64 q] w fun e w' => e = .returned (.int .i64 (q + n * 3)) ∧ w'.ownsRow base 156 3 (.slice A n c) n ((Undo.marks q n).flatMap Undo.cells) ∧ Chg (fun k => (Value.slice A n c).ownBlock = some k) w w' := by
  have HO := Lib.hid ho0
  clear ho0
  go_enter Tryz.func58, Tryz.ntmps58
  go_wp2
  go_loopw [1, 5] (fun r i wr => ∃ (k : Nat) (cs : List Value), k ≤ n ∧ i = .int .i64 k ∧ r = .int .i64 (q + k * 3) ∧ wr.ownsRow base 156 3 (.slice A n c) n cs ∧ Upto cs ((Undo.marks q n).flatMap Undo.cells) (k * 3) ∧ Chg (fun k => (Value.slice A n c).ownBlock = some k) w wr) (fun _ i _ => n - (intOf i).toNat)
  case atStart => exact ⟨0, _, Nat.zero_le _, rfl, by simp, HO.out, by rw [Nat.zero_mul]; exact Upto.zero _ _, Chg.refl _ _⟩
  case round =>
    obtain ⟨k, cs, hk, rfl, rfl, ho, hu, hx⟩ := hrel
    by_cases hlt : k < n
    · obtain ⟨g, rfl, -, -, hg⟩ := own_flat ho hlt
      obtain ⟨v0, g0, e0⟩ := hg 0 (by omega)
      obtain ⟨v1, g1, e1⟩ := hg 1 (by omega)
      obtain ⟨v2, g2, e2⟩ := hg 2 (by omega)
      rw [Nat.add_zero] at g0 e0
      have HO2 := Lib.hid ho
      have HE2 := Lib.hid hx
      clear ho hx hg
      go_wp2
      go_roundw
      case rel =>
        have t0 := HO2.out.stored (k * 3) (.int .i64 (q + k * 3))
        have t1 := t0.1.stored (k * 3 + 1) (.int .i64 (q + k * 3 + 1))
        have t2 := t1.1.stored (k * 3 + 2) (.int .i64 (q + k * 3 + 1 + 1))
        have hl3 : cs.length = n * 3 := HO2.out.1
        have hmk := Undo.marks_get q n k hlt
        have q0 := flat_get Undo.cells_length _ k 0 _ hmk (by omega)
        have q1 := flat_get Undo.cells_length _ k 1 _ hmk (by omega)
        have q2 := flat_get Undo.cells_length _ k 2 _ hmk (by omega)
        refine ⟨k + 1, _, by omega, by go_num, by go_num, t2.1, ?_, ?_⟩
        · rw [show (k + 1) * 3 = k * 3 + 2 + 1 by omega]
          refine Upto.set1 (Upto.set1 (Upto.set1 hu (by omega) ?_) (by simp; omega) ?_) (by simp; omega) ?_
          · exact q0
          · exact q1
          · exact q2
        · exact (((HE2.out).grown t0.2 (fun j hj => .inl hj)).grown t1.2 (fun j hj => .inl hj)).grown t2.2 (fun j hj => .inl hj)
      case measure => simp [intOf]; omega
    · go_wp2
      go_ret
      have : k = n := by omega
      subst this
      refine ⟨rfl, ?_, hx⟩
      rw [← hu.all ho.1 (by rw [flat_length Undo.cells_length, Undo.marks_length])]
      exact ho

theorem markUndoS_ow (A : Option Addr) (n c : Nat) (l : List Undo) (q : Int) (w : World) (S : Nat → Prop) (h : OwS w S 156 3 A n c (l.flatMap Undo.cells)) (hq : 0 ≤ q) (hqn : q + n * 3 ≤ 9007199254740992) :
    Calls Tryz.prog 58 #[.slice A n c, .int .i64 q] w fun e w' => e = .returned (.int .i64 (q + n * 3)) ∧ OwS w' S 156 3 A n c ((Undo.marks q n).flatMap Undo.cells) ∧ Chg S w w' :=
  (markUndoS_any A n c 0 _ q w h.1 hq hqn).mono fun _ _ ⟨h1, h2, h3⟩ => ⟨h1, ⟨h2, h.2⟩, h3.mono fun k hk => h.2 k hk⟩
def Hold.mark (q : Int) : Hold := ⟨q, q + 1, q + 1 + 1⟩
def Hold.marks (q : Int) (n : Nat) : List Hold := (List.range n).map fun i : Nat => Hold.mark (q + i * 3)
theorem Hold.marks_length (q : Int) (n : Nat) : (Hold.marks q n).length = n := by simp [Hold.marks]
theorem Hold.marks_get (q : Int) (n i : Nat) (h : i < n) : (Hold.marks q n)[i]? = some (Hold.mark (q + i * 3)) := by simp [Hold.marks, h]

set_option maxHeartbeats 2000000 in
theorem markHoldS_any (A : Option Addr) (n c : Nat) (base : Nat) (cs0 : List Value) (q : Int) (w : World) (ho0 : w.ownsRow base 109 3 (.slice A n c) n cs0) (hq : 0 ≤ q) (hqn : q + n * 3 ≤ 9007199254740992) :
    Calls Tryz.prog 36 #[.slice A n c, .int .i64 q] w fun e w' => e = .returned (.int .i64 (q + n * 3)) ∧ w'.ownsRow base 109 3 (.slice A n c) n ((Hold.marks q n).flatMap Hold.cells) ∧ Chg (fun k => (Value.slice A n c).ownBlock = some k) w w' := by
  have HO := Lib.hid ho0
  clear ho0
  go_enter Tryz.func36, Tryz.ntmps36
  go_wp2
  go_loopw [1, 5] (fun r i wr => ∃ (k : Nat) (cs : List Value), k ≤ n ∧ i = .int .i64 k ∧ r = .int .i64 (q + k * 3) ∧ wr.ownsRow base 109 3 (.slice A n c) n cs ∧ Upto cs ((Hold.marks q n).flatMap Hold.cells) (k * 3) ∧ Chg (fun k => (Value.slice A n c).ownBlock = some k) w wr) (fun _ i _ => n - (intOf i).toNat)
  case atStart => exact ⟨0, _, Nat.zero_le _, rfl, by simp, HO.out, by rw [Nat.zero_mul]; exact Upto.zero _ _, Chg.refl _ _⟩
  case round =>
    obtain ⟨k, cs, hk, rfl, rfl, ho, hu, hx⟩ := hrel
    by_cases hlt : k < n
    · obtain ⟨g, rfl, -, -, hg⟩ := own_flat ho hlt
      obtain ⟨v0, g0, e0⟩ := hg 0 (by omega)
      obtain ⟨v1, g1, e1⟩ := hg 1 (by omega)
      obtain ⟨v2, g2, e2⟩ := hg 2 (by omega)
      rw [Nat.add_zero] at g0 e0
      have HO2 := Lib.hid ho
      have HE2 := Lib.hid hx
      clear ho hx hg
      go_wp2
      go_roundw
      case rel =>
        have t0 := HO2.out.stored (k * 3) (.int .i64 (q + k * 3))
        have t1 := t0.1.stored (k * 3 + 1) (.int .i64 (q + k * 3 + 1))
        have t2 := t1.1.stored (k * 3 + 2) (.int .i64 (q + k * 3 + 1 + 1))
        have hl3 : cs.length = n * 3 := HO2.out.1
        have hmk := Hold.marks_get q n k hlt
        have q0 := flat_get Hold.cells_length _ k 0 _ hmk (by omega)
        have q1 := flat_get Hold.cells_length _ k 1 _ hmk (by omega)
        have q2 := flat_get Hold.cells_length _ k 2 _ hmk (by omega)
        refine ⟨k + 1, _, by omega, by go_num, by go_num, t2.1, ?_, ?_⟩
        · rw [show (k + 1) * 3 = k * 3 + 2 + 1 by omega]
          refine Upto.set1 (Upto.set1 (Upto.set1 hu (by omega) ?_) (by simp; omega) ?_) (by simp; omega) ?_
          · exact q0
          · exact q1
          · exact q2
        · exact (((HE2.out).grown t0.2 (fun j hj => .inl hj)).grown t1.2 (fun j hj => .inl hj)).grown t2.2 (fun j hj => .inl hj)
      case measure => simp [intOf]; omega
    · go_wp2
      go_ret
      have : k = n := by omega
      subst this
      refine ⟨rfl, ?_, hx⟩
      rw [← hu.all ho.1 (by rw [flat_length Hold.cells_length, Hold.marks_length])]
      exact ho

theorem markHoldS_ow (A : Option Addr) (n c : Nat) (l : List Hold) (q : Int) (w : World) (S : Nat → Prop) (h : OwS w S 109 3 A n c (l.flatMap Hold.cells)) (hq : 0 ≤ q) (hqn : q + n * 3 ≤ 9007199254740992) :
    Calls Tryz.prog 36 #[.slice A n c, .int .i64 q] w fun e w' => e = .returned (.int .i64 (q + n * 3)) ∧ OwS w' S 109 3 A n c ((Hold.marks q n).flatMap Hold.cells) ∧ Chg S w w' :=
  (markHoldS_any A n c 0 _ q w h.1 hq hqn).mono fun _ _ ⟨h1, h2, h3⟩ => ⟨h1, ⟨h2, h.2⟩, h3.mono fun k hk => h.2 k hk⟩

end Go.Proofs.YtfacckjfoajijaaGreat
