/- Slices of Root compared. No condition but sizes. -/
import Derived.Test.YtglplgbhhnmgbaaGreatWRootS
namespace Go.Proofs.YtglplgbhhnmgbaaGreat
open Go.RowKit Go.Deep

set_option maxRecDepth 8000 in
set_option maxHeartbeats 8000000 in
theorem eqRootS_same (A B : Option Addr) (n c d : Nat) (l : List Root) (w : World) (S S' : Nat → Prop) (ha : SlR Root.R 40 w S A n l) (hb : SlR Root.R 40 w S' B n l) (hm : n ≤ 9223372036854775807) :
    Calls Tryz.prog 44 #[.slice A n c, .slice B n d] w fun e w' => e = .returned (.bool true) ∧ Ext w w' := by
  have HA := Lib.hid ha
  have HB := Lib.hid hb
  clear ha hb
  go_enter Tryz.func44, Tryz.ntmps44
  go_wp2
  go_loopw [5] (fun i wr => ∃ (k : Nat), k ≤ n ∧ i = .int .i64 k ∧ Ext w wr) (fun i _ => n - (intOf i).toNat)
  case atStart => exact ⟨0, Nat.zero_le _, rfl, Ext.refl' _⟩
  case round =>
    obtain ⟨k, hk, rfl, hx⟩ := hrel
    have HX := Lib.hid hx
    clear hx
    by_cases hlt : (k : Int) < (n : Int)
    rotate_left
    · go_wp2
      go_ret
      exact ⟨rfl, HX.out⟩
    obtain ⟨b, o, rfl⟩ := HA.out.addr (by omega)
    obtain ⟨b2, o2, rfl⟩ := HB.out.addr (by omega)
    obtain ⟨x, row, hxk, -, hrw, hc⟩ := (HA.out.ext Root.R_good HX.out).at_ (k := k) (by omega)
    obtain ⟨y, row2, hyk, -, hrw2, hc2⟩ := (HB.out.ext Root.R_good HX.out).at_ (k := k) (by omega)
    rw [hxk] at hyk
    injection hyk with hyk
    subst hyk
    have rx := Lib.hid (SlR.range Root.R_good hrw hc)
    have ry := Lib.hid (SlR.range Root.R_good hrw2 hc2)
    have RX := Lib.hid hrw
    have RY := Lib.hid hrw2
    have l1 : Hid ((Tryz.prog.info? 83).map (·.size) = some row.length) := by show _ = _; rw [Root.R_good.len hrw]; exact Root.size_info
    have l2 : Hid ((Tryz.prog.info? 83).map (·.size) = some row2.length) := by show _ = _; rw [Root.R_good.len hrw2]; exact Root.size_info
    have KX : Hid (∀ wq, Ext wr wq → wq.rangeAt b (o + k * 40) row) := fun wq q j v hv => q.co (rx.out j v hv)
    have KY : Hid (∀ wq, Ext wr wq → wq.rangeAt b2 (o2 + k * 40) row2) := fun wq q j v hv => q.co (ry.out j v hv)
    have hk0 : (0 : Int) ≤ (k : Int) := by omega
    clear hrw hrw2 hc hc2 hxk
    go_wp2
    refine region_class (fun w' => Ext wr w') (by kernel_rfl) (by kernel_rfl) ((Ext.refl' _).dr) ?_
    repeat (first | go_big_quiet_skip | (go_big_quiet_want; first | (refine quiet_load 83 _ rfl b (o + k * 40) rfl row _ KX.out Tryz.underlying83 rfl l1.out ?_; (try simp only [Act.put, List.setIfInBounds_toArray, List.set_cons_zero, List.set_cons_succ]); go_big_quiet_on) | (refine quiet_load 83 _ rfl b2 (o2 + k * 40) rfl row2 _ KY.out Tryz.underlying83 rfl l2.out ?_; (try simp only [Act.put, List.setIfInBounds_toArray, List.set_cons_zero, List.set_cons_succ]); go_big_quiet_on) | (unfold Oper.quiet; apply Exists.intro; refine ⟨fun wq hq => ?_, ?_⟩; (go_simp; first | done | rfl | (go_at_call 84; exact (eqRoot_same x row row2 _ S S' (Root.R_good.ext RX.out hq) (Root.R_good.ext RY.out hq)).mono fun e w2 h2 => ⟨h2.1, hq.tr h2.2⟩)); (try simp only [Act.put, List.setIfInBounds_toArray, List.set_cons_zero, List.set_cons_succ]); go_big_quiet_on)))
    refine wpQuiet_nil ?_
    intro wq hq
    have XE := Lib.hid hq
    clear hq
    go_wp2
    go_roundw
    case rel => exact ⟨k + 1, by omega, by go_num, HX.out.tr XE.out⟩
    case measure => simp [intOf]; omega

end Go.Proofs.YtglplgbhhnmgbaaGreat
