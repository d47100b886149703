/- copyInts. No condition but the length. -/
import Derived.Test.YtglplgbhhnmgbaaGreatPour
import Derived.Test.YtglplgbhhnmgbaaGreatInts
namespace Go.Proofs.YtglplgbhhnmgbaaGreat
open Go.RowKit
theorem own_emptyC (w : World) : (w.alloc (.cells #[] 3)).ownsRow w.heap.size 3 1 (.slice (some ⟨w.heap.size, 0, none⟩) 0 0) 0 (ints []) :=
  World.ownsRow_lit w #[] 0 (Nat.le_refl _) (Nat.zero_le _) (by simp)
theorem copyInts_any (A : Option Addr) (n c : Nat) (l : List Int) (w : World) (S : Nat → Prop) (hs : Sl w S 1 A n (ints l)) (hm : n ≤ 1048576) :
    Calls Tryz.prog 76 #[.slice A n c] w fun e w' => ∃ B d, e = .returned (.slice B n d) ∧ w'.ownsRow w.heap.size 3 1 (.slice B n d) n (ints l) ∧ Ext w w' := by
  go_enter Tryz.func76, Tryz.ntmps76
  go_wp2_with (at_builtin; refine wp_pour rfl _ _ _ rfl w.heap.size 3 _ _ _ Tryz.underlying22 Tryz.infoInt rfl (by omega) (.slice none 0 0) 0 [] rfl (World.ownsRow_nil _ _ _ _) S A n c (ints l) rfl hs (ints_one l) (by omega) (by unfold maxLen; omega) (Nat.le_refl _) ?_; intro A' c' w' hown hchg hat)
  go_ret
  exact ⟨A', c', by simp, by simpa using hown, hchg.none⟩
end Go.Proofs.YtglplgbhhnmgbaaGreat
