/- A region that draws its order, whose operations read and whose callees may make memory: ONE walk in the order of the text, over a class of worlds. No condition. -/
import Derived.Test.YtglplgbhhnmgbaaGreatMem
namespace Go.Proofs.YtglplgbhhnmgbaaGreat
open Go.RowKit
theorem region_class {P : Program} {id : Nat} {Q : Exit → Act → World → Prop} {a : Act} {w : World} {l : List Oper} (C : World → Prop) (hm : P.follows .mixedOrders = true) (hB : Region.lexB .any l.toArray = true) (hC : C w.drew)
    (h : wpQuiet P l.toArray C (fun a' => ∀ w', C w' → Q .normal a' w') l a) : (Code.region id l.toArray true).wp P Q a w :=
  wp_region_quiet hm hB hC (by simpa using h)
end Go.Proofs.YtglplgbhhnmgbaaGreat
