/- Words of mine, for seats without slices. -/
import Derived.Test.YtboliliohghncaaProg
import Derived.Test.YtboliliohghncaaWMore
namespace Go.Proofs.Ytboliliohghncaa.MyCut
theorem frozen_at {w w' : World} {m : Nat} {a : Addr} {b : Bool} (hq : w.drewN m = w') (h : w.frozen? a = b) : w'.frozen? a = b := by subst hq; exact h
end Go.Proofs.Ytboliliohghncaa.MyCut
