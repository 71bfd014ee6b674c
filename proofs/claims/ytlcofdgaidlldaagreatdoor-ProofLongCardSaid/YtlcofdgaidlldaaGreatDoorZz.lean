/- ProofLong: for every number the law returns true. No condition beyond the card's own. -/
import Derived.Test.YtlcofdgaidlldaaGreatDoorZy5
import Derived.Test.YtlcofdgaidlldaaGreatDoorZy6
namespace Go.Proofs.YtlcofdgaidlldaaGreatDoor
open Go.RowKit
theorem proofLong_holds : Rows.ProofLongCardSaid := card_of (fun n W hn hL => by
  have h : (decide (IntKind.u64.min ≤ n) && decide (n ≤ IntKind.u64.max)) = true := hn
  rw [Bool.and_eq_true, decide_eq_true_iff, decide_eq_true_iff, show IntKind.u64.min = 0 by rfl, show IntKind.u64.max = 18446744073709551615 by rfl] at h
  exact ProofLong_calls n W h.1 h.2 hL)
#print axioms proofLong_holds
end Go.Proofs.YtlcofdgaidlldaaGreatDoor
