/- RuleNone: for every expression and every step the law returns true; both arguments read afterwards as before. No condition beyond the card's own. -/
import Derived.Test.YtegolcblbpeoeaaGreatDoorZy2
import Derived.Test.YtegolcblbpeoeaaGreatDoorZy3
namespace Go.Proofs.YtegolcblbpeoeaaGreatDoor
theorem ruleNone_holds : Rows.RuleNoneCardSaid := card_of (fun x cs r path A c k no W hx hp hpc hL => RuleNone_calls x cs r path A c k no W hx hp hpc hL)
#print axioms ruleNone_holds
end Go.Proofs.YtegolcblbpeoeaaGreatDoor
