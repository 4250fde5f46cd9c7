/- Repairs: plain laws. No program in sight. -/
import Derived.Test.YtbjfooibiioooaaGreatDoorZWayPl
namespace Go.Proofs.YtbjfooibiioooaaGreatDoor
set_option linter.unusedVariables false
set_option linter.unusedSimpArgs false
theorem list_ok {rows : List Int} {t : List Dm} (ht : t ∈ listRows rows) : ∀ d ∈ t, domOk d = true := by
 unfold listRows at ht
 split at ht
 · exact tils_ok ht
 · cases ht
end Go.Proofs.YtbjfooibiioooaaGreatDoor
