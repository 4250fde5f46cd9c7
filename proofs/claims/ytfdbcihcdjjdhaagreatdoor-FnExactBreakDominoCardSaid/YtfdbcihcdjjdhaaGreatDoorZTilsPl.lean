/- Tilings and dominoes: a member is a tiling; the tilings with a domino are the tilings without its cells. Plain laws. -/
import Derived.Test.YtfdbcihcdjjdhaaGreatDoorZListP2
import Derived.Test.YtfdbcihcdjjdhaaGreatDoorZK5
import Derived.Test.YtfdbcihcdjjdhaaGreatDoorZK9
namespace Go.Proofs.YtfdbcihcdjjdhaaGreatDoor
set_option linter.unusedVariables false
theorem tils_til {s:Nat} {t:List Dm}:t∈tils s↔Til 0 s.testBit t:=tl_til 64 0 s.testBit t rfl
theorem Til.part {s:Nat} {t:List Dm} (h:Til 0 s.testBit t):PartOk s t:=
 ⟨fun d hd=>by obtain⟨a,_,c,e⟩:=h.ok d hd;exact in_iff.2 ⟨a,c,e⟩,h.ord,h.ap⟩
theorem tils_part {s:Nat} {t:List Dm} (h:t∈tils s):PartOk s t:=(tils_til.1 h).part
theorem tils_ok {s:Nat} {t:List Dm} (h:t∈tils s):∀d∈t,domOk d=true:=fun d hd=>(in_iff.1 ((tils_part h).1 d hd)).1
theorem cntRows_is {rows:List Int} (hr:RowsOk rows):cntRows rows=((tils (setOf rows)).length:Nat):=by
 unfold cntRows;rw[if_pos (regionOk_iff.2 hr),cntSet_is (setOf_lt hr)]
end Go.Proofs.YtfdbcihcdjjdhaaGreatDoor
