/- All tilings behind a head, step by step; the first of the cheapest. Plain laws. -/
import Derived.Test.YtfdbcihcdjjdhaaGreatDoorZK9
namespace Go.Proofs.YtfdbcihcdjjdhaaGreatDoor
set_option linter.unusedVariables false
def tilsFrom (s:Nat) (head:List Dm):List (List Dm):=(tils s).map (head++·)
theorem from_nil (s:Nat):tilsFrom s []=tils s:=by
 unfold tilsFrom;simp
theorem from_zero (head:List Dm):tilsFrom 0 head=[head]:=by
 unfold tilsFrom;rw[tils_zero];simp
theorem from_len (s:Nat) (head:List Dm):(tilsFrom s head).length=(tils s).length:=by
 unfold tilsFrom;simp
theorem from_step {s i:Nat} (hs:s<U64) (hl:LowBit s i) (head:List Dm):tilsFrom s head=
    (if fitsD s (domRt i)then tilsFrom (sDiff s (domSet (domRt i))) (head++[domRt i])else[])++(if fitsD s (domDn i)then tilsFrom (sDiff s (domSet (domDn i))) (head++[domDn i])else[]):=by
 unfold tilsFrom
 rw[tils_step hs hl,List.map_append]
 congr 1
 · split
   · rw[List.map_map];congr 1;funext t;simp
   · rfl
 · split
   · rw[List.map_map];congr 1;funext t;simp
   · rfl
end Go.Proofs.YtfdbcihcdjjdhaaGreatDoor
