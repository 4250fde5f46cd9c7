/- Valid floors are tiled; what acts do to the stock and the money. Plain laws; no program in sight. -/
import Derived.Test.YtljfoohaapckeaaGreatDoorCG36
import Derived.Test.YtljfoohaapckeaaGreatDoorCG25
namespace Go.Proofs.YtljfoohaapckeaaGreatDoor
open Go.ChangeShapes Go.WideShapes Go.ChangeAt Go.RowKit
set_option linter.unusedVariables false
set_option linter.unusedSimpArgs false
set_option maxHeartbeats 4000000
set_option maxRecDepth 100000
theorem Lf {rows:List Int} {l:List Dm} (h:dN rows l=true):dK rows/\l∈iM (setOf rows):=by
 obtain⟨hr,hp⟩:=IV h;have hpart:isPartial rows l=true:=rR.2 ⟨hr,hp⟩;rw[pJ hpart,decide_eq_true_eq]at h;refine⟨hr,BQ hp fun j hj hs=> ?_⟩;rw[<-h,lQ,List.any_eq_true]at hs;obtain⟨d,hd,e⟩:=hs;rw[Bool.and_eq_true]at e;exact⟨d,hd,e.2⟩
theorem Qc {s:Nat}:∀(cs:List Cl) {a b:List Dm},a∈iM s->eX a cs=some b->b∈iM s
  | [], a, b, ha, h => by
   have e:a=b:=Option.some.inj h;exact e▸ha
  | c :: r, a, b, ha, h => by
   unfold eX at h;split at h
   . cases h
   . rename_i q;exact Qc r (JC ha q) h
theorem Lg {x:Fl} (h:iL x=true):dN x.1 x.2.2.1=true:=by
 obtain⟨f1,f2,f3⟩:=lU.1 h;obtain⟨hr,ht⟩:=Lf f1;exact BP hr (Qc _ ht f3)
theorem Pw {x:Fl} (h:iL x=true):isPartial x.1 x.2.2.1=true:=by
 have:=Lg h;unfold dN at this;rw[Bool.and_eq_true]at this;exact this.1
end Go.Proofs.YtljfoohaapckeaaGreatDoor
