/- Lists of lists of the call's own: a slice whose cells hold slices of the call's own. Plain lemmas. -/
import Derived.Test.YtljfoohaapckeaaGreatDoorDG6
namespace Go.Proofs.YtljfoohaapckeaaGreatDoor
open Go.ChangeShapes Go.WideShapes Go.ChangeAt Go.RowKit
set_option linter.unusedVariables false
set_option maxHeartbeats 4000000
set_option maxRecDepth 100000
def eV (u:Value):List Value:=[u]
theorem zG:∀u:Value,(eV u).length=1:=fun _=>rfl
def dF {α:Type} (E0 E:TypeId) (size:Nat) (enc:α->List Value) (B:Nat) (w:World) (v:Value) (ls:List (List α)):Prop:=
 ∃us:List Value,aC E0 1 eV B w v us/\us.length=ls.length/\∀(k:Nat) (u:Value) (x:List α),us[k]? =some u->ls[k]? =some x->aC E size enc B w u x
section
variable {α : Type} {E0 E : TypeId} {size : Nat} {enc : α -> List Value} {B B' : Nat} {w w' : World} {v v' : Value} {ls : List (List α)}
theorem dF.CV:dF E0 E size enc B w (.slice none 0 0) ([]:List (List α)):=⟨[],aC.CV,rfl,fun k u x h=>by simp at h⟩
theorem dF.below (h:dF E0 E size enc B w v ls) (hb:Below w.heap.size w w'):dF E0 E size enc B w' v ls:=by
 obtain⟨us,h1,h2,h3⟩:=h;exact⟨us,h1.below hb,h2,fun k u x hu hx=>(h3 k u x hu hx).below hb⟩
theorem dF.alloc (h:dF E0 E size enc B w v ls) (o:Obj):dF E0 E size enc B (w.alloc o) v ls:=by
 obtain⟨us,h1,h2,h3⟩:=h;exact⟨us,h1.alloc o,h2,fun k u x hu hx=>(h3 k u x hu hx).alloc o⟩
theorem dF.mono (h:dF E0 E size enc B w v ls) (hb:B'<=B):dF E0 E size enc B' w v ls:=by
 obtain⟨us,h1,h2,h3⟩:=h;exact⟨us,h1.mono hb,h2,fun k u x hu hx=>(h3 k u x hu hx).mono hb⟩
theorem dF.form (h:dF E0 E size enc B w v ls):∃A c,v= .slice A ls.length c/\ls.length<=c/\c<=maxLen:=by
 obtain⟨us,h1,h2,h3⟩:=h;obtain⟨A,c,q,r,s⟩:=h1.form;rw[h2]at q r;exact⟨A,c,q,r,s⟩
theorem dF.snoc {us:List Value} (hne:E≠E0) (h1:aC E0 1 eV B w v us) (h2:us.length=ls.length) (h3:∀(k:Nat) (u:Value) (x:List α),us[k]? =some u->ls[k]? =some x->aC E size enc B w u x)
    {u:Value} {x:List α} (hu:aC E size enc B w u x) (h':aC E0 1 eV B w' v' (us++[u])) (hg:w.grownBy w' v.ownBlock):dF E0 E size enc B w' v' (ls++[x]):=by
 refine⟨us++[u],h',by simp[h2],fun k z y hz hy=> ?_⟩;by_cases hk:k<us.length
 . rw[List.getElem?_append_left hk]at hz;rw[List.getElem?_append_left (by omega)]at hy;exact aC.kJ (h3 k z y hz hy) h1 hne hg
 . have e:k=us.length:=by
    have:=(List.getElem?_eq_some_iff.1 hz).1;rw[List.length_append,List.length_singleton]at this;omega
   subst e;rw[List.getElem?_append_right (Nat.le_refl _),Nat.sub_self]at hz;rw[List.getElem?_append_right (by omega),show us.length-ls.length=0 by omega]at hy;simp only[List.getElem?_cons_zero,Option.some.injEq]at hz hy;subst hz;subst hy;exact aC.kJ hu h1 hne hg
theorem dF.app {us us2:List Value} {ls2:List (List α)} (hne:E≠E0) (h1:aC E0 1 eV B w v us) (h2:us.length=ls.length) (h3:∀(k:Nat) (u:Value) (x:List α),us[k]? =some u->ls[k]? =some x->aC E size enc B w u x)
    (g2:us2.length=ls2.length) (g3:∀(k:Nat) (u:Value) (x:List α),us2[k]? =some u->ls2[k]? =some x->aC E size enc B w u x) (h':aC E0 1 eV B w' v' (us++us2)) (hg:w.grownBy w' v.ownBlock):dF E0 E size enc B w' v' (ls++ls2):=by
 refine⟨us++us2,h',by simp[h2,g2],fun k z y hz hy=> ?_⟩;by_cases hk:k<us.length
 . rw[List.getElem?_append_left hk]at hz;rw[List.getElem?_append_left (by omega)]at hy;exact aC.kJ (h3 k z y hz hy) h1 hne hg
 . rw [List.getElem?_append_right (by omega)] at hz;rw[List.getElem?_append_right (by omega),<-h2]at hy;exact aC.kJ (g3 _ z y hz hy) h1 hne hg
theorem dF.at_ (h:dF E0 E size enc B w v ls) {k:Nat} (hk:k<ls.length):∃us:List Value,aC E0 1 eV B w v us/\∃u,us[k]? =some u/\aC E size enc B w u ls[k]:=by
 obtain⟨us,h1,h2,h3⟩:=h;have hk':k<us.length:=(by omega);exact⟨us,h1,us[k],List.getElem?_eq_getElem hk',h3 k _ _ (List.getElem?_eq_getElem hk') (List.getElem?_eq_getElem hk)⟩
end
end Go.Proofs.YtljfoohaapckeaaGreatDoor
