/- All tilings behind a head, step by step; the first of the cheapest. Plain laws. What is free behind a head of dominoes; the cells that are free; a list's steps. Plain laws. Tilings and dominoes: a member is a tiling; the tilings with a domino are the tilings without its cells. Plain laws. Lists of lists of the call's own: a slice whose cells hold slices of the call's own. Plain lemmas. -/
import Derived.Test.YtljfoohaapckeaaGreatDoorAK9
import Derived.Test.YtljfoohaapckeaaGreatDoorAK4
import Derived.Test.YtljfoohaapckeaaGreatDoorAK5
import Derived.Test.YtljfoohaapckeaaGreatDoorAG5
namespace Go.Proofs.YtljfoohaapckeaaGreatDoor
set_option linter.unusedVariables false
set_option maxHeartbeats 4000000
set_option maxRecDepth 100000
def dS (s:Nat) (head:List Dm):List (List Dm):=(iJ s).map (head++·)
theorem Gy (s:Nat):dS s []=iJ s:=by
 unfold dS;simp
theorem Eh (head:List Dm):dS 0 head=[head]:=by
 unfold dS;rw[yT];simp
theorem rG (s:Nat) (head:List Dm):(dS s head).length=(iJ s).length:=by
 unfold dS;simp
theorem Ei {s i:Nat} (hs:s<U64) (hl:qF s i) (head:List Dm):dS s head=
    (if fA s (eD i)then dS (dR s (aL (eD i))) (head++[eD i])else[])++(if fA s (fM i)then dS (dR s (aL (fM i))) (head++[fM i])else[]):=by
 unfold dS;rw[Eg hs hl,List.map_append];congr 1
 . split
   . rw[List.map_map];congr 1;funext t;simp
   . rfl
 . split
   . rw[List.map_map];congr 1;funext t;simp
   . rfl
def mQ (rows:List Int) (h:List Dm):Nat:=dR (setOf rows) (fZ 0 h)
theorem Ej {rows:List Int} (hr:dM rows) (h:List Dm):mQ rows h<U64:=eZ (dY hr)
theorem kX (h : List Dm) (j : Nat) : (fZ 0 h).testBit j = h.any fun d => aI d && (aL d).testBit j := by
 rw[tO,Nat.zero_testBit,Bool.false_or]
theorem oZ {rows:List Int} (hr:dM rows) (h:List Dm) (j:Nat):(mQ rows h).testBit j=((setOf rows).testBit j&& !(fZ 0 h).testBit j):=
 jB (dY hr) (vV h 0 (by decide)) j
theorem BB {rows:List Int} (hr:dM rows):mQ rows []=setOf rows:=by
 refine Nat.eq_of_testBit_eq fun j=> ?_
 rw[oZ hr,kX];simp
theorem zT {rows:List Int} (hr:dM rows) (h:List Dm) {d:Dm} (hd:aI d=true):mQ rows (h++[d])=dR (mQ rows h) (aL d):=by
 refine Nat.eq_of_testBit_eq fun j=> ?_
 rw[jB (Ej hr h) (eQ hd),oZ hr,oZ hr,kX,kX,List.any_append];simp[hd,Bool.and_assoc]
theorem El (l:List Dm) {c:Cl} (hc:aY c=true):decide (qL l c<0)= !(fZ 0 l).testBit (dF c).toNat:=by
 have e:decide (qL l c<0)=(xJ l c).isNone:=by
  rcases Ii l c with⟨a,b⟩|⟨j,hj,a,b⟩
  . rw[a,b];rfl
  . rw[a,b];simp
 rw[e,kX];unfold xJ
 have q : (fun d : Dm => aI d && (aL d).testBit (dF c).toNat) = fun d => nP d c := by
  funext d
  rcases h:aI d with _|_
  . rw[Dy h];rfl
  . rw[<-Ij h c,hc]
 rw[q];rcases h:l.any fun d=>nP d c with _|_
 . rw [List.find?_eq_none.2 (fun x hx => by
    have:=List.any_eq_false.1 h x hx;simpa using this)];rfl
 . obtain⟨x,hx,hp⟩:=List.any_eq_true.1 h;rcases hf:l.find? (fun d=>nP d c)with _|y
   . exact absurd hp (by simpa using List.find?_eq_none.1 hf x hx)
   . rfl
theorem KI {i:Nat} (hi:i<64):aY (iC i)=true/\(dF (iC i)).toNat=i:=by
 have h:aY (iC i)=true:=by rw[dB];unfold iC;simp only;omega
 refine⟨h,?_⟩;rw[(dO h).1];unfold iC;simp only;omega
def Nw (rows:List Int) (l:List Dm):List Cl:=(dW rows).filter fun c=>decide (qL l c<0)
theorem Ny {rows:List Int} (hr:dM rows) (l:List Dm):Nw rows l=dZ (mQ rows l) 64:=by
 unfold Nw dW;rw[if_pos (aN.2 hr)];unfold dZ;rw[List.filter_map,List.filter_filter];congr 1
 refine List.filter_congr fun i hi=> ?_
 have hi':=List.mem_range.1 hi;obtain⟨h1,h2⟩:=KI hi';rw[oZ hr,Function.comp_apply,El l h1,h2,Bool.and_comm]
theorem zU {rows:List Int} (hr:dM rows) (l:List Dm) {d:Dm} (hd:aI d=true) (hi:(mQ rows l).testBit (eO d)=true):
 fA (mQ rows l) d=(jN rows (sec d)&&decide (qL l (sec d)<0)):=by
 obtain⟨h1,h2⟩:=dJ hd;unfold jN;rw[El l h2,aN.2 hr,h2,Bool.true_and,Bool.true_and,show(dF (sec d)).toNat=iX d from rfl,<-oZ hr];unfold fA;rw[hd,Bool.true_and];rw[Bool.eq_iff_iff,decide_eq_true_iff];constructor
 . intro h;exact oK h _ (by rw[aT hd];simp)
 . intro h;refine Nat.eq_of_testBit_eq fun j=> ?_
   rw[Nat.testBit_and,aT hd];by_cases e1:eO d=j
   . subst e1;simp[hi]
   . by_cases e2:iX d=j
     . subst e2;simp[h]
     . simp[e1,e2]
theorem xN {s i j:Nat} {d:Dm} (hs:s<U64) (hl:qF s i) (hd:aI d=true) (hI:eO d=i):∀k,k<i+1->(dR s (aL d)).testBit k=false:=by
 intro k hk;rw[jB hs (eQ hd),aT hd];by_cases e:k=i
 . subst e;simp[hI]
 . rw[hl.2.2 k (by omega)];rfl
theorem ML {s i j:Nat} (hl:qF s i) (hj:∀k,k<j->s.testBit k=false):j<=i:=by
 rcases Nat.lt_or_ge i j with h|h
 . have:=hj i h;rw[hl.2.1]at this;cases this
 . exact h
theorem JM {i:Nat} (h:aI (eD i)=true) (hi:i<64):eO (eD i)=i:=by
 have:=Ob hi;rw[h]at this;exact(pK hi (of_decide_eq_true this.symm)).2.1
theorem JN {i:Nat} (h:aI (fM i)=true) (hi:i<64):eO (fM i)=i:=by
 have:=Oc hi;rw[h]at this;exact(pM (of_decide_eq_true this.symm)).2.1
theorem xO {s:Nat} {t:List Dm}:t∈iJ s↔Til 0 s.testBit t:=Aq 64 0 s.testBit t rfl
theorem Til.part {s:Nat} {t:List Dm} (h:Til 0 s.testBit t):jE s t:=
 ⟨fun d hd=>by obtain⟨a,_,c,e⟩:=h.ok d hd;exact Ap.2 ⟨a,c,e⟩,h.ord,h.ap⟩
theorem nX {s:Nat} {t:List Dm} (h:t∈iJ s):jE s t:=(xO.1 h).part
theorem BC {s:Nat} {t:List Dm} (h:t∈iJ s):∀d∈t,aI d=true:=fun d hd=>(Ap.1 ((nX h).1 d hd)).1
theorem Gz {s:Nat} {d:Dm}:fA s d=true↔aI d=true/\s.testBit (eO d)=true/\s.testBit (iX d)=true:=by
 constructor
 . intro h;unfold fA at h;rw[Bool.and_eq_true,decide_eq_true_iff]at h;exact⟨h.1,oK h.2 _ (by rw[aT h.1];simp),oK h.2 _ (by rw[aT h.1];simp)⟩
 . rintro⟨a,b,c⟩;unfold fA;rw[a,Bool.true_and,decide_eq_true_iff];refine vD fun j hj=> ?_
   rw[aT a,Bool.or_eq_true,decide_eq_true_iff,decide_eq_true_iff]at hj;rcases hj with rfl|rfl
   . exact b
   . exact c
theorem KJ {s:Nat} {t:List Dm} (h:t∈iJ s) {d:Dm} (hd:d∈t):fA s d=true:=Gz.2 (Ap.1 ((nX h).1 d hd))
theorem LA {s:Nat} (hs:s<U64) {t:List Dm} (h:t∈iJ s):fZ 0 t=s:=by
 have T:=xO.1 h;refine Nat.eq_of_testBit_eq fun j=> ?_
 rw[kX];rcases q:s.testBit j with _|_
 . rw[List.any_eq_false];intro d hd;have:=KJ h hd;obtain⟨a,b,c⟩:=Gz.1 this;rw[a,Bool.true_and,aT a];by_cases e1:eO d=j
   . rw[e1,q]at b;cases b
   . by_cases e2:iX d=j
     . rw[e2,q]at c;cases c
     . simp[e1,e2]
 . have hj:j<64:=by
    rcases Nat.lt_or_ge j 64 with h|h
    . exact h
    . rw[Nat.testBit_lt_two_pow (Nat.lt_of_lt_of_le hs (by unfold U64;exact Nat.pow_le_pow_right (by decide) h))]at q;cases q
   obtain⟨d,hd,e⟩:=T.all j (Nat.zero_le _) hj q;rw[List.any_eq_true];refine⟨d,hd,?_⟩;have a:=BC h d hd;rw[a,Bool.true_and,aT a];rcases e with e|e<;>simp[e]
theorem zW {rows:List Int} (hr:dM rows) {t:List Dm} (h:t∈iJ (setOf rows)):dI rows t=true:=by
 have hp:isPartial rows t=true:=qD.2 ⟨hr,nX h⟩;rw[nU hp,LA (dY hr) h,decide_eq_true rfl]
theorem IK {rows:List Int} (hr:dM rows):bG rows=((iJ (setOf rows)).length:Nat):=by
 unfold bG;rw[if_pos (aN.2 hr),qR (dY hr)]
end Go.Proofs.YtljfoohaapckeaaGreatDoor
namespace Go.Proofs.YtljfoohaapckeaaGreatDoor
open Go.ChangeShapes Go.WideShapes Go.ChangeAt Go.RowKit
set_option linter.unusedVariables false
set_option maxHeartbeats 4000000
set_option maxRecDepth 100000
def eV (u:Value):List Value:=[u]
theorem zX:∀u:Value,(eV u).length=1:=fun _=>rfl
def dN {α:Type} (E0 E:TypeId) (size:Nat) (enc:α->List Value) (B:Nat) (w:World) (v:Value) (ls:List (List α)):Prop:=
 ∃us:List Value,aD E0 1 eV B w v us/\us.length=ls.length/\∀(k:Nat) (u:Value) (x:List α),us[k]? =some u->ls[k]? =some x->aD E size enc B w u x
section
variable {α : Type} {E0 E : TypeId} {size : Nat} {enc : α -> List Value} {B B' : Nat} {w w' : World} {v v' : Value} {ls : List (List α)}
theorem dN.CV:dN E0 E size enc B w (.slice none 0 0) ([]:List (List α)):=⟨[],aD.CV,rfl,fun k u x h=>by simp at h⟩
theorem dN.below (h:dN E0 E size enc B w v ls) (hb:Below w.heap.size w w'):dN E0 E size enc B w' v ls:=by
 obtain⟨us,h1,h2,h3⟩:=h;exact⟨us,h1.below hb,h2,fun k u x hu hx=>(h3 k u x hu hx).below hb⟩
theorem dN.alloc (h:dN E0 E size enc B w v ls) (o:Obj):dN E0 E size enc B (w.alloc o) v ls:=by
 obtain⟨us,h1,h2,h3⟩:=h;exact⟨us,h1.alloc o,h2,fun k u x hu hx=>(h3 k u x hu hx).alloc o⟩
theorem dN.mono (h:dN E0 E size enc B w v ls) (hb:B'<=B):dN E0 E size enc B' w v ls:=by
 obtain⟨us,h1,h2,h3⟩:=h;exact⟨us,h1.mono hb,h2,fun k u x hu hx=>(h3 k u x hu hx).mono hb⟩
theorem dN.form (h:dN E0 E size enc B w v ls):∃A c,v= .slice A ls.length c/\ls.length<=c/\c<=maxLen:=by
 obtain⟨us,h1,h2,h3⟩:=h;obtain⟨A,c,q,r,s⟩:=h1.form;rw[h2]at q r;exact⟨A,c,q,r,s⟩
theorem dN.snoc {us:List Value} (hne:E≠E0) (h1:aD E0 1 eV B w v us) (h2:us.length=ls.length) (h3:∀(k:Nat) (u:Value) (x:List α),us[k]? =some u->ls[k]? =some x->aD E size enc B w u x)
    {u:Value} {x:List α} (hu:aD E size enc B w u x) (h':aD E0 1 eV B w' v' (us++[u])) (hg:w.grownBy w' v.ownBlock):dN E0 E size enc B w' v' (ls++[x]):=by
 refine⟨us++[u],h',by simp[h2],fun k z y hz hy=> ?_⟩;by_cases hk:k<us.length
 . rw[List.getElem?_append_left hk]at hz;rw[List.getElem?_append_left (by omega)]at hy;exact aD.lD (h3 k z y hz hy) h1 hne hg
 . have e:k=us.length:=by
    have:=(List.getElem?_eq_some_iff.1 hz).1;rw[List.length_append,List.length_singleton]at this;omega
   subst e;rw[List.getElem?_append_right (Nat.le_refl _),Nat.sub_self]at hz;rw[List.getElem?_append_right (by omega),show us.length-ls.length=0 by omega]at hy;simp only[List.getElem?_cons_zero,Option.some.injEq]at hz hy;subst hz;subst hy;exact aD.lD hu h1 hne hg
theorem dN.app {us us2:List Value} {ls2:List (List α)} (hne:E≠E0) (h1:aD E0 1 eV B w v us) (h2:us.length=ls.length) (h3:∀(k:Nat) (u:Value) (x:List α),us[k]? =some u->ls[k]? =some x->aD E size enc B w u x)
    (g2:us2.length=ls2.length) (g3:∀(k:Nat) (u:Value) (x:List α),us2[k]? =some u->ls2[k]? =some x->aD E size enc B w u x) (h':aD E0 1 eV B w' v' (us++us2)) (hg:w.grownBy w' v.ownBlock):dN E0 E size enc B w' v' (ls++ls2):=by
 refine⟨us++us2,h',by simp[h2,g2],fun k z y hz hy=> ?_⟩;by_cases hk:k<us.length
 . rw[List.getElem?_append_left hk]at hz;rw[List.getElem?_append_left (by omega)]at hy;exact aD.lD (h3 k z y hz hy) h1 hne hg
 . rw [List.getElem?_append_right (by omega)] at hz;rw[List.getElem?_append_right (by omega),<-h2]at hy;exact aD.lD (g3 _ z y hz hy) h1 hne hg
theorem dN.at_ (h:dN E0 E size enc B w v ls) {k:Nat} (hk:k<ls.length):∃us:List Value,aD E0 1 eV B w v us/\∃u,us[k]? =some u/\aD E size enc B w u ls[k]:=by
 obtain⟨us,h1,h2,h3⟩:=h;have hk':k<us.length:=(by omega);exact⟨us,h1,us[k],List.getElem?_eq_getElem hk',h3 k _ _ (List.getElem?_eq_getElem hk') (List.getElem?_eq_getElem hk)⟩
end
end Go.Proofs.YtljfoohaapckeaaGreatDoor
