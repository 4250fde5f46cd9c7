/- All tilings behind a head, step by step; the first of the cheapest. Plain laws. What is free behind a head of dominoes; the cells that are free; a list's steps. Plain laws. Tilings and dominoes: a member is a tiling; the tilings with a domino are the tilings without its cells. Plain laws. Lists of lists of the call's own: a slice whose cells hold slices of the call's own. Plain lemmas. -/
import Derived.Test.YtljfoohaapckeaaGreatDoorBK9
import Derived.Test.YtljfoohaapckeaaGreatDoorBK4
import Derived.Test.YtljfoohaapckeaaGreatDoorBK5
import Derived.Test.YtljfoohaapckeaaGreatDoorBG6
namespace Go.Proofs.YtljfoohaapckeaaGreatDoor
set_option linter.unusedVariables false
set_option maxHeartbeats 4000000
set_option maxRecDepth 100000
def dV (s:Nat) (head:List Dm):List (List Dm):=(iX s).map (head++·)
theorem Ih (s:Nat):dV s []=iX s:=by
 unfold dV;simp
theorem EK (head:List Dm):dV 0 head=[head]:=by
 unfold dV;rw[zM];simp
theorem rU (s:Nat) (head:List Dm):(dV s head).length=(iX s).length:=by
 unfold dV;simp
theorem EL {s i:Nat} (hs:s<U64) (hl:qP s i) (head:List Dm):dV s head=
    (if eY s (eD i)then dV (dQ s (aK (eD i))) (head++[eD i])else[])++(if eY s (fH i)then dV (dQ s (aK (fH i))) (head++[fH i])else[]):=by
 unfold dV;rw[EJ hs hl,List.map_append];congr 1
 . split
   . rw[List.map_map];congr 1;funext t;simp
   . rfl
 . split
   . rw[List.map_map];congr 1;funext t;simp
   . rfl
def mV (rows:List Int) (h:List Dm):Nat:=dQ (setOf rows) (fT 0 h)
theorem EM {rows:List Int} (hr:dS rows) (h:List Dm):mV rows h<U64:=eU (dU hr)
theorem mD (h : List Dm) (j : Nat) : (fT 0 h).testBit j = h.any fun d => aJ d && (aK d).testBit j := by
 rw[uJ,Nat.zero_testBit,Bool.false_or]
theorem pE {rows:List Int} (hr:dS rows) (h:List Dm) (j:Nat):(mV rows h).testBit j=((setOf rows).testBit j&& !(fT 0 h).testBit j):=
 jE (dU hr) (wL h 0 (by decide)) j
theorem Cg {rows:List Int} (hr:dS rows):mV rows []=setOf rows:=by
 refine Nat.eq_of_testBit_eq fun j=> ?_
 rw[pE hr,mD];simp
theorem Aj {rows:List Int} (hr:dS rows) (h:List Dm) {d:Dm} (hd:aJ d=true):mV rows (h++[d])=dQ (mV rows h) (aK d):=by
 refine Nat.eq_of_testBit_eq fun j=> ?_
 rw[jE (EM hr h) (dZ hd),pE hr,pE hr,mD,mD,List.any_append];simp[hd,Bool.and_assoc]
theorem EN (l:List Dm) {c:Cl} (hc:bG c=true):decide (nS l c<0)= !(fT 0 l).testBit (dF c).toNat:=by
 have e:decide (nS l c<0)=(qF l c).isNone:=by
  rcases BK l c with⟨a,b⟩|⟨j,hj,a,b⟩
  . rw[a,b];rfl
  . rw[a,b];simp
 rw[e,mD];unfold qF
 have q : (fun d : Dm => aJ d && (aK d).testBit (dF c).toNat) = fun d => lI d c := by
  funext d
  rcases h:aJ d with _|_
  . rw[yZ h];rfl
  . rw[<-wI h c,hc]
 rw[q];rcases h:l.any fun d=>lI d c with _|_
 . rw [List.find?_eq_none.2 (fun x hx => by
    have:=List.any_eq_false.1 h x hx;simpa using this)];rfl
 . obtain⟨x,hx,hp⟩:=List.any_eq_true.1 h;rcases hf:l.find? (fun d=>lI d c)with _|y
   . exact absurd hp (by simpa using List.find?_eq_none.1 hf x hx)
   . rfl
theorem Lv {i:Nat} (hi:i<64):bG (gW i)=true/\(dF (gW i)).toNat=i:=by
 have h:bG (gW i)=true:=by rw[bZ];unfold gW;simp only;omega
 refine⟨h,?_⟩;rw[(dJ h).1];unfold gW;simp only;omega
def Ox (rows:List Int) (l:List Dm):List Cl:=(eF rows).filter fun c=>decide (nS l c<0)
theorem Oy {rows:List Int} (hr:dS rows) (l:List Dm):Ox rows l=dY (mV rows l) 64:=by
 unfold Ox eF;rw[if_pos (aN.2 hr)];unfold dY;rw[List.filter_map,List.filter_filter];congr 1
 refine List.filter_congr fun i hi=> ?_
 have hi':=List.mem_range.1 hi;obtain⟨h1,h2⟩:=Lv hi';rw[pE hr,Function.comp_apply,EN l h1,h2,Bool.and_comm]
theorem Ak {rows:List Int} (hr:dS rows) (l:List Dm) {d:Dm} (hd:aJ d=true) (hi:(mV rows l).testBit (eO d)=true):
 eY (mV rows l) d=(jO rows (sec d)&&decide (nS l (sec d)<0)):=by
 obtain⟨h1,h2⟩:=dK hd;unfold jO;rw[EN l h2,aN.2 hr,h2,Bool.true_and,Bool.true_and,show(dF (sec d)).toNat=iZ d from rfl,<-pE hr];unfold eY;rw[hd,Bool.true_and];rw[Bool.eq_iff_iff,decide_eq_true_iff];constructor
 . intro h;exact oV h _ (by rw[aU hd];simp)
 . intro h;refine Nat.eq_of_testBit_eq fun j=> ?_
   rw[Nat.testBit_and,aU hd];by_cases e1:eO d=j
   . subst e1;simp[hi]
   . by_cases e2:iZ d=j
     . subst e2;simp[h]
     . simp[e1,e2]
theorem xY {s i j:Nat} {d:Dm} (hs:s<U64) (hl:qP s i) (hd:aJ d=true) (hI:eO d=i):∀k,k<i+1->(dQ s (aK d)).testBit k=false:=by
 intro k hk;rw[jE hs (dZ hd),aU hd];by_cases e:k=i
 . subst e;simp[hI]
 . rw[hl.2.2 k (by omega)];rfl
theorem NG {s i j:Nat} (hl:qP s i) (hj:∀k,k<j->s.testBit k=false):j<=i:=by
 rcases Nat.lt_or_ge i j with h|h
 . have:=hj i h;rw[hl.2.1]at this;cases this
 . exact h
theorem Kt {i:Nat} (h:aJ (eD i)=true) (hi:i<64):eO (eD i)=i:=by
 have:=O7 hi;rw[h]at this;exact(pU hi (of_decide_eq_true this.symm)).2.1
theorem Ku {i:Nat} (h:aJ (fH i)=true) (hi:i<64):eO (fH i)=i:=by
 have:=O8 hi;rw[h]at this;exact(pV (of_decide_eq_true this.symm)).2.1
theorem xZ {s:Nat} {t:List Dm}:t∈iX s↔Til 0 s.testBit t:=AZ 64 0 s.testBit t rfl
theorem Til.part {s:Nat} {t:List Dm} (h:Til 0 s.testBit t):kG s t:=
 ⟨fun d hd=>by obtain⟨a,_,c,e⟩:=h.ok d hd;exact AY.2 ⟨a,c,e⟩,h.ord,h.ap⟩
theorem nX {s:Nat} {t:List Dm} (h:t∈iX s):kG s t:=(xZ.1 h).part
theorem Ch {s:Nat} {t:List Dm} (h:t∈iX s):∀d∈t,aJ d=true:=fun d hd=>(AY.1 ((nX h).1 d hd)).1
theorem Ii {s:Nat} {d:Dm}:eY s d=true↔aJ d=true/\s.testBit (eO d)=true/\s.testBit (iZ d)=true:=by
 constructor
 . intro h;unfold eY at h;rw[Bool.and_eq_true,decide_eq_true_iff]at h;exact⟨h.1,oV h.2 _ (by rw[aU h.1];simp),oV h.2 _ (by rw[aU h.1];simp)⟩
 . rintro⟨a,b,c⟩;unfold eY;rw[a,Bool.true_and,decide_eq_true_iff];refine vS fun j hj=> ?_
   rw[aU a,Bool.or_eq_true,decide_eq_true_iff,decide_eq_true_iff]at hj;rcases hj with rfl|rfl
   . exact b
   . exact c
theorem Lx {s:Nat} {t:List Dm} (h:t∈iX s) {d:Dm} (hd:d∈t):eY s d=true:=Ii.2 (AY.1 ((nX h).1 d hd))
theorem MC {s:Nat} (hs:s<U64) {t:List Dm} (h:t∈iX s):fT 0 t=s:=by
 have T:=xZ.1 h;refine Nat.eq_of_testBit_eq fun j=> ?_
 rw[mD];rcases q:s.testBit j with _|_
 . rw[List.any_eq_false];intro d hd;have:=Lx h hd;obtain⟨a,b,c⟩:=Ii.1 this;rw[a,Bool.true_and,aU a];by_cases e1:eO d=j
   . rw[e1,q]at b;cases b
   . by_cases e2:iZ d=j
     . rw[e2,q]at c;cases c
     . simp[e1,e2]
 . have hj:j<64:=by
    rcases Nat.lt_or_ge j 64 with h|h
    . exact h
    . rw[Nat.testBit_lt_two_pow (Nat.lt_of_lt_of_le hs (by unfold U64;exact Nat.pow_le_pow_right (by decide) h))]at q;cases q
   obtain⟨d,hd,e⟩:=T.all j (Nat.zero_le _) hj q;rw[List.any_eq_true];refine⟨d,hd,?_⟩;have a:=Ch h d hd;rw[a,Bool.true_and,aU a];rcases e with e|e<;>simp[e]
theorem GD {rows:List Int} (hr:dS rows) {t:List Dm} (h:t∈iX (setOf rows)):eG rows t=true:=by
 have hp:isPartial rows t=true:=DV.2 ⟨hr,nX h⟩;rw[uF hp,MC (dU hr) h,decide_eq_true rfl]
theorem Jr {rows:List Int} (hr:dS rows):bK rows=((iX (setOf rows)).length:Nat):=by
 unfold bK;rw[if_pos (aN.2 hr),rG (dU hr)]
end Go.Proofs.YtljfoohaapckeaaGreatDoor
namespace Go.Proofs.YtljfoohaapckeaaGreatDoor
open Go.ChangeShapes Go.WideShapes Go.ChangeAt Go.RowKit
set_option linter.unusedVariables false
set_option maxHeartbeats 4000000
set_option maxRecDepth 100000
def eV (u:Value):List Value:=[u]
theorem Ao:∀u:Value,(eV u).length=1:=fun _=>rfl
def dN {α:Type} (E0 E:TypeId) (size:Nat) (enc:α->List Value) (B:Nat) (w:World) (v:Value) (ls:List (List α)):Prop:=
 ∃us:List Value,aD E0 1 eV B w v us/\us.length=ls.length/\∀(k:Nat) (u:Value) (x:List α),us[k]? =some u->ls[k]? =some x->aD E size enc B w u x
section
variable {α : Type} {E0 E : TypeId} {size : Nat} {enc : α -> List Value} {B B' : Nat} {w w' : World} {v v' : Value} {ls : List (List α)}
theorem dN.DD:dN E0 E size enc B w (.slice none 0 0) ([]:List (List α)):=⟨[],aD.DD,rfl,fun k u x h=>by simp at h⟩
theorem dN.below (h:dN E0 E size enc B w v ls) (hb:Below w.heap.size w w'):dN E0 E size enc B w' v ls:=by
 obtain⟨us,h1,h2,h3⟩:=h;exact⟨us,h1.below hb,h2,fun k u x hu hx=>(h3 k u x hu hx).below hb⟩
theorem dN.alloc (h:dN E0 E size enc B w v ls) (o:Obj):dN E0 E size enc B (w.alloc o) v ls:=by
 obtain⟨us,h1,h2,h3⟩:=h;exact⟨us,h1.alloc o,h2,fun k u x hu hx=>(h3 k u x hu hx).alloc o⟩
theorem dN.mono (h:dN E0 E size enc B w v ls) (hb:B'<=B):dN E0 E size enc B' w v ls:=by
 obtain⟨us,h1,h2,h3⟩:=h;exact⟨us,h1.mono hb,h2,fun k u x hu hx=>(h3 k u x hu hx).mono hb⟩
theorem dN.form (h:dN E0 E size enc B w v ls):∃A c,v= .slice A ls.length c/\ls.length<=c/\c<=maxLen:=by
 obtain⟨us,h1,h2,h3⟩:=h;obtain⟨A,c,q,r,s⟩:=h1.form;rw[h2]at q r;exact⟨A,c,q,r,s⟩
theorem dN.snoc {us:List Value} (hne:E≠E0) (h1:aD E0 1 eV B w v us) (h2:us.length=ls.length) (h3:∀(k:Nat) (u:Value) (x:List α),us[k]? =some u->ls[k]? =some x->aD E size enc B w u x)
    {u:Value} {x:List α} (hu:aD E size enc B w u x) (h':aD E0 1 eV B w' v' (us++[u])) (hg:w.grownBy w' v.ownBlock):dN E0 E size enc B w' v' (ls++[x]):=by
 refine⟨us++[u],h',by simp[h2],fun k z y hz hy=> ?_⟩;by_cases hk:k<us.length
 . rw[List.getElem?_append_left hk]at hz;rw[List.getElem?_append_left (by omega)]at hy;exact aD.lC (h3 k z y hz hy) h1 hne hg
 . have e:k=us.length:=by
    have:=(List.getElem?_eq_some_iff.1 hz).1;rw[List.length_append,List.length_singleton]at this;omega
   subst e;rw[List.getElem?_append_right (Nat.le_refl _),Nat.sub_self]at hz;rw[List.getElem?_append_right (by omega),show us.length-ls.length=0 by omega]at hy;simp only[List.getElem?_cons_zero,Option.some.injEq]at hz hy;subst hz;subst hy;exact aD.lC hu h1 hne hg
theorem dN.app {us us2:List Value} {ls2:List (List α)} (hne:E≠E0) (h1:aD E0 1 eV B w v us) (h2:us.length=ls.length) (h3:∀(k:Nat) (u:Value) (x:List α),us[k]? =some u->ls[k]? =some x->aD E size enc B w u x)
    (g2:us2.length=ls2.length) (g3:∀(k:Nat) (u:Value) (x:List α),us2[k]? =some u->ls2[k]? =some x->aD E size enc B w u x) (h':aD E0 1 eV B w' v' (us++us2)) (hg:w.grownBy w' v.ownBlock):dN E0 E size enc B w' v' (ls++ls2):=by
 refine⟨us++us2,h',by simp[h2,g2],fun k z y hz hy=> ?_⟩;by_cases hk:k<us.length
 . rw[List.getElem?_append_left hk]at hz;rw[List.getElem?_append_left (by omega)]at hy;exact aD.lC (h3 k z y hz hy) h1 hne hg
 . rw [List.getElem?_append_right (by omega)] at hz;rw[List.getElem?_append_right (by omega),<-h2]at hy;exact aD.lC (g3 _ z y hz hy) h1 hne hg
theorem dN.at_ (h:dN E0 E size enc B w v ls) {k:Nat} (hk:k<ls.length):∃us:List Value,aD E0 1 eV B w v us/\∃u,us[k]? =some u/\aD E size enc B w u ls[k]:=by
 obtain⟨us,h1,h2,h3⟩:=h;have hk':k<us.length:=(by omega);exact⟨us,h1,us[k],List.getElem?_eq_getElem hk',h3 k _ _ (List.getElem?_eq_getElem hk') (List.getElem?_eq_getElem hk)⟩
end
end Go.Proofs.YtljfoohaapckeaaGreatDoor
