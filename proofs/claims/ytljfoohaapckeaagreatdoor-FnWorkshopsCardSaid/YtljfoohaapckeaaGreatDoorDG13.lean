/- All tilings behind a head, step by step; the first of the cheapest. Plain laws. What is free behind a head of dominoes; the cells that are free; a list's steps. Plain laws. -/
import Derived.Test.YtljfoohaapckeaaGreatDoorDK9
import Derived.Test.YtljfoohaapckeaaGreatDoorDK4
import Derived.Test.YtljfoohaapckeaaGreatDoorDK5
namespace Go.Proofs.YtljfoohaapckeaaGreatDoor
set_option linter.unusedVariables false
set_option maxHeartbeats 4000000
set_option maxRecDepth 100000
def dO (s:Nat) (head:List Dm):List (List Dm):=(gV s).map (head++·)
theorem Gl (s:Nat):dO s []=gV s:=by
 unfold dO;simp
theorem Ed (head:List Dm):dO 0 head=[head]:=by
 unfold dO;rw[yJ];simp
theorem qG (s:Nat) (head:List Dm):(dO s head).length=(gV s).length:=by
 unfold dO;simp
theorem Ee {s i:Nat} (hs:s<U64) (hl:pI s i) (head:List Dm):dO s head=
    (if eT s (dW i)then dO (dN s (aK (dW i))) (head++[dW i])else[])++(if eT s (eY i)then dO (dN s (aK (eY i))) (head++[eY i])else[]):=by
 unfold dO;rw[Ec hs hl,List.map_append];congr 1
 . split
   . rw[List.map_map];congr 1;funext t;simp
   . rfl
 . split
   . rw[List.map_map];congr 1;funext t;simp
   . rfl
def lW (rows:List Int) (h:List Dm):Nat:=dN (setOf rows) (fP 0 h)
theorem Ef {rows:List Int} (hr:dJ rows) (h:List Dm):lW rows h<U64:=eQ (dX hr)
theorem kG (h : List Dm) (j : Nat) : (fP 0 h).testBit j = h.any fun d => aH d && (aK d).testBit j := by
 rw[sN,Nat.zero_testBit,Bool.false_or]
theorem nR {rows:List Int} (hr:dJ rows) (h:List Dm) (j:Nat):(lW rows h).testBit j=((setOf rows).testBit j&& !(fP 0 h).testBit j):=
 iQ (dX hr) (vO h 0 (by decide)) j
theorem Bn {rows:List Int} (hr:dJ rows):lW rows []=setOf rows:=by
 refine Nat.eq_of_testBit_eq fun j=> ?_
 rw[nR hr,kG];simp
theorem zH {rows:List Int} (hr:dJ rows) (h:List Dm) {d:Dm} (hd:aH d=true):lW rows (h++[d])=dN (lW rows h) (aK d):=by
 refine Nat.eq_of_testBit_eq fun j=> ?_
 rw[iQ (Ef hr h) (eB hd),nR hr,nR hr,kG,kG,List.any_append];simp[hd,Bool.and_assoc]
theorem Eg (l:List Dm) {c:Cl} (hc:aV c=true):decide (pO l c<0)= !(fP 0 l).testBit (cO c).toNat:=by
 have e:decide (pO l c<0)=(wV l c).isNone:=by
  rcases Ha l c with⟨a,b⟩|⟨j,hj,a,b⟩
  . rw[a,b];rfl
  . rw[a,b];simp
 rw[e,kG];unfold wV
 have q : (fun d : Dm => aH d && (aK d).testBit (cO c).toNat) = fun d => nA d c := by
  funext d
  rcases h:aH d with _|_
  . rw[DC h];rfl
  . rw[<-HV h c,hc]
 rw[q];rcases h:l.any fun d=>nA d c with _|_
 . rw [List.find?_eq_none.2 (fun x hx => by
    have:=List.any_eq_false.1 h x hx;simpa using this)];rfl
 . obtain⟨x,hx,hp⟩:=List.any_eq_true.1 h;rcases hf:l.find? (fun d=>nA d c)with _|y
   . exact absurd hp (by simpa using List.find?_eq_none.1 hf x hx)
   . rfl
theorem Kg {i:Nat} (hi:i<64):aV (gI i)=true/\(cO (gI i)).toNat=i:=by
 have h:aV (gI i)=true:=by rw[bQ];unfold gI;simp only;omega
 refine⟨h,?_⟩;rw[(dG h).1];unfold gI;simp only;omega
def MQ (rows:List Int) (l:List Dm):List Cl:=(fF rows).filter fun c=>decide (pO l c<0)
theorem MR {rows:List Int} (hr:dJ rows) (l:List Dm):MQ rows l=dU (lW rows l) 64:=by
 unfold MQ fF;rw[if_pos (aN.2 hr)];unfold dU;rw[List.filter_map,List.filter_filter];congr 1
 refine List.filter_congr fun i hi=> ?_
 have hi':=List.mem_range.1 hi;obtain⟨h1,h2⟩:=Kg hi';rw[nR hr,Function.comp_apply,Eg l h1,h2,Bool.and_comm]
theorem zL {rows:List Int} (hr:dJ rows) (l:List Dm) {d:Dm} (hd:aH d=true) (hi:(lW rows l).testBit (dM d)=true):
 eT (lW rows l) d=(jF rows (sec d)&&decide (pO l (sec d)<0)):=by
 obtain⟨h1,h2⟩:=dC hd;unfold jF;rw[Eg l h2,aN.2 hr,h2,Bool.true_and,Bool.true_and,show(cO (sec d)).toNat=fU d from rfl,<-nR hr];unfold eT;rw[hd,Bool.true_and];rw[Bool.eq_iff_iff,decide_eq_true_iff];constructor
 . intro h;exact nP h _ (by rw[aR hd];simp)
 . intro h;refine Nat.eq_of_testBit_eq fun j=> ?_
   rw[Nat.testBit_and,aR hd];by_cases e1:dM d=j
   . subst e1;simp[hi]
   . by_cases e2:fU d=j
     . subst e2;simp[h]
     . simp[e1,e2]
theorem xB {s i j:Nat} {d:Dm} (hs:s<U64) (hl:pI s i) (hd:aH d=true) (hI:dM d=i):∀k,k<i+1->(dN s (aK d)).testBit k=false:=by
 intro k hk;rw[iQ hs (eB hd),aR hd];by_cases e:k=i
 . subst e;simp[hI]
 . rw[hl.2.2 k (by omega)];rfl
theorem Mj {s i j:Nat} (hl:pI s i) (hj:∀k,k<j->s.testBit k=false):j<=i:=by
 rcases Nat.lt_or_ge i j with h|h
 . have:=hj i h;rw[hl.2.1]at this;cases this
 . exact h
theorem Jp {i:Nat} (h:aH (dW i)=true) (hi:i<64):dM (dW i)=i:=by
 have:=Ns hi;rw[h]at this;exact(mR hi (of_decide_eq_true this.symm)).2.1
theorem Jq {i:Nat} (h:aH (eY i)=true) (hi:i<64):dM (eY i)=i:=by
 have:=Nt hi;rw[h]at this;exact(mU (of_decide_eq_true this.symm)).2.1
end Go.Proofs.YtljfoohaapckeaaGreatDoor
