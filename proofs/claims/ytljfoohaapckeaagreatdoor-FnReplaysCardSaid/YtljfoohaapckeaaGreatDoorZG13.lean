/- All tilings behind a head, step by step; the first of the cheapest. Plain laws. What is free behind a head of dominoes; the cells that are free; a list's steps. Plain laws. -/
import Derived.Test.YtljfoohaapckeaaGreatDoorZK9
import Derived.Test.YtljfoohaapckeaaGreatDoorZK4
import Derived.Test.YtljfoohaapckeaaGreatDoorZK5
namespace Go.Proofs.YtljfoohaapckeaaGreatDoor
set_option linter.unusedVariables false
set_option maxHeartbeats 4000000
set_option maxRecDepth 100000
def dY (s:Nat) (head:List Dm):List (List Dm):=(iX s).map (head++·)
theorem Jc (s:Nat):dY s []=iX s:=by
 unfold dY;simp
theorem FH (head:List Dm):dY 0 head=[head]:=by
 unfold dY;rw[Az];simp
theorem rX (s:Nat) (head:List Dm):(dY s head).length=(iX s).length:=by
 unfold dY;simp
theorem FI {s i:Nat} (hs:s<U64) (hl:qX s i) (head:List Dm):dY s head=
    (if eT s (eO i)then dY (dC s (aH (eO i))) (head++[eO i])else[])++(if eT s (fI i)then dY (dC s (aH (fI i))) (head++[fI i])else[]):=by
 unfold dY;rw[FE hs hl,List.map_append];congr 1
 . split
   . rw[List.map_map];congr 1;funext t;simp
   . rfl
 . split
   . rw[List.map_map];congr 1;funext t;simp
   . rfl
def nG (rows:List Int) (h:List Dm):Nat:=dC (setOf rows) (fZ 0 h)
theorem FJ {rows:List Int} (hr:dU rows) (h:List Dm):nG rows h<U64:=dZ (eB hr)
theorem mO (h : List Dm) (j : Nat) : (fZ 0 h).testBit j = h.any fun d => aJ d && (aH d).testBit j := by
 rw[uQ,Nat.zero_testBit,Bool.false_or]
theorem pW {rows:List Int} (hr:dU rows) (h:List Dm) (j:Nat):(nG rows h).testBit j=((setOf rows).testBit j&& !(fZ 0 h).testBit j):=
 jE (eB hr) (xH h 0 (by decide)) j
theorem Df {rows:List Int} (hr:dU rows):nG rows []=setOf rows:=by
 refine Nat.eq_of_testBit_eq fun j=> ?_
 rw[pW hr,mO];simp
theorem Bh {rows:List Int} (hr:dU rows) (h:List Dm) {d:Dm} (hd:aJ d=true):nG rows (h++[d])=dC (nG rows h) (aH d):=by
 refine Nat.eq_of_testBit_eq fun j=> ?_
 rw[jE (FJ hr h) (dP hd),pW hr,pW hr,mO,mO,List.any_append];simp[hd,Bool.and_assoc]
theorem FK (l:List Dm) {c:Cl} (hc:bQ c=true):decide (rA l c<0)= !(fZ 0 l).testBit (dI c).toNat:=by
 have e:decide (rA l c<0)=(yO l c).isNone:=by
  rcases JU l c with⟨a,b⟩|⟨j,hj,a,b⟩
  . rw[a,b];rfl
  . rw[a,b];simp
 rw[e,mO];unfold yO
 have q : (fun d : Dm => aJ d && (aH d).testBit (dI c).toNat) = fun d => oZ d c := by
  funext d
  rcases h:aJ d with _|_
  . rw[Fg h];rfl
  . rw[<-JV h c,hc]
 rw[q];rcases h:l.any fun d=>oZ d c with _|_
 . rw [List.find?_eq_none.2 (fun x hx => by
    have:=List.any_eq_false.1 h x hx;simpa using this)];rfl
 . obtain⟨x,hx,hp⟩:=List.any_eq_true.1 h;rcases hf:l.find? (fun d=>oZ d c)with _|y
   . exact absurd hp (by simpa using List.find?_eq_none.1 hf x hx)
   . rfl
theorem MF {i:Nat} (hi:i<64):bQ (iD i)=true/\(dI (iD i)).toNat=i:=by
 have h:bQ (iD i)=true:=by rw[dD];unfold iD;simp only;omega
 refine⟨h,?_⟩;rw[(dO h).1];unfold iD;simp only;omega
def P6 (rows:List Int) (l:List Dm):List Cl:=(eD rows).filter fun c=>decide (rA l c<0)
theorem P7 {rows:List Int} (hr:dU rows) (l:List Dm):P6 rows l=eQ (nG rows l) 64:=by
 unfold P6 eD;rw[if_pos (aN.2 hr)];unfold eQ;rw[List.filter_map,List.filter_filter];congr 1
 refine List.filter_congr fun i hi=> ?_
 have hi':=List.mem_range.1 hi;obtain⟨h1,h2⟩:=MF hi';rw[pW hr,Function.comp_apply,FK l h1,h2,Bool.and_comm]
theorem Bi {rows:List Int} (hr:dU rows) (l:List Dm) {d:Dm} (hd:aJ d=true) (hi:(nG rows l).testBit (eY d)=true):
 eT (nG rows l) d=(jN rows (sec d)&&decide (rA l (sec d)<0)):=by
 obtain⟨h1,h2⟩:=dK hd;unfold jN;rw[FK l h2,aN.2 hr,h2,Bool.true_and,Bool.true_and,show(dI (sec d)).toNat=iZ d from rfl,<-pW hr];unfold eT;rw[hd,Bool.true_and];rw[Bool.eq_iff_iff,decide_eq_true_iff];constructor
 . intro h;exact pU h _ (by rw[aT hd];simp)
 . intro h;refine Nat.eq_of_testBit_eq fun j=> ?_
   rw[Nat.testBit_and,aT hd];by_cases e1:eY d=j
   . subst e1;simp[hi]
   . by_cases e2:iZ d=j
     . subst e2;simp[h]
     . simp[e1,e2]
theorem yS {s i j:Nat} {d:Dm} (hs:s<U64) (hl:qX s i) (hd:aJ d=true) (hI:eY d=i):∀k,k<i+1->(dC s (aH d)).testBit k=false:=by
 intro k hk;rw[jE hs (dP hd),aT hd];by_cases e:k=i
 . subst e;simp[hI]
 . rw[hl.2.2 k (by omega)];rfl
theorem Pf {s i j:Nat} (hl:qX s i) (hj:∀k,k<j->s.testBit k=false):j<=i:=by
 rcases Nat.lt_or_ge i j with h|h
 . have:=hj i h;rw[hl.2.1]at this;cases this
 . exact h
theorem Lh {i:Nat} (h:aJ (eO i)=true) (hi:i<64):eY (eO i)=i:=by
 have:=QQ hi;rw[h]at this;exact(qF hi (of_decide_eq_true this.symm)).2.1
theorem Li {i:Nat} (h:aJ (fI i)=true) (hi:i<64):eY (fI i)=i:=by
 have:=QR hi;rw[h]at this;exact(qG (of_decide_eq_true this.symm)).2.1
end Go.Proofs.YtljfoohaapckeaaGreatDoor
