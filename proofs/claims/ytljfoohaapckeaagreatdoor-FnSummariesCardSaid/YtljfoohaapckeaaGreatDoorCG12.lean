/- All tilings behind a head, step by step; the first of the cheapest. Plain laws. What is free behind a head of dominoes; the cells that are free; a list's steps. Plain laws. -/
import Derived.Test.YtljfoohaapckeaaGreatDoorCK9
import Derived.Test.YtljfoohaapckeaaGreatDoorCK4
import Derived.Test.YtljfoohaapckeaaGreatDoorCK5
namespace Go.Proofs.YtljfoohaapckeaaGreatDoor
set_option linter.unusedVariables false
set_option maxHeartbeats 4000000
set_option maxRecDepth 100000
def dX (s:Nat) (head:List Dm):List (List Dm):=(iM s).map (head++·)
theorem Ju (s:Nat):dX s []=iM s:=by
 unfold dX;simp
theorem F5 (head:List Dm):dX 0 head=[head]:=by
 unfold dX;rw[Bg];simp
theorem sZ (s:Nat) (head:List Dm):(dX s head).length=(iM s).length:=by
 unfold dX;simp
theorem F6 {s i:Nat} (hs:s<U64) (hl:rT s i) (head:List Dm):dX s head=
    (if eQ s (eG i)then dX (dB s (aG (eG i))) (head++[eG i])else[])++(if eQ s (fJ i)then dX (dB s (aG (fJ i))) (head++[fJ i])else[]):=by
 unfold dX;rw[FZ hs hl,List.map_append];congr 1
 . split
   . rw[List.map_map];congr 1;funext t;simp
   . rfl
 . split
   . rw[List.map_map];congr 1;funext t;simp
   . rfl
def nI (rows:List Int) (h:List Dm):Nat:=dB (setOf rows) (gI 0 h)
theorem F7 {rows:List Int} (hr:dK rows) (h:List Dm):nI rows h<U64:=eB (dM hr)
theorem lQ (h : List Dm) (j : Nat) : (gI 0 h).testBit j = h.any fun d => aJ d && (aG d).testBit j := by
 rw[vJ,Nat.zero_testBit,Bool.false_or]
theorem qF {rows:List Int} (hr:dK rows) (h:List Dm) (j:Nat):(nI rows h).testBit j=((setOf rows).testBit j&& !(gI 0 h).testBit j):=
 jJ (dM hr) (yF h 0 (by decide)) j
theorem DK {rows:List Int} (hr:dK rows):nI rows []=setOf rows:=by
 refine Nat.eq_of_testBit_eq fun j=> ?_
 rw[qF hr,lQ];simp
theorem BJ {rows:List Int} (hr:dK rows) (h:List Dm) {d:Dm} (hd:aJ d=true):nI rows (h++[d])=dB (nI rows h) (aG d):=by
 refine Nat.eq_of_testBit_eq fun j=> ?_
 rw[jJ (F7 hr h) (dJ hd),qF hr,qF hr,lQ,lQ,List.any_append];simp[hd,Bool.and_assoc]
theorem F8 (l:List Dm) {c:Cl} (hc:aX c=true):decide (pE l c<0)= !(gI 0 l).testBit (dF c).toNat:=by
 have e:decide (pE l c<0)=(rC l c).isNone:=by
  rcases Dq l c with⟨a,b⟩|⟨j,hj,a,b⟩
  . rw[a,b];rfl
  . rw[a,b];simp
 rw[e,lQ];unfold rC
 have q : (fun d : Dm => aJ d && (aG d).testBit (dF c).toNat) = fun d => mD d c := by
  funext d
  rcases h:aJ d with _|_
  . rw[AZ h];rfl
  . rw[<-yC h c,hc]
 rw[q];rcases h:l.any fun d=>mD d c with _|_
 . rw [List.find?_eq_none.2 (fun x hx => by
    have:=List.any_eq_false.1 h x hx;simpa using this)];rfl
 . obtain⟨x,hx,hp⟩:=List.any_eq_true.1 h;rcases hf:l.find? (fun d=>mD d c)with _|y
   . exact absurd hp (by simpa using List.find?_eq_none.1 hf x hx)
   . rfl
theorem M0 {i:Nat} (hi:i<64):aX (iE i)=true/\(dF (iE i)).toNat=i:=by
 have h:aX (iE i)=true:=by rw[cZ];unfold iE;simp only;omega
 refine⟨h,?_⟩;rw[(dQ h).1];unfold iE;simp only;omega
def QB (rows:List Int) (l:List Dm):List Cl:=(eT rows).filter fun c=>decide (pE l c<0)
theorem QC {rows:List Int} (hr:dK rows) (l:List Dm):QB rows l=eH (nI rows l) 64:=by
 unfold QB eT;rw[if_pos (aO.2 hr)];unfold eH;rw[List.filter_map,List.filter_filter];congr 1
 refine List.filter_congr fun i hi=> ?_
 have hi':=List.mem_range.1 hi;obtain⟨h1,h2⟩:=M0 hi';rw[qF hr,Function.comp_apply,F8 l h1,h2,Bool.and_comm]
theorem BK {rows:List Int} (hr:dK rows) (l:List Dm) {d:Dm} (hd:aJ d=true) (hi:(nI rows l).testBit (eZ d)=true):
 eQ (nI rows l) d=(jX rows (sec d)&&decide (pE l (sec d)<0)):=by
 obtain⟨h1,h2⟩:=dU hd;unfold jX;rw[F8 l h2,aO.2 hr,h2,Bool.true_and,Bool.true_and,show(dF (sec d)).toNat=iZ d from rfl,<-qF hr];unfold eQ;rw[hd,Bool.true_and];rw[Bool.eq_iff_iff,decide_eq_true_iff];constructor
 . intro h;exact qC h _ (by rw[aT hd];simp)
 . intro h;refine Nat.eq_of_testBit_eq fun j=> ?_
   rw[Nat.testBit_and,aT hd];by_cases e1:eZ d=j
   . subst e1;simp[hi]
   . by_cases e2:iZ d=j
     . subst e2;simp[h]
     . simp[e1,e2]
theorem Af {s i j:Nat} {d:Dm} (hs:s<U64) (hl:rT s i) (hd:aJ d=true) (hI:eZ d=i):∀k,k<i+1->(dB s (aG d)).testBit k=false:=by
 intro k hk;rw[jJ hs (dJ hd),aT hd];by_cases e:k=i
 . subst e;simp[hI]
 . rw[hl.2.2 k (by omega)];rfl
theorem PS {s i j:Nat} (hl:rT s i) (hj:∀k,k<j->s.testBit k=false):j<=i:=by
 rcases Nat.lt_or_ge i j with h|h
 . have:=hj i h;rw[hl.2.1]at this;cases this
 . exact h
theorem LV {i:Nat} (h:aJ (eG i)=true) (hi:i<64):eZ (eG i)=i:=by
 have:=Rs hi;rw[h]at this;exact(qQ hi (of_decide_eq_true this.symm)).2.1
theorem LW {i:Nat} (h:aJ (fJ i)=true) (hi:i<64):eZ (fJ i)=i:=by
 have:=Rt hi;rw[h]at this;exact(qR (of_decide_eq_true this.symm)).2.1
end Go.Proofs.YtljfoohaapckeaaGreatDoor
