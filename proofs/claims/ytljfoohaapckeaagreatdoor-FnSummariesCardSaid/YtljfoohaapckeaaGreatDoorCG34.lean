/- The least prices of boxes as numbers, and the choice of boxes: plain laws. Conditions: valid boxes. ChooseBoxes of the program: the walk. No conditions. -/
import Derived.Test.YtljfoohaapckeaaGreatDoorCK2
open _root_.List (mem_cons_self mem_cons_of_mem range)
namespace Go.Proofs.YtljfoohaapckeaaGreatDoor
open Go.ChangeShapes Go.WideShapes Go.ChangeAt Go.RowKit
set_option linter.unusedVariables false
set_option maxHeartbeats 4000000
set_option maxRecDepth 100000
theorem GI (l:List (Int×Int)):∀(j:Nat) (out:List Int),jP l (j+1) out=jP l j out++[jW (jP l j out) (jP l j out).length l (-1)]:=by
 intro j;induction j with
 |zero=>intro out;rfl
 |succ j ih=>intro out;rw[jP,ih,<-jP]
theorem Eu (l:List (Int×Int)) (n:Nat):least l (n+1)=least l n++[jW (least l n) ((n+1:Nat):Int) l (-1)]:=by
 have:=GI l n [0];have e:(jP l n [0]).length=n+1:=jI l n;rw[e]at this;exact this
def lp (l:List (Int×Int)) (i:Nat):Int:=(least l i).getD i 0
theorem EX (l:List (Int×Int)):∀(N i:Nat),i<=N->(least l N).getD i 0=lp l i:=by
 intro N;induction N with
 | zero => intro i h; obtain rfl : i = 0 := by omega
           rfl
 |succ N ih=>
  intro i h;by_cases hi:i=N+1
  . subst hi;rfl
  . rw [Eu, List.getD_eq_getElem?_getD, List.getElem?_append_left (by rw [jI]; omega), <- List.getD_eq_getElem?_getD];exact ih i (by omega)
theorem uU (l:List (Int×Int)):lp l 0=0:=rfl
theorem Mr (l:List (Int×Int)) (n:Nat):lp l (n+1)=jW (least l n) ((n+1:Nat):Int) l (-1):=by
 unfold lp;rw[Eu,List.getD_eq_getElem?_getD,List.getElem?_append_right (by rw[jI];omega),jI];simp
theorem P5 (n:Nat):lp [] (n+1)= -1:=by rw[Mr];rfl
def nd (n:Nat) (s:Int):Nat:=((n:Int)-s).toNat
theorem Nv (f:Int×Int->Int) (out:List Int) (m:Int):∀(r:List (Int×Int)) (iR:Int),(∀b∈r,out.getD (m-b.1).toNat 0+b.2=f b/\0<=f b)->-1<=iR->(r≠[]∨0<=iR)->
    0<=jW out m r iR/\(∀b∈r,jW out m r iR<=f b)/\(0<=iR->jW out m r iR<=iR)/\((0<=iR/\jW out m r iR=iR)∨∃b∈r,jW out m r iR=f b):=by
 intro r;induction r with
 | nil => intro iR _ _ h; rcases h with h | h
          . exact absurd rfl h
          . exact⟨h,(fun b hb=>absurd hb (by simp)),(fun _=>Int.le_refl _),Or.inl ⟨h,rfl⟩⟩
 |cons x r ih=>
  intro iR hf h1 h2;obtain⟨e,hx⟩:=hf x mem_cons_self;have hf':∀b∈r,out.getD (m-b.1).toNat 0+b.2=f b/\0<=f b:=fun b hb=>hf b (mem_cons_of_mem _ hb)
  rw[jW,e];by_cases hc:iR<0∨f x<iR
  . rw[if_pos hc];obtain⟨k1,k2,k3,k4⟩:=ih (f x) hf' (by omega) (.inr hx);have k3':=k3 hx;refine⟨k1,fun b hb=> ?_,fun _=>by omega,?_⟩
    . rcases List.mem_cons.1 hb with rfl|hb
      . exact k3'
      . exact k2 b hb
    . rcases k4 with⟨_,k4⟩|⟨b,hb,k4⟩
      . exact .inr ⟨x,mem_cons_self,k4⟩
      . exact .inr ⟨b,mem_cons_of_mem _ hb,k4⟩
  . rw[if_neg hc];have h0:0<=iR:=(by omega);obtain⟨k1,k2,k3,k4⟩:=ih iR hf' h1 (.inr h0);have k3':=k3 h0;refine⟨k1,fun b hb=> ?_,fun _=>k3',?_⟩
    . rcases List.mem_cons.1 hb with rfl|hb
      . omega
      . exact k2 b hb
    . rcases k4 with⟨_,k4⟩|⟨b,hb,k4⟩
      . exact .inl ⟨h0,k4⟩
      . exact .inr ⟨b,mem_cons_of_mem _ hb,k4⟩
def AJ (l:List (Int×Int)):Prop:=∀x∈l,jO x
theorem AJ.tail {b:Int×Int} {l:List (Int×Int)} (h:AJ (b::l)):AJ l:=fun x hx=>h x (mem_cons_of_mem _ hx)
theorem Ia (l:List (Int×Int)) (hl:AJ l) (hne:l≠[]):∀n:Nat,0<=lp l n/\∀m,n=m+1->(∀b∈l,lp l n<=lp l (nd n b.1)+b.2)/\∃b∈l,lp l n=lp l (nd n b.1)+b.2:=by
 intro n;induction n using Nat.strongRecOn with
 |ind n ih=>
  rcases n with _|n
  . exact⟨Int.le_refl _,fun m h=>by cases h⟩
  . have key:∀b∈l,(least l n).getD (((n+1:Nat):Int)-b.1).toNat 0+b.2=lp l (nd (n+1) b.1)+b.2/\0<=lp l (nd (n+1) b.1)+b.2:=by
     intro b hb;have F:=hl b hb;unfold jO at F;have hi:(((n+1:Nat):Int)-b.1).toNat<=n:=(by omega);rw[EX l n _ hi];have:=(ih _ (show(((n+1:Nat):Int)-b.1).toNat<n+1 by omega)).1;exact⟨rfl,by unfold nd;omega⟩
    obtain⟨k1,k2,_,k4⟩:=Nv (fun b=>lp l (nd (n+1) b.1)+b.2) (least l n) ((n+1:Nat):Int) l (-1) key (by omega) (.inl hne);rw[<-Mr]at k1 k2 k4;refine⟨k1,fun m _=>⟨k2,?_⟩⟩;rcases k4 with⟨h,_⟩|h
    . omega
    . exact h
theorem pX {l:List (Int×Int)} (hl:AJ l) (hne:l≠[]) (n:Nat):0<=lp l n:=(Ia l hl hne n).1
theorem Qj {l:List (Int×Int)} (hl:AJ l) {b:Int×Int} (hb:b∈l) (n:Nat):lp l n<=lp l (nd n b.1)+b.2:=by
 have hne:l≠[]:=by rintro rfl;cases hb
 rcases n with _|n
 . have:=pX hl hne (nd 0 b.1);have F:=hl b hb;unfold jO at F;rw[uU];omega
 . exact((Ia l hl hne (n+1)).2 n rfl).1 b hb
theorem Rx {l:List (Int×Int)} (hl:AJ l) (hne:l≠[]) {n:Nat} (hn:0<n):∃b∈l,lp l n=lp l (nd n b.1)+b.2:=by
 obtain⟨m,rfl⟩:∃m,n=m+1:=⟨n-1,by omega⟩;exact((Ia l hl hne (m+1)).2 m rfl).2
theorem Qk {n:Nat} {s:Int} (hn:0<n) (hs:1<=s):nd n s<n:=by unfold nd;omega
theorem R9 {b:Int×Int} {l:List (Int×Int)} (hl:AJ (b::l)):∀n:Nat,0<=lp l n->lp (b::l) n<=lp l n:=by
 intro n;induction n using Nat.strongRecOn with
 |ind n ih=>
  intro h;rcases Nat.eq_zero_or_pos n with rfl|hn
  . rw[uU,uU];omega
  . have hne:l≠[]:=by
     rintro rfl;obtain⟨m,rfl⟩:∃m,n=m+1:=⟨n-1,by omega⟩;rw[P5]at h;omega
    obtain⟨c,hc,e⟩:=Rx hl.tail hne hn;have F:=hl.tail c hc;unfold jO at F;have i1:=ih (nd n c.1) (Qk hn F.1) (pX hl.tail hne _);have i2:=Qj hl (mem_cons_of_mem b hc) n;omega
theorem Lt (n k:Nat) {s:Int} (hs:1<=s):nd (nd n s) (k*s)=nd n ((k+1:Nat)*s):=by
 have e:((k+1:Nat):Int)*s=k*s+s:=by rw[Int.natCast_add,Int.add_mul];simp
 have h0:0<=(k:Int)*s:=Int.mul_nonneg (by omega) (by omega);rw[e];unfold nd;omega
theorem QY (n:Nat) {s t:Int} (hs:0<=s) (ht:0<=t):nd (nd n s) t=nd (nd n t) s:=by unfold nd;omega
theorem Ib (n:Nat) (s:Int):nd n ((0:Nat)*s)=n:=by unfold nd;simp
theorem Sa {b:Int×Int} {l:List (Int×Int)} (hl:AJ (b::l)):∀(k n:Nat),0<=lp l (nd n (k*b.1))->lp (b::l) n<=lp l (nd n (k*b.1))+k*b.2:=by
 have F:=hl b mem_cons_self;unfold jO at F;intro k;induction k with
 |zero=>intro n h;rw[Ib]at h⊢;have:=R9 hl n h;omega
 |succ k ih=>
  intro n h;rw[<-Lt n k F.1]at h⊢;have i1:=ih (nd n b.1) h;have i2:=Qj hl (mem_cons_self (a:=b) (l:=l)) n;have e:((k+1:Nat):Int)*b.2=k*b.2+b.2:=by rw[Int.natCast_add,Int.add_mul];simp
  omega
theorem O3 {b:Int×Int} {l:List (Int×Int)} (hl:AJ (b::l)):∀n:Nat,∃k:Nat,k<=n/\0<=lp l (nd n (k*b.1))/\lp l (nd n (k*b.1))+k*b.2=lp (b::l) n:=by
 have F:=hl b mem_cons_self;unfold jO at F;intro n;induction n using Nat.strongRecOn with
 |ind n ih=>
  rcases Nat.eq_zero_or_pos n with rfl|hn
  . exact⟨0,by omega,by rw[Ib,uU];omega,by rw[Ib,uU,uU];simp⟩
  . obtain ⟨c, hc, e⟩ := Rx hl (by simp) hn;have Fc:=hl c hc;unfold jO at Fc;obtain⟨k,hk,h0,he⟩:=ih (nd n c.1) (Qk hn Fc.1);have hkn:=Qk hn Fc.1;rcases List.mem_cons.1 hc with rfl|hc'
    . refine ⟨k + 1, by omega, ?_, ?_⟩
      . rw[<-Lt n k F.1];exact h0
      . rw[<-Lt n k F.1];have e2:((k+1:Nat):Int)*c.2=k*c.2+c.2:=by rw[Int.natCast_add,Int.add_mul];simp
        omega
    . have hne : l ≠ [] := by rintro rfl; cases hc'
      have h0':=pX hl.tail hne (nd n (k*b.1));refine⟨k,by omega,h0',?_⟩;have ks:0<=(k:Int)*b.1:=Int.mul_nonneg (by omega) (by omega);have i1:=Qj hl.tail hc' (nd n (k*b.1));rw[QY n ks (by omega)]at i1;have i2:=Sa hl k n h0';omega
def fits (l:List (Int×Int)) (n:Nat) (b:Int×Int) (left:Int) (k:Nat):Bool:=decide (0<=lp l (nd n (k*b.1)))&&decide (lp l (nd n (k*b.1))+k*b.2=left)
def kOf (l:List (Int×Int)) (n:Nat) (b:Int×Int) (left:Int):Nat:=((range (n+1)).find? fun k=>fits l n b left k).getD 0
theorem O5 {b:Int×Int} {l:List (Int×Int)} (hl:AJ (b::l)) (n:Nat):kOf l n b (lp (b::l) n)<=n/\fits l n b (lp (b::l) n) (kOf l n b (lp (b::l) n))=true/\∀j,j<kOf l n b (lp (b::l) n)->fits l n b (lp (b::l) n) j=false:=by
 obtain⟨k,hk,h0,he⟩:=O3 hl n;have hf:fits l n b (lp (b::l) n) k=true:=by unfold fits;simp[h0,he]
 rcases hx:(range (n+1)).find? fun k=>fits l n b (lp (b::l) n) k with _|x
 . have := List.find?_eq_none.1 hx k (by simp; omega);exact absurd hf this
 . have e : kOf l n b (lp (b :: l) n) = x := by unfold kOf; rw [hx]; rfl
   rw[e];obtain⟨h1,xs,ys,h2,h3⟩:=List.find?_eq_some_iff_append.1 hx;have hmem:x∈range (n+1):=by rw[h2];simp
   refine⟨by have:=List.mem_range.1 hmem;omega,h1,fun j hj=> ?_⟩
   have hlen:xs.length=x:=by
    have h4:(range (n+1))[xs.length]? =some x:=by rw[h2];simp
    rw[List.getElem?_range (by have:=congrArg List.length h2;simp at this;omega)]at h4;injection h4
   have h5:(range (n+1))[j]? =some j:=List.getElem?_range (by have:=List.mem_range.1 hmem;omega);rw[h2,List.getElem?_append_left (by omega)]at h5;have:=h3 j (List.mem_of_getElem? h5);simpa using this
def choose:List (Int×Int)->Nat->Int->List Int
  |[],_,_=>[]
  |b::r,n,left=>(kOf r n b left:Int)::choose r (nd n (kOf r n b left*b.1)) (left-kOf r n b left*b.2)
theorem Gn {l:List (Int×Int)} {n:Nat} {b:Int×Int} {left:Int} {k:Nat} (h:fits l n b left k=true):left-k*b.2=lp l (nd n (k*b.1))/\0<=lp l (nd n (k*b.1)):=by
 unfold fits at h;simp at h;omega
theorem O6 {l:List (Int×Int)} (hl:AJ l) (n:Nat): -1<=lp l n/\lp l n<=1000*n:=by
 have h:=CQ l hl n [0] (by simp) yX;have hn:n<(least l n).length:=by rw[jI];omega
 have:=h n (least l n)[n] (List.getElem?_eq_getElem hn);have e:lp l n=(least l n)[n]:=by unfold lp;rw[List.getD_eq_getElem?_getD,List.getElem?_eq_getElem hn];rfl
 rw[e];exact this
theorem AJ.hall {l:List (Int×Int)} (h:AJ l):∀x∈l,jO x:=h
def chosen (l:List (Int×Int)) (n:Int):List Int:=if 0<=cheapest l n then choose l n.toNat (cheapest l n)else[]
end Go.Proofs.YtljfoohaapckeaaGreatDoor
