import Derived.Test.YtjijonhkofhikaaGreatDoorFK5
open _root_.List (range map_cons)
open _root_.List renaming replicate->Tm,range_zero->Tn,foldl_nil->Tp,length_replicate->Tq,getD_eq_getElem?_getD->Tt,getElem?_eq_getElem->Tu,getElem?_set_ne->Tv,getElem?_replicate->Tw,mem_cons_self->Tx
open _root_.Nat renaming le_refl->Ty,testBit_or->Tz,zero_add->TA
open _root_.Bool renaming and_eq_true->TB,or_eq_true->TC,false_eq_true->TD
open _root_.Int renaming le_trans->TE
open _root_.Option renaming getD_some->TF
set_option linter.unusedVariables false
set_option maxHeartbeats 4000000
set_option maxRecDepth 100000
namespace Go.Proofs.YtjijonhkofhikaaGreatDoor
open Go.ChangeShapes Go.WideShapes Go.ChangeAt Go.RowKit
def kF (s i:Nat):Bool:=decide (i<56)&&s.testBit (i+8)
def kG (s i:Nat):Bool:=decide (i%8<7)&&s.testBit (i+1)
def fT (i:Nat):Dm:=(((i%8:Nat):Int),((i/8:Nat):Int),true)
def eT (i:Nat):Dm:=(((i%8:Nat):Int),((i/8:Nat):Int),false)
def gV (no:Int) (add:Int->Int->Int) (nx:List Int) (k:Nat) (n:Int):List Int:=nx.set k (if nx.getD k 0=no then n else add (nx.getD k 0) n)
def sO (s:Nat) (no:Int) (add:Int->Int->Int) (wt:Int->Dm->Int) (i:Nat) (nx:List Int) (k:Nat) (n:Int):List Int:=if kF s i then gV no add nx (k|||2^(i%8)) (wt n (fT i))else nx
def yX (s:Nat) (no:Int) (add:Int->Int->Int) (wt:Int->Dm->Int) (i:Nat) (nx:List Int) (k:Nat) (n:Int):List Int:=if kG s i&& !k.testBit (i%8+1)then gV no add nx (k|||2^(i%8+1)) (wt n (eT i))else nx
def jP (s:Nat) (no:Int) (add:Int->Int->Int) (wt:Int->Dm->Int) (i:Nat) (nx:List Int) (k:Nat) (n:Int):List Int:=
 if n=no then nx
 else if s.testBit i then
   if k.testBit (i%8)then gV no add nx (k-2^(i%8)) n
   else yX s no add wt i (sO s no add wt i nx k n) k n
 else if k.testBit (i%8)then nx else gV no add nx k n
def mO (s:Nat) (no:Int) (add:Int->Int->Int) (wt:Int->Dm->Int) (now:List Int) (i K:Nat):List Int:=(range K).foldl (fun nx k=>jP s no add wt i nx k (now.getD k 0)) (Tm 256 no)
def dp (s:Nat) (no:Int) (add:Int->Int->Int) (wt:Int->Dm->Int) (st:Int):Nat->List Int
  |0=>(Tm 256 no).set 0 st
  |i+1=>mO s no add wt (dp s no add wt st i) i 256
section
variable {s : Nat} {no : Int} {add : Int -> Int -> Int} {wt : Int -> Dm -> Int} {st : Int}
theorem tT (nx:List Int) (k:Nat) (n:Int):(gV no add nx k n).length=nx.length:=by simp[gV]
theorem uG (i:Nat) (nx:List Int) (k:Nat) (n:Int):(sO s no add wt i nx k n).length=nx.length:=by unfold sO;split<;>simp[tT]
theorem Pg (i:Nat) (nx:List Int) (k:Nat) (n:Int):(yX s no add wt i nx k n).length=nx.length:=by unfold yX;split<;>simp[tT]
theorem NN (i:Nat) (nx:List Int) (k:Nat) (n:Int):(jP s no add wt i nx k n).length=nx.length:=by
 unfold jP;split
 . rfl
 . split
   . split
     . exact tT _ _ _
     . rw[Pg,uG]
   . split
     . rfl
     . exact tT _ _ _
theorem dO (now:List Int) (i K:Nat):mO s no add wt now i (K+1)=jP s no add wt i (mO s no add wt now i K) K (now.getD K 0):=by
 unfold mO;rw[List.range_succ,List.foldl_append];rfl
theorem mH (now:List Int) (i:Nat):∀K,(mO s no add wt now i K).length=256
  |0=>by unfold mO;rw[Tn,Tp,Tq]
  |K+1=>by rw[dO,NN];exact mH now i K
theorem yC:∀i,(dp s no add wt st i).length=256
  |0=>by unfold dp;rw[List.length_set,Tq]
  |i+1=>mH _ _ _
theorem Bl {P:Nat->Int->Prop} {nx:List Int} (h:∀k v,nx[k]? =some v->P k v) {k:Nat} {n:Int} (hk:k<nx.length) (hp:nx[k]? =some no->P k n) (ha:∀v,nx[k]? =some v->v≠no->P k (add v n)):∀j v,(gV no add nx k n)[j]? =some v->P j v:=by
 intro j v hj;unfold gV at hj;by_cases e:k=j
 . subst e;rw[List.getElem?_set_self hk]at hj;injection hj with hj;have hg:nx.getD k 0=nx[k]:=(by rw[Tt,Tu hk,TF]);rw[hg]at hj;by_cases e:nx[k]=no
   . rw[if_pos e]at hj;rw[<-hj];exact hp (by rw[Tu hk,e])
   . rw[if_neg e]at hj;rw[<-hj];exact ha _ (Tu hk) e
 . rw[Tv e]at hj;exact h j v hj
end
theorem pY:∀k<256,∀x<8,k.testBit x=true->k-2^x<256/\2^x<=k/\∀j<8,(k-2^x).testBit j=(k.testBit j&& !decide (x=j)):=by decide+kernel
theorem yY:∀k<256,∀x<8,k|||2^x<256:=by decide+kernel
theorem Rk:∀k<256,∀x<8,(decide (k&&&2^x=0))= !k.testBit x:=by decide+kernel
def jM (i x:Nat):Nat:=if i%8<=x then i-i%8+x else i-i%8+8+x
theorem uU (i:Nat):jM i (i%8)=i:=by unfold jM;rw[if_pos (Ty _)];omega
theorem oK (i:Nat):jM i (i%8+1)=i+1:=by unfold jM;rw[if_pos (by omega)];omega
theorem uV (i:Nat):jM (i+1) (i%8)=i+8:=by
 unfold jM;by_cases h:i%8=7
 . rw[if_pos (by omega)];omega
 . rw[if_neg (by omega)];omega
theorem iC {i x:Nat} (hx:x<8) (h:x≠i%8):jM (i+1) x=jM i x:=by
 unfold jM;by_cases h7:i%8=7
 . rw[if_pos (by omega),if_neg (by omega)];omega
 . by_cases h2:i%8<=x
   . rw[if_pos (by omega),if_pos h2];omega
   . rw[if_neg (by omega),if_neg h2];omega
def iH (s i k:Nat):Prop:=∀x,x<8->k.testBit x=true->s.testBit (jM i x)=true
theorem Fg {s i k:Nat} (h:iH s i k) (hb:k.testBit (i%8)=true):s.testBit i=true:=by
 have:=h (i%8) (by omega) hb;rwa [uU]at this
theorem NP {s i k:Nat} (h:iH s i k) (hb:k.testBit (i%8)=false):iH s (i+1) k:=by
 intro x hx hk;have hne:x≠i%8:=fun e=>by rw[e,hb]at hk;cases hk
 rw[iC hx hne];exact h x hx hk
theorem Ph {s i k:Nat} (a6:k<256) (h:iH s i k) (hb:k.testBit (i%8)=true):iH s (i+1) (k-2^(i%8)):=by
 intro x hx hk;rw[(pY k a6 (i%8) (by omega) hb).2.2 x hx,TB]at hk;have hne:x≠i%8:=fun e=>by rw[e]at hk;simp at hk
 rw[iC hx hne];exact h x hx hk.1
theorem Rl {s i k:Nat} (h:iH s i k) (hd:kF s i=true):iH s (i+1) (k|||2^(i%8)):=by
 intro x hx hk;by_cases e:x=i%8
 . rw[e,uV];unfold kF at hd;rw[TB]at hd;exact hd.2
 . rw[Tz,Nat.testBit_two_pow]at hk;have:decide (i%8=x)=false:=by simp;omega
   rw[this,Bool.or_false]at hk;rw[iC hx e];exact h x hx hk
theorem Rm {s i k:Nat} (h:iH s i k) (hb:k.testBit (i%8)=false) (hd:kG s i=true):iH s (i+1) (k|||2^(i%8+1)):=by
 unfold kG at hd;rw[TB,decide_eq_true_iff]at hd;intro x hx hk;by_cases e:x=i%8+1
 . rw[e,iC (by omega) (by omega),oK];exact hd.2
 . rw[Tz,Nat.testBit_two_pow]at hk;have:decide (i%8+1=x)=false:=by simp;omega
   rw[this,Bool.or_false]at hk;have hne:x≠i%8:=fun e2=>by rw[e2,hb]at hk;cases hk
   rw[iC hx hne];exact h x hx hk
def tl:Nat->Nat->(Nat->Bool)->List (List Dm)
  |0,_,_=>[[]]
  | n + 1, i, S => if S i then
      (if decide (i%8<7)&&S (i+1)then(tl n (i+1) (fun j=>S j&& !decide (j=i+1))).map (eT i::·)else[])++
      (if decide (i<56)&&S (i+8)then(tl n (i+1) (fun j=>S j&& !decide (j=i+8))).map (fT i::·)else[])
   else tl n (i+1) S
theorem sP (n i:Nat) (S:Nat->Bool):tl (n+1) i S=if S i then
      (if decide (i%8<7)&&S (i+1)then(tl n (i+1) (fun j=>S j&& !decide (j=i+1))).map (eT i::·)else[])++
      (if decide (i<56)&&S (i+8)then(tl n (i+1) (fun j=>S j&& !decide (j=i+8))).map (fT i::·)else[])
 else tl n (i+1) S:=rfl
theorem nO:∀(n i:Nat) (S T:Nat->Bool),(∀j,i<=j->S j=T j)->tl n i S=tl n i T
  |0,_,_,_,_=>rfl
  | n + 1, i, S, T, h => by
   rw [sP, sP, h i (Ty _), h (i + 1) (by omega), h (i + 8) (by omega),
     nO n (i+1) (fun j=>S j&& !decide (j=i+1)) (fun j=>T j&& !decide (j=i+1)) (fun j hj=>by simp only[h j (by omega)]),
     nO n (i+1) (fun j=>S j&& !decide (j=i+8)) (fun j=>T j&& !decide (j=i+8)) (fun j hj=>by simp only[h j (by omega)]),
     nO n (i+1) S T (fun j hj=>h j (by omega))]
def FI (i k j:Nat):Bool:=(range 8).any fun x=>k.testBit x&&decide (jM i x=j)
theorem rJ {i k j:Nat}:FI i k j=true↔∃x,x<8/\k.testBit x=true/\jM i x=j:=by
 unfold FI;rw[List.any_eq_true];constructor
 . rintro⟨x,hx,h⟩;rw[TB,decide_eq_true_eq]at h;exact⟨x,List.mem_range.1 hx,h.1,h.2⟩
 . rintro⟨x,hx,h1,h2⟩;exact⟨x,List.mem_range.2 hx,by rw[h1,decide_eq_true h2];rfl⟩
theorem Jw {i x y:Nat} (hx:x<8) (hy:y<8) (h:jM i x=jM i y):x=y:=by
 unfold jM at h;split at h<;>split at h<;>omega
def jE (s i k j:Nat):Bool:=s.testBit j&& !FI i k j
theorem MC {i k x:Nat} (hx:x<8):FI i k (jM i x)=k.testBit x:=by
 rw[Bool.eq_iff_iff,rJ];constructor
 . rintro⟨y,hy,h1,h2⟩;rw[<-Jw hy hx h2];exact h1
 . intro h;exact⟨x,hx,h,rfl⟩
theorem Lf {i k:Nat}:FI i k (i+8)=false:=by
 rcases q:FI i k (i+8)with _|_
 . rfl
 . obtain⟨x,hx,_,h⟩:=rJ.1 q;unfold jM at h;split at h<;>omega
theorem Bn {i k k' j:Nat} (hj:i+1<=j) (h:∀x,x<8->x≠i%8->k'.testBit x=k.testBit x):FI (i+1) k' j=(FI i k j||(k'.testBit (i%8)&&decide (i+8=j))):=by
 rw[Bool.eq_iff_iff,TC,TB,decide_eq_true_eq,rJ,rJ];constructor
 . rintro⟨x,hx,h1,h2⟩;by_cases e:x=i%8
   . subst e;rw[uV]at h2;exact .inr ⟨h1,h2⟩
   . rw[iC hx e]at h2;rw[h x hx e]at h1;exact .inl ⟨x,hx,h1,h2⟩
 . rintro(⟨x,hx,h1,h2⟩|⟨h1,h2⟩)
   . have e : x ≠ i % 8 := fun e => by subst e; rw [uU] at h2; omega
     exact⟨x,hx,by rw[h x hx e];exact h1,by rw[iC hx e];exact h2⟩
   . exact⟨i%8,by omega,h1,by rw[uV];exact h2⟩
def nOf (s i k:Nat):Int:=((tl (64-i) i (jE s i k)).length:Nat)
def gives (s i k:Nat):Int:=
 if s.testBit i then
   if k.testBit (i%8)then nOf s (i+1) (k-2^(i%8))
   else(if kF s i then nOf s (i+1) (k|||2^(i%8))else 0)+(if kG s i&& !k.testBit (i%8+1)then nOf s (i+1) (k|||2^(i%8+1))else 0)
 else if k.testBit (i%8)then 0 else nOf s (i+1) k
theorem AR (k x j:Nat):(k|||2^x).testBit j=(k.testBit j||decide (x=j)):=by rw[Tz,Nat.testBit_two_pow]
theorem Pj {s i k:Nat} (hi:i<64) (hk:k<256) (ho:iH s i k):gives s i k=nOf s i k:=by
 have a6:FI i k i=k.testBit (i%8):=by
  have:=MC (i:=i) (k:=k) (x:=i%8) (by omega);rwa [uU]at this
 have a8:64-i=(64-(i+1))+1:=(by omega);unfold gives;conv=>rhs;unfold nOf;rw[a8,sP]
 rcases hs:s.testBit i with _|_
 . have hS : jE s i k i = false := by unfold jE; rw [hs]; rfl
   rw[hS];simp only[TD,if_false];rcases hb:k.testBit (i%8)with _|_
   . simp only[TD,if_false];unfold nOf;rw[nO _ (i+1) (jE s (i+1) k) (jE s i k) (fun j hj=>by unfold jE;rw[Bn hj (fun _ _ _=>rfl),hb];simp)]
   . have:=Fg ho hb;rw[hs]at this;cases this
 . simp only[if_true];rcases hb:k.testBit (i%8)with _|_
   . have hS : jE s i k i = true := by unfold jE; rw [hs, a6, hb]; rfl
     rw[hS];simp only[TD,if_false,if_true,List.length_append];have bA:(decide (i<56)&&jE s i k (i+8))=kF s i:=by unfold jE kF;rw[Lf];simp
     rw[bA]
     have hrt:(decide (i%8<7)&&jE s i k (i+1))=(kG s i&& !k.testBit (i%8+1)):=by
      unfold kG jE;by_cases h7:i%8<7
      . have := MC (i := i) (k := k) (x := i % 8 + 1) (by omega);rw[oK]at this;rw[this,Bool.and_assoc]
      . simp[h7]
     rw[hrt]
     have ed : kF s i = true -> nOf s (i + 1) (k ||| 2 ^ (i % 8)) = ((tl (64 - (i + 1)) (i + 1) (fun j => jE s i k j && !decide (j = i + 8))).length : Nat) := fun _ => by
      unfold nOf
      rw [nO _ (i + 1) _ (fun j => jE s i k j && !decide (j = i + 8)) (fun j hj => by
       unfold jE;rw[Bn (k:=k) hj (fun x hx hne=>by rw[AR];simp;omega),AR];simp[Bool.and_assoc,eq_comm])]
     have er : (kG s i && !k.testBit (i % 8 + 1)) = true -> nOf s (i + 1) (k ||| 2 ^ (i % 8 + 1)) = ((tl (64 - (i + 1)) (i + 1) (fun j => jE s i k j && !decide (j = i + 1))).length : Nat) := fun hr => by
      have h7:i%8<7:=by
       rw[TB]at hr;have:=hr.1;unfold kG at this;rw[TB,decide_eq_true_iff]at this;exact this.1
      unfold nOf
      rw [nO _ (i + 1) _ (fun j => jE s i k j && !decide (j = i + 1)) (fun j hj => by
       unfold jE
       have e1:FI (i+1) (k|||2^(i%8+1)) j=(FI i k j||decide (j=i+1)):=by
        rw[Bool.eq_iff_iff,TC,decide_eq_true_eq,rJ,rJ];constructor
        . rintro⟨x,hx,h1,h2⟩;rw[AR,TC,decide_eq_true_eq]at h1;by_cases e:x=i%8
          . subst e;rcases h1 with h1|h1
            . rw[hb]at h1;cases h1
            . omega
          . rw[iC hx e]at h2;rcases h1 with h1|h1
            . exact .inl ⟨x,hx,h1,h2⟩
            . subst h1;rw[oK]at h2;exact .inr h2.symm
        . rintro(⟨x,hx,h1,h2⟩|h2)
          . have e : x ≠ i % 8 := fun e => by subst e; rw [hb] at h1; cases h1
            exact⟨x,hx,by rw[AR,h1];rfl,by rw[iC hx e];exact h2⟩
          . refine ⟨i % 8 + 1, by omega, by rw [AR]; simp, ?_⟩;rw[iC (by omega) (by omega),oK];exact h2.symm
       rw[e1,Bool.not_or,Bool.and_assoc])]
     rcases hd:kF s i with _|_<;>rcases hr:(kG s i&& !k.testBit (i%8+1))with _|_
     . simp
     . simp[er hr]
     . simp[ed hd]
     . simp[ed hd,er hr];omega
   . have hS : jE s i k i = false := by unfold jE; rw [a6, hb]; simp
     rw[hS];simp only[TD,if_false,if_true];unfold nOf
     rw [nO _ (i + 1) (jE s (i + 1) (k - 2 ^ (i % 8))) (jE s i k) (fun j hj => by
      have a7:=(pY k hk (i%8) (by omega) hb).2.2;unfold jE;rw[Bn (k:=k) hj (fun x hx hne=>by rw[a7 x hx];simp;omega),a7 _ (by omega)];simp)]
def lQ (f:Nat->Int) (l:List Int):Nat->Int
  |0=>0
  |K+1=>lQ f l K+l.getD K 0*f K
theorem jR (f:Nat->Int) (l:List Int) (K:Nat):lQ f l (K+1)=lQ f l K+l.getD K 0*f K:=rfl
theorem Ak (f:Nat->Int) (l:List Int) {j:Nat} (hj:j<l.length) (v:Int):∀K,lQ f (l.set j v) K=lQ f l K+if j<K then(v-l.getD j 0)*f j else 0
  |0=>by simp[lQ]
  | K + 1 => by
   rw[jR,jR,Ak f l hj v K];by_cases e:j=K
   . subst e;have h1:(l.set j v).getD j 0=v:=by rw[Tt,List.getElem?_set_self hj];rfl
     rw[h1,if_neg (by omega),if_pos (by omega),Int.sub_mul];omega
   . have h1 : (l.set j v).getD K 0 = l.getD K 0 := by rw [Tt, Tv e, Tt]
     rw[h1];by_cases h:j<K
     . rw[if_pos h,if_pos (by omega)];omega
     . rw[if_neg h,if_neg (by omega)];omega
theorem tV (f:Nat->Int) (l:List Int):∀K,(∀k,k<K->l.getD k 0=0∨f k=0)->lQ f l K=0
  |0,_=>rfl
  | K + 1, h => by
   rw[jR,tV f l K (fun k hk=>h k (by omega))];rcases h K (by omega)with e|e<;>rw[e]<;>simp
theorem Eg {f g:Nat->Int} (l:List Int):∀K,(∀k,k<K->l.getD k 0=0∨f k=g k)->lQ f l K=lQ g l K
  |0,_=>rfl
  | K + 1, h => by
   rw[jR,jR,Eg l K (fun k hk=>h k (by omega))];rcases h K (by omega)with e|e
   . rw[e];simp
   . rw[e]
theorem xA (f : Nat -> Int) {nx : List Int} (hl : nx.length = 256) {k : Nat} (hk : k < 256) (n : Int) : lQ f (gV 0 (fun a b => a + b) nx k n) 256 = lQ f nx 256 + n * f k := by
 unfold gV;rw[Ak f nx (by omega),if_pos hk];by_cases h:nx.getD k 0=0
 . rw[if_pos h,h];simp
 . rw[if_neg h];congr 1;congr 1;show nx.getD k 0+n-nx.getD k 0=n;omega
def bV (s:Nat):Nat->List Int:=dp s 0 (fun a b=>a+b) (fun n _=>n) 1
theorem Pk {s i k : Nat} {nx : List Int} {n : Int} (hl : nx.length = 256) (hk : k < 256) : lQ (nOf s (i + 1)) (jP s 0 (fun a b => a + b) (fun n _ => n) i nx k n) 256 = lQ (nOf s (i + 1)) nx 256 + n * gives s i k := by
 unfold jP gives;by_cases h0:n=0
 . rw[if_pos h0,h0];simp
 . rw[if_neg h0];rcases hs:s.testBit i with _|_
   . simp only[TD,if_false];rcases hb:k.testBit (i%8)with _|_
     . simp only[TD,if_false];exact xA _ hl hk n
     . simp
   . simp only[if_true];rcases hb:k.testBit (i%8)with _|_
     . simp only[TD,if_false]
       have hd : lQ (nOf s (i + 1)) (sO s 0 (fun a b => a + b) (fun n _ => n) i nx k n) 256 = lQ (nOf s (i + 1)) nx 256 + n * (if kF s i then nOf s (i + 1) (k ||| 2 ^ (i % 8)) else 0) := by
        unfold sO;rcases q:kF s i with _|_
        . simp
        . simp only[if_true];exact xA _ hl (yY k hk _ (by omega)) n
       have hr : lQ (nOf s (i + 1)) (yX s 0 (fun a b => a + b) (fun n _ => n) i (sO s 0 (fun a b => a + b) (fun n _ => n) i nx k n) k n) 256 = lQ (nOf s (i + 1)) (sO s 0 (fun a b => a + b) (fun n _ => n) i nx k n) 256 + n * (if kG s i && !k.testBit (i % 8 + 1) then nOf s (i + 1) (k ||| 2 ^ (i % 8 + 1)) else 0) := by
        unfold yX;rcases q:(kG s i&& !k.testBit (i%8+1))with _|_
        . simp
        . have h7:i%8<7:=by
           rw[TB]at q;have:=q.1;unfold kG at this;rw[TB,decide_eq_true_iff]at this;exact this.1
          simp only[if_true];exact xA _ (by rw[uG];exact hl) (yY k hk _ (by omega)) n
       rw[hr,hd,Int.mul_add,Int.add_assoc]
     . simp only[if_true];exact xA _ hl (pY k hk _ (by omega) hb).1 n
theorem Kb {s i : Nat} (now : List Int) : ∀ K, K <= 256 -> lQ (nOf s (i + 1)) (mO s 0 (fun a b => a + b) (fun n _ => n) now i K) 256 = lQ (gives s i) now K
  | 0, _ => by
   rw[show lQ (gives s i) now 0=0 from rfl];refine tV _ _ _ fun k hk=> .inl ?_
   simp only[mO,Tn,Tp];rw[Tt,Tw,if_pos hk];rfl
  | K + 1, hK => by
   rw[dO,Pk (mH _ _ _) (by omega),Kb now K (by omega),jR]
theorem I5 {s i k : Nat} {nx : List Int} {n : Int} (hl : nx.length = 256) (h : ∀ k v, nx[k]? = some v -> v = 0 ∨ iH s i k) (hk : k < 256) (ho : iH s i k) : ∀ j v, (gV 0 (fun a b => a + b) nx k n)[j]? = some v -> v = 0 ∨ iH s i j :=
 Bl h (by omega) (fun _=> .inr ho) (fun v hv hne=> .inr ho)
theorem Sj {s i k : Nat} {nx : List Int} {n : Int} (hl : nx.length = 256) (h : ∀ k v, nx[k]? = some v -> v = 0 ∨ iH s (i + 1) k) (hk : k < 256) (hn : n = 0 ∨ iH s i k) : ∀ j v, (jP s 0 (fun a b => a + b) (fun n _ => n) i nx k n)[j]? = some v -> v = 0 ∨ iH s (i + 1) j := by
 unfold jP;by_cases e:n=0
 . rw[if_pos e];exact h
 . rw[if_neg e];have ho:=hn.resolve_left e;rcases hs:s.testBit i with _|_
   . rw [if_neg (by simp)];rcases hb:k.testBit (i%8)with _|_
     . rw[if_neg (by simp)];exact I5 hl h hk (NP ho hb)
     . rw[if_pos rfl];exact h
   . rw[if_pos rfl];rcases hb:k.testBit (i%8)with _|_
     . rw [if_neg (by simp)]
       have a6 : ∀ j v, (sO s 0 (fun a b => a + b) (fun n _ => n) i nx k n)[j]? = some v -> v = 0 ∨ iH s (i + 1) j := by
        unfold sO;rcases hd:kF s i with _|_
        . rw[if_neg (by simp)];exact h
        . rw[if_pos rfl];exact I5 hl h (yY k hk _ (by omega)) (Rl ho hd)
       unfold yX;rcases hr:(kG s i&& !k.testBit (i%8+1))with _|_
       . rw[if_neg (by simp)];exact a6
       . rw[if_pos rfl];rw[TB]at hr;have hx:i%8<7:=by have:=hr.1;unfold kG at this;rw[TB,decide_eq_true_iff]at this;exact this.1
         exact I5 (by rw[uG];exact hl) a6 (yY k hk _ (by omega)) (Rm ho hb hr.1)
     . rw[if_pos rfl];exact I5 hl h (pY k hk _ (by omega) hb).1 (Ph hk ho hb)
theorem Qy {s i : Nat} {now : List Int} (hn : ∀ k v, now[k]? = some v -> v = 0 ∨ iH s i k) (hl : now.length = 256) : ∀ K, K <= 256 -> ∀ j v, (mO s 0 (fun a b => a + b) (fun n _ => n) now i K)[j]? = some v -> v = 0 ∨ iH s (i + 1) j
  | 0, _ => by
   intro j v hj;simp only[mO,Tn,Tp]at hj;rw[Tw]at hj;split at hj
   . injection hj with hj;exact .inl hj.symm
   . cases hj
  | K + 1, hK => by
   rw[dO];refine Sj (mH _ _ _) (Qy hn hl K (by omega)) (by omega) ?_;rw[Tt,Tu (by omega),TF];exact hn K _ (Tu (by omega))
theorem QO (s:Nat):∀i,∀k v,(bV s i)[k]? =some v->v=0∨iH s i k
  | 0 => by
   intro k v hk;unfold bV dp at hk;by_cases e:0=k
   . subst e;exact .inr (fun x _ h=>by simp at h)
   . rw[Tv e,Tw]at hk;split at hk
     . injection hk with hk;exact .inl hk.symm
     . cases hk
  |i+1=>fun k v hk=>Qy (QO s i) (yC i) 256 (Ty _) k v hk
theorem ME (s i k:Nat) (hk:k<256):(bV s i).getD k 0=0∨iH s i k:=by
 have hl:k<(bV s i).length:=by unfold bV;rw[yC];exact hk
 rw[Tt,Tu hl,TF];exact QO s i k _ (Tu hl)
theorem Gr (s:Nat):∀i,i<=64->lQ (nOf s i) (bV s i) 256=((tl 64 0 s.testBit).length:Nat)
  | 0, _ => by
   have h0:bV s 0=(Tm 256 (0:Int)).set 0 1:=rfl;rw[h0,Ak _ _ (by rw[Tq];decide),if_pos (by omega),tV _ _ _ (fun k hk=> .inl (by rw[Tt,Tw,if_pos hk];rfl))];have h1:(Tm 256 (0:Int)).getD 0 0=0:=by rw[Tt,Tw,if_pos (by decide)];rfl
   rw[h1];unfold nOf
   rw [nO 64 0 (jE s 0 0) s.testBit (fun j _ => by
    unfold jE
    have:FI 0 0 j=false:=by
     rcases q:FI 0 0 j with _|_
     . rfl
     . obtain⟨x,_,h,_⟩:=rJ.1 q;simp at h
    rw[this];simp)]
   simp
  | i + 1, hi => by
   have h1:bV s (i+1)=mO s 0 (fun a b=>a+b) (fun n _=>n) (bV s i) i 256:=rfl;rw[h1,Kb _ 256 (Ty _),<-Gr s i (by omega)];refine Eg _ _ fun k hk=> ?_
   rcases ME s i k hk with h|h
   . exact .inl h
   . exact .inr (Pj (by omega) hk h)
theorem Pm {s:Nat} (hs:s<U64):(bV s 64).getD 0 0=((tl 64 0 s.testBit).length:Nat):=by
 rw[<-Gr s 64 (Ty _)];have h1:∀k,nOf s 64 k=1:=fun k=>rfl
 have h2 : ∀ k, k < 256 -> k ≠ 0 -> (bV s 64).getD k 0 = 0 := fun k hk hne => by
  rcases ME s 64 k hk with h|h
  . exact h
  . exfalso
    have hx:∃x,x<8/\k.testBit x=true:=by
     obtain⟨x,hx⟩:=Nat.exists_testBit_of_ne_zero hne;refine⟨x,?_,hx⟩;by_cases h8:x<8
     . exact h8
     . have : k < 2 ^ x := Nat.lt_of_lt_of_le hk (Nat.pow_le_pow_right (n := 2) (by decide) (show 8 <= x by omega));rw[Nat.testBit_lt_two_pow this]at hx;cases hx
    obtain⟨x,a6,hx⟩:=hx;have:=h x a6 hx;rw[Nat.testBit_lt_two_pow]at this
    . cases this
    . unfold U64 at hs;refine Nat.lt_of_lt_of_le hs ?_;unfold jM;have:64<=(if 64%8<=x then 64-64%8+x else 64-64%8+8+x):=by split<;>omega
      exact Nat.pow_le_pow_right (n:=2) (by decide) this
 have h3:∀K,K<=255->lQ (nOf s 64) (bV s 64) (K+1)=(bV s 64).getD 0 0:=by
  intro K;induction K with
  |zero=>intro _;rw[jR,h1];simp[lQ]
  |succ K ih=>intro hK;rw[jR,ih (by omega),h2 (K+1) (by omega) (by omega)];simp
 exact(h3 255 (Ty _)).symm
def two (i:Nat):Int:=if i<56/\i%8<7 then 2 else 1
def capOf:Nat->Int
  |0=>1
  |i+1=>capOf i*two i
theorem Ag (i:Nat):1<=two i/\two i<=2:=by unfold two;split<;>omega
theorem MF:∀i,1<=capOf i
  |0=>by unfold capOf;omega
  | i + 1 => by
   have h1:=MF i;have h2:=(Ag i).1;show 1<=capOf i*two i
   calc (1 : Int) <= capOf i := h1
     _=capOf i*1:=by omega
     _<=capOf i*two i:=Int.mul_le_mul_of_nonneg_left h2 (by omega)
theorem Fh:∀i d,capOf i<=capOf (i+d)
  |i,0=>Int.le_refl _
  | i, d + 1 => by
   refine TE (Fh i d) ?_;show capOf (i+d)<=capOf (i+d)*two (i+d)
   calc capOf (i + d) = capOf (i + d) * 1 := by omega
     _<=capOf (i+d)*two (i+d):=Int.mul_le_mul_of_nonneg_left (Ag _).1 (by have:=MF (i+d);omega)
theorem Qz:capOf 64=562949953421312:=by decide+kernel
theorem I6 {k : Nat} {nx : List Int} {n : Int} (hl : nx.length = 256) (h : ∀ (k : Nat) (v : Int), nx[k]? = some v -> 0 <= v) (hk : k < 256) (hn : 0 <= n) : ∀ (j : Nat) (v : Int), (gV 0 (fun a b => a + b) nx k n)[j]? = some v -> 0 <= v :=
 Bl (P:=fun _ v=>0<=v) h (by omega) (fun _=>hn) (fun v hv _=>by have:=h k v hv;show 0<=v+n;omega)
theorem Sk {s i k:Nat} {nx:List Int} {n:Int} (hl:nx.length=256) (h:∀(k:Nat) (v:Int),nx[k]? =some v->0<=v) (hk:k<256) (hn:0<=n):
 (∀(j:Nat) (v:Int),(jP s 0 (fun a b=>a+b) (fun n _=>n) i nx k n)[j]? =some v->0<=v)/\lQ (fun _=>1) (jP s 0 (fun a b=>a+b) (fun n _=>n) i nx k n) 256<=lQ (fun _=>1) nx 256+n*two i:=by
 have ht:=Ag i
 have a8:n<=n*two i:=by
  calc n = n * 1 := by omega
    _<=n*two i:=Int.mul_le_mul_of_nonneg_left ht.1 hn
 have hp:∀(nx:List Int) (k:Nat),nx.length=256->k<256->lQ (fun _=>1) (gV 0 (fun a b=>a+b) nx k n) 256=lQ (fun _=>1) nx 256+n:=fun nx k hl hk=>by rw[xA _ hl hk];omega
 unfold jP;by_cases e:n=0
 . rw[if_pos e];exact⟨h,by rw[e];omega⟩
 . rw[if_neg e];rcases hs:s.testBit i with _|_
   . rw [if_neg (by simp)];rcases hb:k.testBit (i%8)with _|_
     . rw[if_neg (by simp)];exact⟨I6 hl h hk hn,by rw[hp nx k hl hk];omega⟩
     . rw[if_pos rfl];exact⟨h,by omega⟩
   . rw[if_pos rfl];rcases hb:k.testBit (i%8)with _|_
     . rw [if_neg (by simp)]
       have a6 : (∀ (j : Nat) (v : Int), (sO s 0 (fun a b => a + b) (fun n _ => n) i nx k n)[j]? = some v -> 0 <= v) /\ lQ (fun _ => 1) (sO s 0 (fun a b => a + b) (fun n _ => n) i nx k n) 256 = lQ (fun _ => 1) nx 256 + if kF s i then n else 0 := by
        unfold sO;rcases hd:kF s i with _|_
        . rw[if_neg (by simp),if_neg (by simp)];exact⟨h,by omega⟩
        . rw[if_pos rfl,if_pos rfl];exact⟨I6 hl h (yY k hk _ (by omega)) hn,hp nx _ hl (yY k hk _ (by omega))⟩
       have a7:kF s i=true->i<56:=fun q=>by unfold kF at q;rw[TB,decide_eq_true_iff]at q;exact q.1
       unfold yX;rcases hr:(kG s i&& !k.testBit (i%8+1))with _|_
       . rw [if_neg (by simp)];refine⟨a6.1,?_⟩;rw[a6.2];split<;>omega
       . rw[if_pos rfl];rw[TB]at hr;have hx:i%8<7:=by have:=hr.1;unfold kG at this;rw[TB,decide_eq_true_iff]at this;exact this.1
         refine⟨I6 (by rw[uG];exact hl) a6.1 (yY k hk _ (by omega)) hn,?_⟩;rw[hp _ _ (by rw[uG];exact hl) (yY k hk _ (by omega)),a6.2];rcases hd:kF s i with _|_
         . rw[if_neg (by simp)];omega
         . rw[if_pos rfl];have h2:two i=2:=by unfold two;rw[if_pos ⟨a7 hd,hx⟩]
           rw[h2];omega
     . rw[if_pos rfl];exact⟨I6 hl h (pY k hk _ (by omega) hb).1 hn,by rw[hp nx _ hl (pY k hk _ (by omega) hb).1];omega⟩
theorem LY {s i:Nat} {now:List Int} (hn:∀(k:Nat) (v:Int),now[k]? =some v->0<=v) (hl:now.length=256):∀K,K<=256->
    (∀(j:Nat) (v:Int),(mO s 0 (fun a b=>a+b) (fun n _=>n) now i K)[j]? =some v->0<=v)/\lQ (fun _=>1) (mO s 0 (fun a b=>a+b) (fun n _=>n) now i K) 256<=lQ (fun _=>1) now K*two i
 | 0, _ => by
  refine⟨fun j v hj=> ?_,?_⟩
  . simp only[mO,Tn,Tp]at hj;rw[Tw]at hj;split at hj
    . injection hj with hj;omega
    . cases hj
  . rw [show lQ (fun _ => 1) now 0 = 0 from rfl, tV _ _ _ (fun k hk => .inl (by
     simp only[mO,Tn,Tp];rw[Tt,Tw,if_pos hk];rfl))]
    omega
 | K + 1, hK => by
  obtain⟨a,b⟩:=LY hn hl K (by omega)
  have hv:0<=now.getD K 0:=by
   rw[Tt,Tu (by omega),TF];exact hn K _ (Tu (by omega))
  rw[dO];obtain⟨c,d⟩:=Sk (s:=s) (i:=i) (k:=K) (mH now i K) a (by omega) hv;refine⟨c,TE d ?_⟩;have e:lQ (fun _=>1) now (K+1)*two i=lQ (fun _=>1) now K*two i+now.getD K 0*two i:=by rw[jR,Int.add_mul];simp
  rw[e];omega
theorem QP (s : Nat) : ∀ i, (∀ (k : Nat) (v : Int), (bV s i)[k]? = some v -> 0 <= v) /\ lQ (fun _ => 1) (bV s i) 256 <= capOf i
  | 0 => by
   have h0:bV s 0=(Tm 256 (0:Int)).set 0 1:=rfl;refine⟨fun k v hk=> ?_,?_⟩
   . rw[h0]at hk;by_cases e:0=k
     . subst e;rw[List.getElem?_set_self (by rw[Tq];decide)]at hk;injection hk with hk;omega
     . rw[Tv e,Tw]at hk;split at hk
       . injection hk with hk;omega
       . cases hk
   . rw [h0, Ak _ _ (by rw [Tq]; decide), if_pos (by omega), tV _ _ _ (fun k hk => .inl (by rw [Tt, Tw, if_pos hk]; rfl))];have h1:(Tm 256 (0:Int)).getD 0 0=0:=by rw[Tt,Tw,if_pos (by decide)];rfl
     rw[h1];unfold capOf;omega
  | i + 1 => by
   obtain⟨a,b⟩:=QP s i;obtain⟨c,d⟩:=LY (s:=s) (i:=i) a (yC i) 256 (Ty _);refine⟨c,TE d ?_⟩;show _<=capOf i*two i;exact Int.mul_le_mul_of_nonneg_right b (by have:=(Ag i).1;omega)
theorem AV {l : List Int} (hn : ∀ (k : Nat) (v : Int), l[k]? = some v -> 0 <= v) : ∀ K k, k < K -> l.getD k 0 <= lQ (fun _ => 1) l K /\ 0 <= lQ (fun _ => 1) l K
  |0,k,h=>by omega
  | K + 1, k, h => by
   have hg : ∀ j, 0 <= l.getD j 0 := fun j => by
    rw[Tt];rcases q:l[j]? with _|v
    . simp
    . exact hn j v q
   have h0 : 0 <= lQ (fun _ => 1) l K := by
    cases K with
    |zero=>exact Int.le_refl _
    |succ K=>exact(AV hn (K+1) K (by omega)).2
   rw[jR];have hK:=hg K;by_cases e:k=K
   . subst e;omega
   . have:=(AV hn K k (by omega)).1;omega
theorem I7 (s i k:Nat) (hi:i<=64) (hk:k<256):0<=(bV s i).getD k 0/\(bV s i).getD k 0<=562949953421312:=by
 obtain⟨a,b⟩:=QP s i;have h1:=(AV a 256 k hk).1;have h2:=Fh i (64-i);rw[show i+(64-i)=64 by omega,Qz]at h2;refine⟨?_,by omega⟩;rw[Tt];rcases q:(bV s i)[k]? with _|v
 . simp
 . exact a k v q
theorem Rn (x y:Nat) (hx:x<8) (hy:y<8):bH ((x:Int),(y:Int))=true/\(dJ ((x:Int),(y:Int))).toNat=8*y+x:=by
 have h:bH ((x:Int),(y:Int))=true:=dC.2 (by simp only;omega);refine⟨h,?_⟩;rw[(dP h).1];simp only;omega
theorem rM {i:Nat} (hi:i<64) (h7:i%8<7):aI (eT i)=true/\fC (eT i)=i/\jL (eT i)=i+1:=by
 obtain⟨a,b⟩:=Rn (i%8) (i/8) (by omega) (by omega);obtain⟨c,d⟩:=Rn (i%8+1) (i/8) (by omega) (by omega)
 have hs:sec (eT i)=(((i%8+1:Nat):Int),((i/8:Nat):Int)):=by
  unfold sec eT;simp only[TD,if_false,Prod.mk.injEq,and_true];unfold wrap64;omega
 refine⟨?_,?_,?_⟩
 . unfold aI;rw[hs,c];unfold eT;simp only[a,Bool.and_true]
 . unfold fC eT;simp only;rw[b];omega
 . unfold jL;rw[hs,d];omega
theorem rO {i:Nat} (hi:i<56):aI (fT i)=true/\fC (fT i)=i/\jL (fT i)=i+8:=by
 obtain⟨a,b⟩:=Rn (i%8) (i/8) (by omega) (by omega);obtain⟨c,d⟩:=Rn (i%8) (i/8+1) (by omega) (by omega)
 have hs:sec (fT i)=(((i%8:Nat):Int),((i/8+1:Nat):Int)):=by
  unfold sec fT;simp only[if_true,Prod.mk.injEq,true_and];unfold wrap64;omega
 refine⟨?_,?_,?_⟩
 . unfold aI;rw[hs,c];unfold fT;simp only[a,Bool.and_true]
 . unfold fC fT;simp only;rw[b];omega
 . unfold jL;rw[hs,d];omega
theorem IA {d:Dm} (h:aI d=true):fC d<64/\((d=eT (fC d)/\fC d%8<7)∨(d=fT (fC d)/\fC d<56)):=by
 have D1:=nC h;have D2:=Bd h;obtain⟨x,y,b⟩:=d;simp only at D1;obtain⟨x,rfl⟩:=Int.eq_ofNat_of_zero_le D1.1.1;obtain⟨y,rfl⟩:=Int.eq_ofNat_of_zero_le D1.2.1;have hx:x<8:=(by omega);have hy:y<8:=(by omega);have hI:fC ((x:Int),(y:Int),b)=8*y+x:=(Rn x y hx hy).2;rw[hI];refine⟨by omega,?_⟩;have e1:(8*y+x)%8=x:=(by omega);have e2:(8*y+x)/8=y:=(by omega);cases b
 . left;unfold eT;rw[e1,e2];refine⟨rfl,?_⟩;have:=D2.1;unfold sec at this;simp only[TD,if_false]at this;unfold wrap64 at this;omega
 . right;unfold fT;rw[e1,e2];refine⟨rfl,?_⟩;have:=D2.2;unfold sec at this;simp only[if_true]at this;unfold wrap64 at this;omega
theorem IB {d:Dm} (h:aI d=true):fC d<jL d:=by
 obtain⟨hi,(⟨e,h7⟩|⟨e,h7⟩)⟩:=IA h
 . have:=(rM hi h7).2.2;rw[<-e]at this;omega
 . have:=(rO h7).2.2;rw[<-e]at this;omega
theorem I8 {d:Dm} (h:aI d=true):2*(fC d:Int)<=aS d/\aS d<=2*(fC d:Int)+1:=by
 have h1:=(dP (dR h).1).1;have h2:=(dP (dR h).1).2;have:(fC d:Int)=d.2.1*8+d.1:=by unfold fC;rw[<-h1];omega
 unfold aS;rw[this];split<;>omega
structure Til (i:Nat) (S:Nat->Bool) (t:List Dm):Prop where
  ok:∀d∈t,aI d=true/\i<=fC d/\S (fC d)=true/\S (jL d)=true
  ord:t.Pairwise fun a b=>aS a<aS b
  ap:t.Pairwise Apart
  all:∀j,i<=j->j<64->S j=true->∃d∈t,fC d=j∨jL d=j
theorem Bo {a b:Dm} (ha:aI a=true) (hb:aI b=true):Apart a b↔fC a≠fC b/\fC a≠jL b/\jL a≠fC b/\jL a≠jL b:=by
 unfold Apart;constructor
 . intro h;have h1:=h (fC a) (by rw[aT ha];simp);have h2:=h (jL a) (by rw[aT ha];simp);rw[aT hb,Bool.or_eq_false_iff,decide_eq_false_iff_not,decide_eq_false_iff_not]at h1 h2;exact⟨fun e=>h1.1 e.symm,fun e=>h1.2 e.symm,fun e=>h2.1 e.symm,fun e=>h2.2 e.symm⟩
 . rintro⟨h1,h2,h3,h4⟩ j hj;rw[aT ha,TC,decide_eq_true_eq,decide_eq_true_eq]at hj;rw[aT hb,Bool.or_eq_false_iff,decide_eq_false_iff_not,decide_eq_false_iff_not];rcases hj with rfl|rfl
   . exact⟨fun e=>h1 e.symm,fun e=>h2 e.symm⟩
   . exact⟨fun e=>h3 e.symm,fun e=>h4 e.symm⟩
theorem Ao {i m : Nat} {S : Nat -> Bool} {d : Dm} {t : List Dm} (hd : aI d = true) (hI : fC d = i) (hJ : jL d = m) (hS : S i = true) (hm : S m = true) : Til i S (d :: t) ↔ Til (i + 1) (fun j => S j && !decide (j = m)) t := by
 have hlt:=IB hd;have a6:=I8 hd;constructor
 . intro h;have ho:=List.pairwise_cons.1 h.ord;have ha:=List.pairwise_cons.1 h.ap;refine⟨fun e he=> ?_,ho.2,ha.2,fun j h1 h2 h3=> ?_⟩
   . obtain⟨e1,e2,e3,e4⟩:=h.ok e (List.mem_cons_of_mem _ he);obtain⟨a1,a2,a3,a4⟩:=(Bo hd e1).1 (ha.1 e he);have n3:decide (fC e=m)=false:=by simp;omega
     have n4:decide (jL e=m)=false:=by simp;omega
     exact⟨e1,by omega,by simp only[e3,n3];rfl,by simp only[e4,n4];rfl⟩
   . rw[TB,Bool.not_eq_true',decide_eq_false_iff_not]at h3;obtain⟨e,he,h4⟩:=h.all j (by omega) h2 h3.1;rcases List.mem_cons.1 he with rfl|he
     . omega
     . exact⟨e,he,h4⟩
 . intro h;refine⟨fun e he=> ?_,List.pairwise_cons.2 ⟨fun e he=> ?_,h.ord⟩,List.pairwise_cons.2 ⟨fun e he=> ?_,h.ap⟩,fun j h1 h2 h3=> ?_⟩
   . rcases List.mem_cons.1 he with rfl|he
     . exact⟨hd,by omega,by rw[hI];exact hS,by rw[hJ];exact hm⟩
     . obtain⟨e1,e2,e3,e4⟩:=h.ok e he;rw[TB]at e3 e4;exact⟨e1,by omega,e3.1,e4.1⟩
   . obtain⟨e1,e2,_,_⟩:=h.ok e he;have:=I8 e1;omega
   . obtain⟨e1,e2,e3,e4⟩:=h.ok e he;have a7:=IB e1;rw[TB,Bool.not_eq_true',decide_eq_false_iff_not]at e3 e4;exact(Bo hd e1).2 ⟨by omega,by omega,by have:=e3.2;omega,by have:=e4.2;omega⟩
   . by_cases e:j=i
     . exact⟨d,Tx ..,.inl (by omega)⟩
     . by_cases e2:j=m
       . exact⟨d,Tx ..,.inr (by omega)⟩
       . obtain ⟨f, hf, h4⟩ := h.all j (by omega) h2 (by rw [h3]; simp [e2]);exact⟨f,List.mem_cons_of_mem _ hf,h4⟩
theorem CX:∀(n i:Nat) (S:Nat->Bool) (t:List Dm),i+n=64->(t∈tl n i S↔Til i S t)
  | 0, i, S, t, hn => by
   show t∈[[]]↔_;rw[List.mem_singleton];constructor
   . rintro rfl;exact⟨by simp,List.Pairwise.nil,List.Pairwise.nil,fun j h1 h2=>by omega⟩
   . intro h;cases t with
     |nil=>rfl
     |cons d r=>
      obtain⟨a,b,_,_⟩:=h.ok d (Tx ..);have:=(IA a).1;omega
  | n + 1, i, S, t, hn => by
   rw[sP];rcases hS:S i with _|_
   . simp only[TD,if_false];rw[CX n (i+1) S t (by omega)];constructor
     . intro h
       exact ⟨fun d hd => by obtain ⟨a, b, c, e⟩ := h.ok d hd; exact ⟨a, by omega, c, e⟩, h.ord, h.ap, fun j h1 h2 h3 => h.all j (by
        by_cases e:j=i
        . subst e;rw[hS]at h3;cases h3
        . omega) h2 h3⟩
     . intro h
       exact ⟨fun d hd => by
        obtain⟨a,b,c,e⟩:=h.ok d hd;refine⟨a,?_,c,e⟩;by_cases q:fC d=i
        . rw[q,hS]at c;cases c
        . omega,h.ord,h.ap,fun j h1 h2 h3=>h.all j (by omega) h2 h3⟩
   . simp only[if_true];rw[List.mem_append];constructor
     . rintro(h|h)
       . split at h
         . rename_i q;rw[TB,decide_eq_true_eq]at q;obtain⟨t',h1,rfl⟩:=List.mem_map.1 h;obtain⟨a,b,c⟩:=rM (i:=i) (by omega) q.1;exact(Ao a b c hS q.2).2 ((CX n (i+1) _ t' (by omega)).1 h1)
         . cases h
       . split at h
         . rename_i q;rw[TB,decide_eq_true_eq]at q;obtain⟨t',h1,rfl⟩:=List.mem_map.1 h;obtain⟨a,b,c⟩:=rO q.1;exact(Ao a b c hS q.2).2 ((CX n (i+1) _ t' (by omega)).1 h1)
         . cases h
     . intro h;obtain⟨d,hd,a6⟩:=h.all i (Ty _) (by omega) hS;obtain⟨d1,d2,d3,d4⟩:=h.ok d hd;have hlt:=IB d1;have hI:fC d=i:=(by omega);cases t with
       |nil=>cases hd
       |cons e r=>
        have he:e=d:=by
         rcases List.mem_cons.1 hd with q|q
         . exact q.symm
         . exfalso;have:=(List.pairwise_cons.1 h.ord).1 d q;obtain⟨e1,e2,_,_⟩:=h.ok e (Tx ..);have o1:=I8 e1;have o2:=I8 d1;have a7:fC e=i:=(by omega);exact((Bo e1 d1).1 ((List.pairwise_cons.1 h.ap).1 d q)).1 (by omega)
        subst he;obtain⟨_,(⟨q,h7⟩|⟨q,h7⟩)⟩:=IA d1
        . rw[hI]at q h7;obtain⟨a,b,c⟩:=rM (i:=i) (by omega) h7;rw[<-q]at a b c;left;rw[if_pos (by rw[decide_eq_true h7,<-c,d4];rfl),q];exact List.mem_map.2 ⟨r,(CX n (i+1) _ r (by omega)).2 ((Ao a b c hS (by rw[<-c];exact d4)).1 h),rfl⟩
        . rw[hI]at q h7;obtain⟨a,b,c⟩:=rO h7;rw[<-q]at a b c;right;rw[if_pos (by rw[decide_eq_true h7,<-c,d4];rfl),q];exact List.mem_map.2 ⟨r,(CX n (i+1) _ r (by omega)).2 ((Ao a b c hS (by rw[<-c];exact d4)).1 h),rfl⟩
def gH (s:Nat):Int:=(bV s 64).getD 0 0
def jZ (s:Nat):List (List Dm):=tl 64 0 s.testBit
def bG (rows:List Int):Int:=if bW rows then gH (setOf rows)else 0
def eY (s:Nat) (d:Dm):Bool:=aI d&&decide (s&&&aG d=aG d)
def qA (rows:List Int) (d:Dm):Int:=if bW rows&&eY (setOf rows) d then gH (dE (setOf rows) (aG d))else 0
theorem NQ (s:Nat):0<=gH s/\gH s<=562949953421312:=I7 s 64 0 (Ty _) (by decide)
theorem xL {s:Nat} (hs:s<U64):gH s=((jZ s).length:Nat):=Pm hs
theorem wN {s:Nat} (hs:s<U64):gH s=0↔jZ s=[]:=by
 rw[xL hs,<-List.length_eq_zero_iff];omega
theorem Lg (rows:List Int):0<=bG rows/\bG rows<=562949953421312:=by
 unfold bG;split
 . exact NQ _
 . omega
theorem Eh:∀(d n i:Nat) (S:Nat->Bool),(∀j,i<=j->j<i+d->S j=false)->tl (d+n) i S=tl n (i+d) S
  |0,n,i,S,_=>by rw[TA];rfl
  | d + 1, n, i, S, h => by
   rw[show d+1+n=d+n+1 by omega,sP,h i (Ty _) (by omega),if_neg (by simp),Eh d n (i+1) S (fun j a b=>h j (by omega) (by omega)),show i+1+d=i+(d+1) by omega]
theorem FJ:∀(n i:Nat) (S:Nat->Bool) (t:List Dm),t∈tl n i S->t.length<=n
  | 0, i, S, t, h => by
   have:t=[]:=List.mem_singleton.1 h;rw[this];exact Ty _
  | n + 1, i, S, t, h => by
   rw[sP]at h;split at h
   . rcases List.mem_append.1 h with h|h
     . split at h
       . obtain⟨u,hu,rfl⟩:=List.mem_map.1 h;have:=FJ n _ _ u hu;rw[List.length_cons];omega
       . cases h
     . split at h
       . obtain⟨u,hu,rfl⟩:=List.mem_map.1 h;have:=FJ n _ _ u hu;rw[List.length_cons];omega
       . cases h
   . have:=FJ n _ _ t h;omega
def sK (s i:Nat):Prop:=i<64/\s.testBit i=true/\∀j,j<i->s.testBit j=false
theorem xB {s:Nat} (hs:s<U64) (h0:s≠0):∃i,sK s i:=by
 have hex:∃i,s.testBit i=true:=Nat.exists_testBit_of_ne_zero h0
 have key:∀n,s.testBit n=true->∃i,i<=n/\s.testBit i=true/\∀j,j<i->s.testBit j=false:=by
  intro n;induction n using Nat.strongRecOn with
  |_ n ih=>
   intro hn;by_cases q:∃m,m<n/\s.testBit m=true
   . obtain⟨m,hm,hb⟩:=q;obtain⟨i,a,b,c⟩:=ih m hm hb;exact⟨i,by omega,b,c⟩
   . refine ⟨n, Ty _, hn, fun j hj => ?_⟩;rcases e:s.testBit j with _|_
     . rfl
     . exact absurd ⟨j,hj,e⟩ q
 obtain⟨n,hn⟩:=hex;obtain⟨i,_,b,c⟩:=key n hn;refine⟨i,?_,b,c⟩;rcases Nat.lt_or_ge i 64 with q|q
 . exact q
 . exfalso;have:s<2^i:=Nat.lt_of_lt_of_le hs (by unfold U64;exact Nat.pow_le_pow_right (by decide) q);rw[Nat.testBit_lt_two_pow this]at b;cases b
theorem RV {i:Nat} (hi:i<64):aI (eT i)=decide (i%8<7):=by
 by_cases h:i%8<7
 . rw[decide_eq_true h];exact(rM hi h).1
 . rw[decide_eq_false h];rcases e:aI (eT i)with _|_
   . rfl
   . exfalso;have:=(Bd e).1;unfold sec eT at this;simp only[TD,if_false]at this;unfold wrap64 at this;omega
theorem RX {i:Nat} (hi:i<64):aI (fT i)=decide (i<56):=by
 by_cases h:i<56
 . rw[decide_eq_true h];exact(rO h).1
 . rw[decide_eq_false h];rcases e:aI (fT i)with _|_
   . rfl
   . exfalso;have:=(Bd e).2;unfold sec fT at this;simp only[if_true]at this;unfold wrap64 at this;omega
theorem Ro {s i:Nat} (hs:s<U64) (hi:i<64) (hb:s.testBit i=true):eY s (eT i)=(decide (i%8<7)&&s.testBit (i+1)):=by
 unfold eY;rw[RV hi];by_cases h:i%8<7
 . obtain⟨a,b,c⟩:=rM hi h;rw[xX hs a,b,c,hb];simp
 . rw[decide_eq_false h];rfl
theorem Rp {s i:Nat} (hs:s<U64) (hi:i<64) (hb:s.testBit i=true):eY s (fT i)=(decide (i<56)&&s.testBit (i+8)):=by
 unfold eY;rw[RX hi];by_cases h:i<56
 . obtain⟨a,b,c⟩:=rO h;rw[xX hs a,b,c,hb];simp
 . rw[decide_eq_false h];rfl
theorem Gs {s i : Nat} {d : Dm} (hs : s < U64) (hl : sK s i) (hd : aI d = true) (hI : fC d = i) : jZ (dE s (aG d)) = tl (64 - (i + 1)) (i + 1) (fun j => s.testBit j && !decide (j = jL d)) := by
 have hi:=hl.1;unfold jZ;rw[show 64=(i+1)+(64-(i+1)) by omega,Eh (i+1) (64-(i+1)) 0,TA]
 . rw [show i + 1 + (64 - (i + 1)) - (i + 1) = 64 - (i + 1) by omega];refine nO _ _ _ _ fun j hj=> ?_
   rw[kQ (dQ hd) hs,aT hd,hI,decide_eq_false (show¬i=j by omega),Bool.false_or];congr 2
   exact decide_eq_decide.2 ⟨fun e=>e.symm,fun e=>e.symm⟩
 . intro j _ hj;rw[kQ (dQ hd) hs,aT hd,hI];by_cases e:j=i
   . rw[e];simp
   . rw[hl.2.2 j (by omega)];rfl
theorem Gt {s i:Nat} (hs:s<U64) (hl:sK s i):jZ s=
    (if eY s (eT i)then(jZ (dE s (aG (eT i)))).map (eT i::·)else[])++(if eY s (fT i)then(jZ (dE s (aG (fT i)))).map (fT i::·)else[]):=by
 have hi:=hl.1
 have e0:jZ s=tl (64-i) i s.testBit:=by
  unfold jZ;rw[show 64=i+(64-i) by omega,Eh i (64-i) 0 s.testBit (fun j _ hj=>hl.2.2 j (by omega)),TA,show i+(64-i)-i=64-i by omega]
 rw[e0,show 64-i=(64-(i+1))+1 by omega,sP,if_pos hl.2.1,Ro hs hi hl.2.1,Rp hs hi hl.2.1];congr 1
 . by_cases h:(decide (i%8<7)&&s.testBit (i+1))=true
   . rw[if_pos h,if_pos h];rw[TB,decide_eq_true_iff]at h;obtain⟨a,b,c⟩:=rM hi h.1;rw[Gs hs hl a b,c]
   . rw[if_neg h,if_neg h]
 . by_cases h:(decide (i<56)&&s.testBit (i+8))=true
   . rw[if_pos h,if_pos h];rw[TB,decide_eq_true_iff]at h;obtain⟨a,b,c⟩:=rO h.1;rw[Gs hs hl a b,c]
   . rw[if_neg h,if_neg h]
theorem Bp:jZ 0=[[]]:=by
 unfold jZ;rw[show 64=64+0 from rfl,Eh 64 0 0 _ (fun j _ _=>Nat.zero_testBit j)];rfl
def firstT (s:Nat):List Dm:=(jZ s).headD []
def vU (s i:Nat):Bool:=eY s (eT i)&&decide (gH (dE s (aG (eT i)))≠0)
def vV (s i:Nat):Dm:=if vU s i then eT i else fT i
theorem Ei {s i:Nat} (hs:s<U64) (hl:sK s i) (hc:gH s≠0):eY s (vV s i)=true/\gH (dE s (aG (vV s i)))≠0/\firstT s=vV s i::firstT (dE s (aG (vV s i))):=by
 have hne:jZ s≠[]:=fun e=>hc ((wN hs).2 e)
 have hst:=Gt hs hl;have hz:=fun(d:Dm)=>wN (s:=dE s (aG d)) (eD hs)
 have hh:∀(d:Dm) (L:List (List Dm)),L≠[]->((L.map (d::·)).headD [])=d::L.headD []:=by
  intro d L hL;cases L with
  |nil=>exact absurd rfl hL
  |cons a r=>rfl
 unfold vV;rcases hg:vU s i with _|_
 . rw [if_neg (by simp)]
   have h1:(if eY s (eT i)then(jZ (dE s (aG (eT i)))).map (eT i::·)else[])=[]:=by
    unfold vU at hg;rw[Bool.and_eq_false_iff]at hg;rcases hg with q|q
    . rw[q];rfl
    . have : gH (dE s (aG (eT i))) = 0 := by simpa using q
      rw[(hz (eT i)).1 this];split<;>rfl
   rw[h1,List.nil_append]at hst
   have h2:eY s (fT i)=true:=by
    rcases q:eY s (fT i)with _|_
    . rw[q]at hst;exact absurd hst hne
    . rfl
   rw[if_pos h2]at hst
   have h3:jZ (dE s (aG (fT i)))≠[]:=by
    intro e;rw[e]at hst;exact hne hst
   refine⟨h2,fun e=>h3 ((hz _).1 e),?_⟩;unfold firstT;rw[hst,hh _ _ h3]
 . rw[if_pos rfl];unfold vU at hg;rw[TB,decide_eq_true_iff]at hg;have h3:jZ (dE s (aG (eT i)))≠[]:=fun e=>hg.2 ((hz _).2 e)
   refine⟨hg.1,hg.2,?_⟩;unfold firstT;rw[hst,if_pos hg.1];generalize (if eY s (fT i)then(jZ (dE s (aG (fT i)))).map (fT i::·)else[])=M
   cases hL:jZ (dE s (aG (eT i)))with
   |nil=>exact absurd hL h3
   |cons a r=>rfl
theorem BV:firstT 0=[]:=by unfold firstT;rw[Bp];rfl
theorem yZ (s:Nat):(firstT s).length<=64:=by
 unfold firstT;cases h:jZ s with
 |nil=>simp
 |cons a r=>exact FJ 64 0 _ a (by unfold jZ at h;rw[h];exact Tx ..)
theorem Lh {s:Nat} {d:Dm} (hs:s<U64) (h:eY s d=true):dE s (aG d)<s:=by
 unfold eY at h;rw[TB,decide_eq_true_iff]at h;have h1:dE s (aG d)<=s:=Nat.and_le_left;refine Nat.lt_of_le_of_ne h1 fun e=> ?_
 have hb:=(TB _ _).mp ((xX hs h.1).symm.trans (decide_eq_true h.2));have:=kQ (i:=fC d) (dQ h.1) hs;rw[e,aT h.1,hb.1]at this;simp at this
theorem Li {s:Nat} (hs:s<U64) (hc:gH s≠0):firstT s∈jZ s:=by
 unfold firstT;cases h:jZ s with
 |nil=>exact absurd ((wN hs).2 h) hc
 |cons a r=>exact Tx ..
theorem zC {s i:Nat} (hl:sK s i):∃r,eX s 64=iT i::r:=by
 have hsp:range 64=range i++(range (64-i)).map (i+·):=by
  rw[show 64=i+(64-i) by have:=hl.1;omega,List.range_add,show i+(64-i)-i=64-i by omega]
 unfold eX;rw[hsp,List.filter_append,List.map_append]
 have h1 : (range i).filter (fun i => s.testBit i) = [] := by
  rw[List.filter_eq_nil_iff];intro j hj;rw[hl.2.2 j (List.mem_range.1 hj)];simp
 rw[h1,List.map_nil,List.nil_append];obtain⟨m,hm⟩:∃m,64-i=m+1:=⟨63-i,by have:=hl.1;omega⟩;rw[hm,List.range_succ_eq_map,map_cons,List.filter_cons,Nat.add_zero,if_pos hl.2.1,map_cons];exact⟨_,rfl⟩
theorem Lj:eX 0 64=[]:=by
 unfold eX;rw[List.filter_eq_nil_iff.2 (fun j _=>by rw[Nat.zero_testBit];simp)];rfl
theorem wD {s:Nat} (hs:s<U64):(eX s 64).length=0↔s=0:=by
 constructor
 . intro h;rcases Nat.eq_zero_or_pos s with q|q
   . exact q
   . obtain ⟨i, hl⟩ := xB hs (by omega);obtain⟨r,hr⟩:=zC hl;rw[hr]at h;cases h
 . intro h;rw[h,Lj];rfl
theorem Kc {d:Dm} (h:aI d=true):fC d<64/\jL d<64:=by
 have:=dR h;have a:=(dP this.1).2;have b:=(dP this.2).2;unfold fC jL;omega
theorem wO {s:Nat} {d:Dm} (hs:s<U64) (h:aI d=true):jA (jA s (fC d)) (jL d)=dE s (aG d):=by
 obtain⟨h1,h2⟩:=Kc h;have a:jA s (fC d)<U64:=eD hs;refine Nat.eq_of_testBit_eq fun j=> ?_
 rw[lK a h2,lK hs h1,kQ (dQ h) hs,aT h,Bool.not_or,Bool.and_assoc]
end Go.Proofs.YtjijonhkofhikaaGreatDoor
