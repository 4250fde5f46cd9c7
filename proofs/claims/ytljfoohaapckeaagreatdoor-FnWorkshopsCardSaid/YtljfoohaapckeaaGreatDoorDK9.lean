/- Prices of dominoes and floors: the walks and the law FnExactFloorPrice. No conditions. Prices of the reference. FloorPrice and FnExactFloorPrice. No conditions. The profile over the cells of a set: the states' numbers from cell to cell. Plain laws. The count by profiles is the number of tilings. Plain laws. The tilings that are listed are all tilings. Plain laws. Counts of a set, of a region, with a domino; the first tiling, step by step. Plain laws. Forced dominoes and the region without them: plain laws. The cheapest price by profiles is the least price of a tiling. Plain laws.. Conditions, where there are any, stand in the statements. -/
import Derived.Test.YtljfoohaapckeaaGreatDoorDK2
import Derived.Test.YtljfoohaapckeaaGreatDoorDK4
import Derived.Test.YtljfoohaapckeaaGreatDoorDK5
open _root_.List (range replicate range_zero foldl_nil length_replicate getD_eq_getElem?_getD getElem?_eq_getElem getElem?_set_ne getElem?_replicate mem_cons_self map_cons)
open _root_.Nat (le_refl testBit_or zero_add)
open _root_.Bool (and_eq_true or_eq_true false_eq_true)
namespace Go.Proofs.YtljfoohaapckeaaGreatDoor
open Go.ChangeShapes Go.WideShapes Go.ChangeAt Go.RowKit
set_option linter.unusedVariables false
set_option maxHeartbeats 4000000
set_option maxRecDepth 100000
def jB (s i:Nat):Bool:=decide (i<56)&&s.testBit (i+8)
def jC (s i:Nat):Bool:=decide (i%8<7)&&s.testBit (i+1)
def eY (i:Nat):Dm:=(((i%8:Nat):Int),((i/8:Nat):Int),true)
def dW (i:Nat):Dm:=(((i%8:Nat):Int),((i/8:Nat):Int),false)
def fG (no:Int) (add:Int->Int->Int) (nx:List Int) (k:Nat) (n:Int):List Int:=nx.set k (if nx.getD k 0=no then n else add (nx.getD k 0) n)
def pK (s:Nat) (no:Int) (add:Int->Int->Int) (wt:Int->Dm->Int) (i:Nat) (nx:List Int) (k:Nat) (n:Int):List Int:=if jB s i then fG no add nx (k|||2^(i%8)) (wt n (eY i))else nx
def vR (s:Nat) (no:Int) (add:Int->Int->Int) (wt:Int->Dm->Int) (i:Nat) (nx:List Int) (k:Nat) (n:Int):List Int:=if jC s i&& !k.testBit (i%8+1)then fG no add nx (k|||2^(i%8+1)) (wt n (dW i))else nx
def iP (s:Nat) (no:Int) (add:Int->Int->Int) (wt:Int->Dm->Int) (i:Nat) (nx:List Int) (k:Nat) (n:Int):List Int:=
 if n=no then nx
 else if s.testBit i then
   if k.testBit (i%8)then fG no add nx (k-2^(i%8)) n
   else vR s no add wt i (pK s no add wt i nx k n) k n
 else if k.testBit (i%8)then nx else fG no add nx k n
def kQ (s:Nat) (no:Int) (add:Int->Int->Int) (wt:Int->Dm->Int) (now:List Int) (i K:Nat):List Int:=(range K).foldl (fun nx k=>iP s no add wt i nx k (now.getD k 0)) (replicate 256 no)
def dp (s:Nat) (no:Int) (add:Int->Int->Int) (wt:Int->Dm->Int) (st:Int):Nat->List Int
  |0=>(replicate 256 no).set 0 st
  |i+1=>kQ s no add wt (dp s no add wt st i) i 256
section
variable {s : Nat} {no : Int} {add : Int -> Int -> Int} {wt : Int -> Dm -> Int} {st : Int}
theorem pU (nx:List Int) (k:Nat) (n:Int):(fG no add nx k n).length=nx.length:=by simp[fG]
theorem qF (i:Nat) (nx:List Int) (k:Nat) (n:Int):(pK s no add wt i nx k n).length=nx.length:=by unfold pK;split<;>simp[pU]
theorem KY (i:Nat) (nx:List Int) (k:Nat) (n:Int):(vR s no add wt i nx k n).length=nx.length:=by unfold vR;split<;>simp[pU]
theorem Kc (i:Nat) (nx:List Int) (k:Nat) (n:Int):(iP s no add wt i nx k n).length=nx.length:=by
 unfold iP;split
 . rfl
 . split
   . split
     . exact pU _ _ _
     . rw[KY,qF]
   . split
     . rfl
     . exact pU _ _ _
theorem dA (now:List Int) (i K:Nat):kQ s no add wt now i (K+1)=iP s no add wt i (kQ s no add wt now i K) K (now.getD K 0):=by
 unfold kQ;rw[List.range_succ,List.foldl_append];rfl
theorem kK (now:List Int) (i:Nat):∀K,(kQ s no add wt now i K).length=256
  |0=>by unfold kQ;rw[range_zero,foldl_nil,length_replicate]
  |K+1=>by rw[dA,Kc];exact kK now i K
theorem uW:∀i,(dp s no add wt st i).length=256
  |0=>by unfold dp;rw[List.length_set,length_replicate]
  |i+1=>kK _ _ _
theorem yH {P:Nat->Int->Prop} {nx:List Int} (h:∀k v,nx[k]? =some v->P k v) {k:Nat} {n:Int} (hk:k<nx.length) (hp:nx[k]? =some no->P k n) (ha:∀v,nx[k]? =some v->v≠no->P k (add v n)):∀j v,(fG no add nx k n)[j]? =some v->P j v:=by
 intro j v hj;unfold fG at hj;by_cases e:k=j
 . subst e;rw[List.getElem?_set_self hk]at hj;injection hj with hj;have hg:nx.getD k 0=nx[k]:=(by rw[getD_eq_getElem?_getD,getElem?_eq_getElem hk,Option.getD_some]);rw[hg]at hj;by_cases e:nx[k]=no
   . rw[if_pos e]at hj;rw[<-hj];exact hp (by rw[getElem?_eq_getElem hk,e])
   . rw[if_neg e]at hj;rw[<-hj];exact ha _ (getElem?_eq_getElem hk) e
 . rw[getElem?_set_ne e]at hj;exact h j v hj
end
theorem mQ:∀k<256,∀x<8,k.testBit x=true->k-2^x<256/\2^x<=k/\∀j<8,(k-2^x).testBit j=(k.testBit j&& !decide (x=j)):=by decide+kernel
theorem vS:∀k<256,∀x<8,k|||2^x<256:=by decide+kernel
theorem MK:∀k<256,∀x<8,(decide (k&&&2^x=0))= !k.testBit x:=by decide+kernel
def iN (i x:Nat):Nat:=if i%8<=x then i-i%8+x else i-i%8+8+x
theorem qY (i:Nat):iN i (i%8)=i:=by unfold iN;rw[if_pos (le_refl _)];omega
theorem lV (i:Nat):iN i (i%8+1)=i+1:=by unfold iN;rw[if_pos (by omega)];omega
theorem qZ (i:Nat):iN (i+1) (i%8)=i+8:=by
 unfold iN;by_cases h:i%8=7
 . rw[if_pos (by omega)];omega
 . rw[if_neg (by omega)];omega
theorem fK {i x:Nat} (hx:x<8) (h:x≠i%8):iN (i+1) x=iN i x:=by
 unfold iN;by_cases h7:i%8=7
 . rw[if_pos (by omega),if_neg (by omega)];omega
 . by_cases h2:i%8<=x
   . rw[if_pos (by omega),if_pos h2];omega
   . rw[if_neg (by omega),if_neg h2];omega
def fQ (s i k:Nat):Prop:=∀x,x<8->k.testBit x=true->s.testBit (iN i x)=true
theorem Cr {s i k:Nat} (h:fQ s i k) (hb:k.testBit (i%8)=true):s.testBit i=true:=by
 have:=h (i%8) (by omega) hb;rwa [qY]at this
theorem Ke {s i k:Nat} (h:fQ s i k) (hb:k.testBit (i%8)=false):fQ s (i+1) k:=by
 intro x hx hk;have hne:x≠i%8:=fun e=>by rw[e,hb]at hk;cases hk
 rw[fK hx hne];exact h x hx hk
theorem KZ {s i k:Nat} (hk8:k<256) (h:fQ s i k) (hb:k.testBit (i%8)=true):fQ s (i+1) (k-2^(i%8)):=by
 intro x hx hk;rw[(mQ k hk8 (i%8) (by omega) hb).2.2 x hx,and_eq_true]at hk;have hne:x≠i%8:=fun e=>by rw[e]at hk;simp at hk
 rw[fK hx hne];exact h x hx hk.1
theorem ML {s i k:Nat} (h:fQ s i k) (hd:jB s i=true):fQ s (i+1) (k|||2^(i%8)):=by
 intro x hx hk;by_cases e:x=i%8
 . rw[e,qZ];unfold jB at hd;rw[and_eq_true]at hd;exact hd.2
 . rw[testBit_or,Nat.testBit_two_pow]at hk;have:decide (i%8=x)=false:=by simp;omega
   rw[this,Bool.or_false]at hk;rw[fK hx e];exact h x hx hk
theorem MM {s i k:Nat} (h:fQ s i k) (hb:k.testBit (i%8)=false) (hd:jC s i=true):fQ s (i+1) (k|||2^(i%8+1)):=by
 unfold jC at hd;rw[and_eq_true,decide_eq_true_iff]at hd;intro x hx hk;by_cases e:x=i%8+1
 . rw[e,fK (by omega) (by omega),lV];exact hd.2
 . rw[testBit_or,Nat.testBit_two_pow]at hk;have:decide (i%8+1=x)=false:=by simp;omega
   rw[this,Bool.or_false]at hk;have hne:x≠i%8:=fun e2=>by rw[e2,hb]at hk;cases hk
   rw[fK hx hne];exact h x hx hk
def tl:Nat->Nat->(Nat->Bool)->List (List Dm)
  |0,_,_=>[[]]
  | n + 1, i, S => if S i then
      (if decide (i%8<7)&&S (i+1)then(tl n (i+1) (fun j=>S j&& !decide (j=i+1))).map (dW i::·)else[])++
      (if decide (i<56)&&S (i+8)then(tl n (i+1) (fun j=>S j&& !decide (j=i+8))).map (eY i::·)else[])
   else tl n (i+1) S
theorem pM (n i:Nat) (S:Nat->Bool):tl (n+1) i S=if S i then
      (if decide (i%8<7)&&S (i+1)then(tl n (i+1) (fun j=>S j&& !decide (j=i+1))).map (dW i::·)else[])++
      (if decide (i<56)&&S (i+8)then(tl n (i+1) (fun j=>S j&& !decide (j=i+8))).map (eY i::·)else[])
 else tl n (i+1) S:=rfl
theorem lJ:∀(n i:Nat) (S T:Nat->Bool),(∀j,i<=j->S j=T j)->tl n i S=tl n i T
  |0,_,_,_,_=>rfl
  | n + 1, i, S, T, h => by
   rw [pM, pM, h i (le_refl _), h (i + 1) (by omega), h (i + 8) (by omega),
     lJ n (i+1) (fun j=>S j&& !decide (j=i+1)) (fun j=>T j&& !decide (j=i+1)) (fun j hj=>by simp only[h j (by omega)]),
     lJ n (i+1) (fun j=>S j&& !decide (j=i+8)) (fun j=>T j&& !decide (j=i+8)) (fun j hj=>by simp only[h j (by omega)]),
     lJ n (i+1) S T (fun j hj=>h j (by omega))]
def Dc (i k j:Nat):Bool:=(range 8).any fun x=>k.testBit x&&decide (iN i x=j)
theorem nX {i k j:Nat}:Dc i k j=true↔∃x,x<8/\k.testBit x=true/\iN i x=j:=by
 unfold Dc;rw[List.any_eq_true];constructor
 . rintro⟨x,hx,h⟩;rw[and_eq_true,decide_eq_true_eq]at h;exact⟨x,List.mem_range.1 hx,h.1,h.2⟩
 . rintro⟨x,hx,h1,h2⟩;exact⟨x,List.mem_range.2 hx,by rw[h1,decide_eq_true h2];rfl⟩
theorem FM {i x y:Nat} (hx:x<8) (hy:y<8) (h:iN i x=iN i y):x=y:=by
 unfold iN at h;split at h<;>split at h<;>omega
def iD (s i k j:Nat):Bool:=s.testBit j&& !Dc i k j
theorem Jm {i k x:Nat} (hx:x<8):Dc i k (iN i x)=k.testBit x:=by
 rw[Bool.eq_iff_iff,nX];constructor
 . rintro⟨y,hy,h1,h2⟩;rw[<-FM hy hx h2];exact h1
 . intro h;exact⟨x,hx,h,rfl⟩
theorem Ih {i k:Nat}:Dc i k (i+8)=false:=by
 rcases q:Dc i k (i+8)with _|_
 . rfl
 . obtain⟨x,hx,_,h⟩:=nX.1 q;unfold iN at h;split at h<;>omega
theorem yI {i k k' j:Nat} (hj:i+1<=j) (h:∀x,x<8->x≠i%8->k'.testBit x=k.testBit x):Dc (i+1) k' j=(Dc i k j||(k'.testBit (i%8)&&decide (i+8=j))):=by
 rw[Bool.eq_iff_iff,or_eq_true,and_eq_true,decide_eq_true_eq,nX,nX];constructor
 . rintro⟨x,hx,h1,h2⟩;by_cases e:x=i%8
   . subst e;rw[qZ]at h2;exact .inr ⟨h1,h2⟩
   . rw[fK hx e]at h2;rw[h x hx e]at h1;exact .inl ⟨x,hx,h1,h2⟩
 . rintro(⟨x,hx,h1,h2⟩|⟨h1,h2⟩)
   . have e : x ≠ i % 8 := fun e => by subst e; rw [qY] at h2; omega
     exact⟨x,hx,by rw[h x hx e];exact h1,by rw[fK hx e];exact h2⟩
   . exact⟨i%8,by omega,h1,by rw[qZ];exact h2⟩
def nOf (s i k:Nat):Int:=((tl (64-i) i (iD s i k)).length:Nat)
def gives (s i k:Nat):Int:=
 if s.testBit i then
   if k.testBit (i%8)then nOf s (i+1) (k-2^(i%8))
   else(if jB s i then nOf s (i+1) (k|||2^(i%8))else 0)+(if jC s i&& !k.testBit (i%8+1)then nOf s (i+1) (k|||2^(i%8+1))else 0)
 else if k.testBit (i%8)then 0 else nOf s (i+1) k
theorem xP (k x j:Nat):(k|||2^x).testBit j=(k.testBit j||decide (x=j)):=by rw[testBit_or,Nat.testBit_two_pow]
theorem K5 {s i k:Nat} (hi:i<64) (hk:k<256) (ho:fQ s i k):gives s i k=nOf s i k:=by
 have hself:Dc i k i=k.testBit (i%8):=by
  have:=Jm (i:=i) (k:=k) (x:=i%8) (by omega);rwa [qY]at this
 have h64:64-i=(64-(i+1))+1:=(by omega);unfold gives;conv=>rhs;unfold nOf;rw[h64,pM]
 rcases hs:s.testBit i with _|_
 . have hS : iD s i k i = false := by unfold iD; rw [hs]; rfl
   rw[hS];simp only[false_eq_true,if_false];rcases hb:k.testBit (i%8)with _|_
   . simp only[false_eq_true,if_false];unfold nOf;rw[lJ _ (i+1) (iD s (i+1) k) (iD s i k) (fun j hj=>by unfold iD;rw[yI hj (fun _ _ _=>rfl),hb];simp)]
   . have:=Cr ho hb;rw[hs]at this;cases this
 . simp only[if_true];rcases hb:k.testBit (i%8)with _|_
   . have hS : iD s i k i = true := by unfold iD; rw [hs, hself, hb]; rfl
     rw[hS];simp only[false_eq_true,if_false,if_true,List.length_append];have hdn:(decide (i<56)&&iD s i k (i+8))=jB s i:=by unfold iD jB;rw[Ih];simp
     rw[hdn]
     have hrt:(decide (i%8<7)&&iD s i k (i+1))=(jC s i&& !k.testBit (i%8+1)):=by
      unfold jC iD;by_cases h7:i%8<7
      . have := Jm (i := i) (k := k) (x := i % 8 + 1) (by omega);rw[lV]at this;rw[this,Bool.and_assoc]
      . simp[h7]
     rw[hrt]
     have ed : jB s i = true -> nOf s (i + 1) (k ||| 2 ^ (i % 8)) = ((tl (64 - (i + 1)) (i + 1) (fun j => iD s i k j && !decide (j = i + 8))).length : Nat) := fun _ => by
      unfold nOf
      rw [lJ _ (i + 1) _ (fun j => iD s i k j && !decide (j = i + 8)) (fun j hj => by
       unfold iD;rw[yI (k:=k) hj (fun x hx hne=>by rw[xP];simp;omega),xP];simp[Bool.and_assoc,eq_comm])]
     have er : (jC s i && !k.testBit (i % 8 + 1)) = true -> nOf s (i + 1) (k ||| 2 ^ (i % 8 + 1)) = ((tl (64 - (i + 1)) (i + 1) (fun j => iD s i k j && !decide (j = i + 1))).length : Nat) := fun hr => by
      have h7:i%8<7:=by
       rw[and_eq_true]at hr;have:=hr.1;unfold jC at this;rw[and_eq_true,decide_eq_true_iff]at this;exact this.1
      unfold nOf
      rw [lJ _ (i + 1) _ (fun j => iD s i k j && !decide (j = i + 1)) (fun j hj => by
       unfold iD
       have e1:Dc (i+1) (k|||2^(i%8+1)) j=(Dc i k j||decide (j=i+1)):=by
        rw[Bool.eq_iff_iff,or_eq_true,decide_eq_true_eq,nX,nX];constructor
        . rintro⟨x,hx,h1,h2⟩;rw[xP,or_eq_true,decide_eq_true_eq]at h1;by_cases e:x=i%8
          . subst e;rcases h1 with h1|h1
            . rw[hb]at h1;cases h1
            . omega
          . rw[fK hx e]at h2;rcases h1 with h1|h1
            . exact .inl ⟨x,hx,h1,h2⟩
            . subst h1;rw[lV]at h2;exact .inr h2.symm
        . rintro(⟨x,hx,h1,h2⟩|h2)
          . have e : x ≠ i % 8 := fun e => by subst e; rw [hb] at h1; cases h1
            exact⟨x,hx,by rw[xP,h1];rfl,by rw[fK hx e];exact h2⟩
          . refine ⟨i % 8 + 1, by omega, by rw [xP]; simp, ?_⟩;rw[fK (by omega) (by omega),lV];exact h2.symm
       rw[e1,Bool.not_or,Bool.and_assoc])]
     rcases hd:jB s i with _|_<;>rcases hr:(jC s i&& !k.testBit (i%8+1))with _|_
     . simp
     . simp[er hr]
     . simp[ed hd]
     . simp[ed hd,er hr];omega
   . have hS : iD s i k i = false := by unfold iD; rw [hself, hb]; simp
     rw[hS];simp only[false_eq_true,if_false,if_true];unfold nOf
     rw [lJ _ (i + 1) (iD s (i + 1) (k - 2 ^ (i % 8))) (iD s i k) (fun j hj => by
      have hsb:=(mQ k hk (i%8) (by omega) hb).2.2;unfold iD;rw[yI (k:=k) hj (fun x hx hne=>by rw[hsb x hx];simp;omega),hsb _ (by omega)];simp)]
def kD (f:Nat->Int) (l:List Int):Nat->Int
  |0=>0
  |K+1=>kD f l K+l.getD K 0*f K
theorem iR (f:Nat->Int) (l:List Int) (K:Nat):kD f l (K+1)=kD f l K+l.getD K 0*f K:=rfl
theorem wY (f:Nat->Int) (l:List Int) {j:Nat} (hj:j<l.length) (v:Int):∀K,kD f (l.set j v) K=kD f l K+if j<K then(v-l.getD j 0)*f j else 0
  |0=>by simp[kD]
  | K + 1 => by
   rw[iR,iR,wY f l hj v K];by_cases e:j=K
   . subst e;have h1:(l.set j v).getD j 0=v:=by rw[getD_eq_getElem?_getD,List.getElem?_set_self hj];rfl
     rw[h1,if_neg (by omega),if_pos (by omega),Int.sub_mul];omega
   . have h1 : (l.set j v).getD K 0 = l.getD K 0 := by rw [getD_eq_getElem?_getD, getElem?_set_ne e, getD_eq_getElem?_getD]
     rw[h1];by_cases h:j<K
     . rw[if_pos h,if_pos (by omega)];omega
     . rw[if_neg h,if_neg (by omega)];omega
theorem pV (f:Nat->Int) (l:List Int):∀K,(∀k,k<K->l.getD k 0=0∨f k=0)->kD f l K=0
  |0,_=>rfl
  | K + 1, h => by
   rw[iR,pV f l K (fun k hk=>h k (by omega))];rcases h K (by omega)with e|e<;>rw[e]<;>simp
theorem Bh {f g:Nat->Int} (l:List Int):∀K,(∀k,k<K->l.getD k 0=0∨f k=g k)->kD f l K=kD g l K
  |0,_=>rfl
  | K + 1, h => by
   rw[iR,iR,Bh l K (fun k hk=>h k (by omega))];rcases h K (by omega)with e|e
   . rw[e];simp
   . rw[e]
theorem uB (f : Nat -> Int) {nx : List Int} (hl : nx.length = 256) {k : Nat} (hk : k < 256) (n : Int) : kD f (fG 0 (fun a b => a + b) nx k n) 256 = kD f nx 256 + n * f k := by
 unfold fG;rw[wY f nx (by omega),if_pos hk];by_cases h:nx.getD k 0=0
 . rw[if_pos h,h];simp
 . rw[if_neg h];congr 1;congr 1;show nx.getD k 0+n-nx.getD k 0=n;omega
def aX (s:Nat):Nat->List Int:=dp s 0 (fun a b=>a+b) (fun n _=>n) 1
theorem K6 {s i k : Nat} {nx : List Int} {n : Int} (hl : nx.length = 256) (hk : k < 256) : kD (nOf s (i + 1)) (iP s 0 (fun a b => a + b) (fun n _ => n) i nx k n) 256 = kD (nOf s (i + 1)) nx 256 + n * gives s i k := by
 unfold iP gives;by_cases h0:n=0
 . rw[if_pos h0,h0];simp
 . rw[if_neg h0];rcases hs:s.testBit i with _|_
   . simp only[false_eq_true,if_false];rcases hb:k.testBit (i%8)with _|_
     . simp only[false_eq_true,if_false];exact uB _ hl hk n
     . simp
   . simp only[if_true];rcases hb:k.testBit (i%8)with _|_
     . simp only[false_eq_true,if_false]
       have hd : kD (nOf s (i + 1)) (pK s 0 (fun a b => a + b) (fun n _ => n) i nx k n) 256 = kD (nOf s (i + 1)) nx 256 + n * (if jB s i then nOf s (i + 1) (k ||| 2 ^ (i % 8)) else 0) := by
        unfold pK;rcases q:jB s i with _|_
        . simp
        . simp only[if_true];exact uB _ hl (vS k hk _ (by omega)) n
       have hr : kD (nOf s (i + 1)) (vR s 0 (fun a b => a + b) (fun n _ => n) i (pK s 0 (fun a b => a + b) (fun n _ => n) i nx k n) k n) 256 = kD (nOf s (i + 1)) (pK s 0 (fun a b => a + b) (fun n _ => n) i nx k n) 256 + n * (if jC s i && !k.testBit (i % 8 + 1) then nOf s (i + 1) (k ||| 2 ^ (i % 8 + 1)) else 0) := by
        unfold vR;rcases q:(jC s i&& !k.testBit (i%8+1))with _|_
        . simp
        . have h7:i%8<7:=by
           rw[and_eq_true]at q;have:=q.1;unfold jC at this;rw[and_eq_true,decide_eq_true_iff]at this;exact this.1
          simp only[if_true];exact uB _ (by rw[qF];exact hl) (vS k hk _ (by omega)) n
       rw[hr,hd,Int.mul_add,Int.add_assoc]
     . simp only[if_true];exact uB _ hl (mQ k hk _ (by omega) hb).1 n
theorem Gi {s i : Nat} (now : List Int) : ∀ K, K <= 256 -> kD (nOf s (i + 1)) (kQ s 0 (fun a b => a + b) (fun n _ => n) now i K) 256 = kD (gives s i) now K
  | 0, _ => by
   rw[show kD (gives s i) now 0=0 from rfl];refine pV _ _ _ fun k hk=> .inl ?_
   simp only[kQ,range_zero,foldl_nil];rw[getD_eq_getElem?_getD,getElem?_replicate,if_pos hk];rfl
  | K + 1, hK => by
   rw[dA,K6 (kK _ _ _) (by omega),Gi now K (by omega),iR]
theorem Fq {s i k : Nat} {nx : List Int} {n : Int} (hl : nx.length = 256) (h : ∀ k v, nx[k]? = some v -> v = 0 ∨ fQ s i k) (hk : k < 256) (ho : fQ s i k) : ∀ j v, (fG 0 (fun a b => a + b) nx k n)[j]? = some v -> v = 0 ∨ fQ s i j :=
 yH h (by omega) (fun _=> .inr ho) (fun v hv hne=> .inr ho)
theorem NR {s i k : Nat} {nx : List Int} {n : Int} (hl : nx.length = 256) (h : ∀ k v, nx[k]? = some v -> v = 0 ∨ fQ s (i + 1) k) (hk : k < 256) (hn : n = 0 ∨ fQ s i k) : ∀ j v, (iP s 0 (fun a b => a + b) (fun n _ => n) i nx k n)[j]? = some v -> v = 0 ∨ fQ s (i + 1) j := by
 unfold iP;by_cases e:n=0
 . rw[if_pos e];exact h
 . rw[if_neg e];have ho:=hn.resolve_left e;rcases hs:s.testBit i with _|_
   . rw [if_neg (by simp)];rcases hb:k.testBit (i%8)with _|_
     . rw[if_neg (by simp)];exact Fq hl h hk (Ke ho hb)
     . rw[if_pos rfl];exact h
   . rw[if_pos rfl];rcases hb:k.testBit (i%8)with _|_
     . rw [if_neg (by simp)]
       have hdn : ∀ j v, (pK s 0 (fun a b => a + b) (fun n _ => n) i nx k n)[j]? = some v -> v = 0 ∨ fQ s (i + 1) j := by
        unfold pK;rcases hd:jB s i with _|_
        . rw[if_neg (by simp)];exact h
        . rw[if_pos rfl];exact Fq hl h (vS k hk _ (by omega)) (ML ho hd)
       unfold vR;rcases hr:(jC s i&& !k.testBit (i%8+1))with _|_
       . rw[if_neg (by simp)];exact hdn
       . rw[if_pos rfl];rw[and_eq_true]at hr;have hx:i%8<7:=by have:=hr.1;unfold jC at this;rw[and_eq_true,decide_eq_true_iff]at this;exact this.1
         exact Fq (by rw[qF];exact hl) hdn (vS k hk _ (by omega)) (MM ho hb hr.1)
     . rw[if_pos rfl];exact Fq hl h (mQ k hk _ (by omega) hb).1 (KZ hk ho hb)
theorem Mh {s i : Nat} {now : List Int} (hn : ∀ k v, now[k]? = some v -> v = 0 ∨ fQ s i k) (hl : now.length = 256) : ∀ K, K <= 256 -> ∀ j v, (kQ s 0 (fun a b => a + b) (fun n _ => n) now i K)[j]? = some v -> v = 0 ∨ fQ s (i + 1) j
  | 0, _ => by
   intro j v hj;simp only[kQ,range_zero,foldl_nil]at hj;rw[getElem?_replicate]at hj;split at hj
   . injection hj with hj;exact .inl hj.symm
   . cases hj
  | K + 1, hK => by
   rw[dA];refine NR (kK _ _ _) (Mh hn hl K (by omega)) (by omega) ?_;rw[getD_eq_getElem?_getD,getElem?_eq_getElem (by omega),Option.getD_some];exact hn K _ (getElem?_eq_getElem (by omega))
theorem Ms (s:Nat):∀i,∀k v,(aX s i)[k]? =some v->v=0∨fQ s i k
  | 0 => by
   intro k v hk;unfold aX dp at hk;by_cases e:0=k
   . subst e;exact .inr (fun x _ h=>by simp at h)
   . rw[getElem?_set_ne e,getElem?_replicate]at hk;split at hk
     . injection hk with hk;exact .inl hk.symm
     . cases hk
  |i+1=>fun k v hk=>Mh (Ms s i) (uW i) 256 (le_refl _) k v hk
theorem Jn (s i k:Nat) (hk:k<256):(aX s i).getD k 0=0∨fQ s i k:=by
 have hl:k<(aX s i).length:=by unfold aX;rw[uW];exact hk
 rw[getD_eq_getElem?_getD,getElem?_eq_getElem hl,Option.getD_some];exact Ms s i k _ (getElem?_eq_getElem hl)
theorem Ea (s:Nat):∀i,i<=64->kD (nOf s i) (aX s i) 256=((tl 64 0 s.testBit).length:Nat)
  | 0, _ => by
   have h0:aX s 0=(replicate 256 (0:Int)).set 0 1:=rfl;rw[h0,wY _ _ (by rw[length_replicate];decide),if_pos (by omega),pV _ _ _ (fun k hk=> .inl (by rw[getD_eq_getElem?_getD,getElem?_replicate,if_pos hk];rfl))];have h1:(replicate 256 (0:Int)).getD 0 0=0:=by rw[getD_eq_getElem?_getD,getElem?_replicate,if_pos (by decide)];rfl
   rw[h1];unfold nOf
   rw [lJ 64 0 (iD s 0 0) s.testBit (fun j _ => by
    unfold iD
    have:Dc 0 0 j=false:=by
     rcases q:Dc 0 0 j with _|_
     . rfl
     . obtain⟨x,_,h,_⟩:=nX.1 q;simp at h
    rw[this];simp)]
   simp
  | i + 1, hi => by
   have h1:aX s (i+1)=kQ s 0 (fun a b=>a+b) (fun n _=>n) (aX s i) i 256:=rfl;rw[h1,Gi _ 256 (le_refl _),<-Ea s i (by omega)];refine Bh _ _ fun k hk=> ?_
   rcases Jn s i k hk with h|h
   . exact .inl h
   . exact .inr (K5 (by omega) hk h)
theorem K7 {s:Nat} (hs:s<U64):(aX s 64).getD 0 0=((tl 64 0 s.testBit).length:Nat):=by
 rw[<-Ea s 64 (le_refl _)];have h1:∀k,nOf s 64 k=1:=fun k=>rfl
 have h2 : ∀ k, k < 256 -> k ≠ 0 -> (aX s 64).getD k 0 = 0 := fun k hk hne => by
  rcases Jn s 64 k hk with h|h
  . exact h
  . exfalso
    have hx:∃x,x<8/\k.testBit x=true:=by
     obtain⟨x,hx⟩:=Nat.exists_testBit_of_ne_zero hne;refine⟨x,?_,hx⟩;by_cases h8:x<8
     . exact h8
     . have : k < 2 ^ x := Nat.lt_of_lt_of_le hk (Nat.pow_le_pow_right (n := 2) (by decide) (show 8 <= x by omega));rw[Nat.testBit_lt_two_pow this]at hx;cases hx
    obtain⟨x,hx8,hx⟩:=hx;have:=h x hx8 hx;rw[Nat.testBit_lt_two_pow]at this
    . cases this
    . unfold U64 at hs;refine Nat.lt_of_lt_of_le hs ?_;unfold iN;have:64<=(if 64%8<=x then 64-64%8+x else 64-64%8+8+x):=by split<;>omega
      exact Nat.pow_le_pow_right (n:=2) (by decide) this
 have h3:∀K,K<=255->kD (nOf s 64) (aX s 64) (K+1)=(aX s 64).getD 0 0:=by
  intro K;induction K with
  |zero=>intro _;rw[iR,h1];simp[kD]
  |succ K ih=>intro hK;rw[iR,ih (by omega),h2 (K+1) (by omega) (by omega)];simp
 exact(h3 255 (le_refl _)).symm
def two (i:Nat):Int:=if i<56/\i%8<7 then 2 else 1
def capOf:Nat->Int
  |0=>1
  |i+1=>capOf i*two i
theorem wO (i:Nat):1<=two i/\two i<=2:=by unfold two;split<;>omega
theorem Jo:∀i,1<=capOf i
  |0=>by unfold capOf;omega
  | i + 1 => by
   have h1:=Jo i;have h2:=(wO i).1;show 1<=capOf i*two i
   calc (1 : Int) <= capOf i := h1
     _=capOf i*1:=by omega
     _<=capOf i*two i:=Int.mul_le_mul_of_nonneg_left h2 (by omega)
theorem Cs:∀i d,capOf i<=capOf (i+d)
  |i,0=>Int.le_refl _
  | i, d + 1 => by
   refine Int.le_trans (Cs i d) ?_;show capOf (i+d)<=capOf (i+d)*two (i+d)
   calc capOf (i + d) = capOf (i + d) * 1 := by omega
     _<=capOf (i+d)*two (i+d):=Int.mul_le_mul_of_nonneg_left (wO _).1 (by have:=Jo (i+d);omega)
theorem Mi:capOf 64=562949953421312:=by decide+kernel
theorem Fs {k : Nat} {nx : List Int} {n : Int} (hl : nx.length = 256) (h : ∀ (k : Nat) (v : Int), nx[k]? = some v -> 0 <= v) (hk : k < 256) (hn : 0 <= n) : ∀ (j : Nat) (v : Int), (fG 0 (fun a b => a + b) nx k n)[j]? = some v -> 0 <= v :=
 yH (P:=fun _ v=>0<=v) h (by omega) (fun _=>hn) (fun v hv _=>by have:=h k v hv;show 0<=v+n;omega)
theorem NS {s i k:Nat} {nx:List Int} {n:Int} (hl:nx.length=256) (h:∀(k:Nat) (v:Int),nx[k]? =some v->0<=v) (hk:k<256) (hn:0<=n):
 (∀(j:Nat) (v:Int),(iP s 0 (fun a b=>a+b) (fun n _=>n) i nx k n)[j]? =some v->0<=v)/\kD (fun _=>1) (iP s 0 (fun a b=>a+b) (fun n _=>n) i nx k n) 256<=kD (fun _=>1) nx 256+n*two i:=by
 have ht:=wO i
 have hn1:n<=n*two i:=by
  calc n = n * 1 := by omega
    _<=n*two i:=Int.mul_le_mul_of_nonneg_left ht.1 hn
 have hp:∀(nx:List Int) (k:Nat),nx.length=256->k<256->kD (fun _=>1) (fG 0 (fun a b=>a+b) nx k n) 256=kD (fun _=>1) nx 256+n:=fun nx k hl hk=>by rw[uB _ hl hk];omega
 unfold iP;by_cases e:n=0
 . rw[if_pos e];exact⟨h,by rw[e];omega⟩
 . rw[if_neg e];rcases hs:s.testBit i with _|_
   . rw [if_neg (by simp)];rcases hb:k.testBit (i%8)with _|_
     . rw[if_neg (by simp)];exact⟨Fs hl h hk hn,by rw[hp nx k hl hk];omega⟩
     . rw[if_pos rfl];exact⟨h,by omega⟩
   . rw[if_pos rfl];rcases hb:k.testBit (i%8)with _|_
     . rw [if_neg (by simp)]
       have hdn : (∀ (j : Nat) (v : Int), (pK s 0 (fun a b => a + b) (fun n _ => n) i nx k n)[j]? = some v -> 0 <= v) /\ kD (fun _ => 1) (pK s 0 (fun a b => a + b) (fun n _ => n) i nx k n) 256 = kD (fun _ => 1) nx 256 + if jB s i then n else 0 := by
        unfold pK;rcases hd:jB s i with _|_
        . rw[if_neg (by simp),if_neg (by simp)];exact⟨h,by omega⟩
        . rw[if_pos rfl,if_pos rfl];exact⟨Fs hl h (vS k hk _ (by omega)) hn,hp nx _ hl (vS k hk _ (by omega))⟩
       have hdt:jB s i=true->i<56:=fun q=>by unfold jB at q;rw[and_eq_true,decide_eq_true_iff]at q;exact q.1
       unfold vR;rcases hr:(jC s i&& !k.testBit (i%8+1))with _|_
       . rw [if_neg (by simp)];refine⟨hdn.1,?_⟩;rw[hdn.2];split<;>omega
       . rw[if_pos rfl];rw[and_eq_true]at hr;have hx:i%8<7:=by have:=hr.1;unfold jC at this;rw[and_eq_true,decide_eq_true_iff]at this;exact this.1
         refine⟨Fs (by rw[qF];exact hl) hdn.1 (vS k hk _ (by omega)) hn,?_⟩;rw[hp _ _ (by rw[qF];exact hl) (vS k hk _ (by omega)),hdn.2];rcases hd:jB s i with _|_
         . rw[if_neg (by simp)];omega
         . rw[if_pos rfl];have h2:two i=2:=by unfold two;rw[if_pos ⟨hdt hd,hx⟩]
           rw[h2];omega
     . rw[if_pos rfl];exact⟨Fs hl h (mQ k hk _ (by omega) hb).1 hn,by rw[hp nx _ hl (mQ k hk _ (by omega) hb).1];omega⟩
theorem I5 {s i:Nat} {now:List Int} (hn:∀(k:Nat) (v:Int),now[k]? =some v->0<=v) (hl:now.length=256):∀K,K<=256->
    (∀(j:Nat) (v:Int),(kQ s 0 (fun a b=>a+b) (fun n _=>n) now i K)[j]? =some v->0<=v)/\kD (fun _=>1) (kQ s 0 (fun a b=>a+b) (fun n _=>n) now i K) 256<=kD (fun _=>1) now K*two i
 | 0, _ => by
  refine⟨fun j v hj=> ?_,?_⟩
  . simp only[kQ,range_zero,foldl_nil]at hj;rw[getElem?_replicate]at hj;split at hj
    . injection hj with hj;omega
    . cases hj
  . rw [show kD (fun _ => 1) now 0 = 0 from rfl, pV _ _ _ (fun k hk => .inl (by
     simp only[kQ,range_zero,foldl_nil];rw[getD_eq_getElem?_getD,getElem?_replicate,if_pos hk];rfl))]
    omega
 | K + 1, hK => by
  obtain⟨a,b⟩:=I5 hn hl K (by omega)
  have hv:0<=now.getD K 0:=by
   rw[getD_eq_getElem?_getD,getElem?_eq_getElem (by omega),Option.getD_some];exact hn K _ (getElem?_eq_getElem (by omega))
  rw[dA];obtain⟨c,d⟩:=NS (s:=s) (i:=i) (k:=K) (kK now i K) a (by omega) hv;refine⟨c,Int.le_trans d ?_⟩;have e:kD (fun _=>1) now (K+1)*two i=kD (fun _=>1) now K*two i+now.getD K 0*two i:=by rw[iR,Int.add_mul];simp
  rw[e];omega
theorem Mt (s : Nat) : ∀ i, (∀ (k : Nat) (v : Int), (aX s i)[k]? = some v -> 0 <= v) /\ kD (fun _ => 1) (aX s i) 256 <= capOf i
  | 0 => by
   have h0:aX s 0=(replicate 256 (0:Int)).set 0 1:=rfl;refine⟨fun k v hk=> ?_,?_⟩
   . rw[h0]at hk;by_cases e:0=k
     . subst e;rw[List.getElem?_set_self (by rw[length_replicate];decide)]at hk;injection hk with hk;omega
     . rw[getElem?_set_ne e,getElem?_replicate]at hk;split at hk
       . injection hk with hk;omega
       . cases hk
   . rw [h0, wY _ _ (by rw [length_replicate]; decide), if_pos (by omega), pV _ _ _ (fun k hk => .inl (by rw [getD_eq_getElem?_getD, getElem?_replicate, if_pos hk]; rfl))];have h1:(replicate 256 (0:Int)).getD 0 0=0:=by rw[getD_eq_getElem?_getD,getElem?_replicate,if_pos (by decide)];rfl
     rw[h1];unfold capOf;omega
  | i + 1 => by
   obtain⟨a,b⟩:=Mt s i;obtain⟨c,d⟩:=I5 (s:=s) (i:=i) a (uW i) 256 (le_refl _);refine⟨c,Int.le_trans d ?_⟩;show _<=capOf i*two i;exact Int.mul_le_mul_of_nonneg_right b (by have:=(wO i).1;omega)
theorem xQ {l : List Int} (hn : ∀ (k : Nat) (v : Int), l[k]? = some v -> 0 <= v) : ∀ K k, k < K -> l.getD k 0 <= kD (fun _ => 1) l K /\ 0 <= kD (fun _ => 1) l K
  |0,k,h=>by omega
  | K + 1, k, h => by
   have hg : ∀ j, 0 <= l.getD j 0 := fun j => by
    rw[getD_eq_getElem?_getD];rcases q:l[j]? with _|v
    . simp
    . exact hn j v q
   have h0 : 0 <= kD (fun _ => 1) l K := by
    cases K with
    |zero=>exact Int.le_refl _
    |succ K=>exact(xQ hn (K+1) K (by omega)).2
   rw[iR];have hK:=hg K;by_cases e:k=K
   . subst e;omega
   . have:=(xQ hn K k (by omega)).1;omega
theorem I6 (s i k:Nat) (hi:i<=64) (hk:k<256):0<=(aX s i).getD k 0/\(aX s i).getD k 0<=562949953421312:=by
 obtain⟨a,b⟩:=Mt s i;have h1:=(xQ a 256 k hk).1;have h2:=Cs i (64-i);rw[show i+(64-i)=64 by omega,Mi]at h2;refine⟨?_,by omega⟩;rw[getD_eq_getElem?_getD];rcases q:(aX s i)[k]? with _|v
 . simp
 . exact a k v q
theorem MN (x y:Nat) (hx:x<8) (hy:y<8):aV ((x:Int),(y:Int))=true/\(cO ((x:Int),(y:Int))).toNat=8*y+x:=by
 have h:aV ((x:Int),(y:Int))=true:=bQ.2 (by simp only;omega);refine⟨h,?_⟩;rw[(dG h).1];simp only;omega
theorem mR {i:Nat} (hi:i<64) (h7:i%8<7):aH (dW i)=true/\dM (dW i)=i/\fU (dW i)=i+1:=by
 obtain⟨a,b⟩:=MN (i%8) (i/8) (by omega) (by omega);obtain⟨c,d⟩:=MN (i%8+1) (i/8) (by omega) (by omega)
 have hs:sec (dW i)=(((i%8+1:Nat):Int),((i/8:Nat):Int)):=by
  unfold sec dW;simp only[false_eq_true,if_false,Prod.mk.injEq,and_true];unfold wrap64;omega
 refine⟨?_,?_,?_⟩
 . unfold aH;rw[hs,c];unfold dW;simp only[a,Bool.and_true]
 . unfold dM dW;simp only;rw[b];omega
 . unfold fU;rw[hs,d];omega
theorem mU {i:Nat} (hi:i<56):aH (eY i)=true/\dM (eY i)=i/\fU (eY i)=i+8:=by
 obtain⟨a,b⟩:=MN (i%8) (i/8) (by omega) (by omega);obtain⟨c,d⟩:=MN (i%8) (i/8+1) (by omega) (by omega)
 have hs:sec (eY i)=(((i%8:Nat):Int),((i/8+1:Nat):Int)):=by
  unfold sec eY;simp only[if_true,Prod.mk.injEq,true_and];unfold wrap64;omega
 refine⟨?_,?_,?_⟩
 . unfold aH;rw[hs,c];unfold eY;simp only[a,Bool.and_true]
 . unfold dM eY;simp only;rw[b];omega
 . unfold fU;rw[hs,d];omega
theorem Bi {d:Dm} (h:aH d=true):dM d<64/\((d=dW (dM d)/\dM d%8<7)∨(d=eY (dM d)/\dM d<56)):=by
 have D1:=lC h;have D2:=yB h;obtain⟨x,y,b⟩:=d;simp only at D1;obtain⟨x,rfl⟩:=Int.eq_ofNat_of_zero_le D1.1.1;obtain⟨y,rfl⟩:=Int.eq_ofNat_of_zero_le D1.2.1;have hx:x<8:=(by omega);have hy:y<8:=(by omega);have hI:dM ((x:Int),(y:Int),b)=8*y+x:=(MN x y hx hy).2;rw[hI];refine⟨by omega,?_⟩;have e1:(8*y+x)%8=x:=(by omega);have e2:(8*y+x)/8=y:=(by omega);cases b
 . left;unfold dW;rw[e1,e2];refine⟨rfl,?_⟩;have:=D2.1;unfold sec at this;simp only[false_eq_true,if_false]at this;unfold wrap64 at this;omega
 . right;unfold eY;rw[e1,e2];refine⟨rfl,?_⟩;have:=D2.2;unfold sec at this;simp only[if_true]at this;unfold wrap64 at this;omega
theorem Fb {d:Dm} (h:aH d=true):dM d<fU d:=by
 obtain⟨hi,(⟨e,h7⟩|⟨e,h7⟩)⟩:=Bi h
 . have:=(mR hi h7).2.2;rw[<-e]at this;omega
 . have:=(mU h7).2.2;rw[<-e]at this;omega
theorem Fu {d:Dm} (h:aH d=true):2*(dM d:Int)<=aP d/\aP d<=2*(dM d:Int)+1:=by
 have h1:=(dG (dC h).1).1;have h2:=(dG (dC h).1).2;have:(dM d:Int)=d.2.1*8+d.1:=by unfold dM;rw[<-h1];omega
 unfold aP;rw[this];split<;>omega
structure Til (i:Nat) (S:Nat->Bool) (t:List Dm):Prop where
  ok:∀d∈t,aH d=true/\i<=dM d/\S (dM d)=true/\S (fU d)=true
  ord:t.Pairwise fun a b=>aP a<aP b
  ap:t.Pairwise Apart
  all:∀j,i<=j->j<64->S j=true->∃d∈t,dM d=j∨fU d=j
theorem pW {a b:Dm} (ha:aH a=true) (hb:aH b=true):Apart a b↔dM a≠dM b/\dM a≠fU b/\fU a≠dM b/\fU a≠fU b:=by
 unfold Apart;constructor
 . intro h;have h1:=h (dM a) (by rw[aR ha];simp);have h2:=h (fU a) (by rw[aR ha];simp);rw[aR hb,Bool.or_eq_false_iff,decide_eq_false_iff_not,decide_eq_false_iff_not]at h1 h2;exact⟨fun e=>h1.1 e.symm,fun e=>h1.2 e.symm,fun e=>h2.1 e.symm,fun e=>h2.2 e.symm⟩
 . rintro⟨h1,h2,h3,h4⟩ j hj;rw[aR ha,or_eq_true,decide_eq_true_eq,decide_eq_true_eq]at hj;rw[aR hb,Bool.or_eq_false_iff,decide_eq_false_iff_not,decide_eq_false_iff_not];rcases hj with rfl|rfl
   . exact⟨fun e=>h1 e.symm,fun e=>h2 e.symm⟩
   . exact⟨fun e=>h3 e.symm,fun e=>h4 e.symm⟩
theorem wZ {i m : Nat} {S : Nat -> Bool} {d : Dm} {t : List Dm} (hd : aH d = true) (hI : dM d = i) (hJ : fU d = m) (hS : S i = true) (hm : S m = true) : Til i S (d :: t) ↔ Til (i + 1) (fun j => S j && !decide (j = m)) t := by
 have hlt:=Fb hd;have hdo:=Fu hd;constructor
 . intro h;have ho:=List.pairwise_cons.1 h.ord;have ha:=List.pairwise_cons.1 h.ap;refine⟨fun e he=> ?_,ho.2,ha.2,fun j h1 h2 h3=> ?_⟩
   . obtain⟨e1,e2,e3,e4⟩:=h.ok e (List.mem_cons_of_mem _ he);obtain⟨a1,a2,a3,a4⟩:=(pW hd e1).1 (ha.1 e he);have n3:decide (dM e=m)=false:=by simp;omega
     have n4:decide (fU e=m)=false:=by simp;omega
     exact⟨e1,by omega,by simp only[e3,n3];rfl,by simp only[e4,n4];rfl⟩
   . rw[and_eq_true,Bool.not_eq_true',decide_eq_false_iff_not]at h3;obtain⟨e,he,h4⟩:=h.all j (by omega) h2 h3.1;rcases List.mem_cons.1 he with rfl|he
     . omega
     . exact⟨e,he,h4⟩
 . intro h;refine⟨fun e he=> ?_,List.pairwise_cons.2 ⟨fun e he=> ?_,h.ord⟩,List.pairwise_cons.2 ⟨fun e he=> ?_,h.ap⟩,fun j h1 h2 h3=> ?_⟩
   . rcases List.mem_cons.1 he with rfl|he
     . exact⟨hd,by omega,by rw[hI];exact hS,by rw[hJ];exact hm⟩
     . obtain⟨e1,e2,e3,e4⟩:=h.ok e he;rw[and_eq_true]at e3 e4;exact⟨e1,by omega,e3.1,e4.1⟩
   . obtain⟨e1,e2,_,_⟩:=h.ok e he;have:=Fu e1;omega
   . obtain⟨e1,e2,e3,e4⟩:=h.ok e he;have hej:=Fb e1;rw[and_eq_true,Bool.not_eq_true',decide_eq_false_iff_not]at e3 e4;exact(pW hd e1).2 ⟨by omega,by omega,by have:=e3.2;omega,by have:=e4.2;omega⟩
   . by_cases e:j=i
     . exact⟨d,mem_cons_self ..,.inl (by omega)⟩
     . by_cases e2:j=m
       . exact⟨d,mem_cons_self ..,.inr (by omega)⟩
       . obtain ⟨f, hf, h4⟩ := h.all j (by omega) h2 (by rw [h3]; simp [e2]);exact⟨f,List.mem_cons_of_mem _ hf,h4⟩
theorem Aj:∀(n i:Nat) (S:Nat->Bool) (t:List Dm),i+n=64->(t∈tl n i S↔Til i S t)
  | 0, i, S, t, hn => by
   show t∈[[]]↔_;rw[List.mem_singleton];constructor
   . rintro rfl;exact⟨by simp,List.Pairwise.nil,List.Pairwise.nil,fun j h1 h2=>by omega⟩
   . intro h;cases t with
     |nil=>rfl
     |cons d r=>
      obtain⟨a,b,_,_⟩:=h.ok d (mem_cons_self ..);have:=(Bi a).1;omega
  | n + 1, i, S, t, hn => by
   rw[pM];rcases hS:S i with _|_
   . simp only[false_eq_true,if_false];rw[Aj n (i+1) S t (by omega)];constructor
     . intro h
       exact ⟨fun d hd => by obtain ⟨a, b, c, e⟩ := h.ok d hd; exact ⟨a, by omega, c, e⟩, h.ord, h.ap, fun j h1 h2 h3 => h.all j (by
        by_cases e:j=i
        . subst e;rw[hS]at h3;cases h3
        . omega) h2 h3⟩
     . intro h
       exact ⟨fun d hd => by
        obtain⟨a,b,c,e⟩:=h.ok d hd;refine⟨a,?_,c,e⟩;by_cases q:dM d=i
        . rw[q,hS]at c;cases c
        . omega,h.ord,h.ap,fun j h1 h2 h3=>h.all j (by omega) h2 h3⟩
   . simp only[if_true];rw[List.mem_append];constructor
     . rintro(h|h)
       . split at h
         . rename_i q;rw[and_eq_true,decide_eq_true_eq]at q;obtain⟨t',h1,rfl⟩:=List.mem_map.1 h;obtain⟨a,b,c⟩:=mR (i:=i) (by omega) q.1;exact(wZ a b c hS q.2).2 ((Aj n (i+1) _ t' (by omega)).1 h1)
         . cases h
       . split at h
         . rename_i q;rw[and_eq_true,decide_eq_true_eq]at q;obtain⟨t',h1,rfl⟩:=List.mem_map.1 h;obtain⟨a,b,c⟩:=mU q.1;exact(wZ a b c hS q.2).2 ((Aj n (i+1) _ t' (by omega)).1 h1)
         . cases h
     . intro h;obtain⟨d,hd,hdi⟩:=h.all i (le_refl _) (by omega) hS;obtain⟨d1,d2,d3,d4⟩:=h.ok d hd;have hlt:=Fb d1;have hI:dM d=i:=(by omega);cases t with
       |nil=>cases hd
       |cons e r=>
        have he:e=d:=by
         rcases List.mem_cons.1 hd with q|q
         . exact q.symm
         . exfalso;have:=(List.pairwise_cons.1 h.ord).1 d q;obtain⟨e1,e2,_,_⟩:=h.ok e (mem_cons_self ..);have o1:=Fu e1;have o2:=Fu d1;have hei:dM e=i:=(by omega);exact((pW e1 d1).1 ((List.pairwise_cons.1 h.ap).1 d q)).1 (by omega)
        subst he;obtain⟨_,(⟨q,h7⟩|⟨q,h7⟩)⟩:=Bi d1
        . rw[hI]at q h7;obtain⟨a,b,c⟩:=mR (i:=i) (by omega) h7;rw[<-q]at a b c;left;rw[if_pos (by rw[decide_eq_true h7,<-c,d4];rfl),q];exact List.mem_map.2 ⟨r,(Aj n (i+1) _ r (by omega)).2 ((wZ a b c hS (by rw[<-c];exact d4)).1 h),rfl⟩
        . rw[hI]at q h7;obtain⟨a,b,c⟩:=mU h7;rw[<-q]at a b c;right;rw[if_pos (by rw[decide_eq_true h7,<-c,d4];rfl),q];exact List.mem_map.2 ⟨r,(Aj n (i+1) _ r (by omega)).2 ((wZ a b c hS (by rw[<-c];exact d4)).1 h),rfl⟩
def gU (s:Nat):Int:=(aX s 64).getD 0 0
def gV (s:Nat):List (List Dm):=tl 64 0 s.testBit
def bG (rows:List Int):Int:=if aZ rows then gU (setOf rows)else 0
def eT (s:Nat) (d:Dm):Bool:=aH d&&decide (s&&&aK d=aK d)
def mV (rows:List Int) (d:Dm):Int:=if aZ rows&&eT (setOf rows) d then gU (dN (setOf rows) (aK d))else 0
theorem uL {s:Nat} (hs:s<U64):gU s=((gV s).length:Nat):=K7 hs
theorem sZ {s:Nat} (hs:s<U64):gU s=0↔gV s=[]:=by
 rw[uL hs,<-List.length_eq_zero_iff];omega
theorem Bj:∀(d n i:Nat) (S:Nat->Bool),(∀j,i<=j->j<i+d->S j=false)->tl (d+n) i S=tl n (i+d) S
  |0,n,i,S,_=>by rw[zero_add];rfl
  | d + 1, n, i, S, h => by
   rw[show d+1+n=d+n+1 by omega,pM,h i (le_refl _) (by omega),if_neg (by simp),Bj d n (i+1) S (fun j a b=>h j (by omega) (by omega)),show i+1+d=i+(d+1) by omega]
theorem Ak:∀(n i:Nat) (S:Nat->Bool) (t:List Dm),t∈tl n i S->t.length<=n
  | 0, i, S, t, h => by
   have:t=[]:=List.mem_singleton.1 h;rw[this];exact le_refl _
  | n + 1, i, S, t, h => by
   rw[pM]at h;split at h
   . rcases List.mem_append.1 h with h|h
     . split at h
       . obtain⟨u,hu,rfl⟩:=List.mem_map.1 h;have:=Ak n _ _ u hu;rw[List.length_cons];omega
       . cases h
     . split at h
       . obtain⟨u,hu,rfl⟩:=List.mem_map.1 h;have:=Ak n _ _ u hu;rw[List.length_cons];omega
       . cases h
   . have:=Ak n _ _ t h;omega
def pI (s i:Nat):Prop:=i<64/\s.testBit i=true/\∀j,j<i->s.testBit j=false
theorem xA {s:Nat} (hs:s<U64) (h0:s≠0):∃i,pI s i:=by
 have hex:∃i,s.testBit i=true:=Nat.exists_testBit_of_ne_zero h0
 have key:∀n,s.testBit n=true->∃i,i<=n/\s.testBit i=true/\∀j,j<i->s.testBit j=false:=by
  intro n;induction n using Nat.strongRecOn with
  |_ n ih=>
   intro hn;by_cases q:∃m,m<n/\s.testBit m=true
   . obtain⟨m,hm,hb⟩:=q;obtain⟨i,a,b,c⟩:=ih m hm hb;exact⟨i,by omega,b,c⟩
   . refine ⟨n, le_refl _, hn, fun j hj => ?_⟩;rcases e:s.testBit j with _|_
     . rfl
     . exact absurd ⟨j,hj,e⟩ q
 obtain⟨n,hn⟩:=hex;obtain⟨i,_,b,c⟩:=key n hn;refine⟨i,?_,b,c⟩;rcases Nat.lt_or_ge i 64 with q|q
 . exact q
 . exfalso;have:s<2^i:=Nat.lt_of_lt_of_le hs (by unfold U64;exact Nat.pow_le_pow_right (by decide) q);rw[Nat.testBit_lt_two_pow this]at b;cases b
theorem Ns {i:Nat} (hi:i<64):aH (dW i)=decide (i%8<7):=by
 by_cases h:i%8<7
 . rw[decide_eq_true h];exact(mR hi h).1
 . rw[decide_eq_false h];rcases e:aH (dW i)with _|_
   . rfl
   . exfalso;have:=(yB e).1;unfold sec dW at this;simp only[false_eq_true,if_false]at this;unfold wrap64 at this;omega
theorem Nt {i:Nat} (hi:i<64):aH (eY i)=decide (i<56):=by
 by_cases h:i<56
 . rw[decide_eq_true h];exact(mU h).1
 . rw[decide_eq_false h];rcases e:aH (eY i)with _|_
   . rfl
   . exfalso;have:=(yB e).2;unfold sec eY at this;simp only[if_true]at this;unfold wrap64 at this;omega
theorem MO {s i:Nat} (hs:s<U64) (hi:i<64) (hb:s.testBit i=true):eT s (dW i)=(decide (i%8<7)&&s.testBit (i+1)):=by
 unfold eT;rw[Ns hi];by_cases h:i%8<7
 . obtain⟨a,b,c⟩:=mR hi h;rw[xL hs a,b,c,hb];simp
 . rw[decide_eq_false h];rfl
theorem MP {s i:Nat} (hs:s<U64) (hi:i<64) (hb:s.testBit i=true):eT s (eY i)=(decide (i<56)&&s.testBit (i+8)):=by
 unfold eT;rw[Nt hi];by_cases h:i<56
 . obtain⟨a,b,c⟩:=mU h;rw[xL hs a,b,c,hb];simp
 . rw[decide_eq_false h];rfl
theorem Eb {s i : Nat} {d : Dm} (hs : s < U64) (hl : pI s i) (hd : aH d = true) (hI : dM d = i) : gV (dN s (aK d)) = tl (64 - (i + 1)) (i + 1) (fun j => s.testBit j && !decide (j = fU d)) := by
 have hi:=hl.1;unfold gV;rw[show 64=(i+1)+(64-(i+1)) by omega,Bj (i+1) (64-(i+1)) 0,zero_add]
 . rw [show i + 1 + (64 - (i + 1)) - (i + 1) = 64 - (i + 1) by omega];refine lJ _ _ _ _ fun j hj=> ?_
   rw[kP (eB hd) hs,aR hd,hI,decide_eq_false (show¬i=j by omega),Bool.false_or];congr 2
   exact decide_eq_decide.2 ⟨fun e=>e.symm,fun e=>e.symm⟩
 . intro j _ hj;rw[kP (eB hd) hs,aR hd,hI];by_cases e:j=i
   . rw[e];simp
   . rw[hl.2.2 j (by omega)];rfl
theorem Ec {s i:Nat} (hs:s<U64) (hl:pI s i):gV s=
    (if eT s (dW i)then(gV (dN s (aK (dW i)))).map (dW i::·)else[])++(if eT s (eY i)then(gV (dN s (aK (eY i)))).map (eY i::·)else[]):=by
 have hi:=hl.1
 have e0:gV s=tl (64-i) i s.testBit:=by
  unfold gV;rw[show 64=i+(64-i) by omega,Bj i (64-i) 0 s.testBit (fun j _ hj=>hl.2.2 j (by omega)),zero_add,show i+(64-i)-i=64-i by omega]
 rw[e0,show 64-i=(64-(i+1))+1 by omega,pM,if_pos hl.2.1,MO hs hi hl.2.1,MP hs hi hl.2.1];congr 1
 . by_cases h:(decide (i%8<7)&&s.testBit (i+1))=true
   . rw[if_pos h,if_pos h];rw[and_eq_true,decide_eq_true_iff]at h;obtain⟨a,b,c⟩:=mR hi h.1;rw[Eb hs hl a b,c]
   . rw[if_neg h,if_neg h]
 . by_cases h:(decide (i<56)&&s.testBit (i+8))=true
   . rw[if_pos h,if_pos h];rw[and_eq_true,decide_eq_true_iff]at h;obtain⟨a,b,c⟩:=mU h.1;rw[Eb hs hl a b,c]
   . rw[if_neg h,if_neg h]
theorem yJ:gV 0=[[]]:=by
 unfold gV;rw[show 64=64+0 from rfl,Bj 64 0 0 _ (fun j _ _=>Nat.zero_testBit j)];rfl
def firstT (s:Nat):List Dm:=(gV s).headD []
def wP (s i:Nat):Bool:=eT s (dW i)&&decide (gU (dN s (aK (dW i)))≠0)
def Af (s i:Nat):Dm:=if wP s i then dW i else eY i
theorem Ii {s i:Nat} (hs:s<U64) (hl:pI s i) (hc:gU s≠0):eT s (Af s i)=true/\gU (dN s (aK (Af s i)))≠0/\firstT s=Af s i::firstT (dN s (aK (Af s i))):=by
 have hne:gV s≠[]:=fun e=>hc ((sZ hs).2 e)
 have hst:=Ec hs hl;have hz:=fun(d:Dm)=>sZ (s:=dN s (aK d)) (eQ hs)
 have hh:∀(d:Dm) (L:List (List Dm)),L≠[]->((L.map (d::·)).headD [])=d::L.headD []:=by
  intro d L hL;cases L with
  |nil=>exact absurd rfl hL
  |cons a r=>rfl
 unfold Af;rcases hg:wP s i with _|_
 . rw [if_neg (by simp)]
   have h1:(if eT s (dW i)then(gV (dN s (aK (dW i)))).map (dW i::·)else[])=[]:=by
    unfold wP at hg;rw[Bool.and_eq_false_iff]at hg;rcases hg with q|q
    . rw[q];rfl
    . have : gU (dN s (aK (dW i))) = 0 := by simpa using q
      rw[(hz (dW i)).1 this];split<;>rfl
   rw[h1,List.nil_append]at hst
   have h2:eT s (eY i)=true:=by
    rcases q:eT s (eY i)with _|_
    . rw[q]at hst;exact absurd hst hne
    . rfl
   rw[if_pos h2]at hst
   have h3:gV (dN s (aK (eY i)))≠[]:=by
    intro e;rw[e]at hst;exact hne hst
   refine⟨h2,fun e=>h3 ((hz _).1 e),?_⟩;unfold firstT;rw[hst,hh _ _ h3]
 . rw[if_pos rfl];unfold wP at hg;rw[and_eq_true,decide_eq_true_iff]at hg;have h3:gV (dN s (aK (dW i)))≠[]:=fun e=>hg.2 ((hz _).2 e)
   refine⟨hg.1,hg.2,?_⟩;unfold firstT;rw[hst,if_pos hg.1];generalize (if eT s (eY i)then(gV (dN s (aK (eY i)))).map (eY i::·)else[])=M
   cases hL:gV (dN s (aK (dW i)))with
   |nil=>exact absurd hL h3
   |cons a r=>rfl
theorem FN:firstT 0=[]:=by unfold firstT;rw[yJ];rfl
theorem Bl (s:Nat):(firstT s).length<=64:=by
 unfold firstT;cases h:gV s with
 |nil=>simp
 |cons a r=>exact Ak 64 0 _ a (by unfold gV at h;rw[h];exact mem_cons_self ..)
theorem Ij {s:Nat} (hs:s<U64) (hc:gU s≠0):firstT s∈gV s:=by
 unfold firstT;cases h:gV s with
 |nil=>exact absurd ((sZ hs).2 h) hc
 |cons a r=>exact mem_cons_self ..
theorem vT {s i:Nat} (hl:pI s i):∃r,dU s 64=gI i::r:=by
 have hsp:range 64=range i++(range (64-i)).map (i+·):=by
  rw[show 64=i+(64-i) by have:=hl.1;omega,List.range_add,show i+(64-i)-i=64-i by omega]
 unfold dU;rw[hsp,List.filter_append,List.map_append]
 have h1 : (range i).filter (fun i => s.testBit i) = [] := by
  rw[List.filter_eq_nil_iff];intro j hj;rw[hl.2.2 j (List.mem_range.1 hj)];simp
 rw[h1,List.map_nil,List.nil_append];obtain⟨m,hm⟩:∃m,64-i=m+1:=⟨63-i,by have:=hl.1;omega⟩;rw[hm,List.range_succ_eq_map,map_cons,List.filter_cons,Nat.add_zero,if_pos hl.2.1,map_cons];exact⟨_,rfl⟩
theorem Ik:dU 0 64=[]:=by
 unfold dU;rw[List.filter_eq_nil_iff.2 (fun j _=>by rw[Nat.zero_testBit];simp)];rfl
theorem sJ {s:Nat} (hs:s<U64):(dU s 64).length=0↔s=0:=by
 constructor
 . intro h;rcases Nat.eq_zero_or_pos s with q|q
   . exact q
   . obtain ⟨i, hl⟩ := xA hs (by omega);obtain⟨r,hr⟩:=vT hl;rw[hr]at h;cases h
 . intro h;rw[h,Ik];rfl
theorem Gj {d:Dm} (h:aH d=true):dM d<64/\fU d<64:=by
 have:=dC h;have a:=(dG this.1).2;have b:=(dG this.2).2;unfold dM fU;omega
theorem tF {s:Nat} {d:Dm} (hs:s<U64) (h:aH d=true):gZ (gZ s (dM d)) (fU d)=dN s (aK d):=by
 obtain⟨h1,h2⟩:=Gj h;have a:gZ s (dM d)<U64:=eQ hs;refine Nat.eq_of_testBit_eq fun j=> ?_
 rw[jX a h2,jX hs h1,kP (eB h) hs,aR h,Bool.not_or,Bool.and_assoc]
end Go.Proofs.YtljfoohaapckeaaGreatDoor
