/- Prices of dominoes and floors: the walks and the law FnExactFloorPrice. No conditions. Prices of the reference. FloorPrice and FnExactFloorPrice. No conditions. The profile over the cells of a set: the states' numbers from cell to cell. Plain laws. The count by profiles is the number of tilings. Plain laws. The tilings that are listed are all tilings. Plain laws. Counts of a set, of a region, with a domino; the first tiling, step by step. Plain laws. Forced dominoes and the region without them: plain laws. The cheapest price by profiles is the least price of a tiling. Plain laws.. Conditions, where there are any, stand in the statements. -/
import Derived.Test.YtljfoohaapckeaaGreatDoorZK2
import Derived.Test.YtljfoohaapckeaaGreatDoorZK4
import Derived.Test.YtljfoohaapckeaaGreatDoorZK5
open _root_.List (range replicate range_zero foldl_nil length_replicate getD_eq_getElem?_getD getElem?_eq_getElem getElem?_set_ne getElem?_replicate mem_cons_self map_cons)
open _root_.Nat (le_refl testBit_or zero_add)
open _root_.Bool (and_eq_true or_eq_true false_eq_true)
namespace Go.Proofs.YtljfoohaapckeaaGreatDoor
open Go.ChangeShapes Go.WideShapes Go.ChangeAt Go.RowKit
set_option linter.unusedVariables false
set_option maxHeartbeats 4000000
set_option maxRecDepth 100000
def jK (s i:Nat):Bool:=decide (i<56)&&s.testBit (i+8)
def jL (s i:Nat):Bool:=decide (i%8<7)&&s.testBit (i+1)
def fI (i:Nat):Dm:=(((i%8:Nat):Int),((i/8:Nat):Int),true)
def eO (i:Nat):Dm:=(((i%8:Nat):Int),((i/8:Nat):Int),false)
def fQ (no:Int) (add:Int->Int->Int) (nx:List Int) (k:Nat) (n:Int):List Int:=nx.set k (if nx.getD k 0=no then n else add (nx.getD k 0) n)
def qY (s:Nat) (no:Int) (add:Int->Int->Int) (wt:Int->Dm->Int) (i:Nat) (nx:List Int) (k:Nat) (n:Int):List Int:=if jK s i then fQ no add nx (k|||2^(i%8)) (wt n (fI i))else nx
def xM (s:Nat) (no:Int) (add:Int->Int->Int) (wt:Int->Dm->Int) (i:Nat) (nx:List Int) (k:Nat) (n:Int):List Int:=if jL s i&& !k.testBit (i%8+1)then fQ no add nx (k|||2^(i%8+1)) (wt n (eO i))else nx
def jD (s:Nat) (no:Int) (add:Int->Int->Int) (wt:Int->Dm->Int) (i:Nat) (nx:List Int) (k:Nat) (n:Int):List Int:=
 if n=no then nx
 else if s.testBit i then
   if k.testBit (i%8)then fQ no add nx (k-2^(i%8)) n
   else xM s no add wt i (qY s no add wt i nx k n) k n
 else if k.testBit (i%8)then nx else fQ no add nx k n
def lN (s:Nat) (no:Int) (add:Int->Int->Int) (wt:Int->Dm->Int) (now:List Int) (i K:Nat):List Int:=(range K).foldl (fun nx k=>jD s no add wt i nx k (now.getD k 0)) (replicate 256 no)
def dp (s:Nat) (no:Int) (add:Int->Int->Int) (wt:Int->Dm->Int) (st:Int):Nat->List Int
  |0=>(replicate 256 no).set 0 st
  |i+1=>lN s no add wt (dp s no add wt st i) i 256
section
variable {s : Nat} {no : Int} {add : Int -> Int -> Int} {wt : Int -> Dm -> Int} {st : Int}
theorem rH (nx:List Int) (k:Nat) (n:Int):(fQ no add nx k n).length=nx.length:=by simp[fQ]
theorem rW (i:Nat) (nx:List Int) (k:Nat) (n:Int):(qY s no add wt i nx k n).length=nx.length:=by unfold qY;split<;>simp[rH]
theorem NF (i:Nat) (nx:List Int) (k:Nat) (n:Int):(xM s no add wt i nx k n).length=nx.length:=by unfold xM;split<;>simp[rH]
theorem MB (i:Nat) (nx:List Int) (k:Nat) (n:Int):(jD s no add wt i nx k n).length=nx.length:=by
 unfold jD;split
 . rfl
 . split
   . split
     . exact rH _ _ _
     . rw[NF,rW]
   . split
     . rfl
     . exact rH _ _ _
theorem dJ (now:List Int) (i K:Nat):lN s no add wt now i (K+1)=jD s no add wt i (lN s no add wt now i K) K (now.getD K 0):=by
 unfold lN;rw[List.range_succ,List.foldl_append];rfl
theorem lH (now:List Int) (i:Nat):∀K,(lN s no add wt now i K).length=256
  |0=>by unfold lN;rw[range_zero,foldl_nil,length_replicate]
  |K+1=>by rw[dJ,MB];exact lH now i K
theorem wI:∀i,(dp s no add wt st i).length=256
  |0=>by unfold dp;rw[List.length_set,length_replicate]
  |i+1=>lH _ _ _
theorem Av {P:Nat->Int->Prop} {nx:List Int} (h:∀k v,nx[k]? =some v->P k v) {k:Nat} {n:Int} (hk:k<nx.length) (hp:nx[k]? =some no->P k n) (ha:∀v,nx[k]? =some v->v≠no->P k (add v n)):∀j v,(fQ no add nx k n)[j]? =some v->P j v:=by
 intro j v hj;unfold fQ at hj;by_cases e:k=j
 . subst e;rw[List.getElem?_set_self hk]at hj;injection hj with hj;have hg:nx.getD k 0=nx[k]:=(by rw[getD_eq_getElem?_getD,getElem?_eq_getElem hk,Option.getD_some]);rw[hg]at hj;by_cases e:nx[k]=no
   . rw[if_pos e]at hj;rw[<-hj];exact hp (by rw[getElem?_eq_getElem hk,e])
   . rw[if_neg e]at hj;rw[<-hj];exact ha _ (getElem?_eq_getElem hk) e
 . rw[getElem?_set_ne e]at hj;exact h j v hj
end
theorem nX:∀k<256,∀x<8,k.testBit x=true->k-2^x<256/\2^x<=k/\∀j<8,(k-2^x).testBit j=(k.testBit j&& !decide (x=j)):=by decide+kernel
theorem xN:∀k<256,∀x<8,k|||2^x<256:=by decide+kernel
theorem PV:∀k<256,∀x<8,(decide (k&&&2^x=0))= !k.testBit x:=by decide+kernel
def jA (i x:Nat):Nat:=if i%8<=x then i-i%8+x else i-i%8+8+x
theorem sP (i:Nat):jA i (i%8)=i:=by unfold jA;rw[if_pos (le_refl _)];omega
theorem nE (i:Nat):jA i (i%8+1)=i+1:=by unfold jA;rw[if_pos (by omega)];omega
theorem sQ (i:Nat):jA (i+1) (i%8)=i+8:=by
 unfold jA;by_cases h:i%8=7
 . rw[if_pos (by omega)];omega
 . rw[if_neg (by omega)];omega
theorem fU {i x:Nat} (hx:x<8) (h:x≠i%8):jA (i+1) x=jA i x:=by
 unfold jA;by_cases h7:i%8=7
 . rw[if_pos (by omega),if_neg (by omega)];omega
 . by_cases h2:i%8<=x
   . rw[if_pos (by omega),if_pos h2];omega
   . rw[if_neg (by omega),if_neg h2];omega
def gG (s i k:Nat):Prop:=∀x,x<8->k.testBit x=true->s.testBit (jA i x)=true
theorem Eo {s i k:Nat} (h:gG s i k) (hb:k.testBit (i%8)=true):s.testBit i=true:=by
 have:=h (i%8) (by omega) hb;rwa [sP]at this
theorem MC {s i k:Nat} (h:gG s i k) (hb:k.testBit (i%8)=false):gG s (i+1) k:=by
 intro x hx hk;have hne:x≠i%8:=fun e=>by rw[e,hb]at hk;cases hk
 rw[fU hx hne];exact h x hx hk
theorem NG {s i k:Nat} (hk8:k<256) (h:gG s i k) (hb:k.testBit (i%8)=true):gG s (i+1) (k-2^(i%8)):=by
 intro x hx hk;rw[(nX k hk8 (i%8) (by omega) hb).2.2 x hx,and_eq_true]at hk;have hne:x≠i%8:=fun e=>by rw[e]at hk;simp at hk
 rw[fU hx hne];exact h x hx hk.1
theorem PW {s i k:Nat} (h:gG s i k) (hd:jK s i=true):gG s (i+1) (k|||2^(i%8)):=by
 intro x hx hk;by_cases e:x=i%8
 . rw[e,sQ];unfold jK at hd;rw[and_eq_true]at hd;exact hd.2
 . rw[testBit_or,Nat.testBit_two_pow]at hk;have:decide (i%8=x)=false:=by simp;omega
   rw[this,Bool.or_false]at hk;rw[fU hx e];exact h x hx hk
theorem PX {s i k:Nat} (h:gG s i k) (hb:k.testBit (i%8)=false) (hd:jL s i=true):gG s (i+1) (k|||2^(i%8+1)):=by
 unfold jL at hd;rw[and_eq_true,decide_eq_true_iff]at hd;intro x hx hk;by_cases e:x=i%8+1
 . rw[e,fU (by omega) (by omega),nE];exact hd.2
 . rw[testBit_or,Nat.testBit_two_pow]at hk;have:decide (i%8+1=x)=false:=by simp;omega
   rw[this,Bool.or_false]at hk;have hne:x≠i%8:=fun e2=>by rw[e2,hb]at hk;cases hk
   rw[fU hx hne];exact h x hx hk
def tl:Nat->Nat->(Nat->Bool)->List (List Dm)
  |0,_,_=>[[]]
  | n + 1, i, S => if S i then
      (if decide (i%8<7)&&S (i+1)then(tl n (i+1) (fun j=>S j&& !decide (j=i+1))).map (eO i::·)else[])++
      (if decide (i<56)&&S (i+8)then(tl n (i+1) (fun j=>S j&& !decide (j=i+8))).map (fI i::·)else[])
   else tl n (i+1) S
theorem qZ (n i:Nat) (S:Nat->Bool):tl (n+1) i S=if S i then
      (if decide (i%8<7)&&S (i+1)then(tl n (i+1) (fun j=>S j&& !decide (j=i+1))).map (eO i::·)else[])++
      (if decide (i<56)&&S (i+8)then(tl n (i+1) (fun j=>S j&& !decide (j=i+8))).map (fI i::·)else[])
 else tl n (i+1) S:=rfl
theorem mR:∀(n i:Nat) (S T:Nat->Bool),(∀j,i<=j->S j=T j)->tl n i S=tl n i T
  |0,_,_,_,_=>rfl
  | n + 1, i, S, T, h => by
   rw [qZ, qZ, h i (le_refl _), h (i + 1) (by omega), h (i + 8) (by omega),
     mR n (i+1) (fun j=>S j&& !decide (j=i+1)) (fun j=>T j&& !decide (j=i+1)) (fun j hj=>by simp only[h j (by omega)]),
     mR n (i+1) (fun j=>S j&& !decide (j=i+8)) (fun j=>T j&& !decide (j=i+8)) (fun j hj=>by simp only[h j (by omega)]),
     mR n (i+1) S T (fun j hj=>h j (by omega))]
def EM (i k j:Nat):Bool:=(range 8).any fun x=>k.testBit x&&decide (jA i x=j)
theorem qD {i k j:Nat}:EM i k j=true↔∃x,x<8/\k.testBit x=true/\jA i x=j:=by
 unfold EM;rw[List.any_eq_true];constructor
 . rintro⟨x,hx,h⟩;rw[and_eq_true,decide_eq_true_eq]at h;exact⟨x,List.mem_range.1 hx,h.1,h.2⟩
 . rintro⟨x,hx,h1,h2⟩;exact⟨x,List.mem_range.2 hx,by rw[h1,decide_eq_true h2];rfl⟩
theorem Ir {i x y:Nat} (hx:x<8) (hy:y<8) (h:jA i x=jA i y):x=y:=by
 unfold jA at h;split at h<;>split at h<;>omega
def iN (s i k j:Nat):Bool:=s.testBit j&& !EM i k j
theorem Le {i k x:Nat} (hx:x<8):EM i k (jA i x)=k.testBit x:=by
 rw[Bool.eq_iff_iff,qD];constructor
 . rintro⟨y,hy,h1,h2⟩;rw[<-Ir hy hx h2];exact h1
 . intro h;exact⟨x,hx,h,rfl⟩
theorem J7 {i k:Nat}:EM i k (i+8)=false:=by
 rcases q:EM i k (i+8)with _|_
 . rfl
 . obtain⟨x,hx,_,h⟩:=qD.1 q;unfold jA at h;split at h<;>omega
theorem Aw {i k k' j:Nat} (hj:i+1<=j) (h:∀x,x<8->x≠i%8->k'.testBit x=k.testBit x):EM (i+1) k' j=(EM i k j||(k'.testBit (i%8)&&decide (i+8=j))):=by
 rw[Bool.eq_iff_iff,or_eq_true,and_eq_true,decide_eq_true_eq,qD,qD];constructor
 . rintro⟨x,hx,h1,h2⟩;by_cases e:x=i%8
   . subst e;rw[sQ]at h2;exact .inr ⟨h1,h2⟩
   . rw[fU hx e]at h2;rw[h x hx e]at h1;exact .inl ⟨x,hx,h1,h2⟩
 . rintro(⟨x,hx,h1,h2⟩|⟨h1,h2⟩)
   . have e : x ≠ i % 8 := fun e => by subst e; rw [sP] at h2; omega
     exact⟨x,hx,by rw[h x hx e];exact h1,by rw[fU hx e];exact h2⟩
   . exact⟨i%8,by omega,h1,by rw[sQ];exact h2⟩
def nOf (s i k:Nat):Int:=((tl (64-i) i (iN s i k)).length:Nat)
def gives (s i k:Nat):Int:=
 if s.testBit i then
   if k.testBit (i%8)then nOf s (i+1) (k-2^(i%8))
   else(if jK s i then nOf s (i+1) (k|||2^(i%8))else 0)+(if jL s i&& !k.testBit (i%8+1)then nOf s (i+1) (k|||2^(i%8+1))else 0)
 else if k.testBit (i%8)then 0 else nOf s (i+1) k
theorem zQ (k x j:Nat):(k|||2^x).testBit j=(k.testBit j||decide (x=j)):=by rw[testBit_or,Nat.testBit_two_pow]
theorem NH {s i k:Nat} (hi:i<64) (hk:k<256) (ho:gG s i k):gives s i k=nOf s i k:=by
 have hself:EM i k i=k.testBit (i%8):=by
  have:=Le (i:=i) (k:=k) (x:=i%8) (by omega);rwa [sP]at this
 have h64:64-i=(64-(i+1))+1:=(by omega);unfold gives;conv=>rhs;unfold nOf;rw[h64,qZ]
 rcases hs:s.testBit i with _|_
 . have hS : iN s i k i = false := by unfold iN; rw [hs]; rfl
   rw[hS];simp only[false_eq_true,if_false];rcases hb:k.testBit (i%8)with _|_
   . simp only[false_eq_true,if_false];unfold nOf;rw[mR _ (i+1) (iN s (i+1) k) (iN s i k) (fun j hj=>by unfold iN;rw[Aw hj (fun _ _ _=>rfl),hb];simp)]
   . have:=Eo ho hb;rw[hs]at this;cases this
 . simp only[if_true];rcases hb:k.testBit (i%8)with _|_
   . have hS : iN s i k i = true := by unfold iN; rw [hs, hself, hb]; rfl
     rw[hS];simp only[false_eq_true,if_false,if_true,List.length_append];have hdn:(decide (i<56)&&iN s i k (i+8))=jK s i:=by unfold iN jK;rw[J7];simp
     rw[hdn]
     have hrt:(decide (i%8<7)&&iN s i k (i+1))=(jL s i&& !k.testBit (i%8+1)):=by
      unfold jL iN;by_cases h7:i%8<7
      . have := Le (i := i) (k := k) (x := i % 8 + 1) (by omega);rw[nE]at this;rw[this,Bool.and_assoc]
      . simp[h7]
     rw[hrt]
     have ed : jK s i = true -> nOf s (i + 1) (k ||| 2 ^ (i % 8)) = ((tl (64 - (i + 1)) (i + 1) (fun j => iN s i k j && !decide (j = i + 8))).length : Nat) := fun _ => by
      unfold nOf
      rw [mR _ (i + 1) _ (fun j => iN s i k j && !decide (j = i + 8)) (fun j hj => by
       unfold iN;rw[Aw (k:=k) hj (fun x hx hne=>by rw[zQ];simp;omega),zQ];simp[Bool.and_assoc,eq_comm])]
     have er : (jL s i && !k.testBit (i % 8 + 1)) = true -> nOf s (i + 1) (k ||| 2 ^ (i % 8 + 1)) = ((tl (64 - (i + 1)) (i + 1) (fun j => iN s i k j && !decide (j = i + 1))).length : Nat) := fun hr => by
      have h7:i%8<7:=by
       rw[and_eq_true]at hr;have:=hr.1;unfold jL at this;rw[and_eq_true,decide_eq_true_iff]at this;exact this.1
      unfold nOf
      rw [mR _ (i + 1) _ (fun j => iN s i k j && !decide (j = i + 1)) (fun j hj => by
       unfold iN
       have e1:EM (i+1) (k|||2^(i%8+1)) j=(EM i k j||decide (j=i+1)):=by
        rw[Bool.eq_iff_iff,or_eq_true,decide_eq_true_eq,qD,qD];constructor
        . rintro⟨x,hx,h1,h2⟩;rw[zQ,or_eq_true,decide_eq_true_eq]at h1;by_cases e:x=i%8
          . subst e;rcases h1 with h1|h1
            . rw[hb]at h1;cases h1
            . omega
          . rw[fU hx e]at h2;rcases h1 with h1|h1
            . exact .inl ⟨x,hx,h1,h2⟩
            . subst h1;rw[nE]at h2;exact .inr h2.symm
        . rintro(⟨x,hx,h1,h2⟩|h2)
          . have e : x ≠ i % 8 := fun e => by subst e; rw [hb] at h1; cases h1
            exact⟨x,hx,by rw[zQ,h1];rfl,by rw[fU hx e];exact h2⟩
          . refine ⟨i % 8 + 1, by omega, by rw [zQ]; simp, ?_⟩;rw[fU (by omega) (by omega),nE];exact h2.symm
       rw[e1,Bool.not_or,Bool.and_assoc])]
     rcases hd:jK s i with _|_<;>rcases hr:(jL s i&& !k.testBit (i%8+1))with _|_
     . simp
     . simp[er hr]
     . simp[ed hd]
     . simp[ed hd,er hr];omega
   . have hS : iN s i k i = false := by unfold iN; rw [hself, hb]; simp
     rw[hS];simp only[false_eq_true,if_false,if_true];unfold nOf
     rw [mR _ (i + 1) (iN s (i + 1) (k - 2 ^ (i % 8))) (iN s i k) (fun j hj => by
      have hsb:=(nX k hk (i%8) (by omega) hb).2.2;unfold iN;rw[Aw (k:=k) hj (fun x hx hne=>by rw[hsb x hx];simp;omega),hsb _ (by omega)];simp)]
def kW (f:Nat->Int) (l:List Int):Nat->Int
  |0=>0
  |K+1=>kW f l K+l.getD K 0*f K
theorem jF (f:Nat->Int) (l:List Int) (K:Nat):kW f l (K+1)=kW f l K+l.getD K 0*f K:=rfl
theorem yQ (f:Nat->Int) (l:List Int) {j:Nat} (hj:j<l.length) (v:Int):∀K,kW f (l.set j v) K=kW f l K+if j<K then(v-l.getD j 0)*f j else 0
  |0=>by simp[kW]
  | K + 1 => by
   rw[jF,jF,yQ f l hj v K];by_cases e:j=K
   . subst e;have h1:(l.set j v).getD j 0=v:=by rw[getD_eq_getElem?_getD,List.getElem?_set_self hj];rfl
     rw[h1,if_neg (by omega),if_pos (by omega),Int.sub_mul];omega
   . have h1 : (l.set j v).getD K 0 = l.getD K 0 := by rw [getD_eq_getElem?_getD, getElem?_set_ne e, getD_eq_getElem?_getD]
     rw[h1];by_cases h:j<K
     . rw[if_pos h,if_pos (by omega)];omega
     . rw[if_neg h,if_neg (by omega)];omega
theorem rJ (f:Nat->Int) (l:List Int):∀K,(∀k,k<K->l.getD k 0=0∨f k=0)->kW f l K=0
  |0,_=>rfl
  | K + 1, h => by
   rw[jF,rJ f l K (fun k hk=>h k (by omega))];rcases h K (by omega)with e|e<;>rw[e]<;>simp
theorem Db {f g:Nat->Int} (l:List Int):∀K,(∀k,k<K->l.getD k 0=0∨f k=g k)->kW f l K=kW g l K
  |0,_=>rfl
  | K + 1, h => by
   rw[jF,jF,Db l K (fun k hk=>h k (by omega))];rcases h K (by omega)with e|e
   . rw[e];simp
   . rw[e]
theorem vM (f : Nat -> Int) {nx : List Int} (hl : nx.length = 256) {k : Nat} (hk : k < 256) (n : Int) : kW f (fQ 0 (fun a b => a + b) nx k n) 256 = kW f nx 256 + n * f k := by
 unfold fQ;rw[yQ f nx (by omega),if_pos hk];by_cases h:nx.getD k 0=0
 . rw[if_pos h,h];simp
 . rw[if_neg h];congr 1;congr 1;show nx.getD k 0+n-nx.getD k 0=n;omega
def bZ (s:Nat):Nat->List Int:=dp s 0 (fun a b=>a+b) (fun n _=>n) 1
theorem NI {s i k : Nat} {nx : List Int} {n : Int} (hl : nx.length = 256) (hk : k < 256) : kW (nOf s (i + 1)) (jD s 0 (fun a b => a + b) (fun n _ => n) i nx k n) 256 = kW (nOf s (i + 1)) nx 256 + n * gives s i k := by
 unfold jD gives;by_cases h0:n=0
 . rw[if_pos h0,h0];simp
 . rw[if_neg h0];rcases hs:s.testBit i with _|_
   . simp only[false_eq_true,if_false];rcases hb:k.testBit (i%8)with _|_
     . simp only[false_eq_true,if_false];exact vM _ hl hk n
     . simp
   . simp only[if_true];rcases hb:k.testBit (i%8)with _|_
     . simp only[false_eq_true,if_false]
       have hd : kW (nOf s (i + 1)) (qY s 0 (fun a b => a + b) (fun n _ => n) i nx k n) 256 = kW (nOf s (i + 1)) nx 256 + n * (if jK s i then nOf s (i + 1) (k ||| 2 ^ (i % 8)) else 0) := by
        unfold qY;rcases q:jK s i with _|_
        . simp
        . simp only[if_true];exact vM _ hl (xN k hk _ (by omega)) n
       have hr : kW (nOf s (i + 1)) (xM s 0 (fun a b => a + b) (fun n _ => n) i (qY s 0 (fun a b => a + b) (fun n _ => n) i nx k n) k n) 256 = kW (nOf s (i + 1)) (qY s 0 (fun a b => a + b) (fun n _ => n) i nx k n) 256 + n * (if jL s i && !k.testBit (i % 8 + 1) then nOf s (i + 1) (k ||| 2 ^ (i % 8 + 1)) else 0) := by
        unfold xM;rcases q:(jL s i&& !k.testBit (i%8+1))with _|_
        . simp
        . have h7:i%8<7:=by
           rw[and_eq_true]at q;have:=q.1;unfold jL at this;rw[and_eq_true,decide_eq_true_iff]at this;exact this.1
          simp only[if_true];exact vM _ (by rw[rW];exact hl) (xN k hk _ (by omega)) n
       rw[hr,hd,Int.mul_add,Int.add_assoc]
     . simp only[if_true];exact vM _ hl (nX k hk _ (by omega) hb).1 n
theorem Ja {s i : Nat} (now : List Int) : ∀ K, K <= 256 -> kW (nOf s (i + 1)) (lN s 0 (fun a b => a + b) (fun n _ => n) now i K) 256 = kW (gives s i) now K
  | 0, _ => by
   rw[show kW (gives s i) now 0=0 from rfl];refine rJ _ _ _ fun k hk=> .inl ?_
   simp only[lN,range_zero,foldl_nil];rw[getD_eq_getElem?_getD,getElem?_replicate,if_pos hk];rfl
  | K + 1, hK => by
   rw[dJ,NI (lH _ _ _) (by omega),Ja now K (by omega),jF]
theorem G7 {s i k : Nat} {nx : List Int} {n : Int} (hl : nx.length = 256) (h : ∀ k v, nx[k]? = some v -> v = 0 ∨ gG s i k) (hk : k < 256) (ho : gG s i k) : ∀ j v, (fQ 0 (fun a b => a + b) nx k n)[j]? = some v -> v = 0 ∨ gG s i j :=
 Av h (by omega) (fun _=> .inr ho) (fun v hv hne=> .inr ho)
theorem Re {s i k : Nat} {nx : List Int} {n : Int} (hl : nx.length = 256) (h : ∀ k v, nx[k]? = some v -> v = 0 ∨ gG s (i + 1) k) (hk : k < 256) (hn : n = 0 ∨ gG s i k) : ∀ j v, (jD s 0 (fun a b => a + b) (fun n _ => n) i nx k n)[j]? = some v -> v = 0 ∨ gG s (i + 1) j := by
 unfold jD;by_cases e:n=0
 . rw[if_pos e];exact h
 . rw[if_neg e];have ho:=hn.resolve_left e;rcases hs:s.testBit i with _|_
   . rw [if_neg (by simp)];rcases hb:k.testBit (i%8)with _|_
     . rw[if_neg (by simp)];exact G7 hl h hk (MC ho hb)
     . rw[if_pos rfl];exact h
   . rw[if_pos rfl];rcases hb:k.testBit (i%8)with _|_
     . rw [if_neg (by simp)]
       have hdn : ∀ j v, (qY s 0 (fun a b => a + b) (fun n _ => n) i nx k n)[j]? = some v -> v = 0 ∨ gG s (i + 1) j := by
        unfold qY;rcases hd:jK s i with _|_
        . rw[if_neg (by simp)];exact h
        . rw[if_pos rfl];exact G7 hl h (xN k hk _ (by omega)) (PW ho hd)
       unfold xM;rcases hr:(jL s i&& !k.testBit (i%8+1))with _|_
       . rw[if_neg (by simp)];exact hdn
       . rw[if_pos rfl];rw[and_eq_true]at hr;have hx:i%8<7:=by have:=hr.1;unfold jL at this;rw[and_eq_true,decide_eq_true_iff]at this;exact this.1
         exact G7 (by rw[rW];exact hl) hdn (xN k hk _ (by omega)) (PX ho hb hr.1)
     . rw[if_pos rfl];exact G7 hl h (nX k hk _ (by omega) hb).1 (NG hk ho hb)
theorem Pd {s i : Nat} {now : List Int} (hn : ∀ k v, now[k]? = some v -> v = 0 ∨ gG s i k) (hl : now.length = 256) : ∀ K, K <= 256 -> ∀ j v, (lN s 0 (fun a b => a + b) (fun n _ => n) now i K)[j]? = some v -> v = 0 ∨ gG s (i + 1) j
  | 0, _ => by
   intro j v hj;simp only[lN,range_zero,foldl_nil]at hj;rw[getElem?_replicate]at hj;split at hj
   . injection hj with hj;exact .inl hj.symm
   . cases hj
  | K + 1, hK => by
   rw[dJ];refine Re (lH _ _ _) (Pd hn hl K (by omega)) (by omega) ?_;rw[getD_eq_getElem?_getD,getElem?_eq_getElem (by omega),Option.getD_some];exact hn K _ (getElem?_eq_getElem (by omega))
theorem PG (s:Nat):∀i,∀k v,(bZ s i)[k]? =some v->v=0∨gG s i k
  | 0 => by
   intro k v hk;unfold bZ dp at hk;by_cases e:0=k
   . subst e;exact .inr (fun x _ h=>by simp at h)
   . rw[getElem?_set_ne e,getElem?_replicate]at hk;split at hk
     . injection hk with hk;exact .inl hk.symm
     . cases hk
  |i+1=>fun k v hk=>Pd (PG s i) (wI i) 256 (le_refl _) k v hk
theorem Lf (s i k:Nat) (hk:k<256):(bZ s i).getD k 0=0∨gG s i k:=by
 have hl:k<(bZ s i).length:=by unfold bZ;rw[wI];exact hk
 rw[getD_eq_getElem?_getD,getElem?_eq_getElem hl,Option.getD_some];exact PG s i k _ (getElem?_eq_getElem hl)
theorem FC (s:Nat):∀i,i<=64->kW (nOf s i) (bZ s i) 256=((tl 64 0 s.testBit).length:Nat)
  | 0, _ => by
   have h0:bZ s 0=(replicate 256 (0:Int)).set 0 1:=rfl;rw[h0,yQ _ _ (by rw[length_replicate];decide),if_pos (by omega),rJ _ _ _ (fun k hk=> .inl (by rw[getD_eq_getElem?_getD,getElem?_replicate,if_pos hk];rfl))];have h1:(replicate 256 (0:Int)).getD 0 0=0:=by rw[getD_eq_getElem?_getD,getElem?_replicate,if_pos (by decide)];rfl
   rw[h1];unfold nOf
   rw [mR 64 0 (iN s 0 0) s.testBit (fun j _ => by
    unfold iN
    have:EM 0 0 j=false:=by
     rcases q:EM 0 0 j with _|_
     . rfl
     . obtain⟨x,_,h,_⟩:=qD.1 q;simp at h
    rw[this];simp)]
   simp
  | i + 1, hi => by
   have h1:bZ s (i+1)=lN s 0 (fun a b=>a+b) (fun n _=>n) (bZ s i) i 256:=rfl;rw[h1,Ja _ 256 (le_refl _),<-FC s i (by omega)];refine Db _ _ fun k hk=> ?_
   rcases Lf s i k hk with h|h
   . exact .inl h
   . exact .inr (NH (by omega) hk h)
theorem NJ {s:Nat} (hs:s<U64):(bZ s 64).getD 0 0=((tl 64 0 s.testBit).length:Nat):=by
 rw[<-FC s 64 (le_refl _)];have h1:∀k,nOf s 64 k=1:=fun k=>rfl
 have h2 : ∀ k, k < 256 -> k ≠ 0 -> (bZ s 64).getD k 0 = 0 := fun k hk hne => by
  rcases Lf s 64 k hk with h|h
  . exact h
  . exfalso
    have hx:∃x,x<8/\k.testBit x=true:=by
     obtain⟨x,hx⟩:=Nat.exists_testBit_of_ne_zero hne;refine⟨x,?_,hx⟩;by_cases h8:x<8
     . exact h8
     . have : k < 2 ^ x := Nat.lt_of_lt_of_le hk (Nat.pow_le_pow_right (n := 2) (by decide) (show 8 <= x by omega));rw[Nat.testBit_lt_two_pow this]at hx;cases hx
    obtain⟨x,hx8,hx⟩:=hx;have:=h x hx8 hx;rw[Nat.testBit_lt_two_pow]at this
    . cases this
    . unfold U64 at hs;refine Nat.lt_of_lt_of_le hs ?_;unfold jA;have:64<=(if 64%8<=x then 64-64%8+x else 64-64%8+8+x):=by split<;>omega
      exact Nat.pow_le_pow_right (n:=2) (by decide) this
 have h3:∀K,K<=255->kW (nOf s 64) (bZ s 64) (K+1)=(bZ s 64).getD 0 0:=by
  intro K;induction K with
  |zero=>intro _;rw[jF,h1];simp[kW]
  |succ K ih=>intro hK;rw[jF,ih (by omega),h2 (K+1) (by omega) (by omega)];simp
 exact(h3 255 (le_refl _)).symm
def two (i:Nat):Int:=if i<56/\i%8<7 then 2 else 1
def capOf:Nat->Int
  |0=>1
  |i+1=>capOf i*two i
theorem yK (i:Nat):1<=two i/\two i<=2:=by unfold two;split<;>omega
theorem Lg:∀i,1<=capOf i
  |0=>by unfold capOf;omega
  | i + 1 => by
   have h1:=Lg i;have h2:=(yK i).1;show 1<=capOf i*two i
   calc (1 : Int) <= capOf i := h1
     _=capOf i*1:=by omega
     _<=capOf i*two i:=Int.mul_le_mul_of_nonneg_left h2 (by omega)
theorem Ep:∀i d,capOf i<=capOf (i+d)
  |i,0=>Int.le_refl _
  | i, d + 1 => by
   refine Int.le_trans (Ep i d) ?_;show capOf (i+d)<=capOf (i+d)*two (i+d)
   calc capOf (i + d) = capOf (i + d) * 1 := by omega
     _<=capOf (i+d)*two (i+d):=Int.mul_le_mul_of_nonneg_left (yK _).1 (by have:=Lg (i+d);omega)
theorem Pe:capOf 64=562949953421312:=by decide+kernel
theorem G8 {k : Nat} {nx : List Int} {n : Int} (hl : nx.length = 256) (h : ∀ (k : Nat) (v : Int), nx[k]? = some v -> 0 <= v) (hk : k < 256) (hn : 0 <= n) : ∀ (j : Nat) (v : Int), (fQ 0 (fun a b => a + b) nx k n)[j]? = some v -> 0 <= v :=
 Av (P:=fun _ v=>0<=v) h (by omega) (fun _=>hn) (fun v hv _=>by have:=h k v hv;show 0<=v+n;omega)
theorem Rf {s i k:Nat} {nx:List Int} {n:Int} (hl:nx.length=256) (h:∀(k:Nat) (v:Int),nx[k]? =some v->0<=v) (hk:k<256) (hn:0<=n):
 (∀(j:Nat) (v:Int),(jD s 0 (fun a b=>a+b) (fun n _=>n) i nx k n)[j]? =some v->0<=v)/\kW (fun _=>1) (jD s 0 (fun a b=>a+b) (fun n _=>n) i nx k n) 256<=kW (fun _=>1) nx 256+n*two i:=by
 have ht:=yK i
 have hn1:n<=n*two i:=by
  calc n = n * 1 := by omega
    _<=n*two i:=Int.mul_le_mul_of_nonneg_left ht.1 hn
 have hp:∀(nx:List Int) (k:Nat),nx.length=256->k<256->kW (fun _=>1) (fQ 0 (fun a b=>a+b) nx k n) 256=kW (fun _=>1) nx 256+n:=fun nx k hl hk=>by rw[vM _ hl hk];omega
 unfold jD;by_cases e:n=0
 . rw[if_pos e];exact⟨h,by rw[e];omega⟩
 . rw[if_neg e];rcases hs:s.testBit i with _|_
   . rw [if_neg (by simp)];rcases hb:k.testBit (i%8)with _|_
     . rw[if_neg (by simp)];exact⟨G8 hl h hk hn,by rw[hp nx k hl hk];omega⟩
     . rw[if_pos rfl];exact⟨h,by omega⟩
   . rw[if_pos rfl];rcases hb:k.testBit (i%8)with _|_
     . rw [if_neg (by simp)]
       have hdn : (∀ (j : Nat) (v : Int), (qY s 0 (fun a b => a + b) (fun n _ => n) i nx k n)[j]? = some v -> 0 <= v) /\ kW (fun _ => 1) (qY s 0 (fun a b => a + b) (fun n _ => n) i nx k n) 256 = kW (fun _ => 1) nx 256 + if jK s i then n else 0 := by
        unfold qY;rcases hd:jK s i with _|_
        . rw[if_neg (by simp),if_neg (by simp)];exact⟨h,by omega⟩
        . rw[if_pos rfl,if_pos rfl];exact⟨G8 hl h (xN k hk _ (by omega)) hn,hp nx _ hl (xN k hk _ (by omega))⟩
       have hdt:jK s i=true->i<56:=fun q=>by unfold jK at q;rw[and_eq_true,decide_eq_true_iff]at q;exact q.1
       unfold xM;rcases hr:(jL s i&& !k.testBit (i%8+1))with _|_
       . rw [if_neg (by simp)];refine⟨hdn.1,?_⟩;rw[hdn.2];split<;>omega
       . rw[if_pos rfl];rw[and_eq_true]at hr;have hx:i%8<7:=by have:=hr.1;unfold jL at this;rw[and_eq_true,decide_eq_true_iff]at this;exact this.1
         refine⟨G8 (by rw[rW];exact hl) hdn.1 (xN k hk _ (by omega)) hn,?_⟩;rw[hp _ _ (by rw[rW];exact hl) (xN k hk _ (by omega)),hdn.2];rcases hd:jK s i with _|_
         . rw[if_neg (by simp)];omega
         . rw[if_pos rfl];have h2:two i=2:=by unfold two;rw[if_pos ⟨hdt hd,hx⟩]
           rw[h2];omega
     . rw[if_pos rfl];exact⟨G8 hl h (nX k hk _ (by omega) hb).1 hn,by rw[hp nx _ hl (nX k hk _ (by omega) hb).1];omega⟩
theorem KR {s i:Nat} {now:List Int} (hn:∀(k:Nat) (v:Int),now[k]? =some v->0<=v) (hl:now.length=256):∀K,K<=256->
    (∀(j:Nat) (v:Int),(lN s 0 (fun a b=>a+b) (fun n _=>n) now i K)[j]? =some v->0<=v)/\kW (fun _=>1) (lN s 0 (fun a b=>a+b) (fun n _=>n) now i K) 256<=kW (fun _=>1) now K*two i
 | 0, _ => by
  refine⟨fun j v hj=> ?_,?_⟩
  . simp only[lN,range_zero,foldl_nil]at hj;rw[getElem?_replicate]at hj;split at hj
    . injection hj with hj;omega
    . cases hj
  . rw [show kW (fun _ => 1) now 0 = 0 from rfl, rJ _ _ _ (fun k hk => .inl (by
     simp only[lN,range_zero,foldl_nil];rw[getD_eq_getElem?_getD,getElem?_replicate,if_pos hk];rfl))]
    omega
 | K + 1, hK => by
  obtain⟨a,b⟩:=KR hn hl K (by omega)
  have hv:0<=now.getD K 0:=by
   rw[getD_eq_getElem?_getD,getElem?_eq_getElem (by omega),Option.getD_some];exact hn K _ (getElem?_eq_getElem (by omega))
  rw[dJ];obtain⟨c,d⟩:=Rf (s:=s) (i:=i) (k:=K) (lH now i K) a (by omega) hv;refine⟨c,Int.le_trans d ?_⟩;have e:kW (fun _=>1) now (K+1)*two i=kW (fun _=>1) now K*two i+now.getD K 0*two i:=by rw[jF,Int.add_mul];simp
  rw[e];omega
theorem PH (s : Nat) : ∀ i, (∀ (k : Nat) (v : Int), (bZ s i)[k]? = some v -> 0 <= v) /\ kW (fun _ => 1) (bZ s i) 256 <= capOf i
  | 0 => by
   have h0:bZ s 0=(replicate 256 (0:Int)).set 0 1:=rfl;refine⟨fun k v hk=> ?_,?_⟩
   . rw[h0]at hk;by_cases e:0=k
     . subst e;rw[List.getElem?_set_self (by rw[length_replicate];decide)]at hk;injection hk with hk;omega
     . rw[getElem?_set_ne e,getElem?_replicate]at hk;split at hk
       . injection hk with hk;omega
       . cases hk
   . rw [h0, yQ _ _ (by rw [length_replicate]; decide), if_pos (by omega), rJ _ _ _ (fun k hk => .inl (by rw [getD_eq_getElem?_getD, getElem?_replicate, if_pos hk]; rfl))];have h1:(replicate 256 (0:Int)).getD 0 0=0:=by rw[getD_eq_getElem?_getD,getElem?_replicate,if_pos (by decide)];rfl
     rw[h1];unfold capOf;omega
  | i + 1 => by
   obtain⟨a,b⟩:=PH s i;obtain⟨c,d⟩:=KR (s:=s) (i:=i) a (wI i) 256 (le_refl _);refine⟨c,Int.le_trans d ?_⟩;show _<=capOf i*two i;exact Int.mul_le_mul_of_nonneg_right b (by have:=(yK i).1;omega)
theorem zS {l : List Int} (hn : ∀ (k : Nat) (v : Int), l[k]? = some v -> 0 <= v) : ∀ K k, k < K -> l.getD k 0 <= kW (fun _ => 1) l K /\ 0 <= kW (fun _ => 1) l K
  |0,k,h=>by omega
  | K + 1, k, h => by
   have hg : ∀ j, 0 <= l.getD j 0 := fun j => by
    rw[getD_eq_getElem?_getD];rcases q:l[j]? with _|v
    . simp
    . exact hn j v q
   have h0 : 0 <= kW (fun _ => 1) l K := by
    cases K with
    |zero=>exact Int.le_refl _
    |succ K=>exact(zS hn (K+1) K (by omega)).2
   rw[jF];have hK:=hg K;by_cases e:k=K
   . subst e;omega
   . have:=(zS hn K k (by omega)).1;omega
theorem G9 (s i k:Nat) (hi:i<=64) (hk:k<256):0<=(bZ s i).getD k 0/\(bZ s i).getD k 0<=562949953421312:=by
 obtain⟨a,b⟩:=PH s i;have h1:=(zS a 256 k hk).1;have h2:=Ep i (64-i);rw[show i+(64-i)=64 by omega,Pe]at h2;refine⟨?_,by omega⟩;rw[getD_eq_getElem?_getD];rcases q:(bZ s i)[k]? with _|v
 . simp
 . exact a k v q
theorem PY (x y:Nat) (hx:x<8) (hy:y<8):bQ ((x:Int),(y:Int))=true/\(dI ((x:Int),(y:Int))).toNat=8*y+x:=by
 have h:bQ ((x:Int),(y:Int))=true:=dD.2 (by simp only;omega);refine⟨h,?_⟩;rw[(dO h).1];simp only;omega
theorem qF {i:Nat} (hi:i<64) (h7:i%8<7):aJ (eO i)=true/\eY (eO i)=i/\iZ (eO i)=i+1:=by
 obtain⟨a,b⟩:=PY (i%8) (i/8) (by omega) (by omega);obtain⟨c,d⟩:=PY (i%8+1) (i/8) (by omega) (by omega)
 have hs:sec (eO i)=(((i%8+1:Nat):Int),((i/8:Nat):Int)):=by
  unfold sec eO;simp only[false_eq_true,if_false,Prod.mk.injEq,and_true];unfold wrap64;omega
 refine⟨?_,?_,?_⟩
 . unfold aJ;rw[hs,c];unfold eO;simp only[a,Bool.and_true]
 . unfold eY eO;simp only;rw[b];omega
 . unfold iZ;rw[hs,d];omega
theorem qG {i:Nat} (hi:i<56):aJ (fI i)=true/\eY (fI i)=i/\iZ (fI i)=i+8:=by
 obtain⟨a,b⟩:=PY (i%8) (i/8) (by omega) (by omega);obtain⟨c,d⟩:=PY (i%8) (i/8+1) (by omega) (by omega)
 have hs:sec (fI i)=(((i%8:Nat):Int),((i/8+1:Nat):Int)):=by
  unfold sec fI;simp only[if_true,Prod.mk.injEq,true_and];unfold wrap64;omega
 refine⟨?_,?_,?_⟩
 . unfold aJ;rw[hs,c];unfold fI;simp only[a,Bool.and_true]
 . unfold eY fI;simp only;rw[b];omega
 . unfold iZ;rw[hs,d];omega
theorem GM {d:Dm} (h:aJ d=true):eY d<64/\((d=eO (eY d)/\eY d%8<7)∨(d=fI (eY d)/\eY d<56)):=by
 have D1:=mD h;have D2:=Ao h;obtain⟨x,y,b⟩:=d;simp only at D1;obtain⟨x,rfl⟩:=Int.eq_ofNat_of_zero_le D1.1.1;obtain⟨y,rfl⟩:=Int.eq_ofNat_of_zero_le D1.2.1;have hx:x<8:=(by omega);have hy:y<8:=(by omega);have hI:eY ((x:Int),(y:Int),b)=8*y+x:=(PY x y hx hy).2;rw[hI];refine⟨by omega,?_⟩;have e1:(8*y+x)%8=x:=(by omega);have e2:(8*y+x)/8=y:=(by omega);cases b
 . left;unfold eO;rw[e1,e2];refine⟨rfl,?_⟩;have:=D2.1;unfold sec at this;simp only[false_eq_true,if_false]at this;unfold wrap64 at this;omega
 . right;unfold fI;rw[e1,e2];refine⟨rfl,?_⟩;have:=D2.2;unfold sec at this;simp only[if_true]at this;unfold wrap64 at this;omega
theorem GN {d:Dm} (h:aJ d=true):eY d<iZ d:=by
 obtain⟨hi,(⟨e,h7⟩|⟨e,h7⟩)⟩:=GM h
 . have:=(qF hi h7).2.2;rw[<-e]at this;omega
 . have:=(qG h7).2.2;rw[<-e]at this;omega
theorem Hw {d:Dm} (h:aJ d=true):2*(eY d:Int)<=aS d/\aS d<=2*(eY d:Int)+1:=by
 have h1:=(dO (dK h).1).1;have h2:=(dO (dK h).1).2;have:(eY d:Int)=d.2.1*8+d.1:=by unfold eY;rw[<-h1];omega
 unfold aS;rw[this];split<;>omega
structure Til (i:Nat) (S:Nat->Bool) (t:List Dm):Prop where
  ok:∀d∈t,aJ d=true/\i<=eY d/\S (eY d)=true/\S (iZ d)=true
  ord:t.Pairwise fun a b=>aS a<aS b
  ap:t.Pairwise Apart
  all:∀j,i<=j->j<64->S j=true->∃d∈t,eY d=j∨iZ d=j
theorem Ay {a b:Dm} (ha:aJ a=true) (hb:aJ b=true):Apart a b↔eY a≠eY b/\eY a≠iZ b/\iZ a≠eY b/\iZ a≠iZ b:=by
 unfold Apart;constructor
 . intro h;have h1:=h (eY a) (by rw[aT ha];simp);have h2:=h (iZ a) (by rw[aT ha];simp);rw[aT hb,Bool.or_eq_false_iff,decide_eq_false_iff_not,decide_eq_false_iff_not]at h1 h2;exact⟨fun e=>h1.1 e.symm,fun e=>h1.2 e.symm,fun e=>h2.1 e.symm,fun e=>h2.2 e.symm⟩
 . rintro⟨h1,h2,h3,h4⟩ j hj;rw[aT ha,or_eq_true,decide_eq_true_eq,decide_eq_true_eq]at hj;rw[aT hb,Bool.or_eq_false_iff,decide_eq_false_iff_not,decide_eq_false_iff_not];rcases hj with rfl|rfl
   . exact⟨fun e=>h1 e.symm,fun e=>h2 e.symm⟩
   . exact⟨fun e=>h3 e.symm,fun e=>h4 e.symm⟩
theorem yR {i m : Nat} {S : Nat -> Bool} {d : Dm} {t : List Dm} (hd : aJ d = true) (hI : eY d = i) (hJ : iZ d = m) (hS : S i = true) (hm : S m = true) : Til i S (d :: t) ↔ Til (i + 1) (fun j => S j && !decide (j = m)) t := by
 have hlt:=GN hd;have hdo:=Hw hd;constructor
 . intro h;have ho:=List.pairwise_cons.1 h.ord;have ha:=List.pairwise_cons.1 h.ap;refine⟨fun e he=> ?_,ho.2,ha.2,fun j h1 h2 h3=> ?_⟩
   . obtain⟨e1,e2,e3,e4⟩:=h.ok e (List.mem_cons_of_mem _ he);obtain⟨a1,a2,a3,a4⟩:=(Ay hd e1).1 (ha.1 e he);have n3:decide (eY e=m)=false:=by simp;omega
     have n4:decide (iZ e=m)=false:=by simp;omega
     exact⟨e1,by omega,by simp only[e3,n3];rfl,by simp only[e4,n4];rfl⟩
   . rw[and_eq_true,Bool.not_eq_true',decide_eq_false_iff_not]at h3;obtain⟨e,he,h4⟩:=h.all j (by omega) h2 h3.1;rcases List.mem_cons.1 he with rfl|he
     . omega
     . exact⟨e,he,h4⟩
 . intro h;refine⟨fun e he=> ?_,List.pairwise_cons.2 ⟨fun e he=> ?_,h.ord⟩,List.pairwise_cons.2 ⟨fun e he=> ?_,h.ap⟩,fun j h1 h2 h3=> ?_⟩
   . rcases List.mem_cons.1 he with rfl|he
     . exact⟨hd,by omega,by rw[hI];exact hS,by rw[hJ];exact hm⟩
     . obtain⟨e1,e2,e3,e4⟩:=h.ok e he;rw[and_eq_true]at e3 e4;exact⟨e1,by omega,e3.1,e4.1⟩
   . obtain⟨e1,e2,_,_⟩:=h.ok e he;have:=Hw e1;omega
   . obtain⟨e1,e2,e3,e4⟩:=h.ok e he;have hej:=GN e1;rw[and_eq_true,Bool.not_eq_true',decide_eq_false_iff_not]at e3 e4;exact(Ay hd e1).2 ⟨by omega,by omega,by have:=e3.2;omega,by have:=e4.2;omega⟩
   . by_cases e:j=i
     . exact⟨d,mem_cons_self ..,.inl (by omega)⟩
     . by_cases e2:j=m
       . exact⟨d,mem_cons_self ..,.inr (by omega)⟩
       . obtain ⟨f, hf, h4⟩ := h.all j (by omega) h2 (by rw [h3]; simp [e2]);exact⟨f,List.mem_cons_of_mem _ hf,h4⟩
theorem BR:∀(n i:Nat) (S:Nat->Bool) (t:List Dm),i+n=64->(t∈tl n i S↔Til i S t)
  | 0, i, S, t, hn => by
   show t∈[[]]↔_;rw[List.mem_singleton];constructor
   . rintro rfl;exact⟨by simp,List.Pairwise.nil,List.Pairwise.nil,fun j h1 h2=>by omega⟩
   . intro h;cases t with
     |nil=>rfl
     |cons d r=>
      obtain⟨a,b,_,_⟩:=h.ok d (mem_cons_self ..);have:=(GM a).1;omega
  | n + 1, i, S, t, hn => by
   rw[qZ];rcases hS:S i with _|_
   . simp only[false_eq_true,if_false];rw[BR n (i+1) S t (by omega)];constructor
     . intro h
       exact ⟨fun d hd => by obtain ⟨a, b, c, e⟩ := h.ok d hd; exact ⟨a, by omega, c, e⟩, h.ord, h.ap, fun j h1 h2 h3 => h.all j (by
        by_cases e:j=i
        . subst e;rw[hS]at h3;cases h3
        . omega) h2 h3⟩
     . intro h
       exact ⟨fun d hd => by
        obtain⟨a,b,c,e⟩:=h.ok d hd;refine⟨a,?_,c,e⟩;by_cases q:eY d=i
        . rw[q,hS]at c;cases c
        . omega,h.ord,h.ap,fun j h1 h2 h3=>h.all j (by omega) h2 h3⟩
   . simp only[if_true];rw[List.mem_append];constructor
     . rintro(h|h)
       . split at h
         . rename_i q;rw[and_eq_true,decide_eq_true_eq]at q;obtain⟨t',h1,rfl⟩:=List.mem_map.1 h;obtain⟨a,b,c⟩:=qF (i:=i) (by omega) q.1;exact(yR a b c hS q.2).2 ((BR n (i+1) _ t' (by omega)).1 h1)
         . cases h
       . split at h
         . rename_i q;rw[and_eq_true,decide_eq_true_eq]at q;obtain⟨t',h1,rfl⟩:=List.mem_map.1 h;obtain⟨a,b,c⟩:=qG q.1;exact(yR a b c hS q.2).2 ((BR n (i+1) _ t' (by omega)).1 h1)
         . cases h
     . intro h;obtain⟨d,hd,hdi⟩:=h.all i (le_refl _) (by omega) hS;obtain⟨d1,d2,d3,d4⟩:=h.ok d hd;have hlt:=GN d1;have hI:eY d=i:=(by omega);cases t with
       |nil=>cases hd
       |cons e r=>
        have he:e=d:=by
         rcases List.mem_cons.1 hd with q|q
         . exact q.symm
         . exfalso;have:=(List.pairwise_cons.1 h.ord).1 d q;obtain⟨e1,e2,_,_⟩:=h.ok e (mem_cons_self ..);have o1:=Hw e1;have o2:=Hw d1;have hei:eY e=i:=(by omega);exact((Ay e1 d1).1 ((List.pairwise_cons.1 h.ap).1 d q)).1 (by omega)
        subst he;obtain⟨_,(⟨q,h7⟩|⟨q,h7⟩)⟩:=GM d1
        . rw[hI]at q h7;obtain⟨a,b,c⟩:=qF (i:=i) (by omega) h7;rw[<-q]at a b c;left;rw[if_pos (by rw[decide_eq_true h7,<-c,d4];rfl),q];exact List.mem_map.2 ⟨r,(BR n (i+1) _ r (by omega)).2 ((yR a b c hS (by rw[<-c];exact d4)).1 h),rfl⟩
        . rw[hI]at q h7;obtain⟨a,b,c⟩:=qG h7;rw[<-q]at a b c;right;rw[if_pos (by rw[decide_eq_true h7,<-c,d4];rfl),q];exact List.mem_map.2 ⟨r,(BR n (i+1) _ r (by omega)).2 ((yR a b c hS (by rw[<-c];exact d4)).1 h),rfl⟩
def fE (s:Nat):Int:=(bZ s 64).getD 0 0
def iX (s:Nat):List (List Dm):=tl 64 0 s.testBit
def aY (rows:List Int):Int:=if bV rows then fE (setOf rows)else 0
def eT (s:Nat) (d:Dm):Bool:=aJ d&&decide (s&&&aH d=aH d)
def nY (rows:List Int) (d:Dm):Int:=if bV rows&&eT (setOf rows) d then fE (dC (setOf rows) (aH d))else 0
theorem ME (s:Nat):0<=fE s/\fE s<=562949953421312:=G9 s 64 0 (le_refl _) (by decide)
theorem rM {s:Nat} (hs:s<U64):fE s=((iX s).length:Nat):=NJ hs
theorem uY {s:Nat} (hs:s<U64):fE s=0↔iX s=[]:=by
 rw[rM hs,<-List.length_eq_zero_iff];omega
theorem J8 (rows:List Int):0<=aY rows/\aY rows<=562949953421312:=by
 unfold aY;split
 . exact ME _
 . omega
theorem Dc:∀(d n i:Nat) (S:Nat->Bool),(∀j,i<=j->j<i+d->S j=false)->tl (d+n) i S=tl n (i+d) S
  |0,n,i,S,_=>by rw[zero_add];rfl
  | d + 1, n, i, S, h => by
   rw[show d+1+n=d+n+1 by omega,qZ,h i (le_refl _) (by omega),if_neg (by simp),Dc d n (i+1) S (fun j a b=>h j (by omega) (by omega)),show i+1+d=i+(d+1) by omega]
theorem EN:∀(n i:Nat) (S:Nat->Bool) (t:List Dm),t∈tl n i S->t.length<=n
  | 0, i, S, t, h => by
   have:t=[]:=List.mem_singleton.1 h;rw[this];exact le_refl _
  | n + 1, i, S, t, h => by
   rw[qZ]at h;split at h
   . rcases List.mem_append.1 h with h|h
     . split at h
       . obtain⟨u,hu,rfl⟩:=List.mem_map.1 h;have:=EN n _ _ u hu;rw[List.length_cons];omega
       . cases h
     . split at h
       . obtain⟨u,hu,rfl⟩:=List.mem_map.1 h;have:=EN n _ _ u hu;rw[List.length_cons];omega
       . cases h
   . have:=EN n _ _ t h;omega
def qX (s i:Nat):Prop:=i<64/\s.testBit i=true/\∀j,j<i->s.testBit j=false
theorem vN {s:Nat} (hs:s<U64) (h0:s≠0):∃i,qX s i:=by
 have hex:∃i,s.testBit i=true:=Nat.exists_testBit_of_ne_zero h0
 have key:∀n,s.testBit n=true->∃i,i<=n/\s.testBit i=true/\∀j,j<i->s.testBit j=false:=by
  intro n;induction n using Nat.strongRecOn with
  |_ n ih=>
   intro hn;by_cases q:∃m,m<n/\s.testBit m=true
   . obtain⟨m,hm,hb⟩:=q;obtain⟨i,a,b,c⟩:=ih m hm hb;exact⟨i,by omega,b,c⟩
   . refine ⟨n, le_refl _, hn, fun j hj => ?_⟩;rcases e:s.testBit j with _|_
     . rfl
     . exact absurd ⟨j,hj,e⟩ q
 obtain⟨n,hn⟩:=hex;obtain⟨i,_,b,c⟩:=key n hn;refine⟨i,?_,b,c⟩;rcases Nat.lt_or_ge i 64 with q|q
 . exact q
 . exfalso;have:s<2^i:=Nat.lt_of_lt_of_le hs (by unfold U64;exact Nat.pow_le_pow_right (by decide) q);rw[Nat.testBit_lt_two_pow this]at b;cases b
theorem QQ {i:Nat} (hi:i<64):aJ (eO i)=decide (i%8<7):=by
 by_cases h:i%8<7
 . rw[decide_eq_true h];exact(qF hi h).1
 . rw[decide_eq_false h];rcases e:aJ (eO i)with _|_
   . rfl
   . exfalso;have:=(Ao e).1;unfold sec eO at this;simp only[false_eq_true,if_false]at this;unfold wrap64 at this;omega
theorem QR {i:Nat} (hi:i<64):aJ (fI i)=decide (i<56):=by
 by_cases h:i<56
 . rw[decide_eq_true h];exact(qG h).1
 . rw[decide_eq_false h];rcases e:aJ (fI i)with _|_
   . rfl
   . exfalso;have:=(Ao e).2;unfold sec fI at this;simp only[if_true]at this;unfold wrap64 at this;omega
theorem PZ {s i:Nat} (hs:s<U64) (hi:i<64) (hb:s.testBit i=true):eT s (eO i)=(decide (i%8<7)&&s.testBit (i+1)):=by
 unfold eT;rw[QQ hi];by_cases h:i%8<7
 . obtain⟨a,b,c⟩:=qF hi h;rw[wG hs a,b,c,hb];simp
 . rw[decide_eq_false h];rfl
theorem P5 {s i:Nat} (hs:s<U64) (hi:i<64) (hb:s.testBit i=true):eT s (fI i)=(decide (i<56)&&s.testBit (i+8)):=by
 unfold eT;rw[QR hi];by_cases h:i<56
 . obtain⟨a,b,c⟩:=qG h;rw[wG hs a,b,c,hb];simp
 . rw[decide_eq_false h];rfl
theorem FD {s i : Nat} {d : Dm} (hs : s < U64) (hl : qX s i) (hd : aJ d = true) (hI : eY d = i) : iX (dC s (aH d)) = tl (64 - (i + 1)) (i + 1) (fun j => s.testBit j && !decide (j = iZ d)) := by
 have hi:=hl.1;unfold iX;rw[show 64=(i+1)+(64-(i+1)) by omega,Dc (i+1) (64-(i+1)) 0,zero_add]
 . rw [show i + 1 + (64 - (i + 1)) - (i + 1) = 64 - (i + 1) by omega];refine mR _ _ _ _ fun j hj=> ?_
   rw[jW (dP hd) hs,aT hd,hI,decide_eq_false (show¬i=j by omega),Bool.false_or];congr 2
   exact decide_eq_decide.2 ⟨fun e=>e.symm,fun e=>e.symm⟩
 . intro j _ hj;rw[jW (dP hd) hs,aT hd,hI];by_cases e:j=i
   . rw[e];simp
   . rw[hl.2.2 j (by omega)];rfl
theorem FE {s i:Nat} (hs:s<U64) (hl:qX s i):iX s=
    (if eT s (eO i)then(iX (dC s (aH (eO i)))).map (eO i::·)else[])++(if eT s (fI i)then(iX (dC s (aH (fI i)))).map (fI i::·)else[]):=by
 have hi:=hl.1
 have e0:iX s=tl (64-i) i s.testBit:=by
  unfold iX;rw[show 64=i+(64-i) by omega,Dc i (64-i) 0 s.testBit (fun j _ hj=>hl.2.2 j (by omega)),zero_add,show i+(64-i)-i=64-i by omega]
 rw[e0,show 64-i=(64-(i+1))+1 by omega,qZ,if_pos hl.2.1,PZ hs hi hl.2.1,P5 hs hi hl.2.1];congr 1
 . by_cases h:(decide (i%8<7)&&s.testBit (i+1))=true
   . rw[if_pos h,if_pos h];rw[and_eq_true,decide_eq_true_iff]at h;obtain⟨a,b,c⟩:=qF hi h.1;rw[FD hs hl a b,c]
   . rw[if_neg h,if_neg h]
 . by_cases h:(decide (i<56)&&s.testBit (i+8))=true
   . rw[if_pos h,if_pos h];rw[and_eq_true,decide_eq_true_iff]at h;obtain⟨a,b,c⟩:=qG h.1;rw[FD hs hl a b,c]
   . rw[if_neg h,if_neg h]
theorem Az:iX 0=[[]]:=by
 unfold iX;rw[show 64=64+0 from rfl,Dc 64 0 0 _ (fun j _ _=>Nat.zero_testBit j)];rfl
def firstT (s:Nat):List Dm:=(iX s).headD []
def uG (s i:Nat):Bool:=eT s (eO i)&&decide (fE (dC s (aH (eO i)))≠0)
def uH (s i:Nat):Dm:=if uG s i then eO i else fI i
theorem De {s i:Nat} (hs:s<U64) (hl:qX s i) (hc:fE s≠0):eT s (uH s i)=true/\fE (dC s (aH (uH s i)))≠0/\firstT s=uH s i::firstT (dC s (aH (uH s i))):=by
 have hne:iX s≠[]:=fun e=>hc ((uY hs).2 e)
 have hst:=FE hs hl;have hz:=fun(d:Dm)=>uY (s:=dC s (aH d)) (dZ hs)
 have hh:∀(d:Dm) (L:List (List Dm)),L≠[]->((L.map (d::·)).headD [])=d::L.headD []:=by
  intro d L hL;cases L with
  |nil=>exact absurd rfl hL
  |cons a r=>rfl
 unfold uH;rcases hg:uG s i with _|_
 . rw [if_neg (by simp)]
   have h1:(if eT s (eO i)then(iX (dC s (aH (eO i)))).map (eO i::·)else[])=[]:=by
    unfold uG at hg;rw[Bool.and_eq_false_iff]at hg;rcases hg with q|q
    . rw[q];rfl
    . have : fE (dC s (aH (eO i))) = 0 := by simpa using q
      rw[(hz (eO i)).1 this];split<;>rfl
   rw[h1,List.nil_append]at hst
   have h2:eT s (fI i)=true:=by
    rcases q:eT s (fI i)with _|_
    . rw[q]at hst;exact absurd hst hne
    . rfl
   rw[if_pos h2]at hst
   have h3:iX (dC s (aH (fI i)))≠[]:=by
    intro e;rw[e]at hst;exact hne hst
   refine⟨h2,fun e=>h3 ((hz _).1 e),?_⟩;unfold firstT;rw[hst,hh _ _ h3]
 . rw[if_pos rfl];unfold uG at hg;rw[and_eq_true,decide_eq_true_iff]at hg;have h3:iX (dC s (aH (eO i)))≠[]:=fun e=>hg.2 ((hz _).2 e)
   refine⟨hg.1,hg.2,?_⟩;unfold firstT;rw[hst,if_pos hg.1];generalize (if eT s (fI i)then(iX (dC s (aH (fI i)))).map (fI i::·)else[])=M
   cases hL:iX (dC s (aH (eO i)))with
   |nil=>exact absurd hL h3
   |cons a r=>rfl
theorem Bg:firstT 0=[]:=by unfold firstT;rw[Az];rfl
theorem xO (s:Nat):(firstT s).length<=64:=by
 unfold firstT;cases h:iX s with
 |nil=>simp
 |cons a r=>exact EN 64 0 _ a (by unfold iX at h;rw[h];exact mem_cons_self ..)
theorem J9 {s:Nat} {d:Dm} (hs:s<U64) (h:eT s d=true):dC s (aH d)<s:=by
 unfold eT at h;rw[and_eq_true,decide_eq_true_iff]at h;have h1:dC s (aH d)<=s:=Nat.and_le_left;refine Nat.lt_of_le_of_ne h1 fun e=> ?_
 have hb:=(and_eq_true _ _).mp ((wG hs h.1).symm.trans (decide_eq_true h.2));have:=jW (i:=eY d) (dP h.1) hs;rw[e,aT h.1,hb.1]at this;simp at this
theorem Ka {s:Nat} (hs:s<U64) (hc:fE s≠0):firstT s∈iX s:=by
 unfold firstT;cases h:iX s with
 |nil=>exact absurd ((uY hs).2 h) hc
 |cons a r=>exact mem_cons_self ..
theorem xP {s i:Nat} (hl:qX s i):∃r,eQ s 64=iD i::r:=by
 have hsp:range 64=range i++(range (64-i)).map (i+·):=by
  rw[show 64=i+(64-i) by have:=hl.1;omega,List.range_add,show i+(64-i)-i=64-i by omega]
 unfold eQ;rw[hsp,List.filter_append,List.map_append]
 have h1 : (range i).filter (fun i => s.testBit i) = [] := by
  rw[List.filter_eq_nil_iff];intro j hj;rw[hl.2.2 j (List.mem_range.1 hj)];simp
 rw[h1,List.map_nil,List.nil_append];obtain⟨m,hm⟩:∃m,64-i=m+1:=⟨63-i,by have:=hl.1;omega⟩;rw[hm,List.range_succ_eq_map,map_cons,List.filter_cons,Nat.add_zero,if_pos hl.2.1,map_cons];exact⟨_,rfl⟩
theorem Kb:eQ 0 64=[]:=by
 unfold eQ;rw[List.filter_eq_nil_iff.2 (fun j _=>by rw[Nat.zero_testBit];simp)];rfl
theorem uM {s:Nat} (hs:s<U64):(eQ s 64).length=0↔s=0:=by
 constructor
 . intro h;rcases Nat.eq_zero_or_pos s with q|q
   . exact q
   . obtain ⟨i, hl⟩ := vN hs (by omega);obtain⟨r,hr⟩:=xP hl;rw[hr]at h;cases h
 . intro h;rw[h,Kb];rfl
theorem Jb {d:Dm} (h:aJ d=true):eY d<64/\iZ d<64:=by
 have:=dK h;have a:=(dO this.1).2;have b:=(dO this.2).2;unfold eY iZ;omega
theorem uZ {s:Nat} {d:Dm} (hs:s<U64) (h:aJ d=true):iI (iI s (eY d)) (iZ d)=dC s (aH d):=by
 obtain⟨h1,h2⟩:=Jb h;have a:iI s (eY d)<U64:=dZ hs;refine Nat.eq_of_testBit_eq fun j=> ?_
 rw[kS a h2,kS hs h1,jW (dP h) hs,aT h,Bool.not_or,Bool.and_assoc]
end Go.Proofs.YtljfoohaapckeaaGreatDoor
