/- Prices of dominoes and floors: the walks and the law FnExactFloorPrice. No conditions. Prices of the reference. FloorPrice and FnExactFloorPrice. No conditions. The profile over the cells of a set: the states' numbers from cell to cell. Plain laws. The count by profiles is the number of tilings. Plain laws. The tilings that are listed are all tilings. Plain laws. Counts of a set, of a region, with a domino; the first tiling, step by step. Plain laws. Forced dominoes and the region without them: plain laws. The cheapest price by profiles is the least price of a tiling. Plain laws.. Conditions, where there are any, stand in the statements. -/
import Derived.Test.YtljfoohaapckeaaGreatDoorCK2
import Derived.Test.YtljfoohaapckeaaGreatDoorCK4
import Derived.Test.YtljfoohaapckeaaGreatDoorCK5
open _root_.List (range replicate range_zero foldl_nil length_replicate getD_eq_getElem?_getD getElem?_eq_getElem getElem?_set_ne getElem?_replicate mem_cons_self map_cons)
open _root_.Nat (le_refl testBit_or zero_add)
open _root_.Bool (and_eq_true or_eq_true false_eq_true)
namespace Go.Proofs.YtljfoohaapckeaaGreatDoor
open Go.ChangeShapes Go.WideShapes Go.ChangeAt Go.RowKit
set_option linter.unusedVariables false
set_option maxHeartbeats 4000000
set_option maxRecDepth 100000
def jT (s i:Nat):Bool:=decide (i<56)&&s.testBit (i+8)
def jU (s i:Nat):Bool:=decide (i%8<7)&&s.testBit (i+1)
def fJ (i:Nat):Dm:=(((i%8:Nat):Int),((i/8:Nat):Int),true)
def eG (i:Nat):Dm:=(((i%8:Nat):Int),((i/8:Nat):Int),false)
def fQ (no:Int) (add:Int->Int->Int) (nx:List Int) (k:Nat) (n:Int):List Int:=nx.set k (if nx.getD k 0=no then n else add (nx.getD k 0) n)
def rU (s:Nat) (no:Int) (add:Int->Int->Int) (wt:Int->Dm->Int) (i:Nat) (nx:List Int) (k:Nat) (n:Int):List Int:=if jT s i then fQ no add nx (k|||2^(i%8)) (wt n (fJ i))else nx
def yJ (s:Nat) (no:Int) (add:Int->Int->Int) (wt:Int->Dm->Int) (i:Nat) (nx:List Int) (k:Nat) (n:Int):List Int:=if jU s i&& !k.testBit (i%8+1)then fQ no add nx (k|||2^(i%8+1)) (wt n (eG i))else nx
def jH (s:Nat) (no:Int) (add:Int->Int->Int) (wt:Int->Dm->Int) (i:Nat) (nx:List Int) (k:Nat) (n:Int):List Int:=
 if n=no then nx
 else if s.testBit i then
   if k.testBit (i%8)then fQ no add nx (k-2^(i%8)) n
   else yJ s no add wt i (rU s no add wt i nx k n) k n
 else if k.testBit (i%8)then nx else fQ no add nx k n
def mG (s:Nat) (no:Int) (add:Int->Int->Int) (wt:Int->Dm->Int) (now:List Int) (i K:Nat):List Int:=(range K).foldl (fun nx k=>jH s no add wt i nx k (now.getD k 0)) (replicate 256 no)
def dp (s:Nat) (no:Int) (add:Int->Int->Int) (wt:Int->Dm->Int) (st:Int):Nat->List Int
  |0=>(replicate 256 no).set 0 st
  |i+1=>mG s no add wt (dp s no add wt st i) i 256
section
variable {s : Nat} {no : Int} {add : Int -> Int -> Int} {wt : Int -> Dm -> Int} {st : Int}
theorem sK (nx:List Int) (k:Nat) (n:Int):(fQ no add nx k n).length=nx.length:=by simp[fQ]
theorem sW (i:Nat) (nx:List Int) (k:Nat) (n:Int):(rU s no add wt i nx k n).length=nx.length:=by unfold rU;split<;>simp[sK]
theorem Oa (i:Nat) (nx:List Int) (k:Nat) (n:Int):(yJ s no add wt i nx k n).length=nx.length:=by unfold yJ;split<;>simp[sK]
theorem MW (i:Nat) (nx:List Int) (k:Nat) (n:Int):(jH s no add wt i nx k n).length=nx.length:=by
 unfold jH;split
 . rfl
 . split
   . split
     . exact sK _ _ _
     . rw[Oa,sW]
   . split
     . rfl
     . exact sK _ _ _
theorem dI (now:List Int) (i K:Nat):mG s no add wt now i (K+1)=jH s no add wt i (mG s no add wt now i K) K (now.getD K 0):=by
 unfold mG;rw[List.range_succ,List.foldl_append];rfl
theorem lY (now:List Int) (i:Nat):∀K,(mG s no add wt now i K).length=256
  |0=>by unfold mG;rw[range_zero,foldl_nil,length_replicate]
  |K+1=>by rw[dI,MW];exact lY now i K
theorem xH:∀i,(dp s no add wt st i).length=256
  |0=>by unfold dp;rw[List.length_set,length_replicate]
  |i+1=>lY _ _ _
theorem Bd {P:Nat->Int->Prop} {nx:List Int} (h:∀k v,nx[k]? =some v->P k v) {k:Nat} {n:Int} (hk:k<nx.length) (hp:nx[k]? =some no->P k n) (ha:∀v,nx[k]? =some v->v≠no->P k (add v n)):∀j v,(fQ no add nx k n)[j]? =some v->P j v:=by
 intro j v hj;unfold fQ at hj;by_cases e:k=j
 . subst e;rw[List.getElem?_set_self hk]at hj;injection hj with hj;have hg:nx.getD k 0=nx[k]:=(by rw[getD_eq_getElem?_getD,getElem?_eq_getElem hk,Option.getD_some]);rw[hg]at hj;by_cases e:nx[k]=no
   . rw[if_pos e]at hj;rw[<-hj];exact hp (by rw[getElem?_eq_getElem hk,e])
   . rw[if_neg e]at hj;rw[<-hj];exact ha _ (getElem?_eq_getElem hk) e
 . rw[getElem?_set_ne e]at hj;exact h j v hj
end
theorem nY:∀k<256,∀x<8,k.testBit x=true->k-2^x<256/\2^x<=k/\∀j<8,(k-2^x).testBit j=(k.testBit j&& !decide (x=j)):=by decide+kernel
theorem yK:∀k<256,∀x<8,k|||2^x<256:=by decide+kernel
theorem Qv:∀k<256,∀x<8,(decide (k&&&2^x=0))= !k.testBit x:=by decide+kernel
def jD (i x:Nat):Nat:=if i%8<=x then i-i%8+x else i-i%8+8+x
theorem uB (i:Nat):jD i (i%8)=i:=by unfold jD;rw[if_pos (le_refl _)];omega
theorem nH (i:Nat):jD i (i%8+1)=i+1:=by unfold jD;rw[if_pos (by omega)];omega
theorem uC (i:Nat):jD (i+1) (i%8)=i+8:=by
 unfold jD;by_cases h:i%8=7
 . rw[if_pos (by omega)];omega
 . rw[if_neg (by omega)];omega
theorem fZ {i x:Nat} (hx:x<8) (h:x≠i%8):jD (i+1) x=jD i x:=by
 unfold jD;by_cases h7:i%8=7
 . rw[if_pos (by omega),if_neg (by omega)];omega
 . by_cases h2:i%8<=x
   . rw[if_pos (by omega),if_pos h2];omega
   . rw[if_neg (by omega),if_neg h2];omega
def gJ (s i k:Nat):Prop:=∀x,x<8->k.testBit x=true->s.testBit (jD i x)=true
theorem EH {s i k:Nat} (h:gJ s i k) (hb:k.testBit (i%8)=true):s.testBit i=true:=by
 have:=h (i%8) (by omega) hb;rwa [uB]at this
theorem MX {s i k:Nat} (h:gJ s i k) (hb:k.testBit (i%8)=false):gJ s (i+1) k:=by
 intro x hx hk;have hne:x≠i%8:=fun e=>by rw[e,hb]at hk;cases hk
 rw[fZ hx hne];exact h x hx hk
theorem Ob {s i k:Nat} (hk8:k<256) (h:gJ s i k) (hb:k.testBit (i%8)=true):gJ s (i+1) (k-2^(i%8)):=by
 intro x hx hk;rw[(nY k hk8 (i%8) (by omega) hb).2.2 x hx,and_eq_true]at hk;have hne:x≠i%8:=fun e=>by rw[e]at hk;simp at hk
 rw[fZ hx hne];exact h x hx hk.1
theorem Qw {s i k:Nat} (h:gJ s i k) (hd:jT s i=true):gJ s (i+1) (k|||2^(i%8)):=by
 intro x hx hk;by_cases e:x=i%8
 . rw[e,uC];unfold jT at hd;rw[and_eq_true]at hd;exact hd.2
 . rw[testBit_or,Nat.testBit_two_pow]at hk;have:decide (i%8=x)=false:=by simp;omega
   rw[this,Bool.or_false]at hk;rw[fZ hx e];exact h x hx hk
theorem Qx {s i k:Nat} (h:gJ s i k) (hb:k.testBit (i%8)=false) (hd:jU s i=true):gJ s (i+1) (k|||2^(i%8+1)):=by
 unfold jU at hd;rw[and_eq_true,decide_eq_true_iff]at hd;intro x hx hk;by_cases e:x=i%8+1
 . rw[e,fZ (by omega) (by omega),nH];exact hd.2
 . rw[testBit_or,Nat.testBit_two_pow]at hk;have:decide (i%8+1=x)=false:=by simp;omega
   rw[this,Bool.or_false]at hk;have hne:x≠i%8:=fun e2=>by rw[e2,hb]at hk;cases hk
   rw[fZ hx hne];exact h x hx hk
def tl:Nat->Nat->(Nat->Bool)->List (List Dm)
  |0,_,_=>[[]]
  | n + 1, i, S => if S i then
      (if decide (i%8<7)&&S (i+1)then(tl n (i+1) (fun j=>S j&& !decide (j=i+1))).map (eG i::·)else[])++
      (if decide (i<56)&&S (i+8)then(tl n (i+1) (fun j=>S j&& !decide (j=i+8))).map (fJ i::·)else[])
   else tl n (i+1) S
theorem rV (n i:Nat) (S:Nat->Bool):tl (n+1) i S=if S i then
      (if decide (i%8<7)&&S (i+1)then(tl n (i+1) (fun j=>S j&& !decide (j=i+1))).map (eG i::·)else[])++
      (if decide (i<56)&&S (i+8)then(tl n (i+1) (fun j=>S j&& !decide (j=i+8))).map (fJ i::·)else[])
 else tl n (i+1) S:=rfl
theorem mV:∀(n i:Nat) (S T:Nat->Bool),(∀j,i<=j->S j=T j)->tl n i S=tl n i T
  |0,_,_,_,_=>rfl
  | n + 1, i, S, T, h => by
   rw [rV, rV, h i (le_refl _), h (i + 1) (by omega), h (i + 8) (by omega),
     mV n (i+1) (fun j=>S j&& !decide (j=i+1)) (fun j=>T j&& !decide (j=i+1)) (fun j hj=>by simp only[h j (by omega)]),
     mV n (i+1) (fun j=>S j&& !decide (j=i+8)) (fun j=>T j&& !decide (j=i+8)) (fun j hj=>by simp only[h j (by omega)]),
     mV n (i+1) S T (fun j hj=>h j (by omega))]
def Fg (i k j:Nat):Bool:=(range 8).any fun x=>k.testBit x&&decide (jD i x=j)
theorem qP {i k j:Nat}:Fg i k j=true↔∃x,x<8/\k.testBit x=true/\jD i x=j:=by
 unfold Fg;rw[List.any_eq_true];constructor
 . rintro⟨x,hx,h⟩;rw[and_eq_true,decide_eq_true_eq]at h;exact⟨x,List.mem_range.1 hx,h.1,h.2⟩
 . rintro⟨x,hx,h1,h2⟩;exact⟨x,List.mem_range.2 hx,by rw[h1,decide_eq_true h2];rfl⟩
theorem IY {i x y:Nat} (hx:x<8) (hy:y<8) (h:jD i x=jD i y):x=y:=by
 unfold jD at h;split at h<;>split at h<;>omega
def iP (s i k j:Nat):Bool:=s.testBit j&& !Fg i k j
theorem LP {i k x:Nat} (hx:x<8):Fg i k (jD i x)=k.testBit x:=by
 rw[Bool.eq_iff_iff,qP];constructor
 . rintro⟨y,hy,h1,h2⟩;rw[<-IY hy hx h2];exact h1
 . intro h;exact⟨x,hx,h,rfl⟩
theorem Kv {i k:Nat}:Fg i k (i+8)=false:=by
 rcases q:Fg i k (i+8)with _|_
 . rfl
 . obtain⟨x,hx,_,h⟩:=qP.1 q;unfold jD at h;split at h<;>omega
theorem Be {i k k' j:Nat} (hj:i+1<=j) (h:∀x,x<8->x≠i%8->k'.testBit x=k.testBit x):Fg (i+1) k' j=(Fg i k j||(k'.testBit (i%8)&&decide (i+8=j))):=by
 rw[Bool.eq_iff_iff,or_eq_true,and_eq_true,decide_eq_true_eq,qP,qP];constructor
 . rintro⟨x,hx,h1,h2⟩;by_cases e:x=i%8
   . subst e;rw[uC]at h2;exact .inr ⟨h1,h2⟩
   . rw[fZ hx e]at h2;rw[h x hx e]at h1;exact .inl ⟨x,hx,h1,h2⟩
 . rintro(⟨x,hx,h1,h2⟩|⟨h1,h2⟩)
   . have e : x ≠ i % 8 := fun e => by subst e; rw [uB] at h2; omega
     exact⟨x,hx,by rw[h x hx e];exact h1,by rw[fZ hx e];exact h2⟩
   . exact⟨i%8,by omega,h1,by rw[uC];exact h2⟩
def nOf (s i k:Nat):Int:=((tl (64-i) i (iP s i k)).length:Nat)
def gives (s i k:Nat):Int:=
 if s.testBit i then
   if k.testBit (i%8)then nOf s (i+1) (k-2^(i%8))
   else(if jT s i then nOf s (i+1) (k|||2^(i%8))else 0)+(if jU s i&& !k.testBit (i%8+1)then nOf s (i+1) (k|||2^(i%8+1))else 0)
 else if k.testBit (i%8)then 0 else nOf s (i+1) k
theorem Av (k x j:Nat):(k|||2^x).testBit j=(k.testBit j||decide (x=j)):=by rw[testBit_or,Nat.testBit_two_pow]
theorem Oc {s i k:Nat} (hi:i<64) (hk:k<256) (ho:gJ s i k):gives s i k=nOf s i k:=by
 have hself:Fg i k i=k.testBit (i%8):=by
  have:=LP (i:=i) (k:=k) (x:=i%8) (by omega);rwa [uB]at this
 have h64:64-i=(64-(i+1))+1:=(by omega);unfold gives;conv=>rhs;unfold nOf;rw[h64,rV]
 rcases hs:s.testBit i with _|_
 . have hS : iP s i k i = false := by unfold iP; rw [hs]; rfl
   rw[hS];simp only[false_eq_true,if_false];rcases hb:k.testBit (i%8)with _|_
   . simp only[false_eq_true,if_false];unfold nOf;rw[mV _ (i+1) (iP s (i+1) k) (iP s i k) (fun j hj=>by unfold iP;rw[Be hj (fun _ _ _=>rfl),hb];simp)]
   . have:=EH ho hb;rw[hs]at this;cases this
 . simp only[if_true];rcases hb:k.testBit (i%8)with _|_
   . have hS : iP s i k i = true := by unfold iP; rw [hs, hself, hb]; rfl
     rw[hS];simp only[false_eq_true,if_false,if_true,List.length_append];have hdn:(decide (i<56)&&iP s i k (i+8))=jT s i:=by unfold iP jT;rw[Kv];simp
     rw[hdn]
     have hrt:(decide (i%8<7)&&iP s i k (i+1))=(jU s i&& !k.testBit (i%8+1)):=by
      unfold jU iP;by_cases h7:i%8<7
      . have := LP (i := i) (k := k) (x := i % 8 + 1) (by omega);rw[nH]at this;rw[this,Bool.and_assoc]
      . simp[h7]
     rw[hrt]
     have ed : jT s i = true -> nOf s (i + 1) (k ||| 2 ^ (i % 8)) = ((tl (64 - (i + 1)) (i + 1) (fun j => iP s i k j && !decide (j = i + 8))).length : Nat) := fun _ => by
      unfold nOf
      rw [mV _ (i + 1) _ (fun j => iP s i k j && !decide (j = i + 8)) (fun j hj => by
       unfold iP;rw[Be (k:=k) hj (fun x hx hne=>by rw[Av];simp;omega),Av];simp[Bool.and_assoc,eq_comm])]
     have er : (jU s i && !k.testBit (i % 8 + 1)) = true -> nOf s (i + 1) (k ||| 2 ^ (i % 8 + 1)) = ((tl (64 - (i + 1)) (i + 1) (fun j => iP s i k j && !decide (j = i + 1))).length : Nat) := fun hr => by
      have h7:i%8<7:=by
       rw[and_eq_true]at hr;have:=hr.1;unfold jU at this;rw[and_eq_true,decide_eq_true_iff]at this;exact this.1
      unfold nOf
      rw [mV _ (i + 1) _ (fun j => iP s i k j && !decide (j = i + 1)) (fun j hj => by
       unfold iP
       have e1:Fg (i+1) (k|||2^(i%8+1)) j=(Fg i k j||decide (j=i+1)):=by
        rw[Bool.eq_iff_iff,or_eq_true,decide_eq_true_eq,qP,qP];constructor
        . rintro⟨x,hx,h1,h2⟩;rw[Av,or_eq_true,decide_eq_true_eq]at h1;by_cases e:x=i%8
          . subst e;rcases h1 with h1|h1
            . rw[hb]at h1;cases h1
            . omega
          . rw[fZ hx e]at h2;rcases h1 with h1|h1
            . exact .inl ⟨x,hx,h1,h2⟩
            . subst h1;rw[nH]at h2;exact .inr h2.symm
        . rintro(⟨x,hx,h1,h2⟩|h2)
          . have e : x ≠ i % 8 := fun e => by subst e; rw [hb] at h1; cases h1
            exact⟨x,hx,by rw[Av,h1];rfl,by rw[fZ hx e];exact h2⟩
          . refine ⟨i % 8 + 1, by omega, by rw [Av]; simp, ?_⟩;rw[fZ (by omega) (by omega),nH];exact h2.symm
       rw[e1,Bool.not_or,Bool.and_assoc])]
     rcases hd:jT s i with _|_<;>rcases hr:(jU s i&& !k.testBit (i%8+1))with _|_
     . simp
     . simp[er hr]
     . simp[ed hd]
     . simp[ed hd,er hr];omega
   . have hS : iP s i k i = false := by unfold iP; rw [hself, hb]; simp
     rw[hS];simp only[false_eq_true,if_false,if_true];unfold nOf
     rw [mV _ (i + 1) (iP s (i + 1) (k - 2 ^ (i % 8))) (iP s i k) (fun j hj => by
      have hsb:=(nY k hk (i%8) (by omega) hb).2.2;unfold iP;rw[Be (k:=k) hj (fun x hx hne=>by rw[hsb x hx];simp;omega),hsb _ (by omega)];simp)]
def lK (f:Nat->Int) (l:List Int):Nat->Int
  |0=>0
  |K+1=>lK f l K+l.getD K 0*f K
theorem jK (f:Nat->Int) (l:List Int) (K:Nat):lK f l (K+1)=lK f l K+l.getD K 0*f K:=rfl
theorem Ad (f:Nat->Int) (l:List Int) {j:Nat} (hj:j<l.length) (v:Int):∀K,lK f (l.set j v) K=lK f l K+if j<K then(v-l.getD j 0)*f j else 0
  |0=>by simp[lK]
  | K + 1 => by
   rw[jK,jK,Ad f l hj v K];by_cases e:j=K
   . subst e;have h1:(l.set j v).getD j 0=v:=by rw[getD_eq_getElem?_getD,List.getElem?_set_self hj];rfl
     rw[h1,if_neg (by omega),if_pos (by omega),Int.sub_mul];omega
   . have h1 : (l.set j v).getD K 0 = l.getD K 0 := by rw [getD_eq_getElem?_getD, getElem?_set_ne e, getD_eq_getElem?_getD]
     rw[h1];by_cases h:j<K
     . rw[if_pos h,if_pos (by omega)];omega
     . rw[if_neg h,if_neg (by omega)];omega
theorem sM (f:Nat->Int) (l:List Int):∀K,(∀k,k<K->l.getD k 0=0∨f k=0)->lK f l K=0
  |0,_=>rfl
  | K + 1, h => by
   rw[jK,sM f l K (fun k hk=>h k (by omega))];rcases h K (by omega)with e|e<;>rw[e]<;>simp
theorem DD {f g:Nat->Int} (l:List Int):∀K,(∀k,k<K->l.getD k 0=0∨f k=g k)->lK f l K=lK g l K
  |0,_=>rfl
  | K + 1, h => by
   rw[jK,jK,DD l K (fun k hk=>h k (by omega))];rcases h K (by omega)with e|e
   . rw[e];simp
   . rw[e]
theorem wC (f : Nat -> Int) {nx : List Int} (hl : nx.length = 256) {k : Nat} (hk : k < 256) (n : Int) : lK f (fQ 0 (fun a b => a + b) nx k n) 256 = lK f nx 256 + n * f k := by
 unfold fQ;rw[Ad f nx (by omega),if_pos hk];by_cases h:nx.getD k 0=0
 . rw[if_pos h,h];simp
 . rw[if_neg h];congr 1;congr 1;show nx.getD k 0+n-nx.getD k 0=n;omega
def bQ (s:Nat):Nat->List Int:=dp s 0 (fun a b=>a+b) (fun n _=>n) 1
theorem Od {s i k : Nat} {nx : List Int} {n : Int} (hl : nx.length = 256) (hk : k < 256) : lK (nOf s (i + 1)) (jH s 0 (fun a b => a + b) (fun n _ => n) i nx k n) 256 = lK (nOf s (i + 1)) nx 256 + n * gives s i k := by
 unfold jH gives;by_cases h0:n=0
 . rw[if_pos h0,h0];simp
 . rw[if_neg h0];rcases hs:s.testBit i with _|_
   . simp only[false_eq_true,if_false];rcases hb:k.testBit (i%8)with _|_
     . simp only[false_eq_true,if_false];exact wC _ hl hk n
     . simp
   . simp only[if_true];rcases hb:k.testBit (i%8)with _|_
     . simp only[false_eq_true,if_false]
       have hd : lK (nOf s (i + 1)) (rU s 0 (fun a b => a + b) (fun n _ => n) i nx k n) 256 = lK (nOf s (i + 1)) nx 256 + n * (if jT s i then nOf s (i + 1) (k ||| 2 ^ (i % 8)) else 0) := by
        unfold rU;rcases q:jT s i with _|_
        . simp
        . simp only[if_true];exact wC _ hl (yK k hk _ (by omega)) n
       have hr : lK (nOf s (i + 1)) (yJ s 0 (fun a b => a + b) (fun n _ => n) i (rU s 0 (fun a b => a + b) (fun n _ => n) i nx k n) k n) 256 = lK (nOf s (i + 1)) (rU s 0 (fun a b => a + b) (fun n _ => n) i nx k n) 256 + n * (if jU s i && !k.testBit (i % 8 + 1) then nOf s (i + 1) (k ||| 2 ^ (i % 8 + 1)) else 0) := by
        unfold yJ;rcases q:(jU s i&& !k.testBit (i%8+1))with _|_
        . simp
        . have h7:i%8<7:=by
           rw[and_eq_true]at q;have:=q.1;unfold jU at this;rw[and_eq_true,decide_eq_true_iff]at this;exact this.1
          simp only[if_true];exact wC _ (by rw[sW];exact hl) (yK k hk _ (by omega)) n
       rw[hr,hd,Int.mul_add,Int.add_assoc]
     . simp only[if_true];exact wC _ hl (nY k hk _ (by omega) hb).1 n
theorem Js {s i : Nat} (now : List Int) : ∀ K, K <= 256 -> lK (nOf s (i + 1)) (mG s 0 (fun a b => a + b) (fun n _ => n) now i K) 256 = lK (gives s i) now K
  | 0, _ => by
   rw[show lK (gives s i) now 0=0 from rfl];refine sM _ _ _ fun k hk=> .inl ?_
   simp only[mG,range_zero,foldl_nil];rw[getD_eq_getElem?_getD,getElem?_replicate,if_pos hk];rfl
  | K + 1, hK => by
   rw[dI,Od (lY _ _ _) (by omega),Js now K (by omega),jK]
theorem Il {s i k : Nat} {nx : List Int} {n : Int} (hl : nx.length = 256) (h : ∀ k v, nx[k]? = some v -> v = 0 ∨ gJ s i k) (hk : k < 256) (ho : gJ s i k) : ∀ j v, (fQ 0 (fun a b => a + b) nx k n)[j]? = some v -> v = 0 ∨ gJ s i j :=
 Bd h (by omega) (fun _=> .inr ho) (fun v hv hne=> .inr ho)
theorem RU {s i k : Nat} {nx : List Int} {n : Int} (hl : nx.length = 256) (h : ∀ k v, nx[k]? = some v -> v = 0 ∨ gJ s (i + 1) k) (hk : k < 256) (hn : n = 0 ∨ gJ s i k) : ∀ j v, (jH s 0 (fun a b => a + b) (fun n _ => n) i nx k n)[j]? = some v -> v = 0 ∨ gJ s (i + 1) j := by
 unfold jH;by_cases e:n=0
 . rw[if_pos e];exact h
 . rw[if_neg e];have ho:=hn.resolve_left e;rcases hs:s.testBit i with _|_
   . rw [if_neg (by simp)];rcases hb:k.testBit (i%8)with _|_
     . rw[if_neg (by simp)];exact Il hl h hk (MX ho hb)
     . rw[if_pos rfl];exact h
   . rw[if_pos rfl];rcases hb:k.testBit (i%8)with _|_
     . rw [if_neg (by simp)]
       have hdn : ∀ j v, (rU s 0 (fun a b => a + b) (fun n _ => n) i nx k n)[j]? = some v -> v = 0 ∨ gJ s (i + 1) j := by
        unfold rU;rcases hd:jT s i with _|_
        . rw[if_neg (by simp)];exact h
        . rw[if_pos rfl];exact Il hl h (yK k hk _ (by omega)) (Qw ho hd)
       unfold yJ;rcases hr:(jU s i&& !k.testBit (i%8+1))with _|_
       . rw[if_neg (by simp)];exact hdn
       . rw[if_pos rfl];rw[and_eq_true]at hr;have hx:i%8<7:=by have:=hr.1;unfold jU at this;rw[and_eq_true,decide_eq_true_iff]at this;exact this.1
         exact Il (by rw[sW];exact hl) hdn (yK k hk _ (by omega)) (Qx ho hb hr.1)
     . rw[if_pos rfl];exact Il hl h (nY k hk _ (by omega) hb).1 (Ob hk ho hb)
theorem PQ {s i : Nat} {now : List Int} (hn : ∀ k v, now[k]? = some v -> v = 0 ∨ gJ s i k) (hl : now.length = 256) : ∀ K, K <= 256 -> ∀ j v, (mG s 0 (fun a b => a + b) (fun n _ => n) now i K)[j]? = some v -> v = 0 ∨ gJ s (i + 1) j
  | 0, _ => by
   intro j v hj;simp only[mG,range_zero,foldl_nil]at hj;rw[getElem?_replicate]at hj;split at hj
   . injection hj with hj;exact .inl hj.symm
   . cases hj
  | K + 1, hK => by
   rw[dI];refine RU (lY _ _ _) (PQ hn hl K (by omega)) (by omega) ?_;rw[getD_eq_getElem?_getD,getElem?_eq_getElem (by omega),Option.getD_some];exact hn K _ (getElem?_eq_getElem (by omega))
theorem Qe (s:Nat):∀i,∀k v,(bQ s i)[k]? =some v->v=0∨gJ s i k
  | 0 => by
   intro k v hk;unfold bQ dp at hk;by_cases e:0=k
   . subst e;exact .inr (fun x _ h=>by simp at h)
   . rw[getElem?_set_ne e,getElem?_replicate]at hk;split at hk
     . injection hk with hk;exact .inl hk.symm
     . cases hk
  |i+1=>fun k v hk=>PQ (Qe s i) (xH i) 256 (le_refl _) k v hk
theorem LQ (s i k:Nat) (hk:k<256):(bQ s i).getD k 0=0∨gJ s i k:=by
 have hl:k<(bQ s i).length:=by unfold bQ;rw[xH];exact hk
 rw[getD_eq_getElem?_getD,getElem?_eq_getElem hl,Option.getD_some];exact Qe s i k _ (getElem?_eq_getElem hl)
theorem FX (s:Nat):∀i,i<=64->lK (nOf s i) (bQ s i) 256=((tl 64 0 s.testBit).length:Nat)
  | 0, _ => by
   have h0:bQ s 0=(replicate 256 (0:Int)).set 0 1:=rfl;rw[h0,Ad _ _ (by rw[length_replicate];decide),if_pos (by omega),sM _ _ _ (fun k hk=> .inl (by rw[getD_eq_getElem?_getD,getElem?_replicate,if_pos hk];rfl))];have h1:(replicate 256 (0:Int)).getD 0 0=0:=by rw[getD_eq_getElem?_getD,getElem?_replicate,if_pos (by decide)];rfl
   rw[h1];unfold nOf
   rw [mV 64 0 (iP s 0 0) s.testBit (fun j _ => by
    unfold iP
    have:Fg 0 0 j=false:=by
     rcases q:Fg 0 0 j with _|_
     . rfl
     . obtain⟨x,_,h,_⟩:=qP.1 q;simp at h
    rw[this];simp)]
   simp
  | i + 1, hi => by
   have h1:bQ s (i+1)=mG s 0 (fun a b=>a+b) (fun n _=>n) (bQ s i) i 256:=rfl;rw[h1,Js _ 256 (le_refl _),<-FX s i (by omega)];refine DD _ _ fun k hk=> ?_
   rcases LQ s i k hk with h|h
   . exact .inl h
   . exact .inr (Oc (by omega) hk h)
theorem Oe {s:Nat} (hs:s<U64):(bQ s 64).getD 0 0=((tl 64 0 s.testBit).length:Nat):=by
 rw[<-FX s 64 (le_refl _)];have h1:∀k,nOf s 64 k=1:=fun k=>rfl
 have h2 : ∀ k, k < 256 -> k ≠ 0 -> (bQ s 64).getD k 0 = 0 := fun k hk hne => by
  rcases LQ s 64 k hk with h|h
  . exact h
  . exfalso
    have hx:∃x,x<8/\k.testBit x=true:=by
     obtain⟨x,hx⟩:=Nat.exists_testBit_of_ne_zero hne;refine⟨x,?_,hx⟩;by_cases h8:x<8
     . exact h8
     . have : k < 2 ^ x := Nat.lt_of_lt_of_le hk (Nat.pow_le_pow_right (n := 2) (by decide) (show 8 <= x by omega));rw[Nat.testBit_lt_two_pow this]at hx;cases hx
    obtain⟨x,hx8,hx⟩:=hx;have:=h x hx8 hx;rw[Nat.testBit_lt_two_pow]at this
    . cases this
    . unfold U64 at hs;refine Nat.lt_of_lt_of_le hs ?_;unfold jD;have:64<=(if 64%8<=x then 64-64%8+x else 64-64%8+8+x):=by split<;>omega
      exact Nat.pow_le_pow_right (n:=2) (by decide) this
 have h3:∀K,K<=255->lK (nOf s 64) (bQ s 64) (K+1)=(bQ s 64).getD 0 0:=by
  intro K;induction K with
  |zero=>intro _;rw[jK,h1];simp[lK]
  |succ K ih=>intro hK;rw[jK,ih (by omega),h2 (K+1) (by omega) (by omega)];simp
 exact(h3 255 (le_refl _)).symm
def two (i:Nat):Int:=if i<56/\i%8<7 then 2 else 1
def capOf:Nat->Int
  |0=>1
  |i+1=>capOf i*two i
theorem zX (i:Nat):1<=two i/\two i<=2:=by unfold two;split<;>omega
theorem LU:∀i,1<=capOf i
  |0=>by unfold capOf;omega
  | i + 1 => by
   have h1:=LU i;have h2:=(zX i).1;show 1<=capOf i*two i
   calc (1 : Int) <= capOf i := h1
     _=capOf i*1:=by omega
     _<=capOf i*two i:=Int.mul_le_mul_of_nonneg_left h2 (by omega)
theorem EI:∀i d,capOf i<=capOf (i+d)
  |i,0=>Int.le_refl _
  | i, d + 1 => by
   refine Int.le_trans (EI i d) ?_;show capOf (i+d)<=capOf (i+d)*two (i+d)
   calc capOf (i + d) = capOf (i + d) * 1 := by omega
     _<=capOf (i+d)*two (i+d):=Int.mul_le_mul_of_nonneg_left (zX _).1 (by have:=LU (i+d);omega)
theorem PR:capOf 64=562949953421312:=by decide+kernel
theorem Im {k : Nat} {nx : List Int} {n : Int} (hl : nx.length = 256) (h : ∀ (k : Nat) (v : Int), nx[k]? = some v -> 0 <= v) (hk : k < 256) (hn : 0 <= n) : ∀ (j : Nat) (v : Int), (fQ 0 (fun a b => a + b) nx k n)[j]? = some v -> 0 <= v :=
 Bd (P:=fun _ v=>0<=v) h (by omega) (fun _=>hn) (fun v hv _=>by have:=h k v hv;show 0<=v+n;omega)
theorem RV {s i k:Nat} {nx:List Int} {n:Int} (hl:nx.length=256) (h:∀(k:Nat) (v:Int),nx[k]? =some v->0<=v) (hk:k<256) (hn:0<=n):
 (∀(j:Nat) (v:Int),(jH s 0 (fun a b=>a+b) (fun n _=>n) i nx k n)[j]? =some v->0<=v)/\lK (fun _=>1) (jH s 0 (fun a b=>a+b) (fun n _=>n) i nx k n) 256<=lK (fun _=>1) nx 256+n*two i:=by
 have ht:=zX i
 have hn1:n<=n*two i:=by
  calc n = n * 1 := by omega
    _<=n*two i:=Int.mul_le_mul_of_nonneg_left ht.1 hn
 have hp:∀(nx:List Int) (k:Nat),nx.length=256->k<256->lK (fun _=>1) (fQ 0 (fun a b=>a+b) nx k n) 256=lK (fun _=>1) nx 256+n:=fun nx k hl hk=>by rw[wC _ hl hk];omega
 unfold jH;by_cases e:n=0
 . rw[if_pos e];exact⟨h,by rw[e];omega⟩
 . rw[if_neg e];rcases hs:s.testBit i with _|_
   . rw [if_neg (by simp)];rcases hb:k.testBit (i%8)with _|_
     . rw[if_neg (by simp)];exact⟨Im hl h hk hn,by rw[hp nx k hl hk];omega⟩
     . rw[if_pos rfl];exact⟨h,by omega⟩
   . rw[if_pos rfl];rcases hb:k.testBit (i%8)with _|_
     . rw [if_neg (by simp)]
       have hdn : (∀ (j : Nat) (v : Int), (rU s 0 (fun a b => a + b) (fun n _ => n) i nx k n)[j]? = some v -> 0 <= v) /\ lK (fun _ => 1) (rU s 0 (fun a b => a + b) (fun n _ => n) i nx k n) 256 = lK (fun _ => 1) nx 256 + if jT s i then n else 0 := by
        unfold rU;rcases hd:jT s i with _|_
        . rw[if_neg (by simp),if_neg (by simp)];exact⟨h,by omega⟩
        . rw[if_pos rfl,if_pos rfl];exact⟨Im hl h (yK k hk _ (by omega)) hn,hp nx _ hl (yK k hk _ (by omega))⟩
       have hdt:jT s i=true->i<56:=fun q=>by unfold jT at q;rw[and_eq_true,decide_eq_true_iff]at q;exact q.1
       unfold yJ;rcases hr:(jU s i&& !k.testBit (i%8+1))with _|_
       . rw [if_neg (by simp)];refine⟨hdn.1,?_⟩;rw[hdn.2];split<;>omega
       . rw[if_pos rfl];rw[and_eq_true]at hr;have hx:i%8<7:=by have:=hr.1;unfold jU at this;rw[and_eq_true,decide_eq_true_iff]at this;exact this.1
         refine⟨Im (by rw[sW];exact hl) hdn.1 (yK k hk _ (by omega)) hn,?_⟩;rw[hp _ _ (by rw[sW];exact hl) (yK k hk _ (by omega)),hdn.2];rcases hd:jT s i with _|_
         . rw[if_neg (by simp)];omega
         . rw[if_pos rfl];have h2:two i=2:=by unfold two;rw[if_pos ⟨hdt hd,hx⟩]
           rw[h2];omega
     . rw[if_pos rfl];exact⟨Im hl h (nY k hk _ (by omega) hb).1 hn,by rw[hp nx _ hl (nY k hk _ (by omega) hb).1];omega⟩
theorem Lr {s i:Nat} {now:List Int} (hn:∀(k:Nat) (v:Int),now[k]? =some v->0<=v) (hl:now.length=256):∀K,K<=256->
    (∀(j:Nat) (v:Int),(mG s 0 (fun a b=>a+b) (fun n _=>n) now i K)[j]? =some v->0<=v)/\lK (fun _=>1) (mG s 0 (fun a b=>a+b) (fun n _=>n) now i K) 256<=lK (fun _=>1) now K*two i
 | 0, _ => by
  refine⟨fun j v hj=> ?_,?_⟩
  . simp only[mG,range_zero,foldl_nil]at hj;rw[getElem?_replicate]at hj;split at hj
    . injection hj with hj;omega
    . cases hj
  . rw [show lK (fun _ => 1) now 0 = 0 from rfl, sM _ _ _ (fun k hk => .inl (by
     simp only[mG,range_zero,foldl_nil];rw[getD_eq_getElem?_getD,getElem?_replicate,if_pos hk];rfl))]
    omega
 | K + 1, hK => by
  obtain⟨a,b⟩:=Lr hn hl K (by omega)
  have hv:0<=now.getD K 0:=by
   rw[getD_eq_getElem?_getD,getElem?_eq_getElem (by omega),Option.getD_some];exact hn K _ (getElem?_eq_getElem (by omega))
  rw[dI];obtain⟨c,d⟩:=RV (s:=s) (i:=i) (k:=K) (lY now i K) a (by omega) hv;refine⟨c,Int.le_trans d ?_⟩;have e:lK (fun _=>1) now (K+1)*two i=lK (fun _=>1) now K*two i+now.getD K 0*two i:=by rw[jK,Int.add_mul];simp
  rw[e];omega
theorem Qf (s : Nat) : ∀ i, (∀ (k : Nat) (v : Int), (bQ s i)[k]? = some v -> 0 <= v) /\ lK (fun _ => 1) (bQ s i) 256 <= capOf i
  | 0 => by
   have h0:bQ s 0=(replicate 256 (0:Int)).set 0 1:=rfl;refine⟨fun k v hk=> ?_,?_⟩
   . rw[h0]at hk;by_cases e:0=k
     . subst e;rw[List.getElem?_set_self (by rw[length_replicate];decide)]at hk;injection hk with hk;omega
     . rw[getElem?_set_ne e,getElem?_replicate]at hk;split at hk
       . injection hk with hk;omega
       . cases hk
   . rw [h0, Ad _ _ (by rw [length_replicate]; decide), if_pos (by omega), sM _ _ _ (fun k hk => .inl (by rw [getD_eq_getElem?_getD, getElem?_replicate, if_pos hk]; rfl))];have h1:(replicate 256 (0:Int)).getD 0 0=0:=by rw[getD_eq_getElem?_getD,getElem?_replicate,if_pos (by decide)];rfl
     rw[h1];unfold capOf;omega
  | i + 1 => by
   obtain⟨a,b⟩:=Qf s i;obtain⟨c,d⟩:=Lr (s:=s) (i:=i) a (xH i) 256 (le_refl _);refine⟨c,Int.le_trans d ?_⟩;show _<=capOf i*two i;exact Int.mul_le_mul_of_nonneg_right b (by have:=(zX i).1;omega)
theorem Aw {l : List Int} (hn : ∀ (k : Nat) (v : Int), l[k]? = some v -> 0 <= v) : ∀ K k, k < K -> l.getD k 0 <= lK (fun _ => 1) l K /\ 0 <= lK (fun _ => 1) l K
  |0,k,h=>by omega
  | K + 1, k, h => by
   have hg : ∀ j, 0 <= l.getD j 0 := fun j => by
    rw[getD_eq_getElem?_getD];rcases q:l[j]? with _|v
    . simp
    . exact hn j v q
   have h0 : 0 <= lK (fun _ => 1) l K := by
    cases K with
    |zero=>exact Int.le_refl _
    |succ K=>exact(Aw hn (K+1) K (by omega)).2
   rw[jK];have hK:=hg K;by_cases e:k=K
   . subst e;omega
   . have:=(Aw hn K k (by omega)).1;omega
theorem Io (s i k:Nat) (hi:i<=64) (hk:k<256):0<=(bQ s i).getD k 0/\(bQ s i).getD k 0<=562949953421312:=by
 obtain⟨a,b⟩:=Qf s i;have h1:=(Aw a 256 k hk).1;have h2:=EI i (64-i);rw[show i+(64-i)=64 by omega,PR]at h2;refine⟨?_,by omega⟩;rw[getD_eq_getElem?_getD];rcases q:(bQ s i)[k]? with _|v
 . simp
 . exact a k v q
theorem Qy (x y:Nat) (hx:x<8) (hy:y<8):aX ((x:Int),(y:Int))=true/\(dF ((x:Int),(y:Int))).toNat=8*y+x:=by
 have h:aX ((x:Int),(y:Int))=true:=cZ.2 (by simp only;omega);refine⟨h,?_⟩;rw[(dQ h).1];simp only;omega
theorem qQ {i:Nat} (hi:i<64) (h7:i%8<7):aJ (eG i)=true/\eZ (eG i)=i/\iZ (eG i)=i+1:=by
 obtain⟨a,b⟩:=Qy (i%8) (i/8) (by omega) (by omega);obtain⟨c,d⟩:=Qy (i%8+1) (i/8) (by omega) (by omega)
 have hs:sec (eG i)=(((i%8+1:Nat):Int),((i/8:Nat):Int)):=by
  unfold sec eG;simp only[false_eq_true,if_false,Prod.mk.injEq,and_true];unfold wrap64;omega
 refine⟨?_,?_,?_⟩
 . unfold aJ;rw[hs,c];unfold eG;simp only[a,Bool.and_true]
 . unfold eZ eG;simp only;rw[b];omega
 . unfold iZ;rw[hs,d];omega
theorem qR {i:Nat} (hi:i<56):aJ (fJ i)=true/\eZ (fJ i)=i/\iZ (fJ i)=i+8:=by
 obtain⟨a,b⟩:=Qy (i%8) (i/8) (by omega) (by omega);obtain⟨c,d⟩:=Qy (i%8) (i/8+1) (by omega) (by omega)
 have hs:sec (fJ i)=(((i%8:Nat):Int),((i/8+1:Nat):Int)):=by
  unfold sec fJ;simp only[if_true,Prod.mk.injEq,true_and];unfold wrap64;omega
 refine⟨?_,?_,?_⟩
 . unfold aJ;rw[hs,c];unfold fJ;simp only[a,Bool.and_true]
 . unfold eZ fJ;simp only;rw[b];omega
 . unfold iZ;rw[hs,d];omega
theorem G8 {d:Dm} (h:aJ d=true):eZ d<64/\((d=eG (eZ d)/\eZ d%8<7)∨(d=fJ (eZ d)/\eZ d<56)):=by
 have D1:=mO h;have D2:=AX h;obtain⟨x,y,b⟩:=d;simp only at D1;obtain⟨x,rfl⟩:=Int.eq_ofNat_of_zero_le D1.1.1;obtain⟨y,rfl⟩:=Int.eq_ofNat_of_zero_le D1.2.1;have hx:x<8:=(by omega);have hy:y<8:=(by omega);have hI:eZ ((x:Int),(y:Int),b)=8*y+x:=(Qy x y hx hy).2;rw[hI];refine⟨by omega,?_⟩;have e1:(8*y+x)%8=x:=(by omega);have e2:(8*y+x)/8=y:=(by omega);cases b
 . left;unfold eG;rw[e1,e2];refine⟨rfl,?_⟩;have:=D2.1;unfold sec at this;simp only[false_eq_true,if_false]at this;unfold wrap64 at this;omega
 . right;unfold fJ;rw[e1,e2];refine⟨rfl,?_⟩;have:=D2.2;unfold sec at this;simp only[if_true]at this;unfold wrap64 at this;omega
theorem G9 {d:Dm} (h:aJ d=true):eZ d<iZ d:=by
 obtain⟨hi,(⟨e,h7⟩|⟨e,h7⟩)⟩:=G8 h
 . have:=(qQ hi h7).2.2;rw[<-e]at this;omega
 . have:=(qR h7).2.2;rw[<-e]at this;omega
theorem Ip {d:Dm} (h:aJ d=true):2*(eZ d:Int)<=aS d/\aS d<=2*(eZ d:Int)+1:=by
 have h1:=(dQ (dU h).1).1;have h2:=(dQ (dU h).1).2;have:(eZ d:Int)=d.2.1*8+d.1:=by unfold eZ;rw[<-h1];omega
 unfold aS;rw[this];split<;>omega
structure Til (i:Nat) (S:Nat->Bool) (t:List Dm):Prop where
  ok:∀d∈t,aJ d=true/\i<=eZ d/\S (eZ d)=true/\S (iZ d)=true
  ord:t.Pairwise fun a b=>aS a<aS b
  ap:t.Pairwise Apart
  all:∀j,i<=j->j<64->S j=true->∃d∈t,eZ d=j∨iZ d=j
theorem Bf {a b:Dm} (ha:aJ a=true) (hb:aJ b=true):Apart a b↔eZ a≠eZ b/\eZ a≠iZ b/\iZ a≠eZ b/\iZ a≠iZ b:=by
 unfold Apart;constructor
 . intro h;have h1:=h (eZ a) (by rw[aT ha];simp);have h2:=h (iZ a) (by rw[aT ha];simp);rw[aT hb,Bool.or_eq_false_iff,decide_eq_false_iff_not,decide_eq_false_iff_not]at h1 h2;exact⟨fun e=>h1.1 e.symm,fun e=>h1.2 e.symm,fun e=>h2.1 e.symm,fun e=>h2.2 e.symm⟩
 . rintro⟨h1,h2,h3,h4⟩ j hj;rw[aT ha,or_eq_true,decide_eq_true_eq,decide_eq_true_eq]at hj;rw[aT hb,Bool.or_eq_false_iff,decide_eq_false_iff_not,decide_eq_false_iff_not];rcases hj with rfl|rfl
   . exact⟨fun e=>h1 e.symm,fun e=>h2 e.symm⟩
   . exact⟨fun e=>h3 e.symm,fun e=>h4 e.symm⟩
theorem Ae {i m : Nat} {S : Nat -> Bool} {d : Dm} {t : List Dm} (hd : aJ d = true) (hI : eZ d = i) (hJ : iZ d = m) (hS : S i = true) (hm : S m = true) : Til i S (d :: t) ↔ Til (i + 1) (fun j => S j && !decide (j = m)) t := by
 have hlt:=G9 hd;have hdo:=Ip hd;constructor
 . intro h;have ho:=List.pairwise_cons.1 h.ord;have ha:=List.pairwise_cons.1 h.ap;refine⟨fun e he=> ?_,ho.2,ha.2,fun j h1 h2 h3=> ?_⟩
   . obtain⟨e1,e2,e3,e4⟩:=h.ok e (List.mem_cons_of_mem _ he);obtain⟨a1,a2,a3,a4⟩:=(Bf hd e1).1 (ha.1 e he);have n3:decide (eZ e=m)=false:=by simp;omega
     have n4:decide (iZ e=m)=false:=by simp;omega
     exact⟨e1,by omega,by simp only[e3,n3];rfl,by simp only[e4,n4];rfl⟩
   . rw[and_eq_true,Bool.not_eq_true',decide_eq_false_iff_not]at h3;obtain⟨e,he,h4⟩:=h.all j (by omega) h2 h3.1;rcases List.mem_cons.1 he with rfl|he
     . omega
     . exact⟨e,he,h4⟩
 . intro h;refine⟨fun e he=> ?_,List.pairwise_cons.2 ⟨fun e he=> ?_,h.ord⟩,List.pairwise_cons.2 ⟨fun e he=> ?_,h.ap⟩,fun j h1 h2 h3=> ?_⟩
   . rcases List.mem_cons.1 he with rfl|he
     . exact⟨hd,by omega,by rw[hI];exact hS,by rw[hJ];exact hm⟩
     . obtain⟨e1,e2,e3,e4⟩:=h.ok e he;rw[and_eq_true]at e3 e4;exact⟨e1,by omega,e3.1,e4.1⟩
   . obtain⟨e1,e2,_,_⟩:=h.ok e he;have:=Ip e1;omega
   . obtain⟨e1,e2,e3,e4⟩:=h.ok e he;have hej:=G9 e1;rw[and_eq_true,Bool.not_eq_true',decide_eq_false_iff_not]at e3 e4;exact(Bf hd e1).2 ⟨by omega,by omega,by have:=e3.2;omega,by have:=e4.2;omega⟩
   . by_cases e:j=i
     . exact⟨d,mem_cons_self ..,.inl (by omega)⟩
     . by_cases e2:j=m
       . exact⟨d,mem_cons_self ..,.inr (by omega)⟩
       . obtain ⟨f, hf, h4⟩ := h.all j (by omega) h2 (by rw [h3]; simp [e2]);exact⟨f,List.mem_cons_of_mem _ hf,h4⟩
theorem Cx:∀(n i:Nat) (S:Nat->Bool) (t:List Dm),i+n=64->(t∈tl n i S↔Til i S t)
  | 0, i, S, t, hn => by
   show t∈[[]]↔_;rw[List.mem_singleton];constructor
   . rintro rfl;exact⟨by simp,List.Pairwise.nil,List.Pairwise.nil,fun j h1 h2=>by omega⟩
   . intro h;cases t with
     |nil=>rfl
     |cons d r=>
      obtain⟨a,b,_,_⟩:=h.ok d (mem_cons_self ..);have:=(G8 a).1;omega
  | n + 1, i, S, t, hn => by
   rw[rV];rcases hS:S i with _|_
   . simp only[false_eq_true,if_false];rw[Cx n (i+1) S t (by omega)];constructor
     . intro h
       exact ⟨fun d hd => by obtain ⟨a, b, c, e⟩ := h.ok d hd; exact ⟨a, by omega, c, e⟩, h.ord, h.ap, fun j h1 h2 h3 => h.all j (by
        by_cases e:j=i
        . subst e;rw[hS]at h3;cases h3
        . omega) h2 h3⟩
     . intro h
       exact ⟨fun d hd => by
        obtain⟨a,b,c,e⟩:=h.ok d hd;refine⟨a,?_,c,e⟩;by_cases q:eZ d=i
        . rw[q,hS]at c;cases c
        . omega,h.ord,h.ap,fun j h1 h2 h3=>h.all j (by omega) h2 h3⟩
   . simp only[if_true];rw[List.mem_append];constructor
     . rintro(h|h)
       . split at h
         . rename_i q;rw[and_eq_true,decide_eq_true_eq]at q;obtain⟨t',h1,rfl⟩:=List.mem_map.1 h;obtain⟨a,b,c⟩:=qQ (i:=i) (by omega) q.1;exact(Ae a b c hS q.2).2 ((Cx n (i+1) _ t' (by omega)).1 h1)
         . cases h
       . split at h
         . rename_i q;rw[and_eq_true,decide_eq_true_eq]at q;obtain⟨t',h1,rfl⟩:=List.mem_map.1 h;obtain⟨a,b,c⟩:=qR q.1;exact(Ae a b c hS q.2).2 ((Cx n (i+1) _ t' (by omega)).1 h1)
         . cases h
     . intro h;obtain⟨d,hd,hdi⟩:=h.all i (le_refl _) (by omega) hS;obtain⟨d1,d2,d3,d4⟩:=h.ok d hd;have hlt:=G9 d1;have hI:eZ d=i:=(by omega);cases t with
       |nil=>cases hd
       |cons e r=>
        have he:e=d:=by
         rcases List.mem_cons.1 hd with q|q
         . exact q.symm
         . exfalso;have:=(List.pairwise_cons.1 h.ord).1 d q;obtain⟨e1,e2,_,_⟩:=h.ok e (mem_cons_self ..);have o1:=Ip e1;have o2:=Ip d1;have hei:eZ e=i:=(by omega);exact((Bf e1 d1).1 ((List.pairwise_cons.1 h.ap).1 d q)).1 (by omega)
        subst he;obtain⟨_,(⟨q,h7⟩|⟨q,h7⟩)⟩:=G8 d1
        . rw[hI]at q h7;obtain⟨a,b,c⟩:=qQ (i:=i) (by omega) h7;rw[<-q]at a b c;left;rw[if_pos (by rw[decide_eq_true h7,<-c,d4];rfl),q];exact List.mem_map.2 ⟨r,(Cx n (i+1) _ r (by omega)).2 ((Ae a b c hS (by rw[<-c];exact d4)).1 h),rfl⟩
        . rw[hI]at q h7;obtain⟨a,b,c⟩:=qR h7;rw[<-q]at a b c;right;rw[if_pos (by rw[decide_eq_true h7,<-c,d4];rfl),q];exact List.mem_map.2 ⟨r,(Cx n (i+1) _ r (by omega)).2 ((Ae a b c hS (by rw[<-c];exact d4)).1 h),rfl⟩
def fF (s:Nat):Int:=(bQ s 64).getD 0 0
def iM (s:Nat):List (List Dm):=tl 64 0 s.testBit
def aU (rows:List Int):Int:=if aZ rows then fF (setOf rows)else 0
def eQ (s:Nat) (d:Dm):Bool:=aJ d&&decide (s&&&aG d=aG d)
def nZ (rows:List Int) (d:Dm):Int:=if aZ rows&&eQ (setOf rows) d then fF (dB (setOf rows) (aG d))else 0
theorem MZ (s:Nat):0<=fF s/\fF s<=562949953421312:=Io s 64 0 (le_refl _) (by decide)
theorem sN {s:Nat} (hs:s<U64):fF s=((iM s).length:Nat):=Oe hs
theorem vQ {s:Nat} (hs:s<U64):fF s=0↔iM s=[]:=by
 rw[sN hs,<-List.length_eq_zero_iff];omega
theorem Kw (rows:List Int):0<=aU rows/\aU rows<=562949953421312:=by
 unfold aU;split
 . exact MZ _
 . omega
theorem DF:∀(d n i:Nat) (S:Nat->Bool),(∀j,i<=j->j<i+d->S j=false)->tl (d+n) i S=tl n (i+d) S
  |0,n,i,S,_=>by rw[zero_add];rfl
  | d + 1, n, i, S, h => by
   rw[show d+1+n=d+n+1 by omega,rV,h i (le_refl _) (by omega),if_neg (by simp),DF d n (i+1) S (fun j a b=>h j (by omega) (by omega)),show i+1+d=i+(d+1) by omega]
theorem Fh:∀(n i:Nat) (S:Nat->Bool) (t:List Dm),t∈tl n i S->t.length<=n
  | 0, i, S, t, h => by
   have:t=[]:=List.mem_singleton.1 h;rw[this];exact le_refl _
  | n + 1, i, S, t, h => by
   rw[rV]at h;split at h
   . rcases List.mem_append.1 h with h|h
     . split at h
       . obtain⟨u,hu,rfl⟩:=List.mem_map.1 h;have:=Fh n _ _ u hu;rw[List.length_cons];omega
       . cases h
     . split at h
       . obtain⟨u,hu,rfl⟩:=List.mem_map.1 h;have:=Fh n _ _ u hu;rw[List.length_cons];omega
       . cases h
   . have:=Fh n _ _ t h;omega
def rT (s i:Nat):Prop:=i<64/\s.testBit i=true/\∀j,j<i->s.testBit j=false
theorem wD {s:Nat} (hs:s<U64) (h0:s≠0):∃i,rT s i:=by
 have hex:∃i,s.testBit i=true:=Nat.exists_testBit_of_ne_zero h0
 have key:∀n,s.testBit n=true->∃i,i<=n/\s.testBit i=true/\∀j,j<i->s.testBit j=false:=by
  intro n;induction n using Nat.strongRecOn with
  |_ n ih=>
   intro hn;by_cases q:∃m,m<n/\s.testBit m=true
   . obtain⟨m,hm,hb⟩:=q;obtain⟨i,a,b,c⟩:=ih m hm hb;exact⟨i,by omega,b,c⟩
   . refine ⟨n, le_refl _, hn, fun j hj => ?_⟩;rcases e:s.testBit j with _|_
     . rfl
     . exact absurd ⟨j,hj,e⟩ q
 obtain⟨n,hn⟩:=hex;obtain⟨i,_,b,c⟩:=key n hn;refine⟨i,?_,b,c⟩;rcases Nat.lt_or_ge i 64 with q|q
 . exact q
 . exfalso;have:s<2^i:=Nat.lt_of_lt_of_le hs (by unfold U64;exact Nat.pow_le_pow_right (by decide) q);rw[Nat.testBit_lt_two_pow this]at b;cases b
theorem Rs {i:Nat} (hi:i<64):aJ (eG i)=decide (i%8<7):=by
 by_cases h:i%8<7
 . rw[decide_eq_true h];exact(qQ hi h).1
 . rw[decide_eq_false h];rcases e:aJ (eG i)with _|_
   . rfl
   . exfalso;have:=(AX e).1;unfold sec eG at this;simp only[false_eq_true,if_false]at this;unfold wrap64 at this;omega
theorem Rt {i:Nat} (hi:i<64):aJ (fJ i)=decide (i<56):=by
 by_cases h:i<56
 . rw[decide_eq_true h];exact(qR h).1
 . rw[decide_eq_false h];rcases e:aJ (fJ i)with _|_
   . rfl
   . exfalso;have:=(AX e).2;unfold sec fJ at this;simp only[if_true]at this;unfold wrap64 at this;omega
theorem Qz {s i:Nat} (hs:s<U64) (hi:i<64) (hb:s.testBit i=true):eQ s (eG i)=(decide (i%8<7)&&s.testBit (i+1)):=by
 unfold eQ;rw[Rs hi];by_cases h:i%8<7
 . obtain⟨a,b,c⟩:=qQ hi h;rw[xD hs a,b,c,hb];simp
 . rw[decide_eq_false h];rfl
theorem QA {s i:Nat} (hs:s<U64) (hi:i<64) (hb:s.testBit i=true):eQ s (fJ i)=(decide (i<56)&&s.testBit (i+8)):=by
 unfold eQ;rw[Rt hi];by_cases h:i<56
 . obtain⟨a,b,c⟩:=qR h;rw[xD hs a,b,c,hb];simp
 . rw[decide_eq_false h];rfl
theorem FY {s i : Nat} {d : Dm} (hs : s < U64) (hl : rT s i) (hd : aJ d = true) (hI : eZ d = i) : iM (dB s (aG d)) = tl (64 - (i + 1)) (i + 1) (fun j => s.testBit j && !decide (j = iZ d)) := by
 have hi:=hl.1;unfold iM;rw[show 64=(i+1)+(64-(i+1)) by omega,DF (i+1) (64-(i+1)) 0,zero_add]
 . rw [show i + 1 + (64 - (i + 1)) - (i + 1) = 64 - (i + 1) by omega];refine mV _ _ _ _ fun j hj=> ?_
   rw[kH (dJ hd) hs,aT hd,hI,decide_eq_false (show¬i=j by omega),Bool.false_or];congr 2
   exact decide_eq_decide.2 ⟨fun e=>e.symm,fun e=>e.symm⟩
 . intro j _ hj;rw[kH (dJ hd) hs,aT hd,hI];by_cases e:j=i
   . rw[e];simp
   . rw[hl.2.2 j (by omega)];rfl
theorem FZ {s i:Nat} (hs:s<U64) (hl:rT s i):iM s=
    (if eQ s (eG i)then(iM (dB s (aG (eG i)))).map (eG i::·)else[])++(if eQ s (fJ i)then(iM (dB s (aG (fJ i)))).map (fJ i::·)else[]):=by
 have hi:=hl.1
 have e0:iM s=tl (64-i) i s.testBit:=by
  unfold iM;rw[show 64=i+(64-i) by omega,DF i (64-i) 0 s.testBit (fun j _ hj=>hl.2.2 j (by omega)),zero_add,show i+(64-i)-i=64-i by omega]
 rw[e0,show 64-i=(64-(i+1))+1 by omega,rV,if_pos hl.2.1,Qz hs hi hl.2.1,QA hs hi hl.2.1];congr 1
 . by_cases h:(decide (i%8<7)&&s.testBit (i+1))=true
   . rw[if_pos h,if_pos h];rw[and_eq_true,decide_eq_true_iff]at h;obtain⟨a,b,c⟩:=qQ hi h.1;rw[FY hs hl a b,c]
   . rw[if_neg h,if_neg h]
 . by_cases h:(decide (i<56)&&s.testBit (i+8))=true
   . rw[if_pos h,if_pos h];rw[and_eq_true,decide_eq_true_iff]at h;obtain⟨a,b,c⟩:=qR h.1;rw[FY hs hl a b,c]
   . rw[if_neg h,if_neg h]
theorem Bg:iM 0=[[]]:=by
 unfold iM;rw[show 64=64+0 from rfl,DF 64 0 0 _ (fun j _ _=>Nat.zero_testBit j)];rfl
def firstT (s:Nat):List Dm:=(iM s).headD []
def uY (s i:Nat):Bool:=eQ s (eG i)&&decide (fF (dB s (aG (eG i)))≠0)
def uZ (s i:Nat):Dm:=if uY s i then eG i else fJ i
theorem DI {s i:Nat} (hs:s<U64) (hl:rT s i) (hc:fF s≠0):eQ s (uZ s i)=true/\fF (dB s (aG (uZ s i)))≠0/\firstT s=uZ s i::firstT (dB s (aG (uZ s i))):=by
 have hne:iM s≠[]:=fun e=>hc ((vQ hs).2 e)
 have hst:=FZ hs hl;have hz:=fun(d:Dm)=>vQ (s:=dB s (aG d)) (eB hs)
 have hh:∀(d:Dm) (L:List (List Dm)),L≠[]->((L.map (d::·)).headD [])=d::L.headD []:=by
  intro d L hL;cases L with
  |nil=>exact absurd rfl hL
  |cons a r=>rfl
 unfold uZ;rcases hg:uY s i with _|_
 . rw [if_neg (by simp)]
   have h1:(if eQ s (eG i)then(iM (dB s (aG (eG i)))).map (eG i::·)else[])=[]:=by
    unfold uY at hg;rw[Bool.and_eq_false_iff]at hg;rcases hg with q|q
    . rw[q];rfl
    . have : fF (dB s (aG (eG i))) = 0 := by simpa using q
      rw[(hz (eG i)).1 this];split<;>rfl
   rw[h1,List.nil_append]at hst
   have h2:eQ s (fJ i)=true:=by
    rcases q:eQ s (fJ i)with _|_
    . rw[q]at hst;exact absurd hst hne
    . rfl
   rw[if_pos h2]at hst
   have h3:iM (dB s (aG (fJ i)))≠[]:=by
    intro e;rw[e]at hst;exact hne hst
   refine⟨h2,fun e=>h3 ((hz _).1 e),?_⟩;unfold firstT;rw[hst,hh _ _ h3]
 . rw[if_pos rfl];unfold uY at hg;rw[and_eq_true,decide_eq_true_iff]at hg;have h3:iM (dB s (aG (eG i)))≠[]:=fun e=>hg.2 ((hz _).2 e)
   refine⟨hg.1,hg.2,?_⟩;unfold firstT;rw[hst,if_pos hg.1];generalize (if eQ s (fJ i)then(iM (dB s (aG (fJ i)))).map (fJ i::·)else[])=M
   cases hL:iM (dB s (aG (eG i)))with
   |nil=>exact absurd hL h3
   |cons a r=>rfl
theorem BI:firstT 0=[]:=by unfold firstT;rw[Bg];rfl
theorem yL (s:Nat):(firstT s).length<=64:=by
 unfold firstT;cases h:iM s with
 |nil=>simp
 |cons a r=>exact Fh 64 0 _ a (by unfold iM at h;rw[h];exact mem_cons_self ..)
theorem Ky {s:Nat} {d:Dm} (hs:s<U64) (h:eQ s d=true):dB s (aG d)<s:=by
 unfold eQ at h;rw[and_eq_true,decide_eq_true_iff]at h;have h1:dB s (aG d)<=s:=Nat.and_le_left;refine Nat.lt_of_le_of_ne h1 fun e=> ?_
 have hb:=(and_eq_true _ _).mp ((xD hs h.1).symm.trans (decide_eq_true h.2));have:=kH (i:=eZ d) (dJ h.1) hs;rw[e,aT h.1,hb.1]at this;simp at this
theorem DJ {s:Nat} (hs:s<U64) (hc:fF s≠0):firstT s∈iM s:=by
 unfold firstT;cases h:iM s with
 |nil=>exact absurd ((vQ hs).2 h) hc
 |cons a r=>exact mem_cons_self ..
theorem yM {s i:Nat} (hl:rT s i):∃r,eH s 64=iE i::r:=by
 have hsp:range 64=range i++(range (64-i)).map (i+·):=by
  rw[show 64=i+(64-i) by have:=hl.1;omega,List.range_add,show i+(64-i)-i=64-i by omega]
 unfold eH;rw[hsp,List.filter_append,List.map_append]
 have h1 : (range i).filter (fun i => s.testBit i) = [] := by
  rw[List.filter_eq_nil_iff];intro j hj;rw[hl.2.2 j (List.mem_range.1 hj)];simp
 rw[h1,List.map_nil,List.nil_append];obtain⟨m,hm⟩:∃m,64-i=m+1:=⟨63-i,by have:=hl.1;omega⟩;rw[hm,List.range_succ_eq_map,map_cons,List.filter_cons,Nat.add_zero,if_pos hl.2.1,map_cons];exact⟨_,rfl⟩
theorem Kz:eH 0 64=[]:=by
 unfold eH;rw[List.filter_eq_nil_iff.2 (fun j _=>by rw[Nat.zero_testBit];simp)];rfl
theorem vE {s:Nat} (hs:s<U64):(eH s 64).length=0↔s=0:=by
 constructor
 . intro h;rcases Nat.eq_zero_or_pos s with q|q
   . exact q
   . obtain ⟨i, hl⟩ := wD hs (by omega);obtain⟨r,hr⟩:=yM hl;rw[hr]at h;cases h
 . intro h;rw[h,Kz];rfl
theorem Jt {d:Dm} (h:aJ d=true):eZ d<64/\iZ d<64:=by
 have:=dU h;have a:=(dQ this.1).2;have b:=(dQ this.2).2;unfold eZ iZ;omega
theorem vR {s:Nat} {d:Dm} (hs:s<U64) (h:aJ d=true):iK (iK s (eZ d)) (iZ d)=dB s (aG d):=by
 obtain⟨h1,h2⟩:=Jt h;have a:iK s (eZ d)<U64:=eB hs;refine Nat.eq_of_testBit_eq fun j=> ?_
 rw[lG a h2,lG hs h1,kH (dJ h) hs,aT h,Bool.not_or,Bool.and_assoc]
end Go.Proofs.YtljfoohaapckeaaGreatDoor
