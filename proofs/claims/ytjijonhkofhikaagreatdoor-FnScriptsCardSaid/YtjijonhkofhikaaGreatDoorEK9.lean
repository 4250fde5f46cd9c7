import Derived.Test.YtjijonhkofhikaaGreatDoorEK5
open _root_.List (range map_cons)
open _root_.List renaming replicate->TZ,range_zero->T9,foldl_nil->Ua,length_replicate->Ub,getD_eq_getElem?_getD->Uc,getElem?_eq_getElem->Ud,getElem?_set_ne->Ue,getElem?_replicate->Uf,mem_cons_self->Ug
open _root_.Nat renaming le_refl->Uh,testBit_or->Ui,zero_add->Uj
open _root_.Bool renaming and_eq_true->Uk,or_eq_true->Ul,false_eq_true->Um
open _root_.Int renaming le_trans->Un
open _root_.Option renaming getD_some->Uo
set_option linter.unusedVariables false
set_option maxHeartbeats 4000000
set_option maxRecDepth 100000
namespace Go.Proofs.YtjijonhkofhikaaGreatDoor
open Go.ChangeShapes Go.WideShapes Go.ChangeAt Go.RowKit
def jU (s i:Nat):Bool:=decide (i<56)&&s.testBit (i+8)
def jV (s i:Nat):Bool:=decide (i%8<7)&&s.testBit (i+1)
def fK (i:Nat):Dm:=(((i%8:Nat):Int),((i/8:Nat):Int),true)
def eQ (i:Nat):Dm:=(((i%8:Nat):Int),((i/8:Nat):Int),false)
def fU (no:Int) (add:Int->Int->Int) (nx:List Int) (k:Nat) (n:Int):List Int:=nx.set k (if nx.getD k 0=no then n else add (nx.getD k 0) n)
def sK (s:Nat) (no:Int) (add:Int->Int->Int) (wt:Int->Dm->Int) (i:Nat) (nx:List Int) (k:Nat) (n:Int):List Int:=if jU s i then fU no add nx (k|||2^(i%8)) (wt n (fK i))else nx
def zC (s:Nat) (no:Int) (add:Int->Int->Int) (wt:Int->Dm->Int) (i:Nat) (nx:List Int) (k:Nat) (n:Int):List Int:=if jV s i&& !k.testBit (i%8+1)then fU no add nx (k|||2^(i%8+1)) (wt n (eQ i))else nx
def jK (s:Nat) (no:Int) (add:Int->Int->Int) (wt:Int->Dm->Int) (i:Nat) (nx:List Int) (k:Nat) (n:Int):List Int:=
 if n=no then nx
 else if s.testBit i then
   if k.testBit (i%8)then fU no add nx (k-2^(i%8)) n
   else zC s no add wt i (sK s no add wt i nx k n) k n
 else if k.testBit (i%8)then nx else fU no add nx k n
def mJ (s:Nat) (no:Int) (add:Int->Int->Int) (wt:Int->Dm->Int) (now:List Int) (i K:Nat):List Int:=(range K).foldl (fun nx k=>jK s no add wt i nx k (now.getD k 0)) (TZ 256 no)
def dp (s:Nat) (no:Int) (add:Int->Int->Int) (wt:Int->Dm->Int) (st:Int):Nat->List Int
  |0=>(TZ 256 no).set 0 st
  |i+1=>mJ s no add wt (dp s no add wt st i) i 256
section
variable {s : Nat} {no : Int} {add : Int -> Int -> Int} {wt : Int -> Dm -> Int} {st : Int}
theorem tF (nx:List Int) (k:Nat) (n:Int):(fU no add nx k n).length=nx.length:=by simp[fU]
theorem uD (i:Nat) (nx:List Int) (k:Nat) (n:Int):(sK s no add wt i nx k n).length=nx.length:=by unfold sK;split<;>simp[tF]
theorem Pn (i:Nat) (nx:List Int) (k:Nat) (n:Int):(zC s no add wt i nx k n).length=nx.length:=by unfold zC;split<;>simp[tF]
theorem NY (i:Nat) (nx:List Int) (k:Nat) (n:Int):(jK s no add wt i nx k n).length=nx.length:=by
 unfold jK;split
 . rfl
 . split
   . split
     . exact tF _ _ _
     . rw[Pn,uD]
   . split
     . rfl
     . exact tF _ _ _
theorem dN (now:List Int) (i K:Nat):mJ s no add wt now i (K+1)=jK s no add wt i (mJ s no add wt now i K) K (now.getD K 0):=by
 unfold mJ;rw[List.range_succ,List.foldl_append];rfl
theorem lY (now:List Int) (i:Nat):∀K,(mJ s no add wt now i K).length=256
  |0=>by unfold mJ;rw[T9,Ua,Ub]
  |K+1=>by rw[dN,NY];exact lY now i K
theorem yA:∀i,(dp s no add wt st i).length=256
  |0=>by unfold dp;rw[List.length_set,Ub]
  |i+1=>lY _ _ _
theorem Bz {P:Nat->Int->Prop} {nx:List Int} (h:∀k v,nx[k]? =some v->P k v) {k:Nat} {n:Int} (hk:k<nx.length) (hp:nx[k]? =some no->P k n) (ha:∀v,nx[k]? =some v->v≠no->P k (add v n)):∀j v,(fU no add nx k n)[j]? =some v->P j v:=by
 intro j v hj;unfold fU at hj;by_cases e:k=j
 . subst e;rw[List.getElem?_set_self hk]at hj;injection hj with hj;have hg:nx.getD k 0=nx[k]:=(by rw[Uc,Ud hk,Uo]);rw[hg]at hj;by_cases e:nx[k]=no
   . rw[if_pos e]at hj;rw[<-hj];exact hp (by rw[Ud hk,e])
   . rw[if_neg e]at hj;rw[<-hj];exact ha _ (Ud hk) e
 . rw[Ue e]at hj;exact h j v hj
end
theorem pV:∀k<256,∀x<8,k.testBit x=true->k-2^x<256/\2^x<=k/\∀j<8,(k-2^x).testBit j=(k.testBit j&& !decide (x=j)):=by decide+kernel
theorem zD:∀k<256,∀x<8,k|||2^x<256:=by decide+kernel
theorem RF:∀k<256,∀x<8,(decide (k&&&2^x=0))= !k.testBit x:=by decide+kernel
def jI (i x:Nat):Nat:=if i%8<=x then i-i%8+x else i-i%8+8+x
theorem uS (i:Nat):jI i (i%8)=i:=by unfold jI;rw[if_pos (Uh _)];omega
theorem nY (i:Nat):jI i (i%8+1)=i+1:=by unfold jI;rw[if_pos (by omega)];omega
theorem uT (i:Nat):jI (i+1) (i%8)=i+8:=by
 unfold jI;by_cases h:i%8=7
 . rw[if_pos (by omega)];omega
 . rw[if_neg (by omega)];omega
theorem gG {i x:Nat} (hx:x<8) (h:x≠i%8):jI (i+1) x=jI i x:=by
 unfold jI;by_cases h7:i%8=7
 . rw[if_pos (by omega),if_neg (by omega)];omega
 . by_cases h2:i%8<=x
   . rw[if_pos (by omega),if_pos h2];omega
   . rw[if_neg (by omega),if_neg h2];omega
def gV (s i k:Nat):Prop:=∀x,x<8->k.testBit x=true->s.testBit (jI i x)=true
theorem Fx {s i k:Nat} (h:gV s i k) (hb:k.testBit (i%8)=true):s.testBit i=true:=by
 have:=h (i%8) (by omega) hb;rwa [uS]at this
theorem NZ {s i k:Nat} (h:gV s i k) (hb:k.testBit (i%8)=false):gV s (i+1) k:=by
 intro x hx hk;have hne:x≠i%8:=fun e=>by rw[e,hb]at hk;cases hk
 rw[gG hx hne];exact h x hx hk
theorem Po {s i k:Nat} (a6:k<256) (h:gV s i k) (hb:k.testBit (i%8)=true):gV s (i+1) (k-2^(i%8)):=by
 intro x hx hk;rw[(pV k a6 (i%8) (by omega) hb).2.2 x hx,Uk]at hk;have hne:x≠i%8:=fun e=>by rw[e]at hk;simp at hk
 rw[gG hx hne];exact h x hx hk.1
theorem RG {s i k:Nat} (h:gV s i k) (hd:jU s i=true):gV s (i+1) (k|||2^(i%8)):=by
 intro x hx hk;by_cases e:x=i%8
 . rw[e,uT];unfold jU at hd;rw[Uk]at hd;exact hd.2
 . rw[Ui,Nat.testBit_two_pow]at hk;have:decide (i%8=x)=false:=by simp;omega
   rw[this,Bool.or_false]at hk;rw[gG hx e];exact h x hx hk
theorem RH {s i k:Nat} (h:gV s i k) (hb:k.testBit (i%8)=false) (hd:jV s i=true):gV s (i+1) (k|||2^(i%8+1)):=by
 unfold jV at hd;rw[Uk,decide_eq_true_iff]at hd;intro x hx hk;by_cases e:x=i%8+1
 . rw[e,gG (by omega) (by omega),nY];exact hd.2
 . rw[Ui,Nat.testBit_two_pow]at hk;have:decide (i%8+1=x)=false:=by simp;omega
   rw[this,Bool.or_false]at hk;have hne:x≠i%8:=fun e2=>by rw[e2,hb]at hk;cases hk
   rw[gG hx hne];exact h x hx hk
def tl:Nat->Nat->(Nat->Bool)->List (List Dm)
  |0,_,_=>[[]]
  | n + 1, i, S => if S i then
      (if decide (i%8<7)&&S (i+1)then(tl n (i+1) (fun j=>S j&& !decide (j=i+1))).map (eQ i::·)else[])++
      (if decide (i<56)&&S (i+8)then(tl n (i+1) (fun j=>S j&& !decide (j=i+8))).map (fK i::·)else[])
   else tl n (i+1) S
theorem sM (n i:Nat) (S:Nat->Bool):tl (n+1) i S=if S i then
      (if decide (i%8<7)&&S (i+1)then(tl n (i+1) (fun j=>S j&& !decide (j=i+1))).map (eQ i::·)else[])++
      (if decide (i<56)&&S (i+8)then(tl n (i+1) (fun j=>S j&& !decide (j=i+8))).map (fK i::·)else[])
 else tl n (i+1) S:=rfl
theorem nJ:∀(n i:Nat) (S T:Nat->Bool),(∀j,i<=j->S j=T j)->tl n i S=tl n i T
  |0,_,_,_,_=>rfl
  | n + 1, i, S, T, h => by
   rw [sM, sM, h i (Uh _), h (i + 1) (by omega), h (i + 8) (by omega),
     nJ n (i+1) (fun j=>S j&& !decide (j=i+1)) (fun j=>T j&& !decide (j=i+1)) (fun j hj=>by simp only[h j (by omega)]),
     nJ n (i+1) (fun j=>S j&& !decide (j=i+8)) (fun j=>T j&& !decide (j=i+8)) (fun j hj=>by simp only[h j (by omega)]),
     nJ n (i+1) S T (fun j hj=>h j (by omega))]
def FV (i k j:Nat):Bool:=(range 8).any fun x=>k.testBit x&&decide (jI i x=j)
theorem rJ {i k j:Nat}:FV i k j=true↔∃x,x<8/\k.testBit x=true/\jI i x=j:=by
 unfold FV;rw[List.any_eq_true];constructor
 . rintro⟨x,hx,h⟩;rw[Uk,decide_eq_true_eq]at h;exact⟨x,List.mem_range.1 hx,h.1,h.2⟩
 . rintro⟨x,hx,h1,h2⟩;exact⟨x,List.mem_range.2 hx,by rw[h1,decide_eq_true h2];rfl⟩
theorem JG {i x y:Nat} (hx:x<8) (hy:y<8) (h:jI i x=jI i y):x=y:=by
 unfold jI at h;split at h<;>split at h<;>omega
def iU (s i k j:Nat):Bool:=s.testBit j&& !FV i k j
theorem MS {i k x:Nat} (hx:x<8):FV i k (jI i x)=k.testBit x:=by
 rw[Bool.eq_iff_iff,rJ];constructor
 . rintro⟨y,hy,h1,h2⟩;rw[<-JG hy hx h2];exact h1
 . intro h;exact⟨x,hx,h,rfl⟩
theorem Lu {i k:Nat}:FV i k (i+8)=false:=by
 rcases q:FV i k (i+8)with _|_
 . rfl
 . obtain⟨x,hx,_,h⟩:=rJ.1 q;unfold jI at h;split at h<;>omega
theorem BB {i k k' j:Nat} (hj:i+1<=j) (h:∀x,x<8->x≠i%8->k'.testBit x=k.testBit x):FV (i+1) k' j=(FV i k j||(k'.testBit (i%8)&&decide (i+8=j))):=by
 rw[Bool.eq_iff_iff,Ul,Uk,decide_eq_true_eq,rJ,rJ];constructor
 . rintro⟨x,hx,h1,h2⟩;by_cases e:x=i%8
   . subst e;rw[uT]at h2;exact .inr ⟨h1,h2⟩
   . rw[gG hx e]at h2;rw[h x hx e]at h1;exact .inl ⟨x,hx,h1,h2⟩
 . rintro(⟨x,hx,h1,h2⟩|⟨h1,h2⟩)
   . have e : x ≠ i % 8 := fun e => by subst e; rw [uS] at h2; omega
     exact⟨x,hx,by rw[h x hx e];exact h1,by rw[gG hx e];exact h2⟩
   . exact⟨i%8,by omega,h1,by rw[uT];exact h2⟩
def nOf (s i k:Nat):Int:=((tl (64-i) i (iU s i k)).length:Nat)
def gives (s i k:Nat):Int:=
 if s.testBit i then
   if k.testBit (i%8)then nOf s (i+1) (k-2^(i%8))
   else(if jU s i then nOf s (i+1) (k|||2^(i%8))else 0)+(if jV s i&& !k.testBit (i%8+1)then nOf s (i+1) (k|||2^(i%8+1))else 0)
 else if k.testBit (i%8)then 0 else nOf s (i+1) k
theorem Bc (k x j:Nat):(k|||2^x).testBit j=(k.testBit j||decide (x=j)):=by rw[Ui,Nat.testBit_two_pow]
theorem Pp {s i k:Nat} (hi:i<64) (hk:k<256) (ho:gV s i k):gives s i k=nOf s i k:=by
 have a6:FV i k i=k.testBit (i%8):=by
  have:=MS (i:=i) (k:=k) (x:=i%8) (by omega);rwa [uS]at this
 have a8:64-i=(64-(i+1))+1:=(by omega);unfold gives;conv=>rhs;unfold nOf;rw[a8,sM]
 rcases hs:s.testBit i with _|_
 . have hS : iU s i k i = false := by unfold iU; rw [hs]; rfl
   rw[hS];simp only[Um,if_false];rcases hb:k.testBit (i%8)with _|_
   . simp only[Um,if_false];unfold nOf;rw[nJ _ (i+1) (iU s (i+1) k) (iU s i k) (fun j hj=>by unfold iU;rw[BB hj (fun _ _ _=>rfl),hb];simp)]
   . have:=Fx ho hb;rw[hs]at this;cases this
 . simp only[if_true];rcases hb:k.testBit (i%8)with _|_
   . have hS : iU s i k i = true := by unfold iU; rw [hs, a6, hb]; rfl
     rw[hS];simp only[Um,if_false,if_true,List.length_append];have bA:(decide (i<56)&&iU s i k (i+8))=jU s i:=by unfold iU jU;rw[Lu];simp
     rw[bA]
     have hrt:(decide (i%8<7)&&iU s i k (i+1))=(jV s i&& !k.testBit (i%8+1)):=by
      unfold jV iU;by_cases h7:i%8<7
      . have := MS (i := i) (k := k) (x := i % 8 + 1) (by omega);rw[nY]at this;rw[this,Bool.and_assoc]
      . simp[h7]
     rw[hrt]
     have ed : jU s i = true -> nOf s (i + 1) (k ||| 2 ^ (i % 8)) = ((tl (64 - (i + 1)) (i + 1) (fun j => iU s i k j && !decide (j = i + 8))).length : Nat) := fun _ => by
      unfold nOf
      rw [nJ _ (i + 1) _ (fun j => iU s i k j && !decide (j = i + 8)) (fun j hj => by
       unfold iU;rw[BB (k:=k) hj (fun x hx hne=>by rw[Bc];simp;omega),Bc];simp[Bool.and_assoc,eq_comm])]
     have er : (jV s i && !k.testBit (i % 8 + 1)) = true -> nOf s (i + 1) (k ||| 2 ^ (i % 8 + 1)) = ((tl (64 - (i + 1)) (i + 1) (fun j => iU s i k j && !decide (j = i + 1))).length : Nat) := fun hr => by
      have h7:i%8<7:=by
       rw[Uk]at hr;have:=hr.1;unfold jV at this;rw[Uk,decide_eq_true_iff]at this;exact this.1
      unfold nOf
      rw [nJ _ (i + 1) _ (fun j => iU s i k j && !decide (j = i + 1)) (fun j hj => by
       unfold iU
       have e1:FV (i+1) (k|||2^(i%8+1)) j=(FV i k j||decide (j=i+1)):=by
        rw[Bool.eq_iff_iff,Ul,decide_eq_true_eq,rJ,rJ];constructor
        . rintro⟨x,hx,h1,h2⟩;rw[Bc,Ul,decide_eq_true_eq]at h1;by_cases e:x=i%8
          . subst e;rcases h1 with h1|h1
            . rw[hb]at h1;cases h1
            . omega
          . rw[gG hx e]at h2;rcases h1 with h1|h1
            . exact .inl ⟨x,hx,h1,h2⟩
            . subst h1;rw[nY]at h2;exact .inr h2.symm
        . rintro(⟨x,hx,h1,h2⟩|h2)
          . have e : x ≠ i % 8 := fun e => by subst e; rw [hb] at h1; cases h1
            exact⟨x,hx,by rw[Bc,h1];rfl,by rw[gG hx e];exact h2⟩
          . refine ⟨i % 8 + 1, by omega, by rw [Bc]; simp, ?_⟩;rw[gG (by omega) (by omega),nY];exact h2.symm
       rw[e1,Bool.not_or,Bool.and_assoc])]
     rcases hd:jU s i with _|_<;>rcases hr:(jV s i&& !k.testBit (i%8+1))with _|_
     . simp
     . simp[er hr]
     . simp[ed hd]
     . simp[ed hd,er hr];omega
   . have hS : iU s i k i = false := by unfold iU; rw [a6, hb]; simp
     rw[hS];simp only[Um,if_false,if_true];unfold nOf
     rw [nJ _ (i + 1) (iU s (i + 1) (k - 2 ^ (i % 8))) (iU s i k) (fun j hj => by
      have a7:=(pV k hk (i%8) (by omega) hb).2.2;unfold iU;rw[BB (k:=k) hj (fun x hx hne=>by rw[a7 x hx];simp;omega),a7 _ (by omega)];simp)]
def lK (f:Nat->Int) (l:List Int):Nat->Int
  |0=>0
  |K+1=>lK f l K+l.getD K 0*f K
theorem jM (f:Nat->Int) (l:List Int) (K:Nat):lK f l (K+1)=lK f l K+l.getD K 0*f K:=rfl
theorem Au (f:Nat->Int) (l:List Int) {j:Nat} (hj:j<l.length) (v:Int):∀K,lK f (l.set j v) K=lK f l K+if j<K then(v-l.getD j 0)*f j else 0
  |0=>by simp[lK]
  | K + 1 => by
   rw[jM,jM,Au f l hj v K];by_cases e:j=K
   . subst e;have h1:(l.set j v).getD j 0=v:=by rw[Uc,List.getElem?_set_self hj];rfl
     rw[h1,if_neg (by omega),if_pos (by omega),Int.sub_mul];omega
   . have h1 : (l.set j v).getD K 0 = l.getD K 0 := by rw [Uc, Ue e, Uc]
     rw[h1];by_cases h:j<K
     . rw[if_pos h,if_pos (by omega)];omega
     . rw[if_neg h,if_neg (by omega)];omega
theorem tH (f:Nat->Int) (l:List Int):∀K,(∀k,k<K->l.getD k 0=0∨f k=0)->lK f l K=0
  |0,_=>rfl
  | K + 1, h => by
   rw[jM,tH f l K (fun k hk=>h k (by omega))];rcases h K (by omega)with e|e<;>rw[e]<;>simp
theorem Ev {f g:Nat->Int} (l:List Int):∀K,(∀k,k<K->l.getD k 0=0∨f k=g k)->lK f l K=lK g l K
  |0,_=>rfl
  | K + 1, h => by
   rw[jM,jM,Ev l K (fun k hk=>h k (by omega))];rcases h K (by omega)with e|e
   . rw[e];simp
   . rw[e]
theorem xA (f : Nat -> Int) {nx : List Int} (hl : nx.length = 256) {k : Nat} (hk : k < 256) (n : Int) : lK f (fU 0 (fun a b => a + b) nx k n) 256 = lK f nx 256 + n * f k := by
 unfold fU;rw[Au f nx (by omega),if_pos hk];by_cases h:nx.getD k 0=0
 . rw[if_pos h,h];simp
 . rw[if_neg h];congr 1;congr 1;show nx.getD k 0+n-nx.getD k 0=n;omega
def bT (s:Nat):Nat->List Int:=dp s 0 (fun a b=>a+b) (fun n _=>n) 1
theorem Pq {s i k : Nat} {nx : List Int} {n : Int} (hl : nx.length = 256) (hk : k < 256) : lK (nOf s (i + 1)) (jK s 0 (fun a b => a + b) (fun n _ => n) i nx k n) 256 = lK (nOf s (i + 1)) nx 256 + n * gives s i k := by
 unfold jK gives;by_cases h0:n=0
 . rw[if_pos h0,h0];simp
 . rw[if_neg h0];rcases hs:s.testBit i with _|_
   . simp only[Um,if_false];rcases hb:k.testBit (i%8)with _|_
     . simp only[Um,if_false];exact xA _ hl hk n
     . simp
   . simp only[if_true];rcases hb:k.testBit (i%8)with _|_
     . simp only[Um,if_false]
       have hd : lK (nOf s (i + 1)) (sK s 0 (fun a b => a + b) (fun n _ => n) i nx k n) 256 = lK (nOf s (i + 1)) nx 256 + n * (if jU s i then nOf s (i + 1) (k ||| 2 ^ (i % 8)) else 0) := by
        unfold sK;rcases q:jU s i with _|_
        . simp
        . simp only[if_true];exact xA _ hl (zD k hk _ (by omega)) n
       have hr : lK (nOf s (i + 1)) (zC s 0 (fun a b => a + b) (fun n _ => n) i (sK s 0 (fun a b => a + b) (fun n _ => n) i nx k n) k n) 256 = lK (nOf s (i + 1)) (sK s 0 (fun a b => a + b) (fun n _ => n) i nx k n) 256 + n * (if jV s i && !k.testBit (i % 8 + 1) then nOf s (i + 1) (k ||| 2 ^ (i % 8 + 1)) else 0) := by
        unfold zC;rcases q:(jV s i&& !k.testBit (i%8+1))with _|_
        . simp
        . have h7:i%8<7:=by
           rw[Uk]at q;have:=q.1;unfold jV at this;rw[Uk,decide_eq_true_iff]at this;exact this.1
          simp only[if_true];exact xA _ (by rw[uD];exact hl) (zD k hk _ (by omega)) n
       rw[hr,hd,Int.mul_add,Int.add_assoc]
     . simp only[if_true];exact xA _ hl (pV k hk _ (by omega) hb).1 n
theorem Ko {s i : Nat} (now : List Int) : ∀ K, K <= 256 -> lK (nOf s (i + 1)) (mJ s 0 (fun a b => a + b) (fun n _ => n) now i K) 256 = lK (gives s i) now K
  | 0, _ => by
   rw[show lK (gives s i) now 0=0 from rfl];refine tH _ _ _ fun k hk=> .inl ?_
   simp only[mJ,T9,Ua];rw[Uc,Uf,if_pos hk];rfl
  | K + 1, hK => by
   rw[dN,Pq (lY _ _ _) (by omega),Ko now K (by omega),jM]
theorem Jg {s i k : Nat} {nx : List Int} {n : Int} (hl : nx.length = 256) (h : ∀ k v, nx[k]? = some v -> v = 0 ∨ gV s i k) (hk : k < 256) (ho : gV s i k) : ∀ j v, (fU 0 (fun a b => a + b) nx k n)[j]? = some v -> v = 0 ∨ gV s i j :=
 Bz h (by omega) (fun _=> .inr ho) (fun v hv hne=> .inr ho)
theorem Td {s i k : Nat} {nx : List Int} {n : Int} (hl : nx.length = 256) (h : ∀ k v, nx[k]? = some v -> v = 0 ∨ gV s (i + 1) k) (hk : k < 256) (hn : n = 0 ∨ gV s i k) : ∀ j v, (jK s 0 (fun a b => a + b) (fun n _ => n) i nx k n)[j]? = some v -> v = 0 ∨ gV s (i + 1) j := by
 unfold jK;by_cases e:n=0
 . rw[if_pos e];exact h
 . rw[if_neg e];have ho:=hn.resolve_left e;rcases hs:s.testBit i with _|_
   . rw [if_neg (by simp)];rcases hb:k.testBit (i%8)with _|_
     . rw[if_neg (by simp)];exact Jg hl h hk (NZ ho hb)
     . rw[if_pos rfl];exact h
   . rw[if_pos rfl];rcases hb:k.testBit (i%8)with _|_
     . rw [if_neg (by simp)]
       have a6 : ∀ j v, (sK s 0 (fun a b => a + b) (fun n _ => n) i nx k n)[j]? = some v -> v = 0 ∨ gV s (i + 1) j := by
        unfold sK;rcases hd:jU s i with _|_
        . rw[if_neg (by simp)];exact h
        . rw[if_pos rfl];exact Jg hl h (zD k hk _ (by omega)) (RG ho hd)
       unfold zC;rcases hr:(jV s i&& !k.testBit (i%8+1))with _|_
       . rw[if_neg (by simp)];exact a6
       . rw[if_pos rfl];rw[Uk]at hr;have hx:i%8<7:=by have:=hr.1;unfold jV at this;rw[Uk,decide_eq_true_iff]at this;exact this.1
         exact Jg (by rw[uD];exact hl) a6 (zD k hk _ (by omega)) (RH ho hb hr.1)
     . rw[if_pos rfl];exact Jg hl h (pV k hk _ (by omega) hb).1 (Po hk ho hb)
theorem QM {s i : Nat} {now : List Int} (hn : ∀ k v, now[k]? = some v -> v = 0 ∨ gV s i k) (hl : now.length = 256) : ∀ K, K <= 256 -> ∀ j v, (mJ s 0 (fun a b => a + b) (fun n _ => n) now i K)[j]? = some v -> v = 0 ∨ gV s (i + 1) j
  | 0, _ => by
   intro j v hj;simp only[mJ,T9,Ua]at hj;rw[Uf]at hj;split at hj
   . injection hj with hj;exact .inl hj.symm
   . cases hj
  | K + 1, hK => by
   rw[dN];refine Td (lY _ _ _) (QM hn hl K (by omega)) (by omega) ?_;rw[Uc,Ud (by omega),Uo];exact hn K _ (Ud (by omega))
theorem Q0 (s:Nat):∀i,∀k v,(bT s i)[k]? =some v->v=0∨gV s i k
  | 0 => by
   intro k v hk;unfold bT dp at hk;by_cases e:0=k
   . subst e;exact .inr (fun x _ h=>by simp at h)
   . rw[Ue e,Uf]at hk;split at hk
     . injection hk with hk;exact .inl hk.symm
     . cases hk
  |i+1=>fun k v hk=>QM (Q0 s i) (yA i) 256 (Uh _) k v hk
theorem MU (s i k:Nat) (hk:k<256):(bT s i).getD k 0=0∨gV s i k:=by
 have hl:k<(bT s i).length:=by unfold bT;rw[yA];exact hk
 rw[Uc,Ud hl,Uo];exact Q0 s i k _ (Ud hl)
theorem GJ (s:Nat):∀i,i<=64->lK (nOf s i) (bT s i) 256=((tl 64 0 s.testBit).length:Nat)
  | 0, _ => by
   have h0:bT s 0=(TZ 256 (0:Int)).set 0 1:=rfl;rw[h0,Au _ _ (by rw[Ub];decide),if_pos (by omega),tH _ _ _ (fun k hk=> .inl (by rw[Uc,Uf,if_pos hk];rfl))];have h1:(TZ 256 (0:Int)).getD 0 0=0:=by rw[Uc,Uf,if_pos (by decide)];rfl
   rw[h1];unfold nOf
   rw [nJ 64 0 (iU s 0 0) s.testBit (fun j _ => by
    unfold iU
    have:FV 0 0 j=false:=by
     rcases q:FV 0 0 j with _|_
     . rfl
     . obtain⟨x,_,h,_⟩:=rJ.1 q;simp at h
    rw[this];simp)]
   simp
  | i + 1, hi => by
   have h1:bT s (i+1)=mJ s 0 (fun a b=>a+b) (fun n _=>n) (bT s i) i 256:=rfl;rw[h1,Ko _ 256 (Uh _),<-GJ s i (by omega)];refine Ev _ _ fun k hk=> ?_
   rcases MU s i k hk with h|h
   . exact .inl h
   . exact .inr (Pp (by omega) hk h)
theorem Ps {s:Nat} (hs:s<U64):(bT s 64).getD 0 0=((tl 64 0 s.testBit).length:Nat):=by
 rw[<-GJ s 64 (Uh _)];have h1:∀k,nOf s 64 k=1:=fun k=>rfl
 have h2 : ∀ k, k < 256 -> k ≠ 0 -> (bT s 64).getD k 0 = 0 := fun k hk hne => by
  rcases MU s 64 k hk with h|h
  . exact h
  . exfalso
    have hx:∃x,x<8/\k.testBit x=true:=by
     obtain⟨x,hx⟩:=Nat.exists_testBit_of_ne_zero hne;refine⟨x,?_,hx⟩;by_cases h8:x<8
     . exact h8
     . have : k < 2 ^ x := Nat.lt_of_lt_of_le hk (Nat.pow_le_pow_right (n := 2) (by decide) (show 8 <= x by omega));rw[Nat.testBit_lt_two_pow this]at hx;cases hx
    obtain⟨x,a6,hx⟩:=hx;have:=h x a6 hx;rw[Nat.testBit_lt_two_pow]at this
    . cases this
    . unfold U64 at hs;refine Nat.lt_of_lt_of_le hs ?_;unfold jI;have:64<=(if 64%8<=x then 64-64%8+x else 64-64%8+8+x):=by split<;>omega
      exact Nat.pow_le_pow_right (n:=2) (by decide) this
 have h3:∀K,K<=255->lK (nOf s 64) (bT s 64) (K+1)=(bT s 64).getD 0 0:=by
  intro K;induction K with
  |zero=>intro _;rw[jM,h1];simp[lK]
  |succ K ih=>intro hK;rw[jM,ih (by omega),h2 (K+1) (by omega) (by omega)];simp
 exact(h3 255 (Uh _)).symm
def two (i:Nat):Int:=if i<56/\i%8<7 then 2 else 1
def capOf:Nat->Int
  |0=>1
  |i+1=>capOf i*two i
theorem Ak (i:Nat):1<=two i/\two i<=2:=by unfold two;split<;>omega
theorem MV:∀i,1<=capOf i
  |0=>by unfold capOf;omega
  | i + 1 => by
   have h1:=MV i;have h2:=(Ak i).1;show 1<=capOf i*two i
   calc (1 : Int) <= capOf i := h1
     _=capOf i*1:=by omega
     _<=capOf i*two i:=Int.mul_le_mul_of_nonneg_left h2 (by omega)
theorem Fy:∀i d,capOf i<=capOf (i+d)
  |i,0=>Int.le_refl _
  | i, d + 1 => by
   refine Un (Fy i d) ?_;show capOf (i+d)<=capOf (i+d)*two (i+d)
   calc capOf (i + d) = capOf (i + d) * 1 := by omega
     _<=capOf (i+d)*two (i+d):=Int.mul_le_mul_of_nonneg_left (Ak _).1 (by have:=MV (i+d);omega)
theorem QN:capOf 64=562949953421312:=by decide+kernel
theorem Jh {k : Nat} {nx : List Int} {n : Int} (hl : nx.length = 256) (h : ∀ (k : Nat) (v : Int), nx[k]? = some v -> 0 <= v) (hk : k < 256) (hn : 0 <= n) : ∀ (j : Nat) (v : Int), (fU 0 (fun a b => a + b) nx k n)[j]? = some v -> 0 <= v :=
 Bz (P:=fun _ v=>0<=v) h (by omega) (fun _=>hn) (fun v hv _=>by have:=h k v hv;show 0<=v+n;omega)
theorem Te {s i k:Nat} {nx:List Int} {n:Int} (hl:nx.length=256) (h:∀(k:Nat) (v:Int),nx[k]? =some v->0<=v) (hk:k<256) (hn:0<=n):
 (∀(j:Nat) (v:Int),(jK s 0 (fun a b=>a+b) (fun n _=>n) i nx k n)[j]? =some v->0<=v)/\lK (fun _=>1) (jK s 0 (fun a b=>a+b) (fun n _=>n) i nx k n) 256<=lK (fun _=>1) nx 256+n*two i:=by
 have ht:=Ak i
 have a8:n<=n*two i:=by
  calc n = n * 1 := by omega
    _<=n*two i:=Int.mul_le_mul_of_nonneg_left ht.1 hn
 have hp:∀(nx:List Int) (k:Nat),nx.length=256->k<256->lK (fun _=>1) (fU 0 (fun a b=>a+b) nx k n) 256=lK (fun _=>1) nx 256+n:=fun nx k hl hk=>by rw[xA _ hl hk];omega
 unfold jK;by_cases e:n=0
 . rw[if_pos e];exact⟨h,by rw[e];omega⟩
 . rw[if_neg e];rcases hs:s.testBit i with _|_
   . rw [if_neg (by simp)];rcases hb:k.testBit (i%8)with _|_
     . rw[if_neg (by simp)];exact⟨Jh hl h hk hn,by rw[hp nx k hl hk];omega⟩
     . rw[if_pos rfl];exact⟨h,by omega⟩
   . rw[if_pos rfl];rcases hb:k.testBit (i%8)with _|_
     . rw [if_neg (by simp)]
       have a6 : (∀ (j : Nat) (v : Int), (sK s 0 (fun a b => a + b) (fun n _ => n) i nx k n)[j]? = some v -> 0 <= v) /\ lK (fun _ => 1) (sK s 0 (fun a b => a + b) (fun n _ => n) i nx k n) 256 = lK (fun _ => 1) nx 256 + if jU s i then n else 0 := by
        unfold sK;rcases hd:jU s i with _|_
        . rw[if_neg (by simp),if_neg (by simp)];exact⟨h,by omega⟩
        . rw[if_pos rfl,if_pos rfl];exact⟨Jh hl h (zD k hk _ (by omega)) hn,hp nx _ hl (zD k hk _ (by omega))⟩
       have a7:jU s i=true->i<56:=fun q=>by unfold jU at q;rw[Uk,decide_eq_true_iff]at q;exact q.1
       unfold zC;rcases hr:(jV s i&& !k.testBit (i%8+1))with _|_
       . rw [if_neg (by simp)];refine⟨a6.1,?_⟩;rw[a6.2];split<;>omega
       . rw[if_pos rfl];rw[Uk]at hr;have hx:i%8<7:=by have:=hr.1;unfold jV at this;rw[Uk,decide_eq_true_iff]at this;exact this.1
         refine⟨Jh (by rw[uD];exact hl) a6.1 (zD k hk _ (by omega)) hn,?_⟩;rw[hp _ _ (by rw[uD];exact hl) (zD k hk _ (by omega)),a6.2];rcases hd:jU s i with _|_
         . rw[if_neg (by simp)];omega
         . rw[if_pos rfl];have h2:two i=2:=by unfold two;rw[if_pos ⟨a7 hd,hx⟩]
           rw[h2];omega
     . rw[if_pos rfl];exact⟨Jh hl h (pV k hk _ (by omega) hb).1 hn,by rw[hp nx _ hl (pV k hk _ (by omega) hb).1];omega⟩
theorem Mq {s i:Nat} {now:List Int} (hn:∀(k:Nat) (v:Int),now[k]? =some v->0<=v) (hl:now.length=256):∀K,K<=256->
    (∀(j:Nat) (v:Int),(mJ s 0 (fun a b=>a+b) (fun n _=>n) now i K)[j]? =some v->0<=v)/\lK (fun _=>1) (mJ s 0 (fun a b=>a+b) (fun n _=>n) now i K) 256<=lK (fun _=>1) now K*two i
 | 0, _ => by
  refine⟨fun j v hj=> ?_,?_⟩
  . simp only[mJ,T9,Ua]at hj;rw[Uf]at hj;split at hj
    . injection hj with hj;omega
    . cases hj
  . rw [show lK (fun _ => 1) now 0 = 0 from rfl, tH _ _ _ (fun k hk => .inl (by
     simp only[mJ,T9,Ua];rw[Uc,Uf,if_pos hk];rfl))]
    omega
 | K + 1, hK => by
  obtain⟨a,b⟩:=Mq hn hl K (by omega)
  have hv:0<=now.getD K 0:=by
   rw[Uc,Ud (by omega),Uo];exact hn K _ (Ud (by omega))
  rw[dN];obtain⟨c,d⟩:=Te (s:=s) (i:=i) (k:=K) (lY now i K) a (by omega) hv;refine⟨c,Un d ?_⟩;have e:lK (fun _=>1) now (K+1)*two i=lK (fun _=>1) now K*two i+now.getD K 0*two i:=by rw[jM,Int.add_mul];simp
  rw[e];omega
theorem Q3 (s : Nat) : ∀ i, (∀ (k : Nat) (v : Int), (bT s i)[k]? = some v -> 0 <= v) /\ lK (fun _ => 1) (bT s i) 256 <= capOf i
  | 0 => by
   have h0:bT s 0=(TZ 256 (0:Int)).set 0 1:=rfl;refine⟨fun k v hk=> ?_,?_⟩
   . rw[h0]at hk;by_cases e:0=k
     . subst e;rw[List.getElem?_set_self (by rw[Ub];decide)]at hk;injection hk with hk;omega
     . rw[Ue e,Uf]at hk;split at hk
       . injection hk with hk;omega
       . cases hk
   . rw [h0, Au _ _ (by rw [Ub]; decide), if_pos (by omega), tH _ _ _ (fun k hk => .inl (by rw [Uc, Uf, if_pos hk]; rfl))];have h1:(TZ 256 (0:Int)).getD 0 0=0:=by rw[Uc,Uf,if_pos (by decide)];rfl
     rw[h1];unfold capOf;omega
  | i + 1 => by
   obtain⟨a,b⟩:=Q3 s i;obtain⟨c,d⟩:=Mq (s:=s) (i:=i) a (yA i) 256 (Uh _);refine⟨c,Un d ?_⟩;show _<=capOf i*two i;exact Int.mul_le_mul_of_nonneg_right b (by have:=(Ak i).1;omega)
theorem Bd {l : List Int} (hn : ∀ (k : Nat) (v : Int), l[k]? = some v -> 0 <= v) : ∀ K k, k < K -> l.getD k 0 <= lK (fun _ => 1) l K /\ 0 <= lK (fun _ => 1) l K
  |0,k,h=>by omega
  | K + 1, k, h => by
   have hg : ∀ j, 0 <= l.getD j 0 := fun j => by
    rw[Uc];rcases q:l[j]? with _|v
    . simp
    . exact hn j v q
   have h0 : 0 <= lK (fun _ => 1) l K := by
    cases K with
    |zero=>exact Int.le_refl _
    |succ K=>exact(Bd hn (K+1) K (by omega)).2
   rw[jM];have hK:=hg K;by_cases e:k=K
   . subst e;omega
   . have:=(Bd hn K k (by omega)).1;omega
theorem Ji (s i k:Nat) (hi:i<=64) (hk:k<256):0<=(bT s i).getD k 0/\(bT s i).getD k 0<=562949953421312:=by
 obtain⟨a,b⟩:=Q3 s i;have h1:=(Bd a 256 k hk).1;have h2:=Fy i (64-i);rw[show i+(64-i)=64 by omega,QN]at h2;refine⟨?_,by omega⟩;rw[Uc];rcases q:(bT s i)[k]? with _|v
 . simp
 . exact a k v q
theorem RI (x y:Nat) (hx:x<8) (hy:y<8):bM ((x:Int),(y:Int))=true/\(dJ ((x:Int),(y:Int))).toNat=8*y+x:=by
 have h:bM ((x:Int),(y:Int))=true:=dB.2 (by simp only;omega);refine⟨h,?_⟩;rw[(dO h).1];simp only;omega
theorem rM {i:Nat} (hi:i<64) (h7:i%8<7):aI (eQ i)=true/\eY (eQ i)=i/\jG (eQ i)=i+1:=by
 obtain⟨a,b⟩:=RI (i%8) (i/8) (by omega) (by omega);obtain⟨c,d⟩:=RI (i%8+1) (i/8) (by omega) (by omega)
 have hs:sec (eQ i)=(((i%8+1:Nat):Int),((i/8:Nat):Int)):=by
  unfold sec eQ;simp only[Um,if_false,Prod.mk.injEq,and_true];unfold wrap64;omega
 refine⟨?_,?_,?_⟩
 . unfold aI;rw[hs,c];unfold eQ;simp only[a,Bool.and_true]
 . unfold eY eQ;simp only;rw[b];omega
 . unfold jG;rw[hs,d];omega
theorem rO {i:Nat} (hi:i<56):aI (fK i)=true/\eY (fK i)=i/\jG (fK i)=i+8:=by
 obtain⟨a,b⟩:=RI (i%8) (i/8) (by omega) (by omega);obtain⟨c,d⟩:=RI (i%8) (i/8+1) (by omega) (by omega)
 have hs:sec (fK i)=(((i%8:Nat):Int),((i/8+1:Nat):Int)):=by
  unfold sec fK;simp only[if_true,Prod.mk.injEq,true_and];unfold wrap64;omega
 refine⟨?_,?_,?_⟩
 . unfold aI;rw[hs,c];unfold fK;simp only[a,Bool.and_true]
 . unfold eY fK;simp only;rw[b];omega
 . unfold jG;rw[hs,d];omega
theorem IZ {d:Dm} (h:aI d=true):eY d<64/\((d=eQ (eY d)/\eY d%8<7)∨(d=fK (eY d)/\eY d<56)):=by
 have D1:=mW h;have D2:=Bo h;obtain⟨x,y,b⟩:=d;simp only at D1;obtain⟨x,rfl⟩:=Int.eq_ofNat_of_zero_le D1.1.1;obtain⟨y,rfl⟩:=Int.eq_ofNat_of_zero_le D1.2.1;have hx:x<8:=(by omega);have hy:y<8:=(by omega);have hI:eY ((x:Int),(y:Int),b)=8*y+x:=(RI x y hx hy).2;rw[hI];refine⟨by omega,?_⟩;have e1:(8*y+x)%8=x:=(by omega);have e2:(8*y+x)/8=y:=(by omega);cases b
 . left;unfold eQ;rw[e1,e2];refine⟨rfl,?_⟩;have:=D2.1;unfold sec at this;simp only[Um,if_false]at this;unfold wrap64 at this;omega
 . right;unfold fK;rw[e1,e2];refine⟨rfl,?_⟩;have:=D2.2;unfold sec at this;simp only[if_true]at this;unfold wrap64 at this;omega
theorem I1 {d:Dm} (h:aI d=true):eY d<jG d:=by
 obtain⟨hi,(⟨e,h7⟩|⟨e,h7⟩)⟩:=IZ h
 . have:=(rM hi h7).2.2;rw[<-e]at this;omega
 . have:=(rO h7).2.2;rw[<-e]at this;omega
theorem Jj {d:Dm} (h:aI d=true):2*(eY d:Int)<=aT d/\aT d<=2*(eY d:Int)+1:=by
 have h1:=(dO (dR h).1).1;have h2:=(dO (dR h).1).2;have:(eY d:Int)=d.2.1*8+d.1:=by unfold eY;rw[<-h1];omega
 unfold aT;rw[this];split<;>omega
structure Til (i:Nat) (S:Nat->Bool) (t:List Dm):Prop where
  ok:∀d∈t,aI d=true/\i<=eY d/\S (eY d)=true/\S (jG d)=true
  ord:t.Pairwise fun a b=>aT a<aT b
  ap:t.Pairwise Apart
  all:∀j,i<=j->j<64->S j=true->∃d∈t,eY d=j∨jG d=j
theorem BC {a b:Dm} (ha:aI a=true) (hb:aI b=true):Apart a b↔eY a≠eY b/\eY a≠jG b/\jG a≠eY b/\jG a≠jG b:=by
 unfold Apart;constructor
 . intro h;have h1:=h (eY a) (by rw[aV ha];simp);have h2:=h (jG a) (by rw[aV ha];simp);rw[aV hb,Bool.or_eq_false_iff,decide_eq_false_iff_not,decide_eq_false_iff_not]at h1 h2;exact⟨fun e=>h1.1 e.symm,fun e=>h1.2 e.symm,fun e=>h2.1 e.symm,fun e=>h2.2 e.symm⟩
 . rintro⟨h1,h2,h3,h4⟩ j hj;rw[aV ha,Ul,decide_eq_true_eq,decide_eq_true_eq]at hj;rw[aV hb,Bool.or_eq_false_iff,decide_eq_false_iff_not,decide_eq_false_iff_not];rcases hj with rfl|rfl
   . exact⟨fun e=>h1 e.symm,fun e=>h2 e.symm⟩
   . exact⟨fun e=>h3 e.symm,fun e=>h4 e.symm⟩
theorem Av {i m : Nat} {S : Nat -> Bool} {d : Dm} {t : List Dm} (hd : aI d = true) (hI : eY d = i) (hJ : jG d = m) (hS : S i = true) (hm : S m = true) : Til i S (d :: t) ↔ Til (i + 1) (fun j => S j && !decide (j = m)) t := by
 have hlt:=I1 hd;have a6:=Jj hd;constructor
 . intro h;have ho:=List.pairwise_cons.1 h.ord;have ha:=List.pairwise_cons.1 h.ap;refine⟨fun e he=> ?_,ho.2,ha.2,fun j h1 h2 h3=> ?_⟩
   . obtain⟨e1,e2,e3,e4⟩:=h.ok e (List.mem_cons_of_mem _ he);obtain⟨a1,a2,a3,a4⟩:=(BC hd e1).1 (ha.1 e he);have n3:decide (eY e=m)=false:=by simp;omega
     have n4:decide (jG e=m)=false:=by simp;omega
     exact⟨e1,by omega,by simp only[e3,n3];rfl,by simp only[e4,n4];rfl⟩
   . rw[Uk,Bool.not_eq_true',decide_eq_false_iff_not]at h3;obtain⟨e,he,h4⟩:=h.all j (by omega) h2 h3.1;rcases List.mem_cons.1 he with rfl|he
     . omega
     . exact⟨e,he,h4⟩
 . intro h;refine⟨fun e he=> ?_,List.pairwise_cons.2 ⟨fun e he=> ?_,h.ord⟩,List.pairwise_cons.2 ⟨fun e he=> ?_,h.ap⟩,fun j h1 h2 h3=> ?_⟩
   . rcases List.mem_cons.1 he with rfl|he
     . exact⟨hd,by omega,by rw[hI];exact hS,by rw[hJ];exact hm⟩
     . obtain⟨e1,e2,e3,e4⟩:=h.ok e he;rw[Uk]at e3 e4;exact⟨e1,by omega,e3.1,e4.1⟩
   . obtain⟨e1,e2,_,_⟩:=h.ok e he;have:=Jj e1;omega
   . obtain⟨e1,e2,e3,e4⟩:=h.ok e he;have a7:=I1 e1;rw[Uk,Bool.not_eq_true',decide_eq_false_iff_not]at e3 e4;exact(BC hd e1).2 ⟨by omega,by omega,by have:=e3.2;omega,by have:=e4.2;omega⟩
   . by_cases e:j=i
     . exact⟨d,Ug ..,.inl (by omega)⟩
     . by_cases e2:j=m
       . exact⟨d,Ug ..,.inr (by omega)⟩
       . obtain ⟨f, hf, h4⟩ := h.all j (by omega) h2 (by rw [h3]; simp [e2]);exact⟨f,List.mem_cons_of_mem _ hf,h4⟩
theorem Dc:∀(n i:Nat) (S:Nat->Bool) (t:List Dm),i+n=64->(t∈tl n i S↔Til i S t)
  | 0, i, S, t, hn => by
   show t∈[[]]↔_;rw[List.mem_singleton];constructor
   . rintro rfl;exact⟨by simp,List.Pairwise.nil,List.Pairwise.nil,fun j h1 h2=>by omega⟩
   . intro h;cases t with
     |nil=>rfl
     |cons d r=>
      obtain⟨a,b,_,_⟩:=h.ok d (Ug ..);have:=(IZ a).1;omega
  | n + 1, i, S, t, hn => by
   rw[sM];rcases hS:S i with _|_
   . simp only[Um,if_false];rw[Dc n (i+1) S t (by omega)];constructor
     . intro h
       exact ⟨fun d hd => by obtain ⟨a, b, c, e⟩ := h.ok d hd; exact ⟨a, by omega, c, e⟩, h.ord, h.ap, fun j h1 h2 h3 => h.all j (by
        by_cases e:j=i
        . subst e;rw[hS]at h3;cases h3
        . omega) h2 h3⟩
     . intro h
       exact ⟨fun d hd => by
        obtain⟨a,b,c,e⟩:=h.ok d hd;refine⟨a,?_,c,e⟩;by_cases q:eY d=i
        . rw[q,hS]at c;cases c
        . omega,h.ord,h.ap,fun j h1 h2 h3=>h.all j (by omega) h2 h3⟩
   . simp only[if_true];rw[List.mem_append];constructor
     . rintro(h|h)
       . split at h
         . rename_i q;rw[Uk,decide_eq_true_eq]at q;obtain⟨t',h1,rfl⟩:=List.mem_map.1 h;obtain⟨a,b,c⟩:=rM (i:=i) (by omega) q.1;exact(Av a b c hS q.2).2 ((Dc n (i+1) _ t' (by omega)).1 h1)
         . cases h
       . split at h
         . rename_i q;rw[Uk,decide_eq_true_eq]at q;obtain⟨t',h1,rfl⟩:=List.mem_map.1 h;obtain⟨a,b,c⟩:=rO q.1;exact(Av a b c hS q.2).2 ((Dc n (i+1) _ t' (by omega)).1 h1)
         . cases h
     . intro h;obtain⟨d,hd,a6⟩:=h.all i (Uh _) (by omega) hS;obtain⟨d1,d2,d3,d4⟩:=h.ok d hd;have hlt:=I1 d1;have hI:eY d=i:=(by omega);cases t with
       |nil=>cases hd
       |cons e r=>
        have he:e=d:=by
         rcases List.mem_cons.1 hd with q|q
         . exact q.symm
         . exfalso;have:=(List.pairwise_cons.1 h.ord).1 d q;obtain⟨e1,e2,_,_⟩:=h.ok e (Ug ..);have o1:=Jj e1;have o2:=Jj d1;have a7:eY e=i:=(by omega);exact((BC e1 d1).1 ((List.pairwise_cons.1 h.ap).1 d q)).1 (by omega)
        subst he;obtain⟨_,(⟨q,h7⟩|⟨q,h7⟩)⟩:=IZ d1
        . rw[hI]at q h7;obtain⟨a,b,c⟩:=rM (i:=i) (by omega) h7;rw[<-q]at a b c;left;rw[if_pos (by rw[decide_eq_true h7,<-c,d4];rfl),q];exact List.mem_map.2 ⟨r,(Dc n (i+1) _ r (by omega)).2 ((Av a b c hS (by rw[<-c];exact d4)).1 h),rfl⟩
        . rw[hI]at q h7;obtain⟨a,b,c⟩:=rO h7;rw[<-q]at a b c;right;rw[if_pos (by rw[decide_eq_true h7,<-c,d4];rfl),q];exact List.mem_map.2 ⟨r,(Dc n (i+1) _ r (by omega)).2 ((Av a b c hS (by rw[<-c];exact d4)).1 h),rfl⟩
def fF (s:Nat):Int:=(bT s 64).getD 0 0
def jD (s:Nat):List (List Dm):=tl 64 0 s.testBit
def aY (rows:List Int):Int:=if bQ rows then fF (setOf rows)else 0
def eU (s:Nat) (d:Dm):Bool:=aI d&&decide (s&&&aG d=aG d)
def pW (rows:List Int) (d:Dm):Int:=if bQ rows&&eU (setOf rows) d then fF (dE (setOf rows) (aG d))else 0
theorem N7 (s:Nat):0<=fF s/\fF s<=562949953421312:=Ji s 64 0 (Uh _) (by decide)
theorem tJ {s:Nat} (hs:s<U64):fF s=((jD s).length:Nat):=Ps hs
theorem wK {s:Nat} (hs:s<U64):fF s=0↔jD s=[]:=by
 rw[tJ hs,<-List.length_eq_zero_iff];omega
theorem Lv (rows:List Int):0<=aY rows/\aY rows<=562949953421312:=by
 unfold aY;split
 . exact N7 _
 . omega
theorem Ew:∀(d n i:Nat) (S:Nat->Bool),(∀j,i<=j->j<i+d->S j=false)->tl (d+n) i S=tl n (i+d) S
  |0,n,i,S,_=>by rw[Uj];rfl
  | d + 1, n, i, S, h => by
   rw[show d+1+n=d+n+1 by omega,sM,h i (Uh _) (by omega),if_neg (by simp),Ew d n (i+1) S (fun j a b=>h j (by omega) (by omega)),show i+1+d=i+(d+1) by omega]
theorem FW:∀(n i:Nat) (S:Nat->Bool) (t:List Dm),t∈tl n i S->t.length<=n
  | 0, i, S, t, h => by
   have:t=[]:=List.mem_singleton.1 h;rw[this];exact Uh _
  | n + 1, i, S, t, h => by
   rw[sM]at h;split at h
   . rcases List.mem_append.1 h with h|h
     . split at h
       . obtain⟨u,hu,rfl⟩:=List.mem_map.1 h;have:=FW n _ _ u hu;rw[List.length_cons];omega
       . cases h
     . split at h
       . obtain⟨u,hu,rfl⟩:=List.mem_map.1 h;have:=FW n _ _ u hu;rw[List.length_cons];omega
       . cases h
   . have:=FW n _ _ t h;omega
def sI (s i:Nat):Prop:=i<64/\s.testBit i=true/\∀j,j<i->s.testBit j=false
theorem xB {s:Nat} (hs:s<U64) (h0:s≠0):∃i,sI s i:=by
 have hex:∃i,s.testBit i=true:=Nat.exists_testBit_of_ne_zero h0
 have key:∀n,s.testBit n=true->∃i,i<=n/\s.testBit i=true/\∀j,j<i->s.testBit j=false:=by
  intro n;induction n using Nat.strongRecOn with
  |_ n ih=>
   intro hn;by_cases q:∃m,m<n/\s.testBit m=true
   . obtain⟨m,hm,hb⟩:=q;obtain⟨i,a,b,c⟩:=ih m hm hb;exact⟨i,by omega,b,c⟩
   . refine ⟨n, Uh _, hn, fun j hj => ?_⟩;rcases e:s.testBit j with _|_
     . rfl
     . exact absurd ⟨j,hj,e⟩ q
 obtain⟨n,hn⟩:=hex;obtain⟨i,_,b,c⟩:=key n hn;refine⟨i,?_,b,c⟩;rcases Nat.lt_or_ge i 64 with q|q
 . exact q
 . exfalso;have:s<2^i:=Nat.lt_of_lt_of_le hs (by unfold U64;exact Nat.pow_le_pow_right (by decide) q);rw[Nat.testBit_lt_two_pow this]at b;cases b
theorem Sw {i:Nat} (hi:i<64):aI (eQ i)=decide (i%8<7):=by
 by_cases h:i%8<7
 . rw[decide_eq_true h];exact(rM hi h).1
 . rw[decide_eq_false h];rcases e:aI (eQ i)with _|_
   . rfl
   . exfalso;have:=(Bo e).1;unfold sec eQ at this;simp only[Um,if_false]at this;unfold wrap64 at this;omega
theorem Sy {i:Nat} (hi:i<64):aI (fK i)=decide (i<56):=by
 by_cases h:i<56
 . rw[decide_eq_true h];exact(rO h).1
 . rw[decide_eq_false h];rcases e:aI (fK i)with _|_
   . rfl
   . exfalso;have:=(Bo e).2;unfold sec fK at this;simp only[if_true]at this;unfold wrap64 at this;omega
theorem RJ {s i:Nat} (hs:s<U64) (hi:i<64) (hb:s.testBit i=true):eU s (eQ i)=(decide (i%8<7)&&s.testBit (i+1)):=by
 unfold eU;rw[Sw hi];by_cases h:i%8<7
 . obtain⟨a,b,c⟩:=rM hi h;rw[xX hs a,b,c,hb];simp
 . rw[decide_eq_false h];rfl
theorem RL {s i:Nat} (hs:s<U64) (hi:i<64) (hb:s.testBit i=true):eU s (fK i)=(decide (i<56)&&s.testBit (i+8)):=by
 unfold eU;rw[Sy hi];by_cases h:i<56
 . obtain⟨a,b,c⟩:=rO h;rw[xX hs a,b,c,hb];simp
 . rw[decide_eq_false h];rfl
theorem GK {s i : Nat} {d : Dm} (hs : s < U64) (hl : sI s i) (hd : aI d = true) (hI : eY d = i) : jD (dE s (aG d)) = tl (64 - (i + 1)) (i + 1) (fun j => s.testBit j && !decide (j = jG d)) := by
 have hi:=hl.1;unfold jD;rw[show 64=(i+1)+(64-(i+1)) by omega,Ew (i+1) (64-(i+1)) 0,Uj]
 . rw [show i + 1 + (64 - (i + 1)) - (i + 1) = 64 - (i + 1) by omega];refine nJ _ _ _ _ fun j hj=> ?_
   rw[kI (dP hd) hs,aV hd,hI,decide_eq_false (show¬i=j by omega),Bool.false_or];congr 2
   exact decide_eq_decide.2 ⟨fun e=>e.symm,fun e=>e.symm⟩
 . intro j _ hj;rw[kI (dP hd) hs,aV hd,hI];by_cases e:j=i
   . rw[e];simp
   . rw[hl.2.2 j (by omega)];rfl
theorem GL {s i:Nat} (hs:s<U64) (hl:sI s i):jD s=
    (if eU s (eQ i)then(jD (dE s (aG (eQ i)))).map (eQ i::·)else[])++(if eU s (fK i)then(jD (dE s (aG (fK i)))).map (fK i::·)else[]):=by
 have hi:=hl.1
 have e0:jD s=tl (64-i) i s.testBit:=by
  unfold jD;rw[show 64=i+(64-i) by omega,Ew i (64-i) 0 s.testBit (fun j _ hj=>hl.2.2 j (by omega)),Uj,show i+(64-i)-i=64-i by omega]
 rw[e0,show 64-i=(64-(i+1))+1 by omega,sM,if_pos hl.2.1,RJ hs hi hl.2.1,RL hs hi hl.2.1];congr 1
 . by_cases h:(decide (i%8<7)&&s.testBit (i+1))=true
   . rw[if_pos h,if_pos h];rw[Uk,decide_eq_true_iff]at h;obtain⟨a,b,c⟩:=rM hi h.1;rw[GK hs hl a b,c]
   . rw[if_neg h,if_neg h]
 . by_cases h:(decide (i<56)&&s.testBit (i+8))=true
   . rw[if_pos h,if_pos h];rw[Uk,decide_eq_true_iff]at h;obtain⟨a,b,c⟩:=rO h.1;rw[GK hs hl a b,c]
   . rw[if_neg h,if_neg h]
theorem BD:jD 0=[[]]:=by
 unfold jD;rw[show 64=64+0 from rfl,Ew 64 0 0 _ (fun j _ _=>Nat.zero_testBit j)];rfl
def firstT (s:Nat):List Dm:=(jD s).headD []
def vP (s i:Nat):Bool:=eU s (eQ i)&&decide (fF (dE s (aG (eQ i)))≠0)
def vQ (s i:Nat):Dm:=if vP s i then eQ i else fK i
theorem Ex {s i:Nat} (hs:s<U64) (hl:sI s i) (hc:fF s≠0):eU s (vQ s i)=true/\fF (dE s (aG (vQ s i)))≠0/\firstT s=vQ s i::firstT (dE s (aG (vQ s i))):=by
 have hne:jD s≠[]:=fun e=>hc ((wK hs).2 e)
 have hst:=GL hs hl;have hz:=fun(d:Dm)=>wK (s:=dE s (aG d)) (eD hs)
 have hh:∀(d:Dm) (L:List (List Dm)),L≠[]->((L.map (d::·)).headD [])=d::L.headD []:=by
  intro d L hL;cases L with
  |nil=>exact absurd rfl hL
  |cons a r=>rfl
 unfold vQ;rcases hg:vP s i with _|_
 . rw [if_neg (by simp)]
   have h1:(if eU s (eQ i)then(jD (dE s (aG (eQ i)))).map (eQ i::·)else[])=[]:=by
    unfold vP at hg;rw[Bool.and_eq_false_iff]at hg;rcases hg with q|q
    . rw[q];rfl
    . have : fF (dE s (aG (eQ i))) = 0 := by simpa using q
      rw[(hz (eQ i)).1 this];split<;>rfl
   rw[h1,List.nil_append]at hst
   have h2:eU s (fK i)=true:=by
    rcases q:eU s (fK i)with _|_
    . rw[q]at hst;exact absurd hst hne
    . rfl
   rw[if_pos h2]at hst
   have h3:jD (dE s (aG (fK i)))≠[]:=by
    intro e;rw[e]at hst;exact hne hst
   refine⟨h2,fun e=>h3 ((hz _).1 e),?_⟩;unfold firstT;rw[hst,hh _ _ h3]
 . rw[if_pos rfl];unfold vP at hg;rw[Uk,decide_eq_true_iff]at hg;have h3:jD (dE s (aG (eQ i)))≠[]:=fun e=>hg.2 ((hz _).2 e)
   refine⟨hg.1,hg.2,?_⟩;unfold firstT;rw[hst,if_pos hg.1];generalize (if eU s (fK i)then(jD (dE s (aG (fK i)))).map (fK i::·)else[])=M
   cases hL:jD (dE s (aG (eQ i)))with
   |nil=>exact absurd hL h3
   |cons a r=>rfl
theorem Ch:firstT 0=[]:=by unfold firstT;rw[BD];rfl
theorem zG (s:Nat):(firstT s).length<=64:=by
 unfold firstT;cases h:jD s with
 |nil=>simp
 |cons a r=>exact FW 64 0 _ a (by unfold jD at h;rw[h];exact Ug ..)
theorem Lx {s:Nat} {d:Dm} (hs:s<U64) (h:eU s d=true):dE s (aG d)<s:=by
 unfold eU at h;rw[Uk,decide_eq_true_iff]at h;have h1:dE s (aG d)<=s:=Nat.and_le_left;refine Nat.lt_of_le_of_ne h1 fun e=> ?_
 have hb:=(Uk _ _).mp ((xX hs h.1).symm.trans (decide_eq_true h.2));have:=kI (i:=eY d) (dP h.1) hs;rw[e,aV h.1,hb.1]at this;simp at this
theorem LA {s:Nat} (hs:s<U64) (hc:fF s≠0):firstT s∈jD s:=by
 unfold firstT;cases h:jD s with
 |nil=>exact absurd ((wK hs).2 h) hc
 |cons a r=>exact Ug ..
theorem zH {s i:Nat} (hl:sI s i):∃r,eT s 64=iI i::r:=by
 have hsp:range 64=range i++(range (64-i)).map (i+·):=by
  rw[show 64=i+(64-i) by have:=hl.1;omega,List.range_add,show i+(64-i)-i=64-i by omega]
 unfold eT;rw[hsp,List.filter_append,List.map_append]
 have h1 : (range i).filter (fun i => s.testBit i) = [] := by
  rw[List.filter_eq_nil_iff];intro j hj;rw[hl.2.2 j (List.mem_range.1 hj)];simp
 rw[h1,List.map_nil,List.nil_append];obtain⟨m,hm⟩:∃m,64-i=m+1:=⟨63-i,by have:=hl.1;omega⟩;rw[hm,List.range_succ_eq_map,map_cons,List.filter_cons,Nat.add_zero,if_pos hl.2.1,map_cons];exact⟨_,rfl⟩
theorem LB:eT 0 64=[]:=by
 unfold eT;rw[List.filter_eq_nil_iff.2 (fun j _=>by rw[Nat.zero_testBit];simp)];rfl
theorem vV {s:Nat} (hs:s<U64):(eT s 64).length=0↔s=0:=by
 constructor
 . intro h;rcases Nat.eq_zero_or_pos s with q|q
   . exact q
   . obtain ⟨i, hl⟩ := xB hs (by omega);obtain⟨r,hr⟩:=zH hl;rw[hr]at h;cases h
 . intro h;rw[h,LB];rfl
theorem Kq {d:Dm} (h:aI d=true):eY d<64/\jG d<64:=by
 have:=dR h;have a:=(dO this.1).2;have b:=(dO this.2).2;unfold eY jG;omega
theorem wL {s:Nat} {d:Dm} (hs:s<U64) (h:aI d=true):iO (iO s (eY d)) (jG d)=dE s (aG d):=by
 obtain⟨h1,h2⟩:=Kq h;have a:iO s (eY d)<U64:=eD hs;refine Nat.eq_of_testBit_eq fun j=> ?_
 rw[lG a h2,lG hs h1,kI (dP h) hs,aV h,Bool.not_or,Bool.and_assoc]
end Go.Proofs.YtjijonhkofhikaaGreatDoor
