/- The least prices of boxes as numbers, and the choice of boxes: plain laws. Conditions: valid boxes. ChooseBoxes of the program: the walk. No conditions. -/
import Derived.Test.YtljfoohaapckeaaGreatDoorDK2
open _root_.List (getD_eq_getElem?_getD mem_cons_self mem_cons_of_mem range zipWith sum_cons)
namespace Go.Proofs.YtljfoohaapckeaaGreatDoor
open Go.ChangeShapes Go.WideShapes Go.ChangeAt Go.RowKit
set_option linter.unusedVariables false
set_option maxHeartbeats 4000000
set_option maxRecDepth 100000
theorem ER (l:List (Int×Int)):∀(j:Nat) (out:List Int),gH l (j+1) out=gH l j out++[iT (gH l j out) (gH l j out).length l (-1)]:=by
 intro j;induction j with
 |zero=>intro out;rfl
 |succ j ih=>intro out;rw[gH,ih,<-gH]
theorem BV (l:List (Int×Int)) (n:Nat):least l (n+1)=least l n++[iT (least l n) ((n+1:Nat):Int) l (-1)]:=by
 have:=ER l n [0];have e:(gH l n [0]).length=n+1:=eH l n;rw[e]at this;exact this
def lp (l:List (Int×Int)) (i:Nat):Int:=(least l i).getD i 0
theorem xI (l:List (Int×Int)):∀(N i:Nat),i<=N->(least l N).getD i 0=lp l i:=by
 intro N;induction N with
 | zero => intro i h; obtain rfl : i = 0 := by omega
           rfl
 |succ N ih=>
  intro i h;by_cases hi:i=N+1
  . subst hi;rfl
  . rw [BV, getD_eq_getElem?_getD, List.getElem?_append_left (by rw [eH]; omega), <- getD_eq_getElem?_getD];exact ih i (by omega)
theorem nV (l:List (Int×Int)):lp l 0=0:=rfl
theorem JQ (l:List (Int×Int)) (n:Nat):lp l (n+1)=iT (least l n) ((n+1:Nat):Int) l (-1):=by
 unfold lp;rw[BV,getD_eq_getElem?_getD,List.getElem?_append_right (by rw[eH];omega),eH];simp
theorem I9 (n:Nat):lp [] (n+1)= -1:=by rw[JQ];rfl
def nd (n:Nat) (s:Int):Nat:=((n:Int)-s).toNat
theorem KA (f:Int×Int->Int) (out:List Int) (m:Int):∀(r:List (Int×Int)) (fH:Int),(∀b∈r,out.getD (m-b.1).toNat 0+b.2=f b/\0<=f b)->-1<=fH->(r≠[]∨0<=fH)->
    0<=iT out m r fH/\(∀b∈r,iT out m r fH<=f b)/\(0<=fH->iT out m r fH<=fH)/\((0<=fH/\iT out m r fH=fH)∨∃b∈r,iT out m r fH=f b):=by
 intro r;induction r with
 | nil => intro fH _ _ h; rcases h with h | h
          . exact absurd rfl h
          . exact⟨h,(fun b hb=>absurd hb (by simp)),(fun _=>Int.le_refl _),Or.inl ⟨h,rfl⟩⟩
 |cons x r ih=>
  intro fH hf h1 h2;obtain⟨e,hx⟩:=hf x mem_cons_self;have hf':∀b∈r,out.getD (m-b.1).toNat 0+b.2=f b/\0<=f b:=fun b hb=>hf b (mem_cons_of_mem _ hb)
  rw[iT,e];by_cases hc:fH<0∨f x<fH
  . rw[if_pos hc];obtain⟨k1,k2,k3,k4⟩:=ih (f x) hf' (by omega) (.inr hx);have k3':=k3 hx;refine⟨k1,fun b hb=> ?_,fun _=>by omega,?_⟩
    . rcases List.mem_cons.1 hb with rfl|hb
      . exact k3'
      . exact k2 b hb
    . rcases k4 with⟨_,k4⟩|⟨b,hb,k4⟩
      . exact .inr ⟨x,mem_cons_self,k4⟩
      . exact .inr ⟨b,mem_cons_of_mem _ hb,k4⟩
  . rw[if_neg hc];have h0:0<=fH:=(by omega);obtain⟨k1,k2,k3,k4⟩:=ih fH hf' h1 (.inr h0);have k3':=k3 h0;refine⟨k1,fun b hb=> ?_,fun _=>k3',?_⟩
    . rcases List.mem_cons.1 hb with rfl|hb
      . omega
      . exact k2 b hb
    . rcases k4 with⟨_,k4⟩|⟨b,hb,k4⟩
      . exact .inl ⟨h0,k4⟩
      . exact .inr ⟨b,mem_cons_of_mem _ hb,k4⟩
def sK (l:List (Int×Int)):Prop:=∀x∈l,eU x
theorem sK.tail {b:Int×Int} {l:List (Int×Int)} (h:sK (b::l)):sK l:=fun x hx=>h x (mem_cons_of_mem _ hx)
theorem Fh (l:List (Int×Int)) (hl:sK l) (hne:l≠[]):∀n:Nat,0<=lp l n/\∀m,n=m+1->(∀b∈l,lp l n<=lp l (nd n b.1)+b.2)/\∃b∈l,lp l n=lp l (nd n b.1)+b.2:=by
 intro n;induction n using Nat.strongRecOn with
 |ind n ih=>
  rcases n with _|n
  . exact⟨Int.le_refl _,fun m h=>by cases h⟩
  . have key:∀b∈l,(least l n).getD (((n+1:Nat):Int)-b.1).toNat 0+b.2=lp l (nd (n+1) b.1)+b.2/\0<=lp l (nd (n+1) b.1)+b.2:=by
     intro b hb;have F:=hl b hb;unfold eU at F;have hi:(((n+1:Nat):Int)-b.1).toNat<=n:=(by omega);rw[xI l n _ hi];have:=(ih _ (show(((n+1:Nat):Int)-b.1).toNat<n+1 by omega)).1;exact⟨rfl,by unfold nd;omega⟩
    obtain⟨k1,k2,_,k4⟩:=KA (fun b=>lp l (nd (n+1) b.1)+b.2) (least l n) ((n+1:Nat):Int) l (-1) key (by omega) (.inl hne);rw[<-JQ]at k1 k2 k4;refine⟨k1,fun m _=>⟨k2,?_⟩⟩;rcases k4 with⟨h,_⟩|h
    . omega
    . exact h
theorem kM {l:List (Int×Int)} (hl:sK l) (hne:l≠[]) (n:Nat):0<=lp l n:=(Fh l hl hne n).1
theorem KL {l:List (Int×Int)} (hl:sK l) {b:Int×Int} (hb:b∈l) (n:Nat):lp l n<=lp l (nd n b.1)+b.2:=by
 have hne:l≠[]:=by rintro rfl;cases hb
 rcases n with _|n
 . have:=kM hl hne (nd 0 b.1);have F:=hl b hb;unfold eU at F;rw[nV];omega
 . exact((Fh l hl hne (n+1)).2 n rfl).1 b hb
theorem NA {l:List (Int×Int)} (hl:sK l) (hne:l≠[]) {n:Nat} (hn:0<n):∃b∈l,lp l n=lp l (nd n b.1)+b.2:=by
 obtain⟨m,rfl⟩:∃m,n=m+1:=⟨n-1,by omega⟩;exact((Fh l hl hne (m+1)).2 m rfl).2
theorem KM {n:Nat} {s:Int} (hn:0<n) (hs:1<=s):nd n s<n:=by unfold nd;omega
theorem NB (n:Nat) {s:Int} (hs:0<=s):nd n s<=n:=by unfold nd;omega
theorem N7 {b:Int×Int} {l:List (Int×Int)} (hl:sK (b::l)):∀n:Nat,0<=lp l n->lp (b::l) n<=lp l n:=by
 intro n;induction n using Nat.strongRecOn with
 |ind n ih=>
  intro h;rcases Nat.eq_zero_or_pos n with rfl|hn
  . rw[nV,nV];omega
  . have hne:l≠[]:=by
     rintro rfl;obtain⟨m,rfl⟩:∃m,n=m+1:=⟨n-1,by omega⟩;rw[I9]at h;omega
    obtain⟨c,hc,e⟩:=NA hl.tail hne hn;have F:=hl.tail c hc;unfold eU at F;have i1:=ih (nd n c.1) (KM hn F.1) (kM hl.tail hne _);have i2:=KL hl (mem_cons_of_mem b hc) n;omega
theorem Ja (n k:Nat) {s:Int} (hs:1<=s):nd (nd n s) (k*s)=nd n ((k+1:Nat)*s):=by
 have e:((k+1:Nat):Int)*s=k*s+s:=by rw[Int.natCast_add,Int.add_mul];simp
 have h0:0<=(k:Int)*s:=Int.mul_nonneg (by omega) (by omega);rw[e];unfold nd;omega
theorem Nj (n:Nat) {s t:Int} (hs:0<=s) (ht:0<=t):nd (nd n s) t=nd (nd n t) s:=by unfold nd;omega
theorem Ca (n:Nat) (s:Int):nd n ((0:Nat)*s)=n:=by unfold nd;simp
theorem N8 {b:Int×Int} {l:List (Int×Int)} (hl:sK (b::l)):∀(k n:Nat),0<=lp l (nd n (k*b.1))->lp (b::l) n<=lp l (nd n (k*b.1))+k*b.2:=by
 have F:=hl b mem_cons_self;unfold eU at F;intro k;induction k with
 |zero=>intro n h;rw[Ca]at h⊢;have:=N7 hl n h;omega
 |succ k ih=>
  intro n h;rw[<-Ja n k F.1]at h⊢;have i1:=ih (nd n b.1) h;have i2:=KL hl (mem_cons_self (a:=b) (l:=l)) n;have e:((k+1:Nat):Int)*b.2=k*b.2+b.2:=by rw[Int.natCast_add,Int.add_mul];simp
  omega
theorem LX {b:Int×Int} {l:List (Int×Int)} (hl:sK (b::l)):∀n:Nat,∃k:Nat,k<=n/\0<=lp l (nd n (k*b.1))/\lp l (nd n (k*b.1))+k*b.2=lp (b::l) n:=by
 have F:=hl b mem_cons_self;unfold eU at F;intro n;induction n using Nat.strongRecOn with
 |ind n ih=>
  rcases Nat.eq_zero_or_pos n with rfl|hn
  . exact⟨0,by omega,by rw[Ca,nV];omega,by rw[Ca,nV,nV];simp⟩
  . obtain ⟨c, hc, e⟩ := NA hl (by simp) hn;have Fc:=hl c hc;unfold eU at Fc;obtain⟨k,hk,h0,he⟩:=ih (nd n c.1) (KM hn Fc.1);have hkn:=KM hn Fc.1;rcases List.mem_cons.1 hc with rfl|hc'
    . refine ⟨k + 1, by omega, ?_, ?_⟩
      . rw[<-Ja n k F.1];exact h0
      . rw[<-Ja n k F.1];have e2:((k+1:Nat):Int)*c.2=k*c.2+c.2:=by rw[Int.natCast_add,Int.add_mul];simp
        omega
    . have hne : l ≠ [] := by rintro rfl; cases hc'
      have h0':=kM hl.tail hne (nd n (k*b.1));refine⟨k,by omega,h0',?_⟩;have ks:0<=(k:Int)*b.1:=Int.mul_nonneg (by omega) (by omega);have i1:=KL hl.tail hc' (nd n (k*b.1));rw[Nj n ks (by omega)]at i1;have i2:=N8 hl k n h0';omega
def fits (l:List (Int×Int)) (n:Nat) (b:Int×Int) (left:Int) (k:Nat):Bool:=decide (0<=lp l (nd n (k*b.1)))&&decide (lp l (nd n (k*b.1))+k*b.2=left)
def kOf (l:List (Int×Int)) (n:Nat) (b:Int×Int) (left:Int):Nat:=((range (n+1)).find? fun k=>fits l n b left k).getD 0
theorem CJ {b:Int×Int} {l:List (Int×Int)} (hl:sK (b::l)) (n:Nat):kOf l n b (lp (b::l) n)<=n/\fits l n b (lp (b::l) n) (kOf l n b (lp (b::l) n))=true/\∀j,j<kOf l n b (lp (b::l) n)->fits l n b (lp (b::l) n) j=false:=by
 obtain⟨k,hk,h0,he⟩:=LX hl n;have hf:fits l n b (lp (b::l) n) k=true:=by unfold fits;simp[h0,he]
 rcases hx:(range (n+1)).find? fun k=>fits l n b (lp (b::l) n) k with _|x
 . have := List.find?_eq_none.1 hx k (by simp; omega);exact absurd hf this
 . have e : kOf l n b (lp (b :: l) n) = x := by unfold kOf; rw [hx]; rfl
   rw[e];obtain⟨h1,xs,ys,h2,h3⟩:=List.find?_eq_some_iff_append.1 hx;have hmem:x∈range (n+1):=by rw[h2];simp
   refine⟨by have:=List.mem_range.1 hmem;omega,h1,fun j hj=> ?_⟩
   have hlen:xs.length=x:=by
    have h4:(range (n+1))[xs.length]? =some x:=by rw[h2];simp
    rw[List.getElem?_range (by have:=congrArg List.length h2;simp at this;omega)]at h4;injection h4
   have h5:(range (n+1))[j]? =some j:=List.getElem?_range (by have:=List.mem_range.1 hmem;omega);rw[h2,List.getElem?_append_left (by omega)]at h5;have:=h3 j (List.mem_of_getElem? h5);simpa using this
def choose:List (Int×Int)->Nat->Int->List Int
  |[],_,_=>[]
  |b::r,n,left=>(kOf r n b left:Int)::choose r (nd n (kOf r n b left*b.1)) (left-kOf r n b left*b.2)
theorem IM:∀(l:List (Int×Int)) (n:Nat) (left:Int),(choose l n left).length=l.length:=by
 intro l;induction l with
 |nil=>intro n left;rfl
 |cons b r ih=>intro n left;simp[choose,ih]
theorem uR {l:List (Int×Int)} {n:Nat} {b:Int×Int} {left:Int} {k:Nat} (h:fits l n b left k=true):left-k*b.2=lp l (nd n (k*b.1))/\0<=lp l (nd n (k*b.1)):=by
 unfold fits at h;simp at h;omega
theorem FZ:∀(l:List (Int×Int)) (n:Nat),sK l->0<=lp l n->(∀k∈choose l n (lp l n),0<=k/\k<=n)/\
    (n:Int)<=(zipWith (fun c b=>c*b.1) (choose l n (lp l n)) l).sum/\(zipWith (fun c b=>c*b.2) (choose l n (lp l n)) l).sum=lp l n:=by
 intro l;induction l with
 |nil=>
  intro n _ h;rcases n with _|n
  . exact⟨fun k hk=>(by cases hk),by simp[choose],by simp[choose,nV]⟩
  . rw[I9]at h;omega
 |cons b r ih=>
  intro n hl h;have F:=hl b mem_cons_self;unfold eU at F;obtain⟨k1,k2,_⟩:=CJ hl n;obtain⟨k3,k4⟩:=uR k2;obtain⟨i1,i2,i3⟩:=ih _ hl.tail k4;have ks:0<=(kOf r n b (lp (b::r) n):Int)*b.1:=Int.mul_nonneg (by omega) (by omega);have hle:=NB n ks;simp only[choose,k3];generalize kOf r n b (lp (b::r) n)=K at*
  refine⟨fun k hk=> ?_,?_,?_⟩
  . rcases List.mem_cons.1 hk with rfl|hk
    . omega
    . have:=i1 k hk;omega
  . simp only[List.zipWith_cons_cons,sum_cons];unfold nd at i2⊢;omega
  . simp only[List.zipWith_cons_cons,sum_cons,i3];omega
theorem CP {l:List (Int×Int)} (hl:sK l) (n:Nat): -1<=lp l n/\lp l n<=1000*n:=by
 have h:=Ar l hl n [0] (by simp) qO;have hn:n<(least l n).length:=by rw[eH];omega
 have:=h n (least l n)[n] (List.getElem?_eq_getElem hn);have e:lp l n=(least l n)[n]:=by unfold lp;rw[getD_eq_getElem?_getD,List.getElem?_eq_getElem hn];rfl
 rw[e];exact this
theorem sK.hall {l:List (Int×Int)} (h:sK l):∀x∈l,eU x:=h
theorem F5 (v:Value) (l:List (Int×Int)) (n:Nat) (w:World) (h:Rd 2 bT w v l) (hok:bV l l.length=true) (hn:n<=500):
 Calls Tryz.prog 46 #[v,.int .i64 n] w (jA 3 1 aY (choose l n (lp l n)) w):=by
 obtain⟨A,c,rfl,hc,hm⟩:=h.form;obtain⟨hall,h1,h5⟩:=jG _ _ hok;have hl5:l.length<=5:=(by omega);have hF:sK l:=hall;have hne:l≠[]:=by rintro rfl;simp at h1
 have hcc:=kT hok hn;have hlpn:cheapest l n=lp l n:=by rw[hcc];unfold lp;rw[getD_eq_getElem?_getD,List.getElem?_eq_getElem (by rw[eH];omega)];rfl
 have hp0:=kM hF hne n;obtain⟨L,hL⟩:=Oy (lp l n);rw[<-hL]at hp0 hlpn⊢;have HL:=OA hL;have HF:=OA hF;have Hlp:=OA hlpn;have Hne:=OA hne;clear hL hF hlpn hcc hne hall hok;go_enter Tryz.func46,Tryz.ntmps46
 go_wp2_with fail
 refine(vG _ l n _ h).mono ?_;rintro e w1 ⟨rfl,hb1⟩;rw[Hlp.out];go_wp2;go_loopw [1,5,6,20] (fun s1 s5 s6 s20 wr=>∃(k m:Nat) (out:List Int) (A':Option Addr) (c':Nat),k<=l.length/\m<=500/\s20= .int .i64 k/\s1= .int .i64 m/\s5= .int .i64 (lp (l.drop k) m)/\s6= .slice A' k c'/\Hid (out.length=k/\out++choose (l.drop k) m (lp (l.drop k) m)=choose l n L/\0<=lp (l.drop k) m)/\aC 3 1 aY w.heap.size wr (.slice A' k c') out/\Below w.heap.size w wr) (fun _ _ _ i _=>l.length-(intOf i).toNat)
 case atStart=>exact⟨0,n,[],some ⟨w1.heap.size,0,none⟩,0,Nat.zero_le _,hn,rfl,rfl,(by rw[HL.out];rfl),rfl,OA ⟨rfl,by rw[HL.out];rfl,by have:=HL.out;show 0<=lp l n;omega⟩,World.ownsRow_lit w1 #[] 0 hb1.size (by simp[maxLen]) rfl,hb1.al _⟩
 case round=>
  obtain⟨k,m,out,A',c',hk,hm5,rfl,rfl,rfl,rfl,Hg,hown,hbel⟩:=hrel;clear hb1;by_cases hlt:k<l.length
  . obtain⟨b,off,rfl,hb,q1,q2⟩:=(h.Oz hbel).eZ hlt;have hrd:=(h.Oz hbel).Oz ((Below.refl _ _).al (.cells #[.int .i64 l[k].1,.int .i64 l[k].2] 102));obtain⟨s,hs⟩:=Oy (l[k].1);obtain⟨p,hp⟩:=Oy (l[k].2);obtain⟨r,hr⟩:=Oy (l.drop (k+1));have hrl:r.length=l.length-(k+1):=by rw[hr];simp
    have hd:l.drop k=(s,p)::r:=(by rw[List.drop_eq_getElem_cons hlt,hs,hp,hr]);have hFd:sK ((s,p)::r):=by rw[<-hd];exact fun x hx=>HF.out x (List.mem_of_mem_drop hx)
    have F:=hFd (s,p) mem_cons_self;unfold eU at F;obtain⟨f1,f2,f3,f4⟩:=F;simp only at f1 f2 f3 f4;rw[hd]at Hg⊢;obtain⟨lf,hlf⟩:=Oy (lp ((s,p)::r) m);have hlfb:=CP hFd m;obtain⟨K,hK⟩:=Oy (kOf r m (s,p) lf);have hKs:=CJ hFd m;rw[<-hlf,<-hK]at hKs;obtain⟨hKm,hKf,hKn⟩:=hKs;rw[<-hlf]at Hg hlfb⊢;obtain⟨g1,g2,g3⟩:=Hg.out;rw[choose]at g2;simp only[<-hK]at g2;have HG:=OA g2;have Hout:=OA g1;rw[<-hs]at q1;rw[<-hp]at q2;rw[<-hs,<-hp]at hrd;have Hs:=OA hs;have Hp:=OA hp;have Hr:=OA hr;have Hd:=OA hd;have HFd:=OA hFd;have Hlf:=OA hlf;have HK:=OA hK;have HKf:=OA hKf;have HKn:=OA hKn;have Hrd:=OA hrd;have Hrl:=OA hrl;clear hs hp hr hd hFd hlf hK hKf hKn g1 g2 hrl hrd Hg;have hr5:r.length<=1048576:=by have:=Hrl.out;omega
    have HJ:Hid ((k:Int)+1=((k+1:Nat):Int)):=OA (by omega);have HK1:Hid (k+1<=l.length):=OA hlt;go_wp2_with ((with_reducible refine kU IY Hrd.out (k+1) HK1.out HJ.out rfl _ _ rfl rfl rfl ?_);intro A5 c5 hr6;rw[<-Hr.out]at hr6)
    refine(AL _ r m _ hr6 (OA HFd.out.tail) (by omega) hr5).mono ?_;rintro e w2 ⟨A2,c2,rfl,own2,hb2⟩;have hRl:=eH r m;obtain⟨R,hR⟩:=Oy (least r m)
    have hRat : ∀ i, (hi : i < R.length) -> R[i] = lp r i := fun i hi => by
     have hi':i<(least r m).length:=by rw[<-hR];exact hi
     have:=xI r m i (by rw[eH]at hi';omega);rw[getD_eq_getElem?_getD,List.getElem?_eq_getElem hi']at this;rw[<-this];simp[hR]
    rw[<-hR]at own2 hRl⊢;have hmR:m<R.length:=(by omega);have hmI:(m:Int)<R.length:=(by omega);have hmI1:(R.length:Int)=m+1:=(by omega);obtain⟨g,rfl,hB,hg⟩:=own2.split hmR;have own1:=(hown.alloc (.cells #[.int .i64 s,.int .i64 p] 102)).below hb2;have hbel2:=(hbel.al (.cells #[.int .i64 s,.int .i64 p] 102)).tr hb2;have hx0:=Blk.bK wr 102 #[.int .i64 s,.int .i64 p];have hx:=hx0.below hb2 hx0.lt;clear hx0;have hcell:=own2.slot aL Nat.one_pos hmR 0 (.int .i64 (lp r m)) (by rw[hRat];rfl);rw[Nat.mul_one,Nat.add_zero]at hcell;have HRat:=OA hRat;have HR:=OA hR;have HRl:=OA hRl;have HmI1:=OA hmI1;clear hRat hR hRl hb2 hmI1;obtain⟨bx,hbx⟩:=Oy wr.heap.size;have hBx:w.heap.size<=bx:=by have:=hbel.size;omega
    rw[<-hbx]at hx⊢;have Hbx:=OA hbx;clear hbx;go_wp2;have x0:=hx.cell 0;have x1:=hx.cell 1;simp only[List.getElem?_toArray,List.getElem?_cons_zero,List.getElem?_cons_succ]at x0 x1;have xl:=hx.lt;go_loop [10,11] (fun s10 s11=>∃j:Nat,j<=K/\s10= .int .i64 j/\s11= .int .i64 (lp r (nd m (j*s)))) (fun i _=>K-(intOf i).toNat)
    case atStart=>exact⟨0,Nat.zero_le _,rfl,by rw[Ca]⟩
    case round=>
     obtain⟨j,hj,rfl,rfl⟩:=hrel;have mj:=qC (a:=j) (b:=p) (m:=1000) (by omega) (by omega) f3 f4;obtain⟨q,hq⟩:=Oy (lp r (nd m (j*s)));have hqb:=CP HFd.out.tail (nd m (j*s));have ms:=qC (a:=j) (b:=s) (m:=50) (by omega) (by omega) f1 f2;have hqn:nd m (j*s)<=m:=NB m (by omega);rw[<-hq]at hqb⊢;have hq1: -1<=q:=hqb.1;have hq2:q<=500000:=by have:=hqb.2;omega
     by_cases hjK:j=K
     . subst hjK;have hf:=HKf.out;obtain⟨hf1,hf2⟩:=uR hf;simp only at hf1 hf2;rw[<-hq]at hf1 hf2;have hd1:decide (q<0)=false:=by simp;omega
       have hd2:(q+(j:Int)*p !=lf)=false:=by simp;omega
       have hqlf:q=lf-j*p:=(by omega);have Hq:=OA hq;have Hqlf:=OA hqlf;clear hq hqb hf hf1 hf2 hqlf;have hdiff: -9223372036854775808<=lf-(j:Int)*p/\lf-(j:Int)*p<=9223372036854775807:=(by omega);have own1K:aC 3 1 aY w.heap.size w2 (.slice A' k c') out:=own1;have hne1:=own1.apart hx (by decide);have H8:Hid ((out.length+1)*8<=140737488355328):=OA (by rw[Hout.out];omega);have HM:Hid (out.length+1<=maxLen):=OA (by rw[Hout.out];unfold maxLen;omega);go_wp2_with (at_builtin;go_must (refine aG (enc:=aY) fA aL jD hbel2 own1 j H8.out HM.out rfl _ _ rfl rfl rfl ?_);intro v3 w3 own3 hb3 hg3 hd3;obtain⟨A3,c3,rfl,hc3,hm3⟩:=own3.form;have hx3:=(hx.alloc (.cells #[.int .i64 j] 3)).grown hg3 (fun e=>hne1 e.symm);have y0:=hx3.cell 0;have y1:=hx3.cell 1;simp only[List.getElem?_toArray,List.getElem?_cons_zero,List.getElem?_cons_succ]at y0 y1;have yl:=hx3.lt)
       all_goals
         have hnd:nd m ((j:Int)*s)=((m:Int)-(j:Int)*s).toNat:=rfl
         have HG2:Hid ((out++[(j:Int)]).length=k+1/\(out++[(j:Int)])++choose (l.drop (k+1)) (nd m ((j:Int)*s)) (lp (l.drop (k+1)) (nd m ((j:Int)*s)))=choose l n L/\0<=lp (l.drop (k+1)) (nd m ((j:Int)*s))):=by
          rw[<-Hr.out];refine OA ⟨by simp[Hout.out],?_,?_⟩
          . have:=HG.out;rw[<-Hqlf.out,Hq.out]at this;simpa using this
          . have:=Hq.out;rw[<-this];have:=of_decide_eq_false hd1;omega
         have hlpq:lp (l.drop (k+1)) (nd m ((j:Int)*s))=lf-j*p:=by rw[<-Hr.out,<-Hq.out,Hqlf.out]
         have own4:aC 3 1 aY w.heap.size w3 (.slice A3 (k+1) c3) (out++[(j:Int)]):=by
          have e:(out++[(j:Int)]).length=k+1:=(by simp[Hout.out]);rw[<-e];exact own3
         clear own3 hg3 hd3 hx hx3 own1 own1K own2 hcell x0 x1 xl;go_roundw
         case rel=>exact⟨k+1,nd m ((j:Int)*s),out++[(j:Int)],A3,c3,by omega,by omega,by go_num,(by rw[show(if(m:Int)-(j:Int)*s<0 then(0:Int)else(m:Int)-(j:Int)*s)=(nd m ((j:Int)*s):Nat) by split<;>omega]),by rw[hlpq],by rw[Hout.out],HG2,own4,hb3⟩
         case measure=>simp[intOf];omega
     . have hf := HKn.out j (by omega)
       have hcond:q<0∨(0<=q/\q+j*p≠lf):=by
        unfold fits at hf;simp only[<-hq,Bool.and_eq_false_iff,decide_eq_false_iff_not]at hf;omega
       have hexp:((j:Int)+1)*s=j*s+s:=(by rw[Int.add_mul,Int.one_mul]);have ms2:0<=((j:Int)+1)*s/\((j:Int)+1)*s<=25050:=(by omega);have Hq:=OA hq;clear hq hqb hf hexp;have hnd:nd m (((j+1:Nat):Int)*s)=((m:Int)-((j:Int)+1)*s).toNat:=by unfold nd;rw[Int.natCast_add];rfl
       by_cases hneg:(m:Int)-((j:Int)+1)*s<0
       . have hc0 := own2.slot aL Nat.one_pos (k := 0) (by omega) 0 (.int .i64 (lp r (nd m (((j + 1 : Nat) : Int) * s)))) (by rw [HRat.out, hnd, show ((m : Int) - ((j : Int) + 1) * s).toNat = 0 by omega]; rfl);rw[Nat.mul_one,Nat.add_zero]at hc0;have HN:=OA hnd;clear hnd;rcases hcond with hd0|⟨hd0,hd1⟩
         . go_wp2;go_round
           case rel=>exact⟨j+1,by omega,by go_num,rfl⟩
           case measure=>simp[intOf];omega
         . have hd2 : (q + (j : Int) * p != lf) = true := by simpa using hd1
           clear hd1;go_wp2;go_round
           case rel=>exact⟨j+1,by omega,by go_num,rfl⟩
           case measure=>simp[intOf];omega
       . have hc0 := own2.slot aL Nat.one_pos (k := ((m : Int) - ((j : Int) + 1) * s).toNat) (by omega) 0 (.int .i64 (lp r (nd m (((j + 1 : Nat) : Int) * s)))) (by rw [HRat.out, hnd]; rfl);rw[Nat.mul_one,Nat.add_zero]at hc0;have HN:=OA hnd;clear hnd;have hin:(m:Int)-((j:Int)+1)*s<R.length:=(by omega);rcases hcond with hd0|⟨hd0,hd1⟩
         . go_wp2;go_round
           case rel=>exact⟨j+1,by omega,by go_num,rfl⟩
           case measure=>simp[intOf];omega
         . have hd2 : (q + (j : Int) * p != lf) = true := by simpa using hd1
           clear hd1;go_wp2;go_round
           case rel=>exact⟨j+1,by omega,by go_num,rfl⟩
           case measure=>simp[intOf];omega
  . go_wp2;go_ret;obtain rfl:k=l.length:=by omega
    obtain⟨g1,g2,g3⟩:=Hg.out;rw[List.drop_length,choose,List.append_nil]at g2;subst g2;rw[<-g1]at hown⊢;exact⟨_,_,rfl,hown,hbel⟩
def chosen (l:List (Int×Int)) (n:Int):List Int:=if 0<=cheapest l n then choose l n.toNat (cheapest l n)else[]
end Go.Proofs.YtljfoohaapckeaaGreatDoor
