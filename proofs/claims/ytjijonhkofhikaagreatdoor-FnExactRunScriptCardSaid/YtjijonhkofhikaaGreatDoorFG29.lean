import Derived.Test.YtjijonhkofhikaaGreatDoorFK2
open _root_.List renaming getD_eq_getElem?_getD->Tm,mem_cons_self->Tn,mem_cons_of_mem->Tp
open _root_.Nat renaming one_pos->Tq,mul_one->Tt,add_zero->Tu
open _root_.Int renaming natCast_add->Tv,add_mul->Tw
set_option linter.unusedVariables false
set_option maxHeartbeats 4000000
set_option maxRecDepth 100000
namespace Go.Proofs.YtjijonhkofhikaaGreatDoor
open Go.ChangeShapes Go.WideShapes Go.ChangeAt Go.RowKit
theorem H9 (l:List (Int×Int)):∀(j:Nat) (out:List Int),iO l (j+1) out=iO l j out++[jT (iO l j out) (iO l j out).length l (-1)]:=by
 intro j;induction j with
 |zero=>intro out;rfl
 |succ j ih=>intro out;rw[iO,ih,<-iO]
theorem EG (l:List (Int×Int)) (n:Nat):least l (n+1)=least l n++[jT (least l n) ((n+1:Nat):Int) l (-1)]:=by
 have:=H9 l n [0];have e:(iO l n [0]).length=n+1:=gJ l n;rw[e]at this;exact this
def lp (l:List (Int×Int)) (i:Nat):Int:=(least l i).getD i 0
theorem Aw (l:List (Int×Int)):∀(N i:Nat),i<=N->(least l N).getD i 0=lp l i:=by
 intro N;induction N with
 | zero => intro i h; obtain rfl : i = 0 := by omega
           rfl
 |succ N ih=>
  intro i h;by_cases hi:i=N+1
  . subst hi;rfl
  . rw [EG, Tm, List.getElem?_append_left (by rw [gJ]; omega), <- Tm];exact ih i (by omega)
theorem vR (l:List (Int×Int)):lp l 0=0:=rfl
theorem M5 (l:List (Int×Int)) (n:Nat):lp l (n+1)=jT (least l n) ((n+1:Nat):Int) l (-1):=by
 unfold lp;rw[EG,Tm,List.getElem?_append_right (by rw[gJ];omega),gJ];simp
theorem QE (n:Nat):lp [] (n+1)= -1:=by rw[M5];rfl
def nd (n:Nat) (s:Int):Nat:=((n:Int)-s).toNat
theorem Oe (f:Int×Int->Int) (out:List Int) (m:Int):∀(r:List (Int×Int)) (gZ:Int),(∀b∈r,out.getD (m-b.1).toNat 0+b.2=f b/\0<=f b)->-1<=gZ->(r≠[]∨0<=gZ)->
    0<=jT out m r gZ/\(∀b∈r,jT out m r gZ<=f b)/\(0<=gZ->jT out m r gZ<=gZ)/\((0<=gZ/\jT out m r gZ=gZ)∨∃b∈r,jT out m r gZ=f b):=by
 intro r;induction r with
 | nil => intro gZ _ _ h; rcases h with h | h
          . exact absurd rfl h
          . exact⟨h,(fun b hb=>absurd hb (by simp)),(fun _=>Int.le_refl _),Or.inl ⟨h,rfl⟩⟩
 |cons x r ih=>
  intro gZ hf h1 h2;obtain⟨e,hx⟩:=hf x Tn;have hf':∀b∈r,out.getD (m-b.1).toNat 0+b.2=f b/\0<=f b:=fun b hb=>hf b (Tp _ hb)
  rw[jT,e];by_cases hc:gZ<0∨f x<gZ
  . rw[if_pos hc];obtain⟨k1,k2,k3,k4⟩:=ih (f x) hf' (by omega) (.inr hx);have a6:=k3 hx;refine⟨k1,fun b hb=> ?_,fun _=>by omega,?_⟩
    . rcases List.mem_cons.1 hb with rfl|hb
      . exact a6
      . exact k2 b hb
    . rcases k4 with⟨_,k4⟩|⟨b,hb,k4⟩
      . exact .inr ⟨x,Tn,k4⟩
      . exact .inr ⟨b,Tp _ hb,k4⟩
  . rw[if_neg hc];have h0:0<=gZ:=(by omega);obtain⟨k1,k2,k3,k4⟩:=ih gZ hf' h1 (.inr h0);have a6:=k3 h0;refine⟨k1,fun b hb=> ?_,fun _=>a6,?_⟩
    . rcases List.mem_cons.1 hb with rfl|hb
      . omega
      . exact k2 b hb
    . rcases k4 with⟨_,k4⟩|⟨b,hb,k4⟩
      . exact .inl ⟨h0,k4⟩
      . exact .inr ⟨b,Tp _ hb,k4⟩
def Bb (l:List (Int×Int)):Prop:=∀x∈l,jJ x
theorem Bb.tail {b:Int×Int} {l:List (Int×Int)} (h:Bb (b::l)):Bb l:=fun x hx=>h x (Tp _ hx)
theorem II (l:List (Int×Int)) (hl:Bb l) (hne:l≠[]):∀n:Nat,0<=lp l n/\∀m,n=m+1->(∀b∈l,lp l n<=lp l (nd n b.1)+b.2)/\∃b∈l,lp l n=lp l (nd n b.1)+b.2:=by
 intro n;induction n using Nat.strongRecOn with
 |ind n ih=>
  rcases n with _|n
  . exact⟨Int.le_refl _,fun m h=>by cases h⟩
  . have key:∀b∈l,(least l n).getD (((n+1:Nat):Int)-b.1).toNat 0+b.2=lp l (nd (n+1) b.1)+b.2/\0<=lp l (nd (n+1) b.1)+b.2:=by
     intro b hb;have F:=hl b hb;unfold jJ at F;have hi:(((n+1:Nat):Int)-b.1).toNat<=n:=(by omega);rw[Aw l n _ hi];have:=(ih _ (show(((n+1:Nat):Int)-b.1).toNat<n+1 by omega)).1;exact⟨rfl,by unfold nd;omega⟩
    obtain⟨k1,k2,_,k4⟩:=Oe (fun b=>lp l (nd (n+1) b.1)+b.2) (least l n) ((n+1:Nat):Int) l (-1) key (by omega) (.inl hne);rw[<-M5]at k1 k2 k4;refine⟨k1,fun m _=>⟨k2,?_⟩⟩;rcases k4 with⟨h,_⟩|h
    . omega
    . exact h
theorem pK {l:List (Int×Int)} (hl:Bb l) (hne:l≠[]) (n:Nat):0<=lp l n:=(II l hl hne n).1
theorem QR {l:List (Int×Int)} (hl:Bb l) {b:Int×Int} (hb:b∈l) (n:Nat):lp l n<=lp l (nd n b.1)+b.2:=by
 have hne:l≠[]:=by rintro rfl;cases hb
 rcases n with _|n
 . have:=pK hl hne (nd 0 b.1);have F:=hl b hb;unfold jJ at F;rw[vR];omega
 . exact((II l hl hne (n+1)).2 n rfl).1 b hb
theorem R3 {l:List (Int×Int)} (hl:Bb l) (hne:l≠[]) {n:Nat} (hn:0<n):∃b∈l,lp l n=lp l (nd n b.1)+b.2:=by
 obtain⟨m,rfl⟩:∃m,n=m+1:=⟨n-1,by omega⟩;exact((II l hl hne (m+1)).2 m rfl).2
theorem QS {n:Nat} {s:Int} (hn:0<n) (hs:1<=s):nd n s<n:=by unfold nd;omega
theorem SV (n:Nat) {s:Int} (hs:0<=s):nd n s<=n:=by unfold nd;omega
theorem Sr {b:Int×Int} {l:List (Int×Int)} (hl:Bb (b::l)):∀n:Nat,0<=lp l n->lp (b::l) n<=lp l n:=by
 intro n;induction n using Nat.strongRecOn with
 |ind n ih=>
  intro h;rcases Nat.eq_zero_or_pos n with rfl|hn
  . rw[vR,vR];omega
  . have hne:l≠[]:=by
     rintro rfl;obtain⟨m,rfl⟩:∃m,n=m+1:=⟨n-1,by omega⟩;rw[QE]at h;omega
    obtain⟨c,hc,e⟩:=R3 hl.tail hne hn;have F:=hl.tail c hc;unfold jJ at F;have i1:=ih (nd n c.1) (QS hn F.1) (pK hl.tail hne _);have i2:=QR hl (Tp b hc) n;omega
theorem L6 (n k:Nat) {s:Int} (hs:1<=s):nd (nd n s) (k*s)=nd n ((k+1:Nat)*s):=by
 have e:((k+1:Nat):Int)*s=k*s+s:=by rw[Tv,Tw];simp
 have h0:0<=(k:Int)*s:=Int.mul_nonneg (by omega) (by omega);rw[e];unfold nd;omega
theorem RJ (n:Nat) {s t:Int} (hs:0<=s) (ht:0<=t):nd (nd n s) t=nd (nd n t) s:=by unfold nd;omega
theorem EH (n:Nat) (s:Int):nd n ((0:Nat)*s)=n:=by unfold nd;simp
theorem Su {b:Int×Int} {l:List (Int×Int)} (hl:Bb (b::l)):∀(k n:Nat),0<=lp l (nd n (k*b.1))->lp (b::l) n<=lp l (nd n (k*b.1))+k*b.2:=by
 have F:=hl b Tn;unfold jJ at F;intro k;induction k with
 |zero=>intro n h;rw[EH]at h⊢;have:=Sr hl n h;omega
 |succ k ih=>
  intro n h;rw[<-L6 n k F.1]at h⊢;have i1:=ih (nd n b.1) h;have i2:=QR hl (Tn (a:=b) (l:=l)) n;have e:((k+1:Nat):Int)*b.2=k*b.2+b.2:=by rw[Tv,Tw];simp
  omega
theorem PV {b:Int×Int} {l:List (Int×Int)} (hl:Bb (b::l)):∀n:Nat,∃k:Nat,k<=n/\0<=lp l (nd n (k*b.1))/\lp l (nd n (k*b.1))+k*b.2=lp (b::l) n:=by
 have F:=hl b Tn;unfold jJ at F;intro n;induction n using Nat.strongRecOn with
 |ind n ih=>
  rcases Nat.eq_zero_or_pos n with rfl|hn
  . exact⟨0,by omega,by rw[EH,vR];omega,by rw[EH,vR,vR];simp⟩
  . obtain ⟨c, hc, e⟩ := R3 hl (by simp) hn;have Fc:=hl c hc;unfold jJ at Fc;obtain⟨k,hk,h0,he⟩:=ih (nd n c.1) (QS hn Fc.1);have a7:=QS hn Fc.1;rcases List.mem_cons.1 hc with rfl|hc'
    . refine ⟨k + 1, by omega, ?_, ?_⟩
      . rw[<-L6 n k F.1];exact h0
      . rw[<-L6 n k F.1];have e2:((k+1:Nat):Int)*c.2=k*c.2+c.2:=by rw[Tv,Tw];simp
        omega
    . have hne : l ≠ [] := by rintro rfl; cases hc'
      have a6:=pK hl.tail hne (nd n (k*b.1));refine⟨k,by omega,a6,?_⟩;have ks:0<=(k:Int)*b.1:=Int.mul_nonneg (by omega) (by omega);have i1:=QR hl.tail hc' (nd n (k*b.1));rw[RJ n ks (by omega)]at i1;have i2:=Su hl k n a6;omega
def fits (l:List (Int×Int)) (n:Nat) (b:Int×Int) (left:Int) (k:Nat):Bool:=decide (0<=lp l (nd n (k*b.1)))&&decide (lp l (nd n (k*b.1))+k*b.2=left)
def kOf (l:List (Int×Int)) (n:Nat) (b:Int×Int) (left:Int):Nat:=((List.range (n+1)).find? fun k=>fits l n b left k).getD 0
theorem KJ {b:Int×Int} {l:List (Int×Int)} (hl:Bb (b::l)) (n:Nat):kOf l n b (lp (b::l) n)<=n/\fits l n b (lp (b::l) n) (kOf l n b (lp (b::l) n))=true/\∀j,j<kOf l n b (lp (b::l) n)->fits l n b (lp (b::l) n) j=false:=by
 obtain⟨k,hk,h0,he⟩:=PV hl n;have hf:fits l n b (lp (b::l) n) k=true:=by unfold fits;simp[h0,he]
 rcases hx:(List.range (n+1)).find? fun k=>fits l n b (lp (b::l) n) k with _|x
 . have := List.find?_eq_none.1 hx k (by simp; omega);exact absurd hf this
 . have e : kOf l n b (lp (b :: l) n) = x := by unfold kOf; rw [hx]; rfl
   rw[e];obtain⟨h1,xs,ys,h2,h3⟩:=List.find?_eq_some_iff_append.1 hx;have a6:x∈List.range (n+1):=by rw[h2];simp
   refine⟨by have:=List.mem_range.1 a6;omega,h1,fun j hj=> ?_⟩
   have hlen:xs.length=x:=by
    have h4:(List.range (n+1))[xs.length]? =some x:=by rw[h2];simp
    rw[List.getElem?_range (by have:=congrArg List.length h2;simp at this;omega)]at h4;injection h4
   have h5:(List.range (n+1))[j]? =some j:=List.getElem?_range (by have:=List.mem_range.1 a6;omega);rw[h2,List.getElem?_append_left (by omega)]at h5;have:=h3 j (List.mem_of_getElem? h5);simpa using this
def choose:List (Int×Int)->Nat->Int->List Int
  |[],_,_=>[]
  |b::r,n,left=>(kOf r n b left:Int)::choose r (nd n (kOf r n b left*b.1)) (left-kOf r n b left*b.2)
theorem Bv {l:List (Int×Int)} {n:Nat} {b:Int×Int} {left:Int} {k:Nat} (h:fits l n b left k=true):left-k*b.2=lp l (nd n (k*b.1))/\0<=lp l (nd n (k*b.1)):=by
 unfold fits at h;simp at h;omega
theorem Fw {l:List (Int×Int)} (hl:Bb l) (n:Nat): -1<=lp l n/\lp l n<=1000*n:=by
 have h:=Db l hl n [0] (by simp) uN;have hn:n<(least l n).length:=by rw[gJ];omega
 have:=h n (least l n)[n] (List.getElem?_eq_getElem hn);have e:lp l n=(least l n)[n]:=by unfold lp;rw[Tm,List.getElem?_eq_getElem hn];rfl
 rw[e];exact this
theorem JJ (v:Value) (l:List (Int×Int)) (n:Nat) (w:World) (h:Rd 2 bT w v l) (bX:dV l l.length=true) (hn:n<=500):
 Calls Tryz.prog 100 #[v,.int .i64 n] w (fM 3 1 aW (choose l n (lp l n)) w):=by
 obtain⟨A,c,rfl,hc,hm⟩:=h.form;obtain⟨hall,h1,h5⟩:=lD _ _ bX;have eE:l.length<=5:=(by omega);have hF:Bb l:=hall;have hne:l≠[]:=by rintro rfl;simp at h1
 have hcc:=pM bX hn;have bC:cheapest l n=lp l n:=by rw[hcc];unfold lp;rw[Tm,List.getElem?_eq_getElem (by rw[gJ];omega)];rfl
 have cM:=pK hF hne n;obtain⟨L,hL⟩:=Ti (lp l n);rw[<-hL]at cM bC⊢;have HL:=Tk hL;have HF:=Tk hF;have cN:=Tk bC;have eI:=Tk hne;clear hL hF bC hcc hne hall bX;go_enter Tryz.func100,Tryz.ntmps100
 go_wp2_with fail
 refine(yH _ l n _ h).mono ?_;rintro e w1 ⟨rfl,hb1⟩;rw[cN.out];go_wp2;go_loopw [1,5,6,20] (fun s1 s5 s6 cP wr=>∃(k m:Nat) (out:List Int) (A':Option Addr) (c':Nat),k<=l.length/\m<=500/\cP= .int .i64 k/\s1= .int .i64 m/\s5= .int .i64 (lp (l.drop k) m)/\s6= .slice A' k c'/\Hid (out.length=k/\out++choose (l.drop k) m (lp (l.drop k) m)=choose l n L/\0<=lp (l.drop k) m)/\aD 3 1 aW w.heap.size wr (.slice A' k c') out/\Below w.heap.size w wr) (fun _ _ _ i _=>l.length-(intOf i).toNat)
 case atStart=>exact⟨0,n,[],some ⟨w1.heap.size,0,none⟩,0,Nat.zero_le _,hn,rfl,rfl,(by rw[HL.out];rfl),rfl,Tk ⟨rfl,by rw[HL.out];rfl,by have:=HL.out;show 0<=lp l n;omega⟩,World.ownsRow_lit w1 #[] 0 hb1.size (by simp[maxLen]) rfl,hb1.al _⟩
 case round=>
  obtain⟨k,m,out,A',c',hk,eJ,rfl,rfl,rfl,rfl,Hg,hown,a7⟩:=hrel;clear hb1;by_cases hlt:k<l.length
  . obtain⟨b,off,rfl,hb,q1,q2⟩:=(h.Tj a7).iR hlt;have bY:=(h.Tj a7).Tj ((Below.refl _ _).al (.cells #[.int .i64 l[k].1,.int .i64 l[k].2] 134));obtain⟨s,hs⟩:=Ti (l[k].1);obtain⟨p,hp⟩:=Ti (l[k].2);obtain⟨r,hr⟩:=Ti (l.drop (k+1));have cE:r.length=l.length-(k+1):=by rw[hr];simp
    have hd:l.drop k=(s,p)::r:=(by rw[List.drop_eq_getElem_cons hlt,hs,hp,hr]);have bK:Bb ((s,p)::r):=by rw[<-hd];exact fun x hx=>HF.out x (List.mem_of_mem_drop hx)
    have F:=bK (s,p) Tn;unfold jJ at F;obtain⟨f1,f2,f3,f4⟩:=F;simp only at f1 f2 f3 f4;rw[hd]at Hg⊢;obtain⟨lf,bU⟩:=Ti (lp ((s,p)::r) m);have b5:=Fw bK m;obtain⟨K,hK⟩:=Ti (kOf r m (s,p) lf);have cF:=KJ bK m;rw[<-bU,<-hK]at cF;obtain⟨eK,cG,hKn⟩:=cF;rw[<-bU]at Hg b5⊢;obtain⟨g1,g2,g3⟩:=Hg.out;rw[choose]at g2;simp only[<-hK]at g2;have HG:=Tk g2;have a8:=Tk g1;rw[<-hs]at q1;rw[<-hp]at q2;rw[<-hs,<-hp]at bY;have Hs:=Tk hs;have Hp:=Tk hp;have Hr:=Tk hr;have Hd:=Tk hd;have cH:=Tk bK;have eL:=Tk bU;have HK:=Tk hK;have cQ:=Tk cG;have cR:=Tk hKn;have cS:=Tk bY;have cT:=Tk cE;clear hs hp hr hd bK bU hK cG hKn g1 g2 cE bY Hg;have cU:r.length<=1048576:=by have:=cT.out;omega
    have HJ:Hid ((k:Int)+1=((k+1:Nat):Int)):=Tk (by omega);have cV:Hid (k+1<=l.length):=Tk hlt;go_wp2_with ((with_reducible refine mX Qo cS.out (k+1) cV.out HJ.out rfl _ _ rfl rfl rfl ?_);intro A5 c5 cI;rw[<-Hr.out]at cI)
    refine(Dp _ r m _ cI (Tk cH.out.tail) (by omega) cU).mono ?_;rintro e w2 ⟨A2,c2,rfl,a6,hb2⟩;have b6:=gJ r m;obtain⟨R,hR⟩:=Ti (least r m)
    have bD : ∀ i, (hi : i < R.length) -> R[i] = lp r i := fun i hi => by
     have hi':i<(least r m).length:=by rw[<-hR];exact hi
     have:=Aw r m i (by rw[gJ]at hi';omega);rw[Tm,List.getElem?_eq_getElem hi']at this;rw[<-this];simp[hR]
    rw[<-hR]at a6 b6⊢;have cJ:m<R.length:=(by omega);have eM:(m:Int)<R.length:=(by omega);have bL:(R.length:Int)=m+1:=(by omega);obtain⟨g,rfl,hB,hg⟩:=a6.split cJ;have bA:=(hown.alloc (.cells #[.int .i64 s,.int .i64 p] 134)).below hb2;have bM:=(a7.al (.cells #[.int .i64 s,.int .i64 p] 134)).tr hb2;have hx0:=Blk.aX wr 134 #[.int .i64 s,.int .i64 p];have hx:=hx0.below hb2 hx0.lt;clear hx0;have hcell:=a6.slot aM Tq cJ 0 (.int .i64 (lp r m)) (by rw[bD];rfl);rw[Tt,Tu]at hcell;have bN:=Tk bD;have HR:=Tk hR;have eN:=Tk b6;have cW:=Tk bL;clear bD hR b6 hb2 bL;obtain⟨bx,b7⟩:=Ti wr.heap.size;have eP:w.heap.size<=bx:=by have:=a7.size;omega
    rw[<-b7]at hx⊢;have eR:=Tk b7;clear b7;go_wp2;have x0:=hx.cell 0;have x1:=hx.cell 1;simp only[List.getElem?_toArray,List.getElem?_cons_zero,List.getElem?_cons_succ]at x0 x1;have xl:=hx.lt;go_loop [10,11] (fun cX cY=>∃j:Nat,j<=K/\cX= .int .i64 j/\cY= .int .i64 (lp r (nd m (j*s)))) (fun i _=>K-(intOf i).toNat)
    case atStart=>exact⟨0,Nat.zero_le _,rfl,by rw[EH]⟩
    case round=>
     obtain⟨j,hj,rfl,rfl⟩:=hrel;have mj:=uB (a:=j) (b:=p) (m:=1000) (by omega) (by omega) f3 f4;obtain⟨q,hq⟩:=Ti (lp r (nd m (j*s)));have bO:=Fw cH.out.tail (nd m (j*s));have ms:=uB (a:=j) (b:=s) (m:=50) (by omega) (by omega) f1 f2;have eW:nd m (j*s)<=m:=SV m (by omega);rw[<-hq]at bO⊢;have e5: -1<=q:=bO.1;have e6:q<=500000:=by have:=bO.2;omega
     by_cases dL:j=K
     . subst dL;have hf:=cQ.out;obtain⟨b8,hf2⟩:=Bv hf;simp only at b8 hf2;rw[<-hq]at b8 hf2;have bE:decide (q<0)=false:=by simp;omega
       have cK:(q+(j:Int)*p !=lf)=false:=by simp;omega
       have bP:q=lf-j*p:=(by omega);have Hq:=Tk hq;have bR:=Tk bP;clear hq bO hf b8 hf2 bP;have cL: -9223372036854775808<=lf-(j:Int)*p/\lf-(j:Int)*p<=9223372036854775807:=(by omega);have bS:aD 3 1 aW w.heap.size w2 (.slice A' k c') out:=bA;have b9:=bA.apart hx (by decide);have H8:Hid ((out.length+1)*8<=140737488355328):=Tk (by rw[a8.out];omega);have HM:Hid (out.length+1<=maxLen):=Tk (by rw[a8.out];unfold maxLen;omega);go_wp2_with (at_builtin;go_must (refine aF (enc:=aW) fP aM jS bM bA j H8.out HM.out rfl _ _ rfl rfl rfl ?_);intro v3 w3 bF hb3 hg3 dT;obtain⟨A3,c3,rfl,hc3,e7⟩:=bF.form;have hx3:=(hx.alloc (.cells #[.int .i64 j] 3)).grown hg3 (fun e=>b9 e.symm);have y0:=hx3.cell 0;have y1:=hx3.cell 1;simp only[List.getElem?_toArray,List.getElem?_cons_zero,List.getElem?_cons_succ]at y0 y1;have yl:=hx3.lt)
       all_goals
         have bJ:nd m ((j:Int)*s)=((m:Int)-(j:Int)*s).toNat:=rfl
         have eA:Hid ((out++[(j:Int)]).length=k+1/\(out++[(j:Int)])++choose (l.drop (k+1)) (nd m ((j:Int)*s)) (lp (l.drop (k+1)) (nd m ((j:Int)*s)))=choose l n L/\0<=lp (l.drop (k+1)) (nd m ((j:Int)*s))):=by
          rw[<-Hr.out];refine Tk ⟨by simp[a8.out],?_,?_⟩
          . have:=HG.out;rw[<-bR.out,Hq.out]at this;simpa using this
          . have:=Hq.out;rw[<-this];have:=of_decide_eq_false bE;omega
         have cA:lp (l.drop (k+1)) (nd m ((j:Int)*s))=lf-j*p:=by rw[<-Hr.out,<-Hq.out,bR.out]
         have cB:aD 3 1 aW w.heap.size w3 (.slice A3 (k+1) c3) (out++[(j:Int)]):=by
          have e:(out++[(j:Int)]).length=k+1:=(by simp[a8.out]);rw[<-e];exact bF
         clear bF hg3 dT hx hx3 bA bS a6 hcell x0 x1 xl;go_roundw
         case rel=>exact⟨k+1,nd m ((j:Int)*s),out++[(j:Int)],A3,c3,by omega,by omega,by go_num,(by rw[show(if(m:Int)-(j:Int)*s<0 then(0:Int)else(m:Int)-(j:Int)*s)=(nd m ((j:Int)*s):Nat) by split<;>omega]),by rw[cA],by rw[a8.out],eA,cB,hb3⟩
         case measure=>simp[intOf];omega
     . have hf := cR.out j (by omega)
       have bB:q<0∨(0<=q/\q+j*p≠lf):=by
        unfold fits at hf;simp only[<-hq,Bool.and_eq_false_iff,decide_eq_false_iff_not]at hf;omega
       have cC:((j:Int)+1)*s=j*s+s:=(by rw[Tw,Int.one_mul]);have e8:0<=((j:Int)+1)*s/\((j:Int)+1)*s<=25050:=(by omega);have Hq:=Tk hq;clear hq bO hf cC;have bJ:nd m (((j+1:Nat):Int)*s)=((m:Int)-((j:Int)+1)*s).toNat:=by unfold nd;rw[Tv];rfl
       by_cases eC:(m:Int)-((j:Int)+1)*s<0
       . have hc0 := a6.slot aM Tq (k := 0) (by omega) 0 (.int .i64 (lp r (nd m (((j + 1 : Nat) : Int) * s)))) (by rw [bN.out, bJ, show ((m : Int) - ((j : Int) + 1) * s).toNat = 0 by omega]; rfl);rw[Tt,Tu]at hc0;have HN:=Tk bJ;clear bJ;rcases bB with cD|⟨cD,bE⟩
         . go_wp2;go_round
           case rel=>exact⟨j+1,by omega,by go_num,rfl⟩
           case measure=>simp[intOf];omega
         . have cK : (q + (j : Int) * p != lf) = true := by simpa using bE
           clear bE;go_wp2;go_round
           case rel=>exact⟨j+1,by omega,by go_num,rfl⟩
           case measure=>simp[intOf];omega
       . have hc0 := a6.slot aM Tq (k := ((m : Int) - ((j : Int) + 1) * s).toNat) (by omega) 0 (.int .i64 (lp r (nd m (((j + 1 : Nat) : Int) * s)))) (by rw [bN.out, bJ]; rfl);rw[Tt,Tu]at hc0;have HN:=Tk bJ;clear bJ;have e9:(m:Int)-((j:Int)+1)*s<R.length:=(by omega);rcases bB with cD|⟨cD,bE⟩
         . go_wp2;go_round
           case rel=>exact⟨j+1,by omega,by go_num,rfl⟩
           case measure=>simp[intOf];omega
         . have cK : (q + (j : Int) * p != lf) = true := by simpa using bE
           clear bE;go_wp2;go_round
           case rel=>exact⟨j+1,by omega,by go_num,rfl⟩
           case measure=>simp[intOf];omega
  . go_wp2;go_ret;obtain rfl:k=l.length:=by omega
    obtain⟨g1,g2,g3⟩:=Hg.out;rw[List.drop_length,choose,List.append_nil]at g2;subst g2;rw[<-g1]at hown⊢;exact⟨_,_,rfl,hown,a7⟩
def chosen (l:List (Int×Int)) (n:Int):List Int:=if 0<=cheapest l n then choose l n.toNat (cheapest l n)else[]
end Go.Proofs.YtjijonhkofhikaaGreatDoor
