import Derived.Test.YtjijonhkofhikaaGreatDoorEK2
open _root_.List (range zipWith sum_cons)
open _root_.List renaming getD_eq_getElem?_getD->TZ,mem_cons_self->T9,mem_cons_of_mem->Ua
open _root_.Nat renaming one_pos->Ub,mul_one->Uc,add_zero->Ud
open _root_.Int renaming natCast_add->Ue,add_mul->Uf,mul_nonneg->Ug
set_option linter.unusedVariables false
set_option maxHeartbeats 4000000
set_option maxRecDepth 100000
namespace Go.Proofs.YtjijonhkofhikaaGreatDoor
open Go.ChangeShapes Go.WideShapes Go.ChangeAt Go.RowKit
theorem Iw (l:List (Int×Int)):∀(j:Nat) (out:List Int),iE l (j+1) out=iE l j out++[jO (iE l j out) (iE l j out).length l (-1)]:=by
 intro j;induction j with
 |zero=>intro out;rfl
 |succ j ih=>intro out;rw[iE,ih,<-iE]
theorem ET (l:List (Int×Int)) (n:Nat):least l (n+1)=least l n++[jO (least l n) ((n+1:Nat):Int) l (-1)]:=by
 have:=Iw l n [0];have e:(iE l n [0]).length=n+1:=fG l n;rw[e]at this;exact this
def lp (l:List (Int×Int)) (i:Nat):Int:=(least l i).getD i 0
theorem AL (l:List (Int×Int)):∀(N i:Nat),i<=N->(least l N).getD i 0=lp l i:=by
 intro N;induction N with
 | zero => intro i h; obtain rfl : i = 0 := by omega
           rfl
 |succ N ih=>
  intro i h;by_cases hi:i=N+1
  . subst hi;rfl
  . rw [ET, TZ, List.getElem?_append_left (by rw [fG]; omega), <- TZ];exact ih i (by omega)
theorem rC (l:List (Int×Int)):lp l 0=0:=rfl
theorem Nn (l:List (Int×Int)) (n:Nat):lp l (n+1)=jO (least l n) ((n+1:Nat):Int) l (-1):=by
 unfold lp;rw[ET,TZ,List.getElem?_append_right (by rw[fG];omega),fG];simp
theorem Ms (n:Nat):lp [] (n+1)= -1:=by rw[Nn];rfl
def nd (n:Nat) (s:Int):Nat:=((n:Int)-s).toNat
theorem Oo (f:Int×Int->Int) (out:List Int) (m:Int):∀(r:List (Int×Int)) (fV:Int),(∀b∈r,out.getD (m-b.1).toNat 0+b.2=f b/\0<=f b)->-1<=fV->(r≠[]∨0<=fV)->
    0<=jO out m r fV/\(∀b∈r,jO out m r fV<=f b)/\(0<=fV->jO out m r fV<=fV)/\((0<=fV/\jO out m r fV=fV)∨∃b∈r,jO out m r fV=f b):=by
 intro r;induction r with
 | nil => intro fV _ _ h; rcases h with h | h
          . exact absurd rfl h
          . exact⟨h,(fun b hb=>absurd hb (by simp)),(fun _=>Int.le_refl _),Or.inl ⟨h,rfl⟩⟩
 |cons x r ih=>
  intro fV hf h1 h2;obtain⟨e,hx⟩:=hf x T9;have hf':∀b∈r,out.getD (m-b.1).toNat 0+b.2=f b/\0<=f b:=fun b hb=>hf b (Ua _ hb)
  rw[jO,e];by_cases hc:fV<0∨f x<fV
  . rw[if_pos hc];obtain⟨k1,k2,k3,k4⟩:=ih (f x) hf' (by omega) (.inr hx);have a6:=k3 hx;refine⟨k1,fun b hb=> ?_,fun _=>by omega,?_⟩
    . rcases List.mem_cons.1 hb with rfl|hb
      . exact a6
      . exact k2 b hb
    . rcases k4 with⟨_,k4⟩|⟨b,hb,k4⟩
      . exact .inr ⟨x,T9,k4⟩
      . exact .inr ⟨b,Ua _ hb,k4⟩
  . rw[if_neg hc];have h0:0<=fV:=(by omega);obtain⟨k1,k2,k3,k4⟩:=ih fV hf' h1 (.inr h0);have a6:=k3 h0;refine⟨k1,fun b hb=> ?_,fun _=>a6,?_⟩
    . rcases List.mem_cons.1 hb with rfl|hb
      . omega
      . exact k2 b hb
    . rcases k4 with⟨_,k4⟩|⟨b,hb,k4⟩
      . exact .inl ⟨h0,k4⟩
      . exact .inr ⟨b,Ua _ hb,k4⟩
def vW (l:List (Int×Int)):Prop:=∀x∈l,fM x
theorem vW.tail {b:Int×Int} {l:List (Int×Int)} (h:vW (b::l)):vW l:=fun x hx=>h x (Ua _ hx)
theorem I7 (l:List (Int×Int)) (hl:vW l) (hne:l≠[]):∀n:Nat,0<=lp l n/\∀m,n=m+1->(∀b∈l,lp l n<=lp l (nd n b.1)+b.2)/\∃b∈l,lp l n=lp l (nd n b.1)+b.2:=by
 intro n;induction n using Nat.strongRecOn with
 |ind n ih=>
  rcases n with _|n
  . exact⟨Int.le_refl _,fun m h=>by cases h⟩
  . have key:∀b∈l,(least l n).getD (((n+1:Nat):Int)-b.1).toNat 0+b.2=lp l (nd (n+1) b.1)+b.2/\0<=lp l (nd (n+1) b.1)+b.2:=by
     intro b hb;have F:=hl b hb;unfold fM at F;have hi:(((n+1:Nat):Int)-b.1).toNat<=n:=(by omega);rw[AL l n _ hi];have:=(ih _ (show(((n+1:Nat):Int)-b.1).toNat<n+1 by omega)).1;exact⟨rfl,by unfold nd;omega⟩
    obtain⟨k1,k2,_,k4⟩:=Oo (fun b=>lp l (nd (n+1) b.1)+b.2) (least l n) ((n+1:Nat):Int) l (-1) key (by omega) (.inl hne);rw[<-Nn]at k1 k2 k4;refine⟨k1,fun m _=>⟨k2,?_⟩⟩;rcases k4 with⟨h,_⟩|h
    . omega
    . exact h
theorem mE {l:List (Int×Int)} (hl:vW l) (hne:l≠[]) (n:Nat):0<=lp l n:=(I7 l hl hne n).1
theorem OL {l:List (Int×Int)} (hl:vW l) {b:Int×Int} (hb:b∈l) (n:Nat):lp l n<=lp l (nd n b.1)+b.2:=by
 have hne:l≠[]:=by rintro rfl;cases hb
 rcases n with _|n
 . have:=mE hl hne (nd 0 b.1);have F:=hl b hb;unfold fM at F;rw[rC];omega
 . exact((I7 l hl hne (n+1)).2 n rfl).1 b hb
theorem SB {l:List (Int×Int)} (hl:vW l) (hne:l≠[]) {n:Nat} (hn:0<n):∃b∈l,lp l n=lp l (nd n b.1)+b.2:=by
 obtain⟨m,rfl⟩:∃m,n=m+1:=⟨n-1,by omega⟩;exact((I7 l hl hne (m+1)).2 m rfl).2
theorem OM {n:Nat} {s:Int} (hn:0<n) (hs:1<=s):nd n s<n:=by unfold nd;omega
theorem SC (n:Nat) {s:Int} (hs:0<=s):nd n s<=n:=by unfold nd;omega
theorem Tj {b:Int×Int} {l:List (Int×Int)} (hl:vW (b::l)):∀n:Nat,0<=lp l n->lp (b::l) n<=lp l n:=by
 intro n;induction n using Nat.strongRecOn with
 |ind n ih=>
  intro h;rcases Nat.eq_zero_or_pos n with rfl|hn
  . rw[rC,rC];omega
  . have hne:l≠[]:=by
     rintro rfl;obtain⟨m,rfl⟩:∃m,n=m+1:=⟨n-1,by omega⟩;rw[Ms]at h;omega
    obtain⟨c,hc,e⟩:=SB hl.tail hne hn;have F:=hl.tail c hc;unfold fM at F;have i1:=ih (nd n c.1) (OM hn F.1) (mE hl.tail hne _);have i2:=OL hl (Ua b hc) n;omega
theorem Mt (n k:Nat) {s:Int} (hs:1<=s):nd (nd n s) (k*s)=nd n ((k+1:Nat)*s):=by
 have e:((k+1:Nat):Int)*s=k*s+s:=by rw[Ue,Uf];simp
 have h0:0<=(k:Int)*s:=Ug (by omega) (by omega);rw[e];unfold nd;omega
theorem Sa (n:Nat) {s t:Int} (hs:0<=s) (ht:0<=t):nd (nd n s) t=nd (nd n t) s:=by unfold nd;omega
theorem EU (n:Nat) (s:Int):nd n ((0:Nat)*s)=n:=by unfold nd;simp
theorem Tk {b:Int×Int} {l:List (Int×Int)} (hl:vW (b::l)):∀(k n:Nat),0<=lp l (nd n (k*b.1))->lp (b::l) n<=lp l (nd n (k*b.1))+k*b.2:=by
 have F:=hl b T9;unfold fM at F;intro k;induction k with
 |zero=>intro n h;rw[EU]at h⊢;have:=Tj hl n h;omega
 |succ k ih=>
  intro n h;rw[<-Mt n k F.1]at h⊢;have i1:=ih (nd n b.1) h;have i2:=OL hl (T9 (a:=b) (l:=l)) n;have e:((k+1:Nat):Int)*b.2=k*b.2+b.2:=by rw[Ue,Uf];simp
  omega
theorem PZ {b:Int×Int} {l:List (Int×Int)} (hl:vW (b::l)):∀n:Nat,∃k:Nat,k<=n/\0<=lp l (nd n (k*b.1))/\lp l (nd n (k*b.1))+k*b.2=lp (b::l) n:=by
 have F:=hl b T9;unfold fM at F;intro n;induction n using Nat.strongRecOn with
 |ind n ih=>
  rcases Nat.eq_zero_or_pos n with rfl|hn
  . exact⟨0,by omega,by rw[EU,rC];omega,by rw[EU,rC,rC];simp⟩
  . obtain ⟨c, hc, e⟩ := SB hl (by simp) hn;have Fc:=hl c hc;unfold fM at Fc;obtain⟨k,hk,h0,he⟩:=ih (nd n c.1) (OM hn Fc.1);have a7:=OM hn Fc.1;rcases List.mem_cons.1 hc with rfl|hc'
    . refine ⟨k + 1, by omega, ?_, ?_⟩
      . rw[<-Mt n k F.1];exact h0
      . rw[<-Mt n k F.1];have e2:((k+1:Nat):Int)*c.2=k*c.2+c.2:=by rw[Ue,Uf];simp
        omega
    . have hne : l ≠ [] := by rintro rfl; cases hc'
      have a6:=mE hl.tail hne (nd n (k*b.1));refine⟨k,by omega,a6,?_⟩;have ks:0<=(k:Int)*b.1:=Ug (by omega) (by omega);have i1:=OL hl.tail hc' (nd n (k*b.1));rw[Sa n ks (by omega)]at i1;have i2:=Tk hl k n a6;omega
def fits (l:List (Int×Int)) (n:Nat) (b:Int×Int) (left:Int) (k:Nat):Bool:=decide (0<=lp l (nd n (k*b.1)))&&decide (lp l (nd n (k*b.1))+k*b.2=left)
def kOf (l:List (Int×Int)) (n:Nat) (b:Int×Int) (left:Int):Nat:=((range (n+1)).find? fun k=>fits l n b left k).getD 0
theorem FI {b:Int×Int} {l:List (Int×Int)} (hl:vW (b::l)) (n:Nat):kOf l n b (lp (b::l) n)<=n/\fits l n b (lp (b::l) n) (kOf l n b (lp (b::l) n))=true/\∀j,j<kOf l n b (lp (b::l) n)->fits l n b (lp (b::l) n) j=false:=by
 obtain⟨k,hk,h0,he⟩:=PZ hl n;have hf:fits l n b (lp (b::l) n) k=true:=by unfold fits;simp[h0,he]
 rcases hx:(range (n+1)).find? fun k=>fits l n b (lp (b::l) n) k with _|x
 . have := List.find?_eq_none.1 hx k (by simp; omega);exact absurd hf this
 . have e : kOf l n b (lp (b :: l) n) = x := by unfold kOf; rw [hx]; rfl
   rw[e];obtain⟨h1,xs,ys,h2,h3⟩:=List.find?_eq_some_iff_append.1 hx;have a6:x∈range (n+1):=by rw[h2];simp
   refine⟨by have:=List.mem_range.1 a6;omega,h1,fun j hj=> ?_⟩
   have hlen:xs.length=x:=by
    have h4:(range (n+1))[xs.length]? =some x:=by rw[h2];simp
    rw[List.getElem?_range (by have:=congrArg List.length h2;simp at this;omega)]at h4;injection h4
   have h5:(range (n+1))[j]? =some j:=List.getElem?_range (by have:=List.mem_range.1 a6;omega);rw[h2,List.getElem?_append_left (by omega)]at h5;have:=h3 j (List.mem_of_getElem? h5);simpa using this
def choose:List (Int×Int)->Nat->Int->List Int
  |[],_,_=>[]
  |b::r,n,left=>(kOf r n b left:Int)::choose r (nd n (kOf r n b left*b.1)) (left-kOf r n b left*b.2)
theorem LV:∀(l:List (Int×Int)) (n:Nat) (left:Int),(choose l n left).length=l.length:=by
 intro l;induction l with
 |nil=>intro n left;rfl
 |cons b r ih=>intro n left;simp[choose,ih]
theorem xP {l:List (Int×Int)} {n:Nat} {b:Int×Int} {left:Int} {k:Nat} (h:fits l n b left k=true):left-k*b.2=lp l (nd n (k*b.1))/\0<=lp l (nd n (k*b.1)):=by
 unfold fits at h;simp at h;omega
theorem JS:∀(l:List (Int×Int)) (n:Nat),vW l->0<=lp l n->(∀k∈choose l n (lp l n),0<=k/\k<=n)/\
    (n:Int)<=(zipWith (fun c b=>c*b.1) (choose l n (lp l n)) l).sum/\(zipWith (fun c b=>c*b.2) (choose l n (lp l n)) l).sum=lp l n:=by
 intro l;induction l with
 |nil=>
  intro n _ h;rcases n with _|n
  . exact⟨fun k hk=>(by cases hk),by simp[choose],by simp[choose,rC]⟩
  . rw[Ms]at h;omega
 |cons b r ih=>
  intro n hl h;have F:=hl b T9;unfold fM at F;obtain⟨k1,k2,_⟩:=FI hl n;obtain⟨k3,k4⟩:=xP k2;obtain⟨i1,i2,i3⟩:=ih _ hl.tail k4;have ks:0<=(kOf r n b (lp (b::r) n):Int)*b.1:=Ug (by omega) (by omega);have hle:=SC n ks;simp only[choose,k3];generalize kOf r n b (lp (b::r) n)=K at*
  refine⟨fun k hk=> ?_,?_,?_⟩
  . rcases List.mem_cons.1 hk with rfl|hk
    . omega
    . have:=i1 k hk;omega
  . simp only[List.zipWith_cons_cons,sum_cons];unfold nd at i2⊢;omega
  . simp only[List.zipWith_cons_cons,sum_cons,i3];omega
theorem FJ {l:List (Int×Int)} (hl:vW l) (n:Nat): -1<=lp l n/\lp l n<=1000*n:=by
 have h:=Du l hl n [0] (by simp) uI;have hn:n<(least l n).length:=by rw[fG];omega
 have:=h n (least l n)[n] (List.getElem?_eq_getElem hn);have e:lp l n=(least l n)[n]:=by unfold lp;rw[TZ,List.getElem?_eq_getElem hn];rfl
 rw[e];exact this
theorem vW.hall {l:List (Int×Int)} (h:vW l):∀x∈l,fM x:=h
theorem JU (v:Value) (l:List (Int×Int)) (n:Nat) (w:World) (h:Rd 2 cO w v l) (b5:dF l l.length=true) (hn:n<=500):
 Calls Tryz.prog 100 #[v,.int .i64 n] w (iH 3 1 bH (choose l n (lp l n)) w):=by
 obtain⟨A,c,rfl,hc,hm⟩:=h.form;obtain⟨hall,h1,h5⟩:=kD _ _ b5;have eJ:l.length<=5:=(by omega);have hF:vW l:=hall;have hne:l≠[]:=by rintro rfl;simp at h1
 have hcc:=mP b5 hn;have bC:cheapest l n=lp l n:=by rw[hcc];unfold lp;rw[TZ,List.getElem?_eq_getElem (by rw[fG];omega)];rfl
 have cP:=mE hF hne n;obtain⟨L,hL⟩:=TV (lp l n);rw[<-hL]at cP bC⊢;have HL:=TY hL;have HF:=TY hF;have cQ:=TY bC;have eK:=TY hne;clear hL hF bC hcc hne hall b5;go_enter Tryz.func100,Tryz.ntmps100
 go_wp2_with fail
 refine(yH _ l n _ h).mono ?_;rintro e w1 ⟨rfl,hb1⟩;rw[cQ.out];go_wp2;go_loopw [1,5,6,20] (fun s1 s5 s6 cR wr=>∃(k m:Nat) (out:List Int) (A':Option Addr) (c':Nat),k<=l.length/\m<=500/\cR= .int .i64 k/\s1= .int .i64 m/\s5= .int .i64 (lp (l.drop k) m)/\s6= .slice A' k c'/\Hid (out.length=k/\out++choose (l.drop k) m (lp (l.drop k) m)=choose l n L/\0<=lp (l.drop k) m)/\aD 3 1 bH w.heap.size wr (.slice A' k c') out/\Below w.heap.size w wr) (fun _ _ _ i _=>l.length-(intOf i).toNat)
 case atStart=>exact⟨0,n,[],some ⟨w1.heap.size,0,none⟩,0,Nat.zero_le _,hn,rfl,rfl,(by rw[HL.out];rfl),rfl,TY ⟨rfl,by rw[HL.out];rfl,by have:=HL.out;show 0<=lp l n;omega⟩,World.ownsRow_lit w1 #[] 0 hb1.size (by simp[maxLen]) rfl,hb1.al _⟩
 case round=>
  obtain⟨k,m,out,A',c',hk,eL,rfl,rfl,rfl,rfl,Hg,hown,a7⟩:=hrel;clear hb1;by_cases hlt:k<l.length
  . obtain⟨b,off,rfl,hb,q1,q2⟩:=(h.TW a7).fQ hlt;have b6:=(h.TW a7).TW ((Below.refl _ _).al (.cells #[.int .i64 l[k].1,.int .i64 l[k].2] 134));obtain⟨s,hs⟩:=TV (l[k].1);obtain⟨p,hp⟩:=TV (l[k].2);obtain⟨r,hr⟩:=TV (l.drop (k+1));have cG:r.length=l.length-(k+1):=by rw[hr];simp
    have hd:l.drop k=(s,p)::r:=(by rw[List.drop_eq_getElem_cons hlt,hs,hp,hr]);have bK:vW ((s,p)::r):=by rw[<-hd];exact fun x hx=>HF.out x (List.mem_of_mem_drop hx)
    have F:=bK (s,p) T9;unfold fM at F;obtain⟨f1,f2,f3,f4⟩:=F;simp only at f1 f2 f3 f4;rw[hd]at Hg⊢;obtain⟨lf,bY⟩:=TV (lp ((s,p)::r) m);have b7:=FJ bK m;obtain⟨K,hK⟩:=TV (kOf r m (s,p) lf);have cH:=FI bK m;rw[<-bY,<-hK]at cH;obtain⟨eM,cI,hKn⟩:=cH;rw[<-bY]at Hg b7⊢;obtain⟨g1,g2,g3⟩:=Hg.out;rw[choose]at g2;simp only[<-hK]at g2;have HG:=TY g2;have a8:=TY g1;rw[<-hs]at q1;rw[<-hp]at q2;rw[<-hs,<-hp]at b6;have Hs:=TY hs;have Hp:=TY hp;have Hr:=TY hr;have Hd:=TY hd;have cJ:=TY bK;have eN:=TY bY;have HK:=TY hK;have cS:=TY cI;have cT:=TY hKn;have cU:=TY b6;have cV:=TY cG;clear hs hp hr hd bK bY hK cI hKn g1 g2 cG b6 Hg;have cW:r.length<=1048576:=by have:=cV.out;omega
    have HJ:Hid ((k:Int)+1=((k+1:Nat):Int)):=TY (by omega);have cX:Hid (k+1<=l.length):=TY hlt;go_wp2_with ((with_reducible refine mQ Mi cU.out (k+1) cX.out HJ.out rfl _ _ rfl rfl rfl ?_);intro A5 c5 cK;rw[<-Hr.out]at cK)
    refine(DN _ r m _ cK (TY cJ.out.tail) (by omega) cW).mono ?_;rintro e w2 ⟨A2,c2,rfl,a6,hb2⟩;have b8:=fG r m;obtain⟨R,hR⟩:=TV (least r m)
    have bD : ∀ i, (hi : i < R.length) -> R[i] = lp r i := fun i hi => by
     have hi':i<(least r m).length:=by rw[<-hR];exact hi
     have:=AL r m i (by rw[fG]at hi';omega);rw[TZ,List.getElem?_eq_getElem hi']at this;rw[<-this];simp[hR]
    rw[<-hR]at a6 b8⊢;have cL:m<R.length:=(by omega);have eP:(m:Int)<R.length:=(by omega);have bL:(R.length:Int)=m+1:=(by omega);obtain⟨g,rfl,hB,hg⟩:=a6.split cL;have bA:=(hown.alloc (.cells #[.int .i64 s,.int .i64 p] 134)).below hb2;have bN:=(a7.al (.cells #[.int .i64 s,.int .i64 p] 134)).tr hb2;have hx0:=Blk.aZ wr 134 #[.int .i64 s,.int .i64 p];have hx:=hx0.below hb2 hx0.lt;clear hx0;have hcell:=a6.slot aJ Ub cL 0 (.int .i64 (lp r m)) (by rw[bD];rfl);rw[Uc,Ud]at hcell;have bO:=TY bD;have HR:=TY hR;have eR:=TY b8;have cY:=TY bL;clear bD hR b8 hb2 bL;obtain⟨bx,b9⟩:=TV wr.heap.size;have eW:w.heap.size<=bx:=by have:=a7.size;omega
    rw[<-b9]at hx⊢;have e5:=TY b9;clear b9;go_wp2;have x0:=hx.cell 0;have x1:=hx.cell 1;simp only[List.getElem?_toArray,List.getElem?_cons_zero,List.getElem?_cons_succ]at x0 x1;have xl:=hx.lt;go_loop [10,11] (fun dL dT=>∃j:Nat,j<=K/\dL= .int .i64 j/\dT= .int .i64 (lp r (nd m (j*s)))) (fun i _=>K-(intOf i).toNat)
    case atStart=>exact⟨0,Nat.zero_le _,rfl,by rw[EU]⟩
    case round=>
     obtain⟨j,hj,rfl,rfl⟩:=hrel;have mj:=tZ (a:=j) (b:=p) (m:=1000) (by omega) (by omega) f3 f4;obtain⟨q,hq⟩:=TV (lp r (nd m (j*s)));have bR:=FJ cJ.out.tail (nd m (j*s));have ms:=tZ (a:=j) (b:=s) (m:=50) (by omega) (by omega) f1 f2;have e6:nd m (j*s)<=m:=SC m (by omega);rw[<-hq]at bR⊢;have e7: -1<=q:=bR.1;have e8:q<=500000:=by have:=bR.2;omega
     by_cases eA:j=K
     . subst eA;have hf:=cS.out;obtain⟨cA,hf2⟩:=xP hf;simp only at cA hf2;rw[<-hq]at cA hf2;have bE:decide (q<0)=false:=by simp;omega
       have cM:(q+(j:Int)*p !=lf)=false:=by simp;omega
       have bU:q=lf-j*p:=(by omega);have Hq:=TY hq;have bW:=TY bU;clear hq bR hf cA hf2 bU;have cN: -9223372036854775808<=lf-(j:Int)*p/\lf-(j:Int)*p<=9223372036854775807:=(by omega);have bX:aD 3 1 bH w.heap.size w2 (.slice A' k c') out:=bA;have cB:=bA.apart hx (by decide);have H8:Hid ((out.length+1)*8<=140737488355328):=TY (by rw[a8.out];omega);have HM:Hid (out.length+1<=maxLen):=TY (by rw[a8.out];unfold maxLen;omega);go_wp2_with (at_builtin;go_must (refine aF (enc:=bH) fE aJ jN bN bA j H8.out HM.out rfl _ _ rfl rfl rfl ?_);intro v3 w3 bF hb3 hg3 eC;obtain⟨A3,c3,rfl,hc3,e9⟩:=bF.form;have hx3:=(hx.alloc (.cells #[.int .i64 j] 3)).grown hg3 (fun e=>cB e.symm);have y0:=hx3.cell 0;have y1:=hx3.cell 1;simp only[List.getElem?_toArray,List.getElem?_cons_zero,List.getElem?_cons_succ]at y0 y1;have yl:=hx3.lt)
       all_goals
         have bJ:nd m ((j:Int)*s)=((m:Int)-(j:Int)*s).toNat:=rfl
         have eE:Hid ((out++[(j:Int)]).length=k+1/\(out++[(j:Int)])++choose (l.drop (k+1)) (nd m ((j:Int)*s)) (lp (l.drop (k+1)) (nd m ((j:Int)*s)))=choose l n L/\0<=lp (l.drop (k+1)) (nd m ((j:Int)*s))):=by
          rw[<-Hr.out];refine TY ⟨by simp[a8.out],?_,?_⟩
          . have:=HG.out;rw[<-bW.out,Hq.out]at this;simpa using this
          . have:=Hq.out;rw[<-this];have:=of_decide_eq_false bE;omega
         have cC:lp (l.drop (k+1)) (nd m ((j:Int)*s))=lf-j*p:=by rw[<-Hr.out,<-Hq.out,bW.out]
         have cD:aD 3 1 bH w.heap.size w3 (.slice A3 (k+1) c3) (out++[(j:Int)]):=by
          have e:(out++[(j:Int)]).length=k+1:=(by simp[a8.out]);rw[<-e];exact bF
         clear bF hg3 eC hx hx3 bA bX a6 hcell x0 x1 xl;go_roundw
         case rel=>exact⟨k+1,nd m ((j:Int)*s),out++[(j:Int)],A3,c3,by omega,by omega,by go_num,(by rw[show(if(m:Int)-(j:Int)*s<0 then(0:Int)else(m:Int)-(j:Int)*s)=(nd m ((j:Int)*s):Nat) by split<;>omega]),by rw[cC],by rw[a8.out],eE,cD,hb3⟩
         case measure=>simp[intOf];omega
     . have hf := cT.out j (by omega)
       have bB:q<0∨(0<=q/\q+j*p≠lf):=by
        unfold fits at hf;simp only[<-hq,Bool.and_eq_false_iff,decide_eq_false_iff_not]at hf;omega
       have cE:((j:Int)+1)*s=j*s+s:=(by rw[Uf,Int.one_mul]);have fD:0<=((j:Int)+1)*s/\((j:Int)+1)*s<=25050:=(by omega);have Hq:=TY hq;clear hq bR hf cE;have bJ:nd m (((j+1:Nat):Int)*s)=((m:Int)-((j:Int)+1)*s).toNat:=by unfold nd;rw[Ue];rfl
       by_cases eI:(m:Int)-((j:Int)+1)*s<0
       . have hc0 := a6.slot aJ Ub (k := 0) (by omega) 0 (.int .i64 (lp r (nd m (((j + 1 : Nat) : Int) * s)))) (by rw [bO.out, bJ, show ((m : Int) - ((j : Int) + 1) * s).toNat = 0 by omega]; rfl);rw[Uc,Ud]at hc0;have HN:=TY bJ;clear bJ;rcases bB with cF|⟨cF,bE⟩
         . go_wp2;go_round
           case rel=>exact⟨j+1,by omega,by go_num,rfl⟩
           case measure=>simp[intOf];omega
         . have cM : (q + (j : Int) * p != lf) = true := by simpa using bE
           clear bE;go_wp2;go_round
           case rel=>exact⟨j+1,by omega,by go_num,rfl⟩
           case measure=>simp[intOf];omega
       . have hc0 := a6.slot aJ Ub (k := ((m : Int) - ((j : Int) + 1) * s).toNat) (by omega) 0 (.int .i64 (lp r (nd m (((j + 1 : Nat) : Int) * s)))) (by rw [bO.out, bJ]; rfl);rw[Uc,Ud]at hc0;have HN:=TY bJ;clear bJ;have fL:(m:Int)-((j:Int)+1)*s<R.length:=(by omega);rcases bB with cF|⟨cF,bE⟩
         . go_wp2;go_round
           case rel=>exact⟨j+1,by omega,by go_num,rfl⟩
           case measure=>simp[intOf];omega
         . have cM : (q + (j : Int) * p != lf) = true := by simpa using bE
           clear bE;go_wp2;go_round
           case rel=>exact⟨j+1,by omega,by go_num,rfl⟩
           case measure=>simp[intOf];omega
  . go_wp2;go_ret;obtain rfl:k=l.length:=by omega
    obtain⟨g1,g2,g3⟩:=Hg.out;rw[List.drop_length,choose,List.append_nil]at g2;subst g2;rw[<-g1]at hown⊢;exact⟨_,_,rfl,hown,a7⟩
def chosen (l:List (Int×Int)) (n:Int):List Int:=if 0<=cheapest l n then choose l n.toNat (cheapest l n)else[]
end Go.Proofs.YtjijonhkofhikaaGreatDoor
