import Derived.Test.YtjijonhkofhikaaGreatDoorFG7
import Derived.Test.YtjijonhkofhikaaGreatDoorFG10
open _root_.List renaming length_cons->Tm
open _root_.Go.Lib renaming joinTail->Tn
open _root_.ByteArray (empty)
open _root_.Go.Value renaming oneCell'->Tp
open _root_.Go.Proofs.Tryz renaming ntmps24->Tq,results24->Tt
set_option linter.unusedVariables false
set_option linter.unusedSimpArgs false
set_option maxHeartbeats 4000000
set_option maxRecDepth 100000
namespace Go.Proofs.YtjijonhkofhikaaGreatDoor
open Go.ChangeShapes Go.WideShapes Go.ChangeAt Go.RowKit
theorem aY {P:Program} {ops:Array Oper} {rest:List Oper} {o:Oper} {a:Act} {w:World} {Q:Exit->Act->World->Prop} (hgd:o.guard=none) (ty:TypeId) (x y:Operand) (ho:o.op= .store ty x y)
    (g:Nat) (cells:Array Value) (hx:a.eval x= .pointer (some ⟨g,0,none⟩)) (hy:a.eval y= .agg cells)
    (t:TypeId) (old:Array Value) (hg:Blk w g t old) (hi:(P.info? ty).map (·.size)=some cells.size) (hold:old.size=cells.size) (h1:cells.all (·.oneCell')=true)
    (h:∀w',Blk w' g t cells->w.grownBy w' (some g)->wpList P ops Q rest (a.put o.dst undef) w'):wpList P ops Q (o::rest) a w:=
 wpList_store_row hgd ty x y ho g cells hx hy t old hg hi hold h1 (h _ (setRow_heap w g old cells t (0,0) hg) (IZ cells))
theorem Ic {P:Program} {ops:Array Oper} {rest:List Oper} {o:Oper} {a:Act} {Q:Exit->Act->World->Prop} {α:Type} {t E:TypeId} {z:Value} {size bytes:Nat} (R:Row P t E z size bytes)
    {RR:World->List Value->α->Prop} {w:World} {A:Option Addr} {n c:Nat} {l:List α} (h:Rd size RR w (.slice A n c) l) (j:Nat) (hj:j<=n) {J:Int} (hJ:J=j)
    (hgd:o.guard=none) (s x:Operand) (hop:o.op=Op.slice t s (some x) none none) (hs:a.eval s= .slice A n c) (hx:a.eval x= .int .i64 J)
    (hK:∀A' c',sliced A j n c size= .slice A' (n-j) c'->wpList P ops Q rest (a.put o.dst (.slice A' (n-j) c')) w):
    wpList P ops Q (o::rest) a w:=by
 subst hJ;obtain⟨ht,a6,hzs,hsz⟩:=R;obtain⟨i0,hi,hz0,hz1,hz2⟩:=info_parts a6;obtain⟨A',c',e,hr⟩:=h.tailA hj;have he:P.elem t=E:=(by simp[Program.elem,ht]);have a7:P.underlying t=some (.slice (P.elem t)):=by rw[he];exact ht
 have hrun:(Instr.sliceAt t (.slice A n c) (some (.int .i64 j)) none none).run P w= .ok (.slice A' (n-j) c') w:=by
  rw[run_sliceAt_slice w t _ _ _ _ a7,run_slice_l w t A n c a7 .i64 j (by omega) (by omega),he,<-e];simp[sizeOf,typeInfo,hi,hz1,Result.andThen]
 refine wpList_plain hgd fun K hK'=> ?_
 unfold Oper.wp;simp[execOp,hop,hs,hx,hrun,Result.andThen];exact hK' _ _ (hK A' c' e)
theorem Qb {α:Type} {E:TypeId} {size:Nat} {enc:α->List Value} {B:Nat} {w:World} {A A':Option Addr} {n c c' j:Nat} {l:List α} (h:aD E size enc B w (.slice A n c) l) (a6:∀x,(enc x).length=size) (hs:0<size) (hj:j<=n) (e:sliced A j n c size= .slice A' (n-j) c'):
 Rd size (RE enc) w (.slice A' (n-j) c') (l.drop j):=by
 obtain⟨A2,c2,e2,hr⟩:=(h.rd a6 hs).tailA hj;rw[e]at e2;injection e2 with q1 q2 q3;subst q1;subst q3;exact hr
theorem Qc {l:List ByteArray} {cs:Array Value} {w W:World} (hW:w.heap.size<=W.heap.size) (h:l.flatMap fJ=cs.toList) (hl:l.length<=100):aD 9 1 fJ w.heap.size (W.alloc (.cells cs 9)) (.slice (some ⟨W.heap.size,0,none⟩) l.length l.length) l:=by
 have hf:=iB eZ l;unfold aD;rw[h]at hf⊢;have hc:cs.size=l.length:=by rw[<-Array.length_toList];omega
 refine⟨by omega,.inr ⟨W.heap.size,l.length,cs,rfl,hW,heap_alloc_new W _,Nat.le_refl _,by unfold maxLen;omega,by omega,by rw[<-hf,List.take_length]⟩⟩
def vL:List ByteArray:=[empty,mF,jB,tJ,nI,kD]
def kTo (x:ByteArray):Nat->Int
  |0=>0
  |k+1=>if nth vL k=x then(k:Int)else kTo x k
theorem SX {x:ByteArray} (hx:x≠empty):kTo x 6=sW x:=by
 have e0:nth vL 0=empty:=rfl;have e1:nth vL 1=mF:=rfl;have e2:nth vL 2=jB:=rfl;have e3:nth vL 3=tJ:=rfl;have e4:nth vL 4=nI:=rfl;have e5:nth vL 5=kD:=rfl;simp only[kTo,e0,e1,e2,e3,e4,e5];by_cases h1:x=mF
 . subst h1;decide+kernel
 . by_cases h2:x=jB
   . subst h2;decide+kernel
   . by_cases h3:x=tJ
     . subst h3;decide+kernel
     . by_cases h4:x=nI
       . subst h4;decide+kernel
       . by_cases h5:x=kD
         . subst h5;decide+kernel
         . unfold sW;rw[if_neg (fun e=>h5 e.symm),if_neg (fun e=>h4 e.symm),if_neg (fun e=>h3 e.symm),if_neg (fun e=>h2 e.symm),if_neg (fun e=>h1 e.symm),if_neg (fun e=>hx e.symm),if_neg h1,if_neg h2,if_neg h3,if_neg h4,if_neg h5]
noncomputable def paV (s:ByteArray):Value:= .tuple #[.agg #[.int .i64 (paX s).1,.int .i64 (paX s).2.1,.int .i64 (paX s).2.2],.bool (paB s)]
noncomputable def aTo (F:List ByteArray) (i j:Nat):Int:=if i<=j then puN (nth F i)else 0
theorem Qd (k a b:Int):1<=(KW k a b).length:=by
 unfold KW;split
 . simp
 . split
   . simp
   . split
     . simp
     . split<;>simp
theorem QM {s : ByteArray} (h : inB ((eH s).length : Int) 1 3 = false) : paX s = (0, 0, 0) /\ paB s = false := IY fun q => by
 obtain⟨_,h3,x,hx⟩:=q;have h1:=BJ (xW s) hx;have h2:=Qd x.1 x.2.1 x.2.2;have h4:=congrArg List.length h1;rw[List.length_map]at h4;simp[inB]at h;omega
theorem qE {F:List ByteArray} {i:Nat} (h:i<F.length):nth F i=F[i]:=by unfold nth;rw[List.getD_eq_getElem?_getD,List.getElem?_eq_getElem h];rfl
theorem Sw {F:List ByteArray} (hw:Q6 F) {i:Nat} (h:i<F.length):nth F i≠empty:=by
 rw[qE h];intro e;have:=(hw F[i].data.toList (List.mem_map_of_mem (List.getElem_mem h))).1;rw[e]at this;exact this rfl
theorem Sy {s : ByteArray} {i : Nat} (h0 : 0 < i) (h1 : i < (eH s).length) (h : puB (nth (eH s) i) = false) : paX s = (0, 0, 0) /\ paB s = false := IY fun q => by
 obtain⟨_,h3,x,hx⟩:=q;have:=(Ip (xW s) hx).al i h0 h1;rw[h]at this;cases this
theorem Nf {F:List ByteArray} {i:Nat} (h0:0<i) {n:Nat} (hn:F.length=n+1):aTo F i n=puN (nth F i):=by
 unfold aTo;split
 . rfl
 . have:nth F i=empty:=by
    unfold nth;rw[List.getD_eq_getElem?_getD,List.getElem?_eq_none (by omega)];rfl
   rw[this];exact pW.1.symm
theorem Sz {s:ByteArray} {k a b:Int} (hl:dK s=true) (hi:inB ((eH s).length:Int) 1 3=true) (hk:k=sW (nth (eH s) 0)) (ha:a=puN (nth (eH s) 1)) (hb:b=puN (nth (eH s) 2)):
 (jW k a b=true->sV k a b=rT (eH s)->paX s=(k,a,b)/\paB s=true)/\(jW k a b=false∨sV k a b≠rT (eH s)->paX s=(0,0,0)/\paB s=false):=by
 have h3:(eH s).length<=3:=by simp[inB]at hi;omega
 refine⟨fun h1 h2=>Qw hl h3 ⟨h1,h2⟩,fun h=>IY fun q=> ?_⟩;obtain⟨_,_,x,hx⟩:=q;have hd:=Ip (xW s) hx;obtain⟨x1,x2,x3⟩:=x;obtain rfl:k=x1:=by rw[hk];exact hd.kd
 obtain rfl:a=x2:=by rw[ha];exact hd.ka
 obtain rfl:b=x3:=by rw[hb];exact hd.kb
 rcases h with h|h
 . have:=hx.1;simp only at this;rw[h]at this;cases this
 . exact h hx.2
theorem wR:∀(l cur:Bs),(Lib.join (fg cur l) [32]).length<=cur.length+l.length
  | [], cur => by
   rw[fg];split
   . exact Nat.zero_le _
   . rw[Lib.join_one];simp
  | c :: r, cur => by
   rw[fg];have h0:=wR r [];split
   . split
     . rw[Tm];simp at h0;omega
     . rw[Lib.join_cons,List.length_append,Tm]
       have h1:(Tn [32] (fg [] r)).length<=1+(Lib.join (fg [] r) [32]).length:=by
        cases fg [] r with
        |nil=>simp[Tn]
        |cons y ys=>rw[Lib.join_cons];simp[Tn];omega
       simp at h0;omega
   . have h1:=wR r (cur++[c]);rw[List.length_append]at h1;rw[Tm];simp at h1;omega
theorem Oj (s : ByteArray) (hs : s.size <= 600) : (Lib.join ((eH s).map fun x => x.data.toList) [32]).length <= 140737488355328 := by
 have e : (eH s).map (fun x => x.data.toList) = fg [] s.data.toList := by
  unfold eH;rw[List.map_map];conv=>rhs;rw[<-List.map_id (fg [] s.data.toList)]
  exact List.map_congr_left fun x _=>rD x
 rw[e];have:=wR s.data.toList [];have h2:s.data.toList.length=s.size:=Array.length_toList;simp only[List.length_nil]at this;omega
theorem Cu {s:ByteArray} (h:dK s=true):s.size<=600:=by
 unfold dK at h;simp only[Bool.and_eq_true,decide_eq_true_eq]at h;exact h.1.1
theorem Qe {B g c : Nat} {w : World} {F : List ByteArray} (h : aD 9 1 fJ B w (.slice (some ⟨g, 0, none⟩) F.length c) F) (hg : g < w.heap.size) (hF : F.length <= 100) (hs : (Lib.join (F.map fun x => x.data.toList) [32]).length <= 140737488355328) :
 Calls Tryz.prog 48 #[.slice (some ⟨g,0,none⟩) F.length c,.string ⟨#[32]⟩] w (Ret (.string (rT F)) w):=by
 obtain⟨A',c',e,h1,h2⟩:=h.form;injection e with e1 e2 e3;subst e3
 have a6 := Tryz.strings_Join g 0 c F (⟨#[32]⟩ : ByteArray) w (fun j x hj => by
  have a7:=(List.getElem?_eq_some_iff.1 hj).1;have:=h.slot eZ (by decide) a7 0 (.string F[j]) rfl;rw[(List.getElem?_eq_some_iff.1 hj).2]at this;simpa using this) hg (by omega) h1 hs
 refine a6.mono ?_;rintro e w' ⟨rfl,hb⟩;exact⟨rfl,hb⟩
theorem Ng (s:ByteArray) (w:World) (ht:Tab w) (hs:Syn w):Calls Tryz.prog 24 #[.string s] w (Ret (paV s) w):=by
 have HT:=Tk ht;have HS:=Tk hs;clear ht hs;have B0:=(Below.refl w.heap.size w).al (.cells #[.int .i64 0,.int .i64 0,.int .i64 0] 54);have bR:=Blk.aX w 54 #[.int .i64 0,.int .i64 0,.int .i64 0];obtain⟨gR,bU⟩:=Ti w.heap.size;have bO:w.heap.size<=gR:=(by omega);have b8:=Tk bU;clear bU;rcases a7:dK s with _|_
 . have Hn := Tk (IY (s := s) (fun q => by rw [a7] at q; cases q.1));have bJ:=Tk a7;clear a7;go_enter Tryz.func24,Tq
   go_wp2_with fail
   refine(vD s _).mono ?_;rintro e w1 ⟨v,rfl,hO,hb1⟩;rw[bJ.out];have a8:=bR.bl hb1;have B1:=B0.tr hb1;rw[<-b8.out]at a8⊢;clear hO;go_wp2_with (refine aY rfl 54 _ _ rfl gR #[.int .i64 0,.int .i64 0,.int .i64 0] rfl rfl _ _ a8 (by kernel_rfl) rfl (by simp[Tp]) ?_;intro wE bE bB)
   have BE:=B1.grown bB B1.size (fun k hk=>by injection hk with hk;subst hk;exact bO);obtain⟨bC,bD,bF⟩:=bE.n3;refine bodyPost_ret (v:= .tuple #[.agg #[.int .i64 0,.int .i64 0,.int .i64 0],.bool false]) (by simp[results,Tt,go_sem,bC,bD,bF]) rfl ⟨by unfold paV;rw[Hn.out.1,Hn.out.2],BE⟩
 . rcases hi:inB ((eH s).length:Int) 1 3 with _|_
   . have Hn:=Tk (QM hi);have bJ:=Tk a7;clear a7;go_enter Tryz.func24,Tq
     go_wp2_with fail
     refine(vD s _).mono ?_;rintro e w1 ⟨v,rfl,hO,hb1⟩;rw[bJ.out];have hO:=hO bJ.out;obtain⟨A,c,rfl,_,_⟩:=hO.form;have a8:=bR.bl hb1;have B1:=B0.tr hb1;go_wp2_with fail
     refine(dI ((eH s).length:Int) 1 3 _).mono ?_;rintro e w2 ⟨rfl,rfl⟩;rw[hi];rw[<-b8.out]at a8⊢;clear hO;go_wp2_with (refine aY rfl 54 _ _ rfl gR #[.int .i64 0,.int .i64 0,.int .i64 0] rfl rfl _ _ a8 (by kernel_rfl) rfl (by simp[Tp]) ?_;intro wE bE bB)
     have BE:=B1.grown bB B1.size (fun k hk=>by injection hk with hk;subst hk;exact bO);obtain⟨bC,bD,bF⟩:=bE.n3;refine bodyPost_ret (v:= .tuple #[.agg #[.int .i64 0,.int .i64 0,.int .i64 0],.bool false]) (by simp[results,Tt,go_sem,bC,bD,bF]) rfl ⟨by unfold paV;rw[Hn.out.1,Hn.out.2],BE⟩
   . have bJ:=Tk a7;clear a7;have cX:=Tk hi;go_enter Tryz.func24,Tq
     go_wp2_with fail
     refine(vD s _).mono ?_;rintro e w1 ⟨v,rfl,hO,hb1⟩;rw[bJ.out];have hO:=(hO bJ.out).mono B0.size;obtain⟨F,hF⟩:=Ti (eH s);have hl:1<=F.length/\F.length<=3:=by rw[hF];simp[inB]at hi;omega
     rw[<-hF]at hO hi;have HF:=Tk hF;obtain⟨A,c,rfl,_,_⟩:=hO.form;obtain⟨gF,rfl,eW,_⟩:=hO.split (k:=0) (by omega);have a8:=bR.bl hb1;have B1:=B0.tr hb1;clear hF;go_wp2_with fail
     refine(dI (F.length:Int) 1 3 _).mono ?_;rintro e w2 ⟨rfl,rfl⟩;rw[hi];clear hi;rw[<-b8.out]at a8⊢;have cY:=a8.lt;have dL:=B1.size;have oW:=Qc (l:=vL) (cs:= #[.string empty,.string mF,.string jB,.string tJ,.string nI,.string kD]) B1.size rfl (by decide);have bK:=Blk.gI (w1.alloc (.cells #[.string empty,.string mF,.string jB,.string tJ,.string nI,.string kD] 9)) 54 #[.int .i64 0,.int .i64 0,.int .i64 0] (w1.heap.size+1) (by simp);have oW:=oW.alloc (.cells #[.int .i64 0,.int .i64 0,.int .i64 0] 54);have hO:=(hO.alloc (.cells #[.string empty,.string mF,.string jB,.string tJ,.string nI,.string kD] 9)).alloc (.cells #[.int .i64 0,.int .i64 0,.int .i64 0] 54);have a8:=(a8.alloc (.cells #[.string empty,.string mF,.string jB,.string tJ,.string nI,.string kD] 9)).alloc (.cells #[.int .i64 0,.int .i64 0,.int .i64 0] 54);have B1:=(B1.al (.cells #[.string empty,.string mF,.string jB,.string tJ,.string nI,.string kD] 9)).al (.cells #[.int .i64 0,.int .i64 0,.int .i64 0] 54);have dT:w.heap.size<=w1.heap.size+1:=by have:=hb1.size;simp at this;omega
     have hw:=xW s;rw[<-HF.out]at hw;have hx0:=Sw hw (i:=0) (by omega);obtain⟨x,hx⟩:=Ti (nth F 0);rw[<-hx]at hx0;have cF:=SX hx0;have eA:=Tk cF;have HX:=Tk hx;have e5:=Tk hx0;have HW:=Tk hw;clear hx hx0 cF hw hb1;go_wp2_with (refine aY rfl 54 _ _ rfl (w1.heap.size+1) #[.int .i64 0,.int .i64 0,.int .i64 0] rfl rfl _ _ bK (by kernel_rfl) rfl (by simp[Tp]) ?_;intro wS bS bX)
     have b9:aD 9 1 fJ w.heap.size wS (.slice (some ⟨w1.heap.size,0,none⟩) 6 6) vL:=World.ownsRow.kept oW bX (.inr (oW.apart bK (by decide)));have cG:aD 9 1 fJ w.heap.size wS (.slice (some ⟨gF,0,none⟩) F.length c) F:=World.ownsRow.kept hO bX (.inr (hO.apart bK (by decide)));have cH:=a8.grown bX (by simp;omega);have BS:=B1.grown bX B1.size (fun k hk=>by injection hk with hk;omega);obtain⟨gK,bY⟩:=Ti (w1.heap.size+1);obtain⟨gW,cI⟩:=Ti w1.heap.size;rw[<-bY]at bS dT⊢;have hne:gR≠gK:=(by omega);rw[<-cI]at b9⊢;clear bX bY cI oW hO a8 B1 dL bK cY bR B0;go_loopw [8,9,34] (fun s8 s9 eC wr=>∃(k:Nat) (z8 z9:Value),s8=z8/\s9=z9/\k<=6/\eC= .int .i64 k/\Blk wr gK 54 #[.int .i64 (kTo x k),.int .i64 0,.int .i64 0]/\Blk wr gR 54 #[.int .i64 0,.int .i64 0,.int .i64 0]/\aD 9 1 fJ w.heap.size wr (.slice (some ⟨gW,0,none⟩) 6 6) vL/\aD 9 1 fJ w.heap.size wr (.slice (some ⟨gF,0,none⟩) F.length c) F/\Below w.heap.size w wr) (fun _ _ i _=>6-(intOf i).toNat)
     case atStart=>exact⟨0,_,_,rfl,rfl,by decide,rfl,bS,cH,b9,cG,BS⟩
     case round=>
      obtain⟨k,z8,z9,rfl,rfl,hk,rfl,bK,bR,oW,oF,a6⟩:=hrel;clear bS cH b9 cG BS;by_cases hlt:k<6
      . have cJ:k<vL.length:=hlt;obtain⟨u,hu⟩:=Ti (nth vL k)
        have c1:wr.cell? ⟨gW,k,none⟩=some (.string u):=by
         have:=oW.slot eZ (by decide) cJ 0 _ rfl;rw[hu,qE cJ];simpa using this
        have c2:wr.cell? ⟨gF,0,none⟩=some (.string x):=by
         have h0:0<F.length:=(by omega);have:=oF.slot eZ (by decide) h0 0 _ rfl;rw[HX.out,qE h0];simpa using this
        have e6:(k:Int)<6:=(by omega);by_cases he:u=x
        . have b5 : kTo x (k + 1) = k := by unfold kTo; rw [<- hu, if_pos he]
          have cA:=Tk b5;clear b5;have beq:=wV he;clear he;have k0:wr.cell? ⟨gK,0,none⟩=some (.int .i64 (kTo x k)):=bK.cell 0;have f0:=bK.frozen 0;have gX:=dB (World.grownBy.refl wr (some gK)) 0 (.int .i64 k);have bA:=bK.st 0 (.int .i64 k) #[.int .i64 (kTo x (k+1)),.int .i64 0,.int .i64 0] (by rw[cA.out];rfl);have bL:=bR.grown gX (by simp;omega);have eE:aD 9 1 fJ w.heap.size _ (.slice (some ⟨gW,0,none⟩) 6 6) vL:=World.ownsRow.kept oW gX (.inr (oW.apart bK (by decide)));have bM:aD 9 1 fJ w.heap.size _ (.slice (some ⟨gF,0,none⟩) F.length c) F:=World.ownsRow.kept oF gX (.inr (oF.apart bK (by decide)));have B2:=a6.grown gX a6.size (fun k hk=>by injection hk with hk;omega);clear hu;go_wp2;go_roundw
          case rel=>exact⟨k+1,_,_,rfl,rfl,by omega,by go_num,bA,bL,eE,bM,B2⟩
          case measure=>simp[intOf];omega
        . have b5:kTo x (k+1)=kTo x k:=by
           show(if nth vL k=x then(k:Int)else kTo x k)=kTo x k;rw[<-hu,if_neg he]
          have cA:=Tk b5;clear b5;have beq:=wW he;clear he hu;go_wp2;go_roundw
          case rel=>exact⟨k+1,_,_,rfl,rfl,by omega,by go_num,by rw[cA.out];exact bK,bR,oW,oF,a6⟩
          case measure=>simp[intOf];omega
      . obtain rfl : k = 6 := by omega
        rw[eA.out]at bK;obtain⟨K,hK⟩:=Ti (sW x);rw[<-hK]at bK;have HK:=Tk hK;clear hK oW;have cK:=oF.rd eZ (by decide);go_wp2_with ((with_reducible refine Ic mW cK 1 (by omega) rfl rfl _ _ rfl rfl rfl ?_);intro A' c' cL)
        have eI:=Tk cL;clear cL cK;go_loopw [10,11,12,13,50] (fun eJ eK s12 eL eM wr=>∃(j:Nat) (cM cN z12 cP:Value),eJ=cM/\eK=cN/\s12=z12/\eL=cP/\j<=F.length-1/\eM= .int .i64 j/\Blk wr gK 54 #[.int .i64 K,.int .i64 (aTo F 1 j),.int .i64 (aTo F 2 j)]/\Blk wr gR 54 #[.int .i64 0,.int .i64 0,.int .i64 0]/\aD 9 1 fJ w.heap.size wr (.slice (some ⟨gF,0,none⟩) F.length c) F/\Below w.heap.size w wr) (fun _ _ _ _ i _=>F.length-1-(intOf i).toNat)
        case atStart=>exact⟨0,_,_,_,_,rfl,rfl,rfl,rfl,Nat.zero_le _,rfl,bK,bR,oF,a6⟩
        case round=>
         obtain⟨j,cM,cN,z12,cP,rfl,rfl,rfl,rfl,hj,rfl,bK,bR,oF,a6⟩:=hrel;by_cases hlt:j<F.length-1
         . have eN : j < (F.drop 1).length := by simp; omega
           obtain⟨b,off,rfl,hb,c1⟩:=(Qb oF eZ (by decide) (by omega) eI.out).KS eN;obtain⟨y,hy⟩:=Ti (nth F (j+1));have cQ:(F.drop 1)[j]=y:=by rw[hy,qE (by omega)];simp[Nat.add_comm]
           rw[cQ]at c1;have HY:=Tk hy;clear hy cQ;have e7:(j:Int)<((F.length-1:Nat):Int):=(by omega);rcases b6:puB y with _|_
           . have Hn := Tk (Sy (s := s) (i := j + 1) (by omega) (by rw [<- HF.out]; omega) (by rw [<- HF.out, <- HY.out]; exact b6));go_wp2_with fail
             refine(Ml y _ (HT.out.below a6) (HS.out.below a6)).mono ?_;rintro e w3 ⟨rfl,hb2⟩;rw[b6];clear b6;have bL:=bR.bl hb2;have B2:=a6.tr hb2;go_wp2_with (refine aY rfl 54 _ _ rfl gR #[.int .i64 0,.int .i64 0,.int .i64 0] rfl rfl _ _ bL (by kernel_rfl) rfl (by simp[Tp]) ?_;intro wE bE bB)
             have BE:=B2.grown bB B2.size (fun k hk=>by injection hk with hk;subst hk;exact bO);obtain⟨bC,bD,bF⟩:=bE.n3;refine bodyPost_ret (v:= .tuple #[.agg #[.int .i64 0,.int .i64 0,.int .i64 0],.bool false]) (by simp[results,Tt,go_sem,bC,bD,bF]) rfl ⟨by unfold paV;rw[Hn.out.1,Hn.out.2],BE⟩
           . go_wp2_with fail
             refine(Ml y _ (HT.out.below a6) (HS.out.below a6)).mono ?_;rintro e w3 ⟨rfl,hb2⟩;rw[b6];clear b6;have bL:=bR.bl hb2;have bA:=bK.bl hb2;have bM:=oF.below hb2;have B2:=a6.tr hb2;obtain⟨m,hm⟩:=Ti (puN y);rw[<-hm];by_cases eP:j=0
             . subst eP
               have Hm : Hid (#[Value.int .i64 K, .int .i64 m, .int .i64 (aTo F 2 0)] = #[Value.int .i64 K, .int .i64 (aTo F 1 (0 + 1)), .int .i64 (aTo F 2 (0 + 1))]) := Tk (by
                have e1:aTo F 1 (0+1)=m:=by rw[hm,HY.out];rfl
                rw[e1];rfl)
               have k0:w3.cell? ⟨gK,1,none⟩=some (.int .i64 (aTo F 1 0)):=bA.cell 1;have f0:=bA.frozen 1;have gX:=dB (World.grownBy.refl w3 (some gK)) 1 (.int .i64 m);have bN:=bA.st 1 (.int .i64 m) #[.int .i64 K,.int .i64 m,.int .i64 (aTo F 2 0)] rfl;rw[Hm.out]at bN;have bP:=bL.grown gX (by simp;omega);have cB:aD 9 1 fJ w.heap.size _ (.slice (some ⟨gF,0,none⟩) F.length c) F:=World.ownsRow.kept bM gX (.inr (bM.apart bA (by decide)));have B3:=B2.grown gX B2.size (fun k hk=>by injection hk with hk;omega);clear hm;go_wp2;go_roundw
               case rel=>exact⟨0+1,_,_,_,_,rfl,rfl,rfl,rfl,by omega,by go_num,bN,bP,cB,B3⟩
               case measure=>simp[intOf];omega
             . obtain rfl : j = 1 := by omega
               have e8:¬(((1:Nat):Int)=0):=by omega
               have Hm : Hid (#[Value.int .i64 K, .int .i64 (aTo F 1 1), .int .i64 m] = #[Value.int .i64 K, .int .i64 (aTo F 1 (1 + 1)), .int .i64 (aTo F 2 (1 + 1))]) := Tk (by
                have e1:aTo F 2 (1+1)=m:=by rw[hm,HY.out];rfl
                rw[e1];rfl)
               have k0:w3.cell? ⟨gK,2,none⟩=some (.int .i64 (aTo F 2 1)):=bA.cell 2;have f0:=bA.frozen 2;have gX:=dB (World.grownBy.refl w3 (some gK)) 2 (.int .i64 m);have bN:=bA.st 2 (.int .i64 m) #[.int .i64 K,.int .i64 (aTo F 1 1),.int .i64 m] rfl;rw[Hm.out]at bN;have bP:=bL.grown gX (by simp;omega);have cB:aD 9 1 fJ w.heap.size _ (.slice (some ⟨gF,0,none⟩) F.length c) F:=World.ownsRow.kept bM gX (.inr (bM.apart bA (by decide)));have B3:=B2.grown gX B2.size (fun k hk=>by injection hk with hk;omega);clear hm;go_wp2;go_roundw
               case rel=>exact⟨1+1,_,_,_,_,rfl,rfl,rfl,rfl,by omega,by go_num,bN,bP,cB,B3⟩
               case measure=>simp[intOf];omega
         . obtain rfl : j = F.length - 1 := by omega
           have cC:F.length=(F.length-1)+1:=(by omega);rw[Nf (by decide) cC,Nf (by decide) cC]at bK;obtain⟨A,hA⟩:=Ti (puN (nth F 1));obtain⟨B,hB⟩:=Ti (puN (nth F 2));rw[<-hA,<-hB]at bK;have cD:=Sz (s:=s) (k:=K) (a:=A) (b:=B) bJ.out cX.out (by rw[<-HF.out,<-HX.out];exact HK.out) (by rw[<-HF.out];exact hA) (by rw[<-HF.out];exact hB);rw[<-HF.out]at cD;have b7:=Tk cD;clear cD hA hB cC;obtain⟨cR,cS,cT⟩:=bK.n3;go_wp2_with fail
           refine(Jr K A B _ (HT.out.below a6)).mono ?_;rintro e w4 ⟨rfl,hb2⟩;clear cR cS cT;have bL:=bR.bl hb2;have bA:=bK.bl hb2;have bM:=oF.below hb2;have B2:=a6.tr hb2;rcases a7:jW K A B with _|_
           . have Hn:=Tk (b7.out.2 (.inl a7));clear a7;go_wp2_with (refine aY rfl 54 _ _ rfl gR #[.int .i64 0,.int .i64 0,.int .i64 0] rfl rfl _ _ bL (by kernel_rfl) rfl (by simp[Tp]) ?_;intro wE bE bB)
             have BE:=B2.grown bB B2.size (fun k hk=>by injection hk with hk;subst hk;exact bO);obtain⟨bC,bD,bF⟩:=bE.n3;refine bodyPost_ret (v:= .tuple #[.agg #[.int .i64 0,.int .i64 0,.int .i64 0],.bool false]) (by simp[results,Tt,go_sem,bC,bD,bF]) rfl ⟨by unfold paV;rw[Hn.out.1,Hn.out.2],BE⟩
           . have cU : iZ K A B = sV K A B := by unfold iZ; rw [if_pos a7]
             obtain⟨T,hT⟩:=Ti (sV K A B);rw[cU,<-hT];rw[<-hT]at b7;have eR:=Tk a7;clear a7 cU hT
             have cE : gF < w4.heap.size := (bM.split (k := 0) (by omega)).elim fun g h => by
              obtain⟨e,_,h2⟩:=h;injection e with e;injection e with e;subst e;exact h2
             have cV:=Oj s (Cu bJ.out);rw[<-HF.out]at cV;have cW:=Qe bM cE (by omega) cV;go_wp2_with fail
             refine cW.mono ?_;rintro e w5 ⟨rfl,hb3⟩;have bP:=bL.bl hb3;have bN:=bA.bl hb3;have B3:=B2.tr hb3;clear cW;by_cases he:T=rT F
             . have Hy:=Tk (b7.out.1 eR.out he);have beq:=wV he;clear he;obtain⟨cR,cS,cT⟩:=bN.n3;go_wp2_with (refine aY rfl 54 _ _ rfl gR #[.int .i64 K,.int .i64 A,.int .i64 B] rfl rfl _ _ bP (by kernel_rfl) rfl (by simp[Tp]) ?_;intro wE bE bB)
               have BE:=B3.grown bB B3.size (fun k hk=>by injection hk with hk;subst hk;exact bO);obtain⟨bC,bD,bF⟩:=bE.n3;refine bodyPost_ret (v:= .tuple #[.agg #[.int .i64 K,.int .i64 A,.int .i64 B],.bool true]) (by simp[results,Tt,go_sem,bC,bD,bF]) rfl ⟨by unfold paV;rw[Hy.out.1,Hy.out.2],BE⟩
             . have Hn:=Tk (b7.out.2 (.inr he));have beq:=wW he;clear he;go_wp2_with (refine aY rfl 54 _ _ rfl gR #[.int .i64 0,.int .i64 0,.int .i64 0] rfl rfl _ _ bP (by kernel_rfl) rfl (by simp[Tp]) ?_;intro wE bE bB)
               have BE:=B3.grown bB B3.size (fun k hk=>by injection hk with hk;subst hk;exact bO);obtain⟨bC,bD,bF⟩:=bE.n3;refine bodyPost_ret (v:= .tuple #[.agg #[.int .i64 0,.int .i64 0,.int .i64 0],.bool false]) (by simp[results,Tt,go_sem,bC,bD,bF]) rfl ⟨by unfold paV;rw[Hn.out.1,Hn.out.2],BE⟩
end Go.Proofs.YtjijonhkofhikaaGreatDoor
