import Derived.Test.YtjijonhkofhikaaGreatDoorEG5
import Derived.Test.YtjijonhkofhikaaGreatDoorEG8
open _root_.List renaming length_cons->TZ
open _root_.Go.Lib renaming joinTail->T9
open _root_.ByteArray (empty)
open _root_.Go.Value renaming oneCell'->Ua
open _root_.Go.Proofs.Tryz renaming ntmps24->Ub,results24->Uc
set_option linter.unusedVariables false
set_option linter.unusedSimpArgs false
set_option maxHeartbeats 4000000
set_option maxRecDepth 100000
namespace Go.Proofs.YtjijonhkofhikaaGreatDoor
open Go.ChangeShapes Go.WideShapes Go.ChangeAt Go.RowKit
theorem eH {P:Program} {ops:Array Oper} {rest:List Oper} {o:Oper} {a:Act} {w:World} {Q:Exit->Act->World->Prop} (hgd:o.guard=none) (ty:TypeId) (x y:Operand) (ho:o.op= .store ty x y)
    (g:Nat) (cells:Array Value) (hx:a.eval x= .pointer (some ⟨g,0,none⟩)) (hy:a.eval y= .agg cells)
    (t:TypeId) (old:Array Value) (hg:Blk w g t old) (hi:(P.info? ty).map (·.size)=some cells.size) (hold:old.size=cells.size) (h1:cells.all (·.oneCell')=true)
    (h:∀w',Blk w' g t cells->w.grownBy w' (some g)->wpList P ops Q rest (a.put o.dst undef) w'):wpList P ops Q (o::rest) a w:=
 wpList_store_row hgd ty x y ho g cells hx hy t old hg hi hold h1 (h _ (setRow_heap w g old cells t (0,0) hg) (Je cells))
theorem Iz {P:Program} {ops:Array Oper} {rest:List Oper} {o:Oper} {a:Act} {Q:Exit->Act->World->Prop} {α:Type} {t E:TypeId} {z:Value} {size bytes:Nat} (R:Row P t E z size bytes)
    {RR:World->List Value->α->Prop} {w:World} {A:Option Addr} {n c:Nat} {l:List α} (h:Rd size RR w (.slice A n c) l) (j:Nat) (hj:j<=n) {J:Int} (hJ:J=j)
    (hgd:o.guard=none) (s x:Operand) (hop:o.op=Op.slice t s (some x) none none) (hs:a.eval s= .slice A n c) (hx:a.eval x= .int .i64 J)
    (hK:∀A' c',sliced A j n c size= .slice A' (n-j) c'->wpList P ops Q rest (a.put o.dst (.slice A' (n-j) c')) w):
    wpList P ops Q (o::rest) a w:=by
 subst hJ;obtain⟨ht,a6,hzs,hsz⟩:=R;obtain⟨i0,hi,hz0,hz1,hz2⟩:=info_parts a6;obtain⟨A',c',e,hr⟩:=h.tailA hj;have he:P.elem t=E:=(by simp[Program.elem,ht]);have a7:P.underlying t=some (.slice (P.elem t)):=by rw[he];exact ht
 have hrun:(Instr.sliceAt t (.slice A n c) (some (.int .i64 j)) none none).run P w= .ok (.slice A' (n-j) c') w:=by
  rw[run_sliceAt_slice w t _ _ _ _ a7,run_slice_l w t A n c a7 .i64 j (by omega) (by omega),he,<-e];simp[sizeOf,typeInfo,hi,hz1,Result.andThen]
 refine wpList_plain hgd fun K hK'=> ?_
 unfold Oper.wp;simp[execOp,hop,hs,hx,hrun,Result.andThen];exact hK' _ _ (hK A' c' e)
theorem Qg {α:Type} {E:TypeId} {size:Nat} {enc:α->List Value} {B:Nat} {w:World} {A A':Option Addr} {n c c' j:Nat} {l:List α} (h:aD E size enc B w (.slice A n c) l) (a6:∀x,(enc x).length=size) (hs:0<size) (hj:j<=n) (e:sliced A j n c size= .slice A' (n-j) c'):
 Rd size (RE enc) w (.slice A' (n-j) c') (l.drop j):=by
 obtain⟨A2,c2,e2,hr⟩:=(h.rd a6 hs).tailA hj;rw[e]at e2;injection e2 with q1 q2 q3;subst q1;subst q3;exact hr
theorem Qh {l:List ByteArray} {cs:Array Value} {w W:World} (hW:w.heap.size<=W.heap.size) (h:l.flatMap iX=cs.toList) (hl:l.length<=100):aD 9 1 iX w.heap.size (W.alloc (.cells cs 9)) (.slice (some ⟨W.heap.size,0,none⟩) l.length l.length) l:=by
 have hf:=fZ jA l;unfold aD;rw[h]at hf⊢;have hc:cs.size=l.length:=by rw[<-Array.length_toList];omega
 refine⟨by omega,.inr ⟨W.heap.size,l.length,cs,rfl,hW,heap_alloc_new W _,Nat.le_refl _,by unfold maxLen;omega,by omega,by rw[<-hf,List.take_length]⟩⟩
def vK:List ByteArray:=[empty,nH,jX,wP,nI,jY]
def kTo (x:ByteArray):Nat->Int
  |0=>0
  |k+1=>if nth vK k=x then(k:Int)else kTo x k
theorem TM {x:ByteArray} (hx:x≠empty):kTo x 6=sS x:=by
 have e0:nth vK 0=empty:=rfl;have e1:nth vK 1=nH:=rfl;have e2:nth vK 2=jX:=rfl;have e3:nth vK 3=wP:=rfl;have e4:nth vK 4=nI:=rfl;have e5:nth vK 5=jY:=rfl;simp only[kTo,e0,e1,e2,e3,e4,e5];by_cases h1:x=nH
 . subst h1;decide+kernel
 . by_cases h2:x=jX
   . subst h2;decide+kernel
   . by_cases h3:x=wP
     . subst h3;decide+kernel
     . by_cases h4:x=nI
       . subst h4;decide+kernel
       . by_cases h5:x=jY
         . subst h5;decide+kernel
         . unfold sS;rw[if_neg (fun e=>h5 e.symm),if_neg (fun e=>h4 e.symm),if_neg (fun e=>h3 e.symm),if_neg (fun e=>h2 e.symm),if_neg (fun e=>h1 e.symm),if_neg (fun e=>hx e.symm),if_neg h1,if_neg h2,if_neg h3,if_neg h4,if_neg h5]
noncomputable def paV (s:ByteArray):Value:= .tuple #[.agg #[.int .i64 (paX s).1,.int .i64 (paX s).2.1,.int .i64 (paX s).2.2],.bool (paB s)]
noncomputable def aTo (F:List ByteArray) (i j:Nat):Int:=if i<=j then puN (nth F i)else 0
theorem Qi (k a b:Int):1<=(uX k a b).length:=by
 unfold uX;split
 . simp
 . split
   . simp
   . split
     . simp
     . split<;>simp
theorem Tw {s : ByteArray} (h : inB ((jF s).length : Int) 1 3 = false) : paX s = (0, 0, 0) /\ paB s = false := OH fun q => by
 obtain⟨_,h3,x,hx⟩:=q;have h1:=BZ (AV s) hx;have h2:=Qi x.1 x.2.1 x.2.2;have h4:=congrArg List.length h1;rw[List.length_map]at h4;simp[inB]at h;omega
theorem EW {F:List ByteArray} {i:Nat} (h:i<F.length):nth F i=F[i]:=by unfold nth;rw[List.getD_eq_getElem?_getD,List.getElem?_eq_getElem h];rfl
theorem Tx {F:List ByteArray} (hw:Rn F) {i:Nat} (h:i<F.length):nth F i≠empty:=by
 rw[EW h];intro e;have:=(hw F[i].data.toList (List.mem_map_of_mem (List.getElem_mem h))).1;rw[e]at this;exact this rfl
theorem Ty {s : ByteArray} {i : Nat} (h0 : 0 < i) (h1 : i < (jF s).length) (h : puB (nth (jF s) i) = false) : paX s = (0, 0, 0) /\ paB s = false := OH fun q => by
 obtain⟨_,h3,x,hx⟩:=q;have:=(MK (AV s) hx).al i h0 h1;rw[h]at this;cases this
theorem Ns {F:List ByteArray} {i:Nat} (h0:0<i) {n:Nat} (hn:F.length=n+1):aTo F i n=puN (nth F i):=by
 unfold aTo;split
 . rfl
 . have:nth F i=empty:=by
    unfold nth;rw[List.getD_eq_getElem?_getD,List.getElem?_eq_none (by omega)];rfl
   rw[this];exact pO.1.symm
theorem Tz {s:ByteArray} {k a b:Int} (hl:fA s=true) (hi:inB ((jF s).length:Int) 1 3=true) (hk:k=sS (nth (jF s) 0)) (ha:a=puN (nth (jF s) 1)) (hb:b=puN (nth (jF s) 2)):
 (iP k a b=true->rT k a b=Jc (jF s)->paX s=(k,a,b)/\paB s=true)/\(iP k a b=false∨rT k a b≠Jc (jF s)->paX s=(0,0,0)/\paB s=false):=by
 have h3:(jF s).length<=3:=by simp[inB]at hi;omega
 refine⟨fun h1 h2=>QI hl h3 ⟨h1,h2⟩,fun h=>OH fun q=> ?_⟩;obtain⟨_,_,x,hx⟩:=q;have hd:=MK (AV s) hx;obtain⟨x1,x2,x3⟩:=x;obtain rfl:k=x1:=by rw[hk];exact hd.kd
 obtain rfl:a=x2:=by rw[ha];exact hd.ka
 obtain rfl:b=x3:=by rw[hb];exact hd.kb
 rcases h with h|h
 . have:=hx.1;simp only at this;rw[h]at this;cases this
 . exact h hx.2
theorem wO:∀(l cur:Bs),(Lib.join (fg cur l) [32]).length<=cur.length+l.length
  | [], cur => by
   rw[fg];split
   . exact Nat.zero_le _
   . rw[Lib.join_one];simp
  | c :: r, cur => by
   rw[fg];have h0:=wO r [];split
   . split
     . rw[TZ];simp at h0;omega
     . rw[Lib.join_cons,List.length_append,TZ]
       have h1:(T9 [32] (fg [] r)).length<=1+(Lib.join (fg [] r) [32]).length:=by
        cases fg [] r with
        |nil=>simp[T9]
        |cons y ys=>rw[Lib.join_cons];simp[T9];omega
       simp at h0;omega
   . have h1:=wO r (cur++[c]);rw[List.length_append]at h1;rw[TZ];simp at h1;omega
theorem Ou (s : ByteArray) (hs : s.size <= 600) : (Lib.join ((jF s).map fun x => x.data.toList) [32]).length <= 140737488355328 := by
 have e : (jF s).map (fun x => x.data.toList) = fg [] s.data.toList := by
  unfold jF;rw[List.map_map];conv=>rhs;rw[<-List.map_id (fg [] s.data.toList)]
  exact List.map_congr_left fun x _=>wQ x
 rw[e];have:=wO s.data.toList [];have h2:s.data.toList.length=s.size:=Array.length_toList;simp only[List.length_nil]at this;omega
theorem J3 {s:ByteArray} (h:fA s=true):s.size<=600:=by
 unfold fA at h;simp only[Bool.and_eq_true,decide_eq_true_eq]at h;exact h.1.1
theorem Qj {B g c : Nat} {w : World} {F : List ByteArray} (h : aD 9 1 iX B w (.slice (some ⟨g, 0, none⟩) F.length c) F) (hg : g < w.heap.size) (hF : F.length <= 100) (hs : (Lib.join (F.map fun x => x.data.toList) [32]).length <= 140737488355328) :
 Calls Tryz.prog 48 #[.slice (some ⟨g,0,none⟩) F.length c,.string ⟨#[32]⟩] w (Ret (.string (Jc F)) w):=by
 obtain⟨A',c',e,h1,h2⟩:=h.form;injection e with e1 e2 e3;subst e3
 have a6 := Tryz.strings_Join g 0 c F (⟨#[32]⟩ : ByteArray) w (fun j x hj => by
  have a7:=(List.getElem?_eq_some_iff.1 hj).1;have:=h.slot jA (by decide) a7 0 (.string F[j]) rfl;rw[(List.getElem?_eq_some_iff.1 hj).2]at this;simpa using this) hg (by omega) h1 hs
 refine a6.mono ?_;rintro e w' ⟨rfl,hb⟩;exact⟨rfl,hb⟩
theorem Nt (s:ByteArray) (w:World) (ht:Tab w) (hs:Syn w):Calls Tryz.prog 24 #[.string s] w (Ret (paV s) w):=by
 have HT:=TY ht;have HS:=TY hs;clear ht hs;have B0:=(Below.refl w.heap.size w).al (.cells #[.int .i64 0,.int .i64 0,.int .i64 0] 54);have bR:=Blk.aZ w 54 #[.int .i64 0,.int .i64 0,.int .i64 0];obtain⟨gR,bX⟩:=TV w.heap.size;have bU:w.heap.size<=gR:=(by omega);have b9:=TY bX;clear bX;rcases a7:fA s with _|_
 . have Hn := TY (OH (s := s) (fun q => by rw [a7] at q; cases q.1));have bJ:=TY a7;clear a7;go_enter Tryz.func24,Ub
   go_wp2_with fail
   refine(uZ s _).mono ?_;rintro e w1 ⟨v,rfl,hO,hb1⟩;rw[bJ.out];have a8:=bR.bl hb1;have B1:=B0.tr hb1;rw[<-b9.out]at a8⊢;clear hO;go_wp2_with (refine eH rfl 54 _ _ rfl gR #[.int .i64 0,.int .i64 0,.int .i64 0] rfl rfl _ _ a8 (by kernel_rfl) rfl (by simp[Ua]) ?_;intro wE bE bB)
   have BE:=B1.grown bB B1.size (fun k hk=>by injection hk with hk;subst hk;exact bU);obtain⟨bC,bD,bF⟩:=bE.n3;refine bodyPost_ret (v:= .tuple #[.agg #[.int .i64 0,.int .i64 0,.int .i64 0],.bool false]) (by simp[results,Uc,go_sem,bC,bD,bF]) rfl ⟨by unfold paV;rw[Hn.out.1,Hn.out.2],BE⟩
 . rcases hi:inB ((jF s).length:Int) 1 3 with _|_
   . have Hn:=TY (Tw hi);have bJ:=TY a7;clear a7;go_enter Tryz.func24,Ub
     go_wp2_with fail
     refine(uZ s _).mono ?_;rintro e w1 ⟨v,rfl,hO,hb1⟩;rw[bJ.out];have hO:=hO bJ.out;obtain⟨A,c,rfl,_,_⟩:=hO.form;have a8:=bR.bl hb1;have B1:=B0.tr hb1;go_wp2_with fail
     refine(dI ((jF s).length:Int) 1 3 _).mono ?_;rintro e w2 ⟨rfl,rfl⟩;rw[hi];rw[<-b9.out]at a8⊢;clear hO;go_wp2_with (refine eH rfl 54 _ _ rfl gR #[.int .i64 0,.int .i64 0,.int .i64 0] rfl rfl _ _ a8 (by kernel_rfl) rfl (by simp[Ua]) ?_;intro wE bE bB)
     have BE:=B1.grown bB B1.size (fun k hk=>by injection hk with hk;subst hk;exact bU);obtain⟨bC,bD,bF⟩:=bE.n3;refine bodyPost_ret (v:= .tuple #[.agg #[.int .i64 0,.int .i64 0,.int .i64 0],.bool false]) (by simp[results,Uc,go_sem,bC,bD,bF]) rfl ⟨by unfold paV;rw[Hn.out.1,Hn.out.2],BE⟩
   . have bJ:=TY a7;clear a7;have cY:=TY hi;go_enter Tryz.func24,Ub
     go_wp2_with fail
     refine(uZ s _).mono ?_;rintro e w1 ⟨v,rfl,hO,hb1⟩;rw[bJ.out];have hO:=(hO bJ.out).mono B0.size;obtain⟨F,hF⟩:=TV (jF s);have hl:1<=F.length/\F.length<=3:=by rw[hF];simp[inB]at hi;omega
     rw[<-hF]at hO hi;have HF:=TY hF;obtain⟨A,c,rfl,_,_⟩:=hO.form;obtain⟨gF,rfl,e5,_⟩:=hO.split (k:=0) (by omega);have a8:=bR.bl hb1;have B1:=B0.tr hb1;clear hF;go_wp2_with fail
     refine(dI (F.length:Int) 1 3 _).mono ?_;rintro e w2 ⟨rfl,rfl⟩;rw[hi];clear hi;rw[<-b9.out]at a8⊢;have dL:=a8.lt;have dT:=B1.size;have oW:=Qh (l:=vK) (cs:= #[.string empty,.string nH,.string jX,.string wP,.string nI,.string jY]) B1.size rfl (by decide);have bK:=Blk.gZ (w1.alloc (.cells #[.string empty,.string nH,.string jX,.string wP,.string nI,.string jY] 9)) 54 #[.int .i64 0,.int .i64 0,.int .i64 0] (w1.heap.size+1) (by simp);have oW:=oW.alloc (.cells #[.int .i64 0,.int .i64 0,.int .i64 0] 54);have hO:=(hO.alloc (.cells #[.string empty,.string nH,.string jX,.string wP,.string nI,.string jY] 9)).alloc (.cells #[.int .i64 0,.int .i64 0,.int .i64 0] 54);have a8:=(a8.alloc (.cells #[.string empty,.string nH,.string jX,.string wP,.string nI,.string jY] 9)).alloc (.cells #[.int .i64 0,.int .i64 0,.int .i64 0] 54);have B1:=(B1.al (.cells #[.string empty,.string nH,.string jX,.string wP,.string nI,.string jY] 9)).al (.cells #[.int .i64 0,.int .i64 0,.int .i64 0] 54);have eA:w.heap.size<=w1.heap.size+1:=by have:=hb1.size;simp at this;omega
     have hw:=AV s;rw[<-HF.out]at hw;have hx0:=Tx hw (i:=0) (by omega);obtain⟨x,hx⟩:=TV (nth F 0);rw[<-hx]at hx0;have cG:=TM hx0;have eC:=TY cG;have HX:=TY hx;have e6:=TY hx0;have HW:=TY hw;clear hx hx0 cG hw hb1;go_wp2_with (refine eH rfl 54 _ _ rfl (w1.heap.size+1) #[.int .i64 0,.int .i64 0,.int .i64 0] rfl rfl _ _ bK (by kernel_rfl) rfl (by simp[Ua]) ?_;intro wS bS bY)
     have cA:aD 9 1 iX w.heap.size wS (.slice (some ⟨w1.heap.size,0,none⟩) 6 6) vK:=World.ownsRow.kept oW bY (.inr (oW.apart bK (by decide)));have cH:aD 9 1 iX w.heap.size wS (.slice (some ⟨gF,0,none⟩) F.length c) F:=World.ownsRow.kept hO bY (.inr (hO.apart bK (by decide)));have cI:=a8.grown bY (by simp;omega);have BS:=B1.grown bY B1.size (fun k hk=>by injection hk with hk;omega);obtain⟨gK,b5⟩:=TV (w1.heap.size+1);obtain⟨gW,cJ⟩:=TV w1.heap.size;rw[<-b5]at bS eA⊢;have hne:gR≠gK:=(by omega);rw[<-cJ]at cA⊢;clear bY b5 cJ oW hO a8 B1 dT bK dL bR B0;go_loopw [8,9,34] (fun s8 s9 eE wr=>∃(k:Nat) (z8 z9:Value),s8=z8/\s9=z9/\k<=6/\eE= .int .i64 k/\Blk wr gK 54 #[.int .i64 (kTo x k),.int .i64 0,.int .i64 0]/\Blk wr gR 54 #[.int .i64 0,.int .i64 0,.int .i64 0]/\aD 9 1 iX w.heap.size wr (.slice (some ⟨gW,0,none⟩) 6 6) vK/\aD 9 1 iX w.heap.size wr (.slice (some ⟨gF,0,none⟩) F.length c) F/\Below w.heap.size w wr) (fun _ _ i _=>6-(intOf i).toNat)
     case atStart=>exact⟨0,_,_,rfl,rfl,by decide,rfl,bS,cI,cA,cH,BS⟩
     case round=>
      obtain⟨k,z8,z9,rfl,rfl,hk,rfl,bK,bR,oW,oF,a6⟩:=hrel;clear bS cI cA cH BS;by_cases hlt:k<6
      . have cK:k<vK.length:=hlt;obtain⟨u,hu⟩:=TV (nth vK k)
        have c1:wr.cell? ⟨gW,k,none⟩=some (.string u):=by
         have:=oW.slot jA (by decide) cK 0 _ rfl;rw[hu,EW cK];simpa using this
        have c2:wr.cell? ⟨gF,0,none⟩=some (.string x):=by
         have h0:0<F.length:=(by omega);have:=oF.slot jA (by decide) h0 0 _ rfl;rw[HX.out,EW h0];simpa using this
        have e7:(k:Int)<6:=(by omega);by_cases he:u=x
        . have b6 : kTo x (k + 1) = k := by unfold kTo; rw [<- hu, if_pos he]
          have cB:=TY b6;clear b6;have beq:=Ff he;clear he;have k0:wr.cell? ⟨gK,0,none⟩=some (.int .i64 (kTo x k)):=bK.cell 0;have f0:=bK.frozen 0;have gX:=dA (World.grownBy.refl wr (some gK)) 0 (.int .i64 k);have bA:=bK.st 0 (.int .i64 k) #[.int .i64 (kTo x (k+1)),.int .i64 0,.int .i64 0] (by rw[cB.out];rfl);have bL:=bR.grown gX (by simp;omega);have eI:aD 9 1 iX w.heap.size _ (.slice (some ⟨gW,0,none⟩) 6 6) vK:=World.ownsRow.kept oW gX (.inr (oW.apart bK (by decide)));have bN:aD 9 1 iX w.heap.size _ (.slice (some ⟨gF,0,none⟩) F.length c) F:=World.ownsRow.kept oF gX (.inr (oF.apart bK (by decide)));have B2:=a6.grown gX a6.size (fun k hk=>by injection hk with hk;omega);clear hu;go_wp2;go_roundw
          case rel=>exact⟨k+1,_,_,rfl,rfl,by omega,by go_num,bA,bL,eI,bN,B2⟩
          case measure=>simp[intOf];omega
        . have b6:kTo x (k+1)=kTo x k:=by
           show(if nth vK k=x then(k:Int)else kTo x k)=kTo x k;rw[<-hu,if_neg he]
          have cB:=TY b6;clear b6;have beq:=Fg he;clear he hu;go_wp2;go_roundw
          case rel=>exact⟨k+1,_,_,rfl,rfl,by omega,by go_num,by rw[cB.out];exact bK,bR,oW,oF,a6⟩
          case measure=>simp[intOf];omega
      . obtain rfl : k = 6 := by omega
        rw[eC.out]at bK;obtain⟨K,hK⟩:=TV (sS x);rw[<-hK]at bK;have HK:=TY hK;clear hK oW;have cL:=oF.rd jA (by decide);go_wp2_with ((with_reducible refine Iz qG cL 1 (by omega) rfl rfl _ _ rfl rfl rfl ?_);intro A' c' cM)
        have eJ:=TY cM;clear cM cL;go_loopw [10,11,12,13,50] (fun eK eL s12 eM eN wr=>∃(j:Nat) (cN cP z12 cQ:Value),eK=cN/\eL=cP/\s12=z12/\eM=cQ/\j<=F.length-1/\eN= .int .i64 j/\Blk wr gK 54 #[.int .i64 K,.int .i64 (aTo F 1 j),.int .i64 (aTo F 2 j)]/\Blk wr gR 54 #[.int .i64 0,.int .i64 0,.int .i64 0]/\aD 9 1 iX w.heap.size wr (.slice (some ⟨gF,0,none⟩) F.length c) F/\Below w.heap.size w wr) (fun _ _ _ _ i _=>F.length-1-(intOf i).toNat)
        case atStart=>exact⟨0,_,_,_,_,rfl,rfl,rfl,rfl,Nat.zero_le _,rfl,bK,bR,oF,a6⟩
        case round=>
         obtain⟨j,cN,cP,z12,cQ,rfl,rfl,rfl,rfl,hj,rfl,bK,bR,oF,a6⟩:=hrel;by_cases hlt:j<F.length-1
         . have eP : j < (F.drop 1).length := by simp; omega
           obtain⟨b,off,rfl,hb,c1⟩:=(Qg oF jA (by decide) (by omega) eJ.out).OE eP;obtain⟨y,hy⟩:=TV (nth F (j+1));have cR:(F.drop 1)[j]=y:=by rw[hy,EW (by omega)];simp[Nat.add_comm]
           rw[cR]at c1;have HY:=TY hy;clear hy cR;have e8:(j:Int)<((F.length-1:Nat):Int):=(by omega);rcases b7:puB y with _|_
           . have Hn := TY (Ty (s := s) (i := j + 1) (by omega) (by rw [<- HF.out]; omega) (by rw [<- HF.out, <- HY.out]; exact b7));go_wp2_with fail
             refine(MH y _ (HT.out.below a6) (HS.out.below a6)).mono ?_;rintro e w3 ⟨rfl,hb2⟩;rw[b7];clear b7;have bL:=bR.bl hb2;have B2:=a6.tr hb2;go_wp2_with (refine eH rfl 54 _ _ rfl gR #[.int .i64 0,.int .i64 0,.int .i64 0] rfl rfl _ _ bL (by kernel_rfl) rfl (by simp[Ua]) ?_;intro wE bE bB)
             have BE:=B2.grown bB B2.size (fun k hk=>by injection hk with hk;subst hk;exact bU);obtain⟨bC,bD,bF⟩:=bE.n3;refine bodyPost_ret (v:= .tuple #[.agg #[.int .i64 0,.int .i64 0,.int .i64 0],.bool false]) (by simp[results,Uc,go_sem,bC,bD,bF]) rfl ⟨by unfold paV;rw[Hn.out.1,Hn.out.2],BE⟩
           . go_wp2_with fail
             refine(MH y _ (HT.out.below a6) (HS.out.below a6)).mono ?_;rintro e w3 ⟨rfl,hb2⟩;rw[b7];clear b7;have bL:=bR.bl hb2;have bA:=bK.bl hb2;have bN:=oF.below hb2;have B2:=a6.tr hb2;obtain⟨m,hm⟩:=TV (puN y);rw[<-hm];by_cases eR:j=0
             . subst eR
               have Hm : Hid (#[Value.int .i64 K, .int .i64 m, .int .i64 (aTo F 2 0)] = #[Value.int .i64 K, .int .i64 (aTo F 1 (0 + 1)), .int .i64 (aTo F 2 (0 + 1))]) := TY (by
                have e1:aTo F 1 (0+1)=m:=by rw[hm,HY.out];rfl
                rw[e1];rfl)
               have k0:w3.cell? ⟨gK,1,none⟩=some (.int .i64 (aTo F 1 0)):=bA.cell 1;have f0:=bA.frozen 1;have gX:=dA (World.grownBy.refl w3 (some gK)) 1 (.int .i64 m);have bO:=bA.st 1 (.int .i64 m) #[.int .i64 K,.int .i64 m,.int .i64 (aTo F 2 0)] rfl;rw[Hm.out]at bO;have bW:=bL.grown gX (by simp;omega);have cC:aD 9 1 iX w.heap.size _ (.slice (some ⟨gF,0,none⟩) F.length c) F:=World.ownsRow.kept bN gX (.inr (bN.apart bA (by decide)));have B3:=B2.grown gX B2.size (fun k hk=>by injection hk with hk;omega);clear hm;go_wp2;go_roundw
               case rel=>exact⟨0+1,_,_,_,_,rfl,rfl,rfl,rfl,by omega,by go_num,bO,bW,cC,B3⟩
               case measure=>simp[intOf];omega
             . obtain rfl : j = 1 := by omega
               have e9:¬(((1:Nat):Int)=0):=by omega
               have Hm : Hid (#[Value.int .i64 K, .int .i64 (aTo F 1 1), .int .i64 m] = #[Value.int .i64 K, .int .i64 (aTo F 1 (1 + 1)), .int .i64 (aTo F 2 (1 + 1))]) := TY (by
                have e1:aTo F 2 (1+1)=m:=by rw[hm,HY.out];rfl
                rw[e1];rfl)
               have k0:w3.cell? ⟨gK,2,none⟩=some (.int .i64 (aTo F 2 1)):=bA.cell 2;have f0:=bA.frozen 2;have gX:=dA (World.grownBy.refl w3 (some gK)) 2 (.int .i64 m);have bO:=bA.st 2 (.int .i64 m) #[.int .i64 K,.int .i64 (aTo F 1 1),.int .i64 m] rfl;rw[Hm.out]at bO;have bW:=bL.grown gX (by simp;omega);have cC:aD 9 1 iX w.heap.size _ (.slice (some ⟨gF,0,none⟩) F.length c) F:=World.ownsRow.kept bN gX (.inr (bN.apart bA (by decide)));have B3:=B2.grown gX B2.size (fun k hk=>by injection hk with hk;omega);clear hm;go_wp2;go_roundw
               case rel=>exact⟨1+1,_,_,_,_,rfl,rfl,rfl,rfl,by omega,by go_num,bO,bW,cC,B3⟩
               case measure=>simp[intOf];omega
         . obtain rfl : j = F.length - 1 := by omega
           have cD:F.length=(F.length-1)+1:=(by omega);rw[Ns (by decide) cD,Ns (by decide) cD]at bK;obtain⟨A,hA⟩:=TV (puN (nth F 1));obtain⟨B,hB⟩:=TV (puN (nth F 2));rw[<-hA,<-hB]at bK;have cE:=Tz (s:=s) (k:=K) (a:=A) (b:=B) bJ.out cY.out (by rw[<-HF.out,<-HX.out];exact HK.out) (by rw[<-HF.out];exact hA) (by rw[<-HF.out];exact hB);rw[<-HF.out]at cE;have b8:=TY cE;clear cE hA hB cD;obtain⟨cS,cT,cU⟩:=bK.n3;go_wp2_with fail
           refine(BP K A B _ (HT.out.below a6)).mono ?_;rintro e w4 ⟨rfl,hb2⟩;clear cS cT cU;have bL:=bR.bl hb2;have bA:=bK.bl hb2;have bN:=oF.below hb2;have B2:=a6.tr hb2;rcases a7:iP K A B with _|_
           . have Hn:=TY (b8.out.2 (.inl a7));clear a7;go_wp2_with (refine eH rfl 54 _ _ rfl gR #[.int .i64 0,.int .i64 0,.int .i64 0] rfl rfl _ _ bL (by kernel_rfl) rfl (by simp[Ua]) ?_;intro wE bE bB)
             have BE:=B2.grown bB B2.size (fun k hk=>by injection hk with hk;subst hk;exact bU);obtain⟨bC,bD,bF⟩:=bE.n3;refine bodyPost_ret (v:= .tuple #[.agg #[.int .i64 0,.int .i64 0,.int .i64 0],.bool false]) (by simp[results,Uc,go_sem,bC,bD,bF]) rfl ⟨by unfold paV;rw[Hn.out.1,Hn.out.2],BE⟩
           . have cV : iN K A B = rT K A B := by unfold iN; rw [if_pos a7]
             obtain⟨T,hT⟩:=TV (rT K A B);rw[cV,<-hT];rw[<-hT]at b8;have eW:=TY a7;clear a7 cV hT
             have cF : gF < w4.heap.size := (bN.split (k := 0) (by omega)).elim fun g h => by
              obtain⟨e,_,h2⟩:=h;injection e with e;injection e with e;subst e;exact h2
             have cW:=Ou s (J3 bJ.out);rw[<-HF.out]at cW;have cX:=Qj bN cF (by omega) cW;go_wp2_with fail
             refine cX.mono ?_;rintro e w5 ⟨rfl,hb3⟩;have bW:=bL.bl hb3;have bO:=bA.bl hb3;have B3:=B2.tr hb3;clear cX;by_cases he:T=Jc F
             . have Hy:=TY (b8.out.1 eW.out he);have beq:=Ff he;clear he;obtain⟨cS,cT,cU⟩:=bO.n3;go_wp2_with (refine eH rfl 54 _ _ rfl gR #[.int .i64 K,.int .i64 A,.int .i64 B] rfl rfl _ _ bW (by kernel_rfl) rfl (by simp[Ua]) ?_;intro wE bE bB)
               have BE:=B3.grown bB B3.size (fun k hk=>by injection hk with hk;subst hk;exact bU);obtain⟨bC,bD,bF⟩:=bE.n3;refine bodyPost_ret (v:= .tuple #[.agg #[.int .i64 K,.int .i64 A,.int .i64 B],.bool true]) (by simp[results,Uc,go_sem,bC,bD,bF]) rfl ⟨by unfold paV;rw[Hy.out.1,Hy.out.2],BE⟩
             . have Hn:=TY (b8.out.2 (.inr he));have beq:=Fg he;clear he;go_wp2_with (refine eH rfl 54 _ _ rfl gR #[.int .i64 0,.int .i64 0,.int .i64 0] rfl rfl _ _ bW (by kernel_rfl) rfl (by simp[Ua]) ?_;intro wE bE bB)
               have BE:=B3.grown bB B3.size (fun k hk=>by injection hk with hk;subst hk;exact bU);obtain⟨bC,bD,bF⟩:=bE.n3;refine bodyPost_ret (v:= .tuple #[.agg #[.int .i64 0,.int .i64 0,.int .i64 0],.bool false]) (by simp[results,Uc,go_sem,bC,bD,bF]) rfl ⟨by unfold paV;rw[Hn.out.1,Hn.out.2],BE⟩
end Go.Proofs.YtjijonhkofhikaaGreatDoor
