/- ParseAct of the program: the walk. Conditions: the library's table of powers and its error for a text that is no number, as its text lays them. -/
import Derived.Test.YtljfoohaapckeaaGreatDoorCG43
import Derived.Test.YtljfoohaapckeaaGreatDoorCG6
import Derived.Test.YtljfoohaapckeaaGreatDoorCK2
open _root_.ByteArray (empty)
open _root_.Go.Value (oneCell')
open _root_.Go.Proofs.Tryz (prog func52 ntmps52 results52)
namespace Go.Proofs.YtljfoohaapckeaaGreatDoor
open Go.ChangeShapes Go.WideShapes Go.ChangeAt Go.RowKit
set_option linter.unusedVariables false
set_option linter.unusedSimpArgs false
set_option maxHeartbeats 4000000
set_option maxRecDepth 100000
theorem fB {P:Program} {ops:Array Oper} {rest:List Oper} {o:Oper} {a:Act} {w:World} {Q:Exit->Act->World->Prop} (hgd:o.guard=none) (ty:TypeId) (x y:Operand) (ho:o.op= .store ty x y)
    (g:Nat) (cells:Array Value) (hx:a.eval x= .pointer (some ⟨g,0,none⟩)) (hy:a.eval y= .agg cells)
    (t:TypeId) (old:Array Value) (hg:Blk w g t old) (hi:(P.info? ty).map (·.size)=some cells.size) (hold:old.size=cells.size) (h1:cells.all (·.oneCell')=true)
    (h:∀w',Blk w' g t cells->w.grownBy w' (some g)->wpList P ops Q rest (a.put o.dst undef) w'):wpList P ops Q (o::rest) a w:=
 wpList_store_row hgd ty x y ho g cells hx hy t old hg hi hold h1 (h _ (setRow_heap w g old cells t (0,0) hg) (Ik cells))
theorem GL {P:Program} {ops:Array Oper} {rest:List Oper} {o:Oper} {a:Act} {Q:Exit->Act->World->Prop} {α:Type} {t E:TypeId} {z:Value} {size bytes:Nat} (R:Row P t E z size bytes)
    {RR:World->List Value->α->Prop} {w:World} {A:Option Addr} {n c:Nat} {l:List α} (h:Rd size RR w (.slice A n c) l) (j:Nat) (hj:j<=n) {J:Int} (hJ:J=j)
    (hgd:o.guard=none) (s x:Operand) (hop:o.op=Op.slice t s (some x) none none) (hs:a.eval s= .slice A n c) (hx:a.eval x= .int .i64 J)
    (hK:∀A' c',sliced A j n c size= .slice A' (n-j) c'->wpList P ops Q rest (a.put o.dst (.slice A' (n-j) c')) w):
    wpList P ops Q (o::rest) a w:=by
 subst hJ;obtain⟨ht,hinfo,hzs,hsz⟩:=R;obtain⟨i0,hi,hz0,hz1,hz2⟩:=info_parts hinfo;obtain⟨A',c',e,hr⟩:=h.tailA hj;have he:P.elem t=E:=(by simp[Program.elem,ht]);have ht':P.underlying t=some (.slice (P.elem t)):=by rw[he];exact ht
 have hrun:(Instr.sliceAt t (.slice A n c) (some (.int .i64 j)) none none).run P w= .ok (.slice A' (n-j) c') w:=by
  rw[run_sliceAt_slice w t _ _ _ _ ht',run_slice_l w t A n c ht' .i64 j (by omega) (by omega),he,<-e];simp[sizeOf,typeInfo,hi,hz1,Result.andThen]
 refine wpList_plain hgd fun K hK'=> ?_
 unfold Oper.wp;simp[execOp,hop,hs,hx,hrun,Result.andThen];exact hK' _ _ (hK A' c' e)
theorem Po {α:Type} {E:TypeId} {size:Nat} {enc:α->List Value} {B:Nat} {w:World} {A A':Option Addr} {n c c' j:Nat} {l:List α} (h:aC E size enc B w (.slice A n c) l) (henc:∀x,(enc x).length=size) (hs:0<size) (hj:j<=n) (e:sliced A j n c size= .slice A' (n-j) c'):
 Rd size (RE enc) w (.slice A' (n-j) c') (l.drop j):=by
 obtain⟨A2,c2,e2,hr⟩:=(h.rd henc hs).tailA hj;rw[e]at e2;injection e2 with q1 q2 q3;subst q1;subst q3;exact hr
theorem Pp {l:List ByteArray} {cs:Array Value} {w W:World} (hW:w.heap.size<=W.heap.size) (h:l.flatMap kP=cs.toList) (hl:l.length<=100):aC 9 1 kP w.heap.size (W.alloc (.cells cs 9)) (.slice (some ⟨W.heap.size,0,none⟩) l.length l.length) l:=by
 have hf:=fV kG l;unfold aC;rw[h]at hf⊢;have hc:cs.size=l.length:=by rw[<-Array.length_toList];omega
 refine⟨by omega,.inr ⟨W.heap.size,l.length,cs,rfl,hW,heap_alloc_new W _,Nat.le_refl _,by unfold maxLen;omega,by omega,by rw[<-hf,List.take_length]⟩⟩
def uP:List ByteArray:=[empty,mW,jZ,wH,mX,kC]
def kTo (x:ByteArray):Nat->Int
  |0=>0
  |k+1=>if nth uP k=x then(k:Int)else kTo x k
theorem SE {x:ByteArray} (hx:x≠empty):kTo x 6=sH x:=by
 have e0:nth uP 0=empty:=rfl;have e1:nth uP 1=mW:=rfl;have e2:nth uP 2=jZ:=rfl;have e3:nth uP 3=wH:=rfl;have e4:nth uP 4=mX:=rfl;have e5:nth uP 5=kC:=rfl;simp only[kTo,e0,e1,e2,e3,e4,e5];by_cases h1:x=mW
 . subst h1;decide+kernel
 . by_cases h2:x=jZ
   . subst h2;decide+kernel
   . by_cases h3:x=wH
     . subst h3;decide+kernel
     . by_cases h4:x=mX
       . subst h4;decide+kernel
       . by_cases h5:x=kC
         . subst h5;decide+kernel
         . unfold sH;rw[if_neg (fun e=>h5 e.symm),if_neg (fun e=>h4 e.symm),if_neg (fun e=>h3 e.symm),if_neg (fun e=>h2 e.symm),if_neg (fun e=>h1 e.symm),if_neg (fun e=>hx e.symm),if_neg h1,if_neg h2,if_neg h3,if_neg h4,if_neg h5]
noncomputable def paV (s:ByteArray):Value:= .tuple #[.agg #[.int .i64 (paX s).1,.int .i64 (paX s).2.1,.int .i64 (paX s).2.2],.bool (paB s)]
noncomputable def aTo (F:List ByteArray) (i j:Nat):Int:=if i<=j then puN (nth F i)else 0
theorem Pq (k a b:Int):1<=(vF k a b).length:=by
 unfold vF;split
 . simp
 . split
   . simp
   . split
     . simp
     . split<;>simp
theorem Sj {s : ByteArray} (h : inB ((kW s).length : Int) 1 3 = false) : paX s = (0, 0, 0) /\ paB s = false := NP fun q => by
 obtain⟨_,h3,x,hx⟩:=q;have h1:=Cj (AO s) hx;have h2:=Pq x.1 x.2.1 x.2.2;have h4:=congrArg List.length h1;rw[List.length_map]at h4;simp[inB]at h;omega
theorem Ew {F:List ByteArray} {i:Nat} (h:i<F.length):nth F i=F[i]:=by unfold nth;rw[List.getD_eq_getElem?_getD,List.getElem?_eq_getElem h];rfl
theorem Sk {F:List ByteArray} (hw:Re F) {i:Nat} (h:i<F.length):nth F i≠empty:=by
 rw[Ew h];intro e;have:=(hw F[i].data.toList (List.mem_map_of_mem (List.getElem_mem h))).1;rw[e]at this;exact this rfl
theorem Sl {s : ByteArray} {i : Nat} (h0 : 0 < i) (h1 : i < (kW s).length) (h : puB (nth (kW s) i) = false) : paX s = (0, 0, 0) /\ paB s = false := NP fun q => by
 obtain⟨_,h3,x,hx⟩:=q;have:=(MC (AO s) hx).al i h0 h1;rw[h]at this;cases this
theorem MF {F:List ByteArray} {i:Nat} (h0:0<i) {n:Nat} (hn:F.length=n+1):aTo F i n=puN (nth F i):=by
 unfold aTo;split
 . rfl
 . have:nth F i=empty:=by
    unfold nth;rw[List.getD_eq_getElem?_getD,List.getElem?_eq_none (by omega)];rfl
   rw[this];exact oQ.1.symm
theorem Sm {s:ByteArray} {k a b:Int} (hl:iW s=true) (hi:inB ((kW s).length:Int) 1 3=true) (hk:k=sH (nth (kW s) 0)) (ha:a=puN (nth (kW s) 1)) (hb:b=puN (nth (kW s) 2)):
 (lF k a b=true->rM k a b=IJ (kW s)->paX s=(k,a,b)/\paB s=true)/\(lF k a b=false∨rM k a b≠IJ (kW s)->paX s=(0,0,0)/\paB s=false):=by
 have h3:(kW s).length<=3:=by simp[inB]at hi;omega
 refine⟨fun h1 h2=>P9 hl h3 ⟨h1,h2⟩,fun h=>NP fun q=> ?_⟩;obtain⟨_,_,x,hx⟩:=q;have hd:=MC (AO s) hx;obtain⟨x1,x2,x3⟩:=x;obtain rfl:k=x1:=by rw[hk];exact hd.kd
 obtain rfl:a=x2:=by rw[ha];exact hd.ka
 obtain rfl:b=x3:=by rw[hb];exact hd.kb
 rcases h with h|h
 . have:=hx.1;simp only at this;rw[h]at this;cases this
 . exact h hx.2
theorem vU:∀(l cur:Bs),(Lib.join (fg cur l) [32]).length<=cur.length+l.length
  | [], cur => by
   rw[fg];split
   . exact Nat.zero_le _
   . rw[Lib.join_one];simp
  | c :: r, cur => by
   rw[fg];have h0:=vU r [];split
   . split
     . rw[List.length_cons];simp at h0;omega
     . rw[Lib.join_cons,List.length_append,List.length_cons]
       have h1:(Lib.joinTail [32] (fg [] r)).length<=1+(Lib.join (fg [] r) [32]).length:=by
        cases fg [] r with
        |nil=>simp[Lib.joinTail]
        |cons y ys=>rw[Lib.join_cons];simp[Lib.joinTail];omega
       simp at h0;omega
   . have h1:=vU r (cur++[c]);rw[List.length_append]at h1;rw[List.length_cons];simp at h1;omega
theorem NF (s : ByteArray) (hs : s.size <= 600) : (Lib.join ((kW s).map fun x => x.data.toList) [32]).length <= 140737488355328 := by
 have e : (kW s).map (fun x => x.data.toList) = fg [] s.data.toList := by
  unfold kW;rw[List.map_map];conv=>rhs;rw[<-List.map_id (fg [] s.data.toList)]
  exact List.map_congr_left fun x _=>wI x
 rw[e];have:=vU s.data.toList [];have h2:s.data.toList.length=s.size:=Array.length_toList;simp only[List.length_nil]at this;omega
theorem Jk {s:ByteArray} (h:iW s=true):s.size<=600:=by
 unfold iW at h;simp only[Bool.and_eq_true,decide_eq_true_eq]at h;exact h.1.1
theorem Ps {B g c : Nat} {w : World} {F : List ByteArray} (h : aC 9 1 kP B w (.slice (some ⟨g, 0, none⟩) F.length c) F) (hg : g < w.heap.size) (hF : F.length <= 100) (hs : (Lib.join (F.map fun x => x.data.toList) [32]).length <= 140737488355328) :
 Calls prog 116 #[.slice (some ⟨g,0,none⟩) F.length c,.string ⟨#[32]⟩] w (Ret (.string (IJ F)) w):=by
 obtain⟨A',c',e,h1,h2⟩:=h.form;injection e with e1 e2 e3;subst e3
 have hcl := Tryz.strings_Join g 0 c F (⟨#[32]⟩ : ByteArray) w (fun j x hj => by
  have hjl:=(List.getElem?_eq_some_iff.1 hj).1;have:=h.slot kG (by decide) hjl 0 (.string F[j]) rfl;rw[(List.getElem?_eq_some_iff.1 hj).2]at this;simpa using this) hg (by omega) h1 hs
 refine hcl.mono ?_;rintro e w' ⟨rfl,hb⟩;exact⟨rfl,hb⟩
theorem Rl (s:ByteArray) (w:World) (ht:Tab w) (hs:Syn w):Calls prog 52 #[.string s] w (Ret (paV s) w):=by
 have HT:=SQ ht;have HS:=SQ hs;clear ht hs;have B0:=(Below.refl w.heap.size w).al (.cells #[.int .i64 0,.int .i64 0,.int .i64 0] 73);have bR:=Blk.aY w 73 #[.int .i64 0,.int .i64 0,.int .i64 0];obtain⟨gR,hgR'⟩:=SL w.heap.size;have hgR:w.heap.size<=gR:=(by omega);have HgR:=SQ hgR';clear hgR';rcases hok:iW s with _|_
 . have Hn := SQ (NP (s := s) (fun q => by rw [hok] at q; cases q.1));have HOk:=SQ hok;clear hok;go_enter func52,ntmps52
   go_wp2_with fail
   refine(yR s _).mono ?_;rintro e w1 ⟨v,rfl,hO,hb1⟩;rw[HOk.out];have bR1:=bR.bl hb1;have B1:=B0.tr hb1;rw[<-HgR.out]at bR1⊢;clear hO;go_wp2_with (refine fB rfl 73 _ _ rfl gR #[.int .i64 0,.int .i64 0,.int .i64 0] rfl rfl _ _ bR1 (by kernel_rfl) rfl (by simp[oneCell']) ?_;intro wE bE hgE)
   have BE:=B1.grown hgE B1.size (fun k hk=>by injection hk with hk;subst hk;exact hgR);obtain⟨q_0,q_1,q_2⟩:=bE.n3;refine bodyPost_ret (v:= .tuple #[.agg #[.int .i64 0,.int .i64 0,.int .i64 0],.bool false]) (by simp[results,results52,go_sem,q_0,q_1,q_2]) rfl ⟨by unfold paV;rw[Hn.out.1,Hn.out.2],BE⟩
 . rcases hi:inB ((kW s).length:Int) 1 3 with _|_
   . have Hn:=SQ (Sj hi);have HOk:=SQ hok;clear hok;go_enter func52,ntmps52
     go_wp2_with fail
     refine(yR s _).mono ?_;rintro e w1 ⟨v,rfl,hO,hb1⟩;rw[HOk.out];have hO:=hO HOk.out;obtain⟨A,c,rfl,_,_⟩:=hO.form;have bR1:=bR.bl hb1;have B1:=B0.tr hb1;go_wp2_with fail
     refine(fT ((kW s).length:Int) 1 3 _).mono ?_;rintro e w2 ⟨rfl,rfl⟩;rw[hi];rw[<-HgR.out]at bR1⊢;clear hO;go_wp2_with (refine fB rfl 73 _ _ rfl gR #[.int .i64 0,.int .i64 0,.int .i64 0] rfl rfl _ _ bR1 (by kernel_rfl) rfl (by simp[oneCell']) ?_;intro wE bE hgE)
     have BE:=B1.grown hgE B1.size (fun k hk=>by injection hk with hk;subst hk;exact hgR);obtain⟨q_0,q_1,q_2⟩:=bE.n3;refine bodyPost_ret (v:= .tuple #[.agg #[.int .i64 0,.int .i64 0,.int .i64 0],.bool false]) (by simp[results,results52,go_sem,q_0,q_1,q_2]) rfl ⟨by unfold paV;rw[Hn.out.1,Hn.out.2],BE⟩
   . have HOk:=SQ hok;clear hok;have HIn:=SQ hi;go_enter func52,ntmps52
     go_wp2_with fail
     refine(yR s _).mono ?_;rintro e w1 ⟨v,rfl,hO,hb1⟩;rw[HOk.out];have hO:=(hO HOk.out).mono B0.size;obtain⟨F,hF⟩:=SL (kW s);have hl:1<=F.length/\F.length<=3:=by rw[hF];simp[inB]at hi;omega
     rw[<-hF]at hO hi;have HF:=SQ hF;obtain⟨A,c,rfl,_,_⟩:=hO.form;obtain⟨gF,rfl,hgF,_⟩:=hO.split (k:=0) (by omega);have bR1:=bR.bl hb1;have B1:=B0.tr hb1;clear hF;go_wp2_with fail
     refine(fT (F.length:Int) 1 3 _).mono ?_;rintro e w2 ⟨rfl,rfl⟩;rw[hi];clear hi;rw[<-HgR.out]at bR1⊢;have hRl:=bR1.lt;have B1s:=B1.size;have oW:=Pp (l:=uP) (cs:= #[.string empty,.string mW,.string jZ,.string wH,.string mX,.string kC]) B1.size rfl (by decide);have bK:=Blk.iX (w1.alloc (.cells #[.string empty,.string mW,.string jZ,.string wH,.string mX,.string kC] 9)) 73 #[.int .i64 0,.int .i64 0,.int .i64 0] (w1.heap.size+1) (by simp);have oW:=oW.alloc (.cells #[.int .i64 0,.int .i64 0,.int .i64 0] 73);have hO:=(hO.alloc (.cells #[.string empty,.string mW,.string jZ,.string wH,.string mX,.string kC] 9)).alloc (.cells #[.int .i64 0,.int .i64 0,.int .i64 0] 73);have bR1:=(bR1.alloc (.cells #[.string empty,.string mW,.string jZ,.string wH,.string mX,.string kC] 9)).alloc (.cells #[.int .i64 0,.int .i64 0,.int .i64 0] 73);have B1:=(B1.al (.cells #[.string empty,.string mW,.string jZ,.string wH,.string mX,.string kC] 9)).al (.cells #[.int .i64 0,.int .i64 0,.int .i64 0] 73);have hgK:w.heap.size<=w1.heap.size+1:=by have:=hb1.size;simp at this;omega
     have hw:=AO s;rw[<-HF.out]at hw;have hx0:=Sk hw (i:=0) (by omega);obtain⟨x,hx⟩:=SL (nth F 0);rw[<-hx]at hx0;have hk6:=SE hx0;have HK6:=SQ hk6;have HX:=SQ hx;have Hx0:=SQ hx0;have HW:=SQ hw;clear hx hx0 hk6 hw hb1;go_wp2_with (refine fB rfl 73 _ _ rfl (w1.heap.size+1) #[.int .i64 0,.int .i64 0,.int .i64 0] rfl rfl _ _ bK (by kernel_rfl) rfl (by simp[oneCell']) ?_;intro wS bS hgS)
     have oWS:aC 9 1 kP w.heap.size wS (.slice (some ⟨w1.heap.size,0,none⟩) 6 6) uP:=World.ownsRow.kept oW hgS (.inr (oW.apart bK (by decide)));have oFS:aC 9 1 kP w.heap.size wS (.slice (some ⟨gF,0,none⟩) F.length c) F:=World.ownsRow.kept hO hgS (.inr (hO.apart bK (by decide)));have bRS:=bR1.grown hgS (by simp;omega);have BS:=B1.grown hgS B1.size (fun k hk=>by injection hk with hk;omega);obtain⟨gK,hgK2⟩:=SL (w1.heap.size+1);obtain⟨gW,hgW⟩:=SL w1.heap.size;rw[<-hgK2]at bS hgK⊢;have hne:gR≠gK:=(by omega);rw[<-hgW]at oWS⊢;clear hgS hgK2 hgW oW hO bR1 B1 B1s bK hRl bR B0;go_loopw [8,9,34] (fun s8 s9 s34 wr=>∃(k:Nat) (z8 z9:Value),s8=z8/\s9=z9/\k<=6/\s34= .int .i64 k/\Blk wr gK 73 #[.int .i64 (kTo x k),.int .i64 0,.int .i64 0]/\Blk wr gR 73 #[.int .i64 0,.int .i64 0,.int .i64 0]/\aC 9 1 kP w.heap.size wr (.slice (some ⟨gW,0,none⟩) 6 6) uP/\aC 9 1 kP w.heap.size wr (.slice (some ⟨gF,0,none⟩) F.length c) F/\Below w.heap.size w wr) (fun _ _ i _=>6-(intOf i).toNat)
     case atStart=>exact⟨0,_,_,rfl,rfl,by decide,rfl,bS,bRS,oWS,oFS,BS⟩
     case round=>
      obtain⟨k,z8,z9,rfl,rfl,hk,rfl,bK,bR,oW,oF,hbel⟩:=hrel;clear bS bRS oWS oFS BS;by_cases hlt:k<6
      . have hlw:k<uP.length:=hlt;obtain⟨u,hu⟩:=SL (nth uP k)
        have c1:wr.cell? ⟨gW,k,none⟩=some (.string u):=by
         have:=oW.slot kG (by decide) hlw 0 _ rfl;rw[hu,Ew hlw];simpa using this
        have c2:wr.cell? ⟨gF,0,none⟩=some (.string x):=by
         have h0:0<F.length:=(by omega);have:=oF.slot kG (by decide) h0 0 _ rfl;rw[HX.out,Ew h0];simpa using this
        have hki:(k:Int)<6:=(by omega);by_cases he:u=x
        . have hk1 : kTo x (k + 1) = k := by unfold kTo; rw [<- hu, if_pos he]
          have HK1:=SQ hk1;clear hk1;have beq:=qW he;clear he;have k0:wr.cell? ⟨gK,0,none⟩=some (.int .i64 (kTo x k)):=bK.cell 0;have f0:=bK.frozen 0;have gX:=eF (World.grownBy.refl wr (some gK)) 0 (.int .i64 k);have bK2:=bK.st 0 (.int .i64 k) #[.int .i64 (kTo x (k+1)),.int .i64 0,.int .i64 0] (by rw[HK1.out];rfl);have bR2:=bR.grown gX (by simp;omega);have oW2:aC 9 1 kP w.heap.size _ (.slice (some ⟨gW,0,none⟩) 6 6) uP:=World.ownsRow.kept oW gX (.inr (oW.apart bK (by decide)));have oF2:aC 9 1 kP w.heap.size _ (.slice (some ⟨gF,0,none⟩) F.length c) F:=World.ownsRow.kept oF gX (.inr (oF.apart bK (by decide)));have B2:=hbel.grown gX hbel.size (fun k hk=>by injection hk with hk;omega);clear hu;go_wp2;go_roundw
          case rel=>exact⟨k+1,_,_,rfl,rfl,by omega,by go_num,bK2,bR2,oW2,oF2,B2⟩
          case measure=>simp[intOf];omega
        . have hk1:kTo x (k+1)=kTo x k:=by
           show(if nth uP k=x then(k:Int)else kTo x k)=kTo x k;rw[<-hu,if_neg he]
          have HK1:=SQ hk1;clear hk1;have beq:=EY he;clear he hu;go_wp2;go_roundw
          case rel=>exact⟨k+1,_,_,rfl,rfl,by omega,by go_num,by rw[HK1.out];exact bK,bR,oW,oF,hbel⟩
          case measure=>simp[intOf];omega
      . obtain rfl : k = 6 := by omega
        rw[HK6.out]at bK;obtain⟨K,hK⟩:=SL (sH x);rw[<-hK]at bK;have HK:=SQ hK;clear hK oW;have hFr:=oF.rd kG (by decide);go_wp2_with ((with_reducible refine GL xA hFr 1 (by omega) rfl rfl _ _ rfl rfl rfl ?_);intro A' c' hsl)
        have HSL:=SQ hsl;clear hsl hFr;go_loopw [10,11,12,13,50] (fun s10 s11 s12 s13 s50 wr=>∃(j:Nat) (z10 z11 z12 z13:Value),s10=z10/\s11=z11/\s12=z12/\s13=z13/\j<=F.length-1/\s50= .int .i64 j/\Blk wr gK 73 #[.int .i64 K,.int .i64 (aTo F 1 j),.int .i64 (aTo F 2 j)]/\Blk wr gR 73 #[.int .i64 0,.int .i64 0,.int .i64 0]/\aC 9 1 kP w.heap.size wr (.slice (some ⟨gF,0,none⟩) F.length c) F/\Below w.heap.size w wr) (fun _ _ _ _ i _=>F.length-1-(intOf i).toNat)
        case atStart=>exact⟨0,_,_,_,_,rfl,rfl,rfl,rfl,Nat.zero_le _,rfl,bK,bR,oF,hbel⟩
        case round=>
         obtain⟨j,z10,z11,z12,z13,rfl,rfl,rfl,rfl,hj,rfl,bK,bR,oF,hbel⟩:=hrel;by_cases hlt:j<F.length-1
         . have hld : j < (F.drop 1).length := by simp; omega
           obtain⟨b,off,rfl,hb,c1⟩:=(Po oF kG (by decide) (by omega) HSL.out).Qd hld;obtain⟨y,hy⟩:=SL (nth F (j+1));have hdy:(F.drop 1)[j]=y:=by rw[hy,Ew (by omega)];simp[Nat.add_comm]
           rw[hdy]at c1;have HY:=SQ hy;clear hy hdy;have hji:(j:Int)<((F.length-1:Nat):Int):=(by omega);rcases hpb:puB y with _|_
           . have Hn := SQ (Sl (s := s) (i := j + 1) (by omega) (by rw [<- HF.out]; omega) (by rw [<- HF.out, <- HY.out]; exact hpb));go_wp2_with fail
             refine(Mx y _ (HT.out.below hbel) (HS.out.below hbel)).mono ?_;rintro e w3 ⟨rfl,hb2⟩;rw[hpb];clear hpb;have bR2:=bR.bl hb2;have B2:=hbel.tr hb2;go_wp2_with (refine fB rfl 73 _ _ rfl gR #[.int .i64 0,.int .i64 0,.int .i64 0] rfl rfl _ _ bR2 (by kernel_rfl) rfl (by simp[oneCell']) ?_;intro wE bE hgE)
             have BE:=B2.grown hgE B2.size (fun k hk=>by injection hk with hk;subst hk;exact hgR);obtain⟨q_0,q_1,q_2⟩:=bE.n3;refine bodyPost_ret (v:= .tuple #[.agg #[.int .i64 0,.int .i64 0,.int .i64 0],.bool false]) (by simp[results,results52,go_sem,q_0,q_1,q_2]) rfl ⟨by unfold paV;rw[Hn.out.1,Hn.out.2],BE⟩
           . go_wp2_with fail
             refine(Mx y _ (HT.out.below hbel) (HS.out.below hbel)).mono ?_;rintro e w3 ⟨rfl,hb2⟩;rw[hpb];clear hpb;have bR2:=bR.bl hb2;have bK2:=bK.bl hb2;have oF2:=oF.below hb2;have B2:=hbel.tr hb2;obtain⟨m,hm⟩:=SL (puN y);rw[<-hm];by_cases hj0:j=0
             . subst hj0
               have Hm : Hid (#[Value.int .i64 K, .int .i64 m, .int .i64 (aTo F 2 0)] = #[Value.int .i64 K, .int .i64 (aTo F 1 (0 + 1)), .int .i64 (aTo F 2 (0 + 1))]) := SQ (by
                have e1:aTo F 1 (0+1)=m:=by rw[hm,HY.out];rfl
                rw[e1];rfl)
               have k0:w3.cell? ⟨gK,1,none⟩=some (.int .i64 (aTo F 1 0)):=bK2.cell 1;have f0:=bK2.frozen 1;have gX:=eF (World.grownBy.refl w3 (some gK)) 1 (.int .i64 m);have bK3:=bK2.st 1 (.int .i64 m) #[.int .i64 K,.int .i64 m,.int .i64 (aTo F 2 0)] rfl;rw[Hm.out]at bK3;have bR3:=bR2.grown gX (by simp;omega);have oF3:aC 9 1 kP w.heap.size _ (.slice (some ⟨gF,0,none⟩) F.length c) F:=World.ownsRow.kept oF2 gX (.inr (oF2.apart bK2 (by decide)));have B3:=B2.grown gX B2.size (fun k hk=>by injection hk with hk;omega);clear hm;go_wp2;go_roundw
               case rel=>exact⟨0+1,_,_,_,_,rfl,rfl,rfl,rfl,by omega,by go_num,bK3,bR3,oF3,B3⟩
               case measure=>simp[intOf];omega
             . obtain rfl : j = 1 := by omega
               have hj1:¬(((1:Nat):Int)=0):=by omega
               have Hm : Hid (#[Value.int .i64 K, .int .i64 (aTo F 1 1), .int .i64 m] = #[Value.int .i64 K, .int .i64 (aTo F 1 (1 + 1)), .int .i64 (aTo F 2 (1 + 1))]) := SQ (by
                have e1:aTo F 2 (1+1)=m:=by rw[hm,HY.out];rfl
                rw[e1];rfl)
               have k0:w3.cell? ⟨gK,2,none⟩=some (.int .i64 (aTo F 2 1)):=bK2.cell 2;have f0:=bK2.frozen 2;have gX:=eF (World.grownBy.refl w3 (some gK)) 2 (.int .i64 m);have bK3:=bK2.st 2 (.int .i64 m) #[.int .i64 K,.int .i64 (aTo F 1 1),.int .i64 m] rfl;rw[Hm.out]at bK3;have bR3:=bR2.grown gX (by simp;omega);have oF3:aC 9 1 kP w.heap.size _ (.slice (some ⟨gF,0,none⟩) F.length c) F:=World.ownsRow.kept oF2 gX (.inr (oF2.apart bK2 (by decide)));have B3:=B2.grown gX B2.size (fun k hk=>by injection hk with hk;omega);clear hm;go_wp2;go_roundw
               case rel=>exact⟨1+1,_,_,_,_,rfl,rfl,rfl,rfl,by omega,by go_num,bK3,bR3,oF3,B3⟩
               case measure=>simp[intOf];omega
         . obtain rfl : j = F.length - 1 := by omega
           have hFl:F.length=(F.length-1)+1:=(by omega);rw[MF (by decide) hFl,MF (by decide) hFl]at bK;obtain⟨A,hA⟩:=SL (puN (nth F 1));obtain⟨B,hB⟩:=SL (puN (nth F 2));rw[<-hA,<-hB]at bK;have hpe:=Sm (s:=s) (k:=K) (a:=A) (b:=B) HOk.out HIn.out (by rw[<-HF.out,<-HX.out];exact HK.out) (by rw[<-HF.out];exact hA) (by rw[<-HF.out];exact hB);rw[<-HF.out]at hpe;have HPE:=SQ hpe;clear hpe hA hB hFl;obtain⟨k_0,k_1,k_2⟩:=bK.n3;go_wp2_with fail
           refine(Ca K A B _ (HT.out.below hbel)).mono ?_;rintro e w4 ⟨rfl,hb2⟩;clear k_0 k_1 k_2;have bR2:=bR.bl hb2;have bK2:=bK.bl hb2;have oF2:=oF.below hb2;have B2:=hbel.tr hb2;rcases hok:lF K A B with _|_
           . have Hn:=SQ (HPE.out.2 (.inl hok));clear hok;go_wp2_with (refine fB rfl 73 _ _ rfl gR #[.int .i64 0,.int .i64 0,.int .i64 0] rfl rfl _ _ bR2 (by kernel_rfl) rfl (by simp[oneCell']) ?_;intro wE bE hgE)
             have BE:=B2.grown hgE B2.size (fun k hk=>by injection hk with hk;subst hk;exact hgR);obtain⟨q_0,q_1,q_2⟩:=bE.n3;refine bodyPost_ret (v:= .tuple #[.agg #[.int .i64 0,.int .i64 0,.int .i64 0],.bool false]) (by simp[results,results52,go_sem,q_0,q_1,q_2]) rfl ⟨by unfold paV;rw[Hn.out.1,Hn.out.2],BE⟩
           . have htx : iJ K A B = rM K A B := by unfold iJ; rw [if_pos hok]
             obtain⟨T,hT⟩:=SL (rM K A B);rw[htx,<-hT];rw[<-hT]at HPE;have Hok:=SQ hok;clear hok htx hT
             have hgF2 : gF < w4.heap.size := (oF2.split (k := 0) (by omega)).elim fun g h => by
              obtain⟨e,_,h2⟩:=h;injection e with e;injection e with e;subst e;exact h2
             have hjs:=NF s (Jk HOk.out);rw[<-HF.out]at hjs;have hcl:=Ps oF2 hgF2 (by omega) hjs;go_wp2_with fail
             refine hcl.mono ?_;rintro e w5 ⟨rfl,hb3⟩;have bR3:=bR2.bl hb3;have bK3:=bK2.bl hb3;have B3:=B2.tr hb3;clear hcl;by_cases he:T=IJ F
             . have Hy:=SQ (HPE.out.1 Hok.out he);have beq:=qW he;clear he;obtain⟨k_0,k_1,k_2⟩:=bK3.n3;go_wp2_with (refine fB rfl 73 _ _ rfl gR #[.int .i64 K,.int .i64 A,.int .i64 B] rfl rfl _ _ bR3 (by kernel_rfl) rfl (by simp[oneCell']) ?_;intro wE bE hgE)
               have BE:=B3.grown hgE B3.size (fun k hk=>by injection hk with hk;subst hk;exact hgR);obtain⟨q_0,q_1,q_2⟩:=bE.n3;refine bodyPost_ret (v:= .tuple #[.agg #[.int .i64 K,.int .i64 A,.int .i64 B],.bool true]) (by simp[results,results52,go_sem,q_0,q_1,q_2]) rfl ⟨by unfold paV;rw[Hy.out.1,Hy.out.2],BE⟩
             . have Hn:=SQ (HPE.out.2 (.inr he));have beq:=EY he;clear he;go_wp2_with (refine fB rfl 73 _ _ rfl gR #[.int .i64 0,.int .i64 0,.int .i64 0] rfl rfl _ _ bR3 (by kernel_rfl) rfl (by simp[oneCell']) ?_;intro wE bE hgE)
               have BE:=B3.grown hgE B3.size (fun k hk=>by injection hk with hk;subst hk;exact hgR);obtain⟨q_0,q_1,q_2⟩:=bE.n3;refine bodyPost_ret (v:= .tuple #[.agg #[.int .i64 0,.int .i64 0,.int .i64 0],.bool false]) (by simp[results,results52,go_sem,q_0,q_1,q_2]) rfl ⟨by unfold paV;rw[Hn.out.1,Hn.out.2],BE⟩
end Go.Proofs.YtljfoohaapckeaaGreatDoor
