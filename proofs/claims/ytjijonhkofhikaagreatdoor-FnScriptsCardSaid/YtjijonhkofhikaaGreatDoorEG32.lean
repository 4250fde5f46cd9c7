import Derived.Test.YtjijonhkofhikaaGreatDoorEG30
import Derived.Test.YtjijonhkofhikaaGreatDoorEK12
import Derived.Test.YtjijonhkofhikaaGreatDoorEG5
open _root_.List renaming length_append->TZ,map_cons->T9,mem_cons_self->Ua
open _root_.Nat renaming zero_le->Ub,le_trans->Uc
open _root_.Go.Lib (index join)
open _root_.Go.Lib renaming splitK->Ud,countB->Ue
open _root_.ByteArray (ext empty)
open _root_.ByteArray renaming data_append->Uf
set_option linter.unusedVariables false
set_option linter.unusedSimpArgs false
set_option maxHeartbeats 4000000
set_option maxRecDepth 100000
namespace Go.Proofs.YtjijonhkofhikaaGreatDoor
open Go.ChangeShapes Go.WideShapes Go.ChangeAt Go.RowKit
section
variable {P : Program} {α : Type} {t E : TypeId} {z : Value} {size bytes : Nat} {enc : α -> List Value}
theorem JZ {ops:Array Oper} {o:Oper} {a:Act} {w:World} {K:Act->World->Prop} {Q:Exit->Act->World->Prop} {E':Prop} (R:Row P t E z size bytes)
    (a8:∀x,(enc x).length=size) (h1:∀x,∀u∈enc x,u.oneCell'=true) {B B2:Nat} (hB:B<=w.heap.size) {v:Value} {l m:List α} (hown:aD E size enc B w v l) {g c:Nat} (hm:aD E size enc B2 w (.slice (some ⟨g,0,none⟩) m.length c) m)
    (hlen:(l.length+m.length)*bytes<=140737488355328) (a6:l.length+m.length<=maxLen) (hgd:o.guard=none)
    (s x:Operand) (ho:o.op= .call {callee:= .builtin .append,args:= #[s,x],argTypes:= #[t,t]})
    (hs:a.eval s=v) (hx:a.eval x= .slice (some ⟨g,0,none⟩) m.length c)
    (h:∀A c' w',aD E size enc B w' (.slice A (l.length+m.length) c') (l++m)->w.grownBy w' v.ownBlock->K (a.put o.dst (.slice A (l.length+m.length) c')) w'):
    if Region.wanted o (yielded ops a.tmps)=true then Oper.wp P o a w K Q else E':=by
 have hw:Region.wanted o (yielded ops a.tmps)=true:=(by simp[Region.wanted,hgd]);rw[if_pos hw];obtain⟨ht,a7,hzs,hsz⟩:=R;obtain⟨i0,hi,hz0,hz1,hz2⟩:=info_parts a7
 obtain⟨v',w',hrun,h2,h3,_,h5⟩:=run_append_own_at (P:=P) w B t o.type E i0 z size bytes ht hi hz0 hz1 hz2 hzs hsz v l.length (l.flatMap enc) hown
   ⟨g,0,none⟩ m.length c (m.flatMap enc) (fZ a8 m) (World.ownsRow.cells (g:=g) hm rfl) (I8 h1 m) a6 hlen hB
 have hO:aD E size enc B w' v' (l++m):=by
  unfold aD;rw[TZ,List.flatMap_append];exact h2
 obtain⟨A',c',e,_⟩:=hO.form;rw[TZ]at e;subst e;unfold Oper.wp execOp;simp only[ho,resolve,invoke,builtin,Sem.run_bind,Sem.run_pure,Result.andThen_ok,List.map_toArray,T9,List.map_nil,hs,hx,hrun];exact h A' c' w' hO h3
end
def wl (word:ByteArray) (x:Int):ByteArray:=word++kR x
def Df:ByteArray:=⟨#[102,108,105,112,115,32]⟩
def Dh:ByteArray:=⟨#[115,116,111,99,107,32]⟩
def Di:ByteArray:=⟨#[115,112,101,110,116,32]⟩
def Jr:ByteArray:=⟨#[114,101,112,97,105,114,115,32]⟩
theorem P9 {word w2:ByteArray} (h:w2.data=word.data++ #[32]) (x:Int):nU word [x]=wl w2 x:=by
 show word++(⟨#[32]⟩:ByteArray)++kR x=w2++kR x;congr 1
 apply ext;rw[Uf,h]
def QU (x:Wk):List ByteArray:=[wl Df x.1.2.2.2.length,wl Dh x.2.1,wl Di x.2.2.1,wl Jr x.2.2.2]
def lM (x:Wk):List ByteArray:=if bV x=true then jQ x.1.1 x.1.2.2.1++QU x else[]
theorem vX (rows:List Int) (l:List Dm):(jQ rows l).length<=rows.length:=by
 unfold jQ;split
 . simp[vO]
 . exact Ub _
theorem LZ {x:Wk} (h:bV x=true):x.1.2.2.2.length<=60/\(0<=x.2.1/\x.2.1<=10000)/\(0<=x.2.2.1/\x.2.2.1<=10000)/\(0<=x.2.2.2/\x.2.2.2<=10000):=by
 unfold bV dM inB at h;simp at h;omega
theorem Cz {x:Wk} (h:bV x=true):x.1.1.length<=8:=by
 unfold bV dM eX at h;simp only[Bool.and_eq_true]at h;exact(jH h.1.1.1.1.1).1.1
theorem CE (x:Wk):(lM x).length<=1048576:=by
 unfold lM;split
 . rename_i h;have h1:=Cz h;have h2:=vX x.1.1 x.1.2.2.1;rw[TZ];have:(QU x).length=4:=rfl;omega
 . exact Ub _
def Ln (B:Nat) (W:World) (v:Value) (x:Int):Prop:=aD 3 1 bH B W v [x]/\0<=x/\x<=10000
theorem Ln.al {B:Nat} {W:World} {v:Value} {x:Int} (h:Ln B W v x) (o:Obj):Ln B (W.alloc o) v x:=⟨h.1.alloc o,h.2⟩
theorem Ln.bl {B:Nat} {W W':World} {v:Value} {x:Int} (h:Ln B W v x) (hb:Below W.heap.size W W'):Ln B W' v x:=⟨h.1.below hb,h.2⟩
theorem Qa (w:World) (o:Obj):(w.alloc o).heap.size=w.heap.size+1:=by simp
theorem Js {B g:Nat} {W:World} {x:Int} (hB:B<=g) (hb:Blk W g 3 #[.int .i64 x]) (h:0<=x/\x<=10000):Ln B W (.slice (some ⟨g,0,none⟩) 1 1) x:=
 ⟨⟨by simp[bH],.inr ⟨g,1,#[.int .i64 x],rfl,hB,hb,by simp,by simp[maxLen],by simp,by simp[bH]⟩⟩,h⟩
theorem sD {B:Nat} {v:Value} {x:Int} {W:World} (word w2:ByteArray) (h:Ln B W v x) (hw:word.size<=100) (h2:w2.data=word.data++ #[32]) (ht:Tab W):Calls Tryz.prog 32 #[.string word,v] W (Ret (.string (wl w2 x)) W):=by
 rw[<-P9 h2];exact rR word v [x] W (h.1.rd aJ (by decide)) hw (by simp) (TY (by have:=h.2;simp;omega)) ht
theorem Qb {w0 W:World} (Bw:Below w0.heap.size w0 W) {B:Nat} (hB:B<=w0.heap.size) (a b c d:ByteArray):aD 9 1 iX B (W.alloc (.cells #[.string a,.string b,.string c,.string d] 9)) (.slice (some ⟨W.heap.size,0,none⟩) 4 4) [a,b,c,d]:=by
 have e:[a,b,c,d].flatMap iX=[.string a,.string b,.string c,.string d]:=rfl;unfold aD;rw[e];exact⟨by simp,.inr ⟨W.heap.size,4,#[.string a,.string b,.string c,.string d],rfl,Uc hB Bw.size,heap_alloc_new W _,by simp,by simp[maxLen],by simp,by simp⟩⟩
set_option maxHeartbeats 16000000 in
theorem L6 (v1 v2 v3 v4:Value) (rows:List Int) (f n:List Dm) (fl:List Cl) (s p r:Int) (w:World) (h1:Rd 1 bG w v1 rows) (h2:Rd 3 aU w v2 f) (h3:Rd 3 aU w v3 n) (h4:Rd 2 cO w v4 fl) (hs:bZ (rows,f,n,fl)) (ht:Tab w):
 Calls Tryz.prog 12 #[.agg #[v1,v2,v3,v4,.int .i64 s,.int .i64 p,.int .i64 r]] w (iH 9 1 iX (lM ((rows,f,n,fl),s,p,r)) w):=by
 have HT:=TY ht;clear ht;obtain⟨A1,c1,rfl,_,_⟩:=h1.form;obtain⟨A2,c2,rfl,_,_⟩:=h2.form;obtain⟨A3,c3,rfl,_,_⟩:=h3.form;obtain⟨A4,c4,rfl,_,_⟩:=h4.form;have B0:=(Below.refl w.heap.size w).al (.cells #[.slice A1 rows.length c1,.slice A2 f.length c2,.slice A3 n.length c3,.slice A4 fl.length c4,.int .i64 s,.int .i64 p,.int .i64 r] 32);have bP:=Blk.aZ w 32 #[.slice A1 rows.length c1,.slice A2 f.length c2,.slice A3 n.length c3,.slice A4 fl.length c4,.int .i64 s,.int .i64 p,.int .i64 r];rcases bD:bV ((rows,f,n,fl),s,p,r)with _|_
 all_goals have bN:=TY bD
 . have e : lM ((rows, f, n, fl), s, p, r) = [] := by unfold lM; rw [bD]; rfl
   rw[e];go_enter Tryz.func12,Tryz.ntmps12
   go_wp2_with fail
   refine(iC _ _ _ _ ((rows,f,n,fl),s,p,r) _ (h1.TW B0) (h2.TW B0) (h3.TW B0) (h4.TW B0) hs.2.1).mono ?_;rintro e w1 ⟨rfl,hb1⟩;rw[bN.out];go_wp2;go_ret;exact⟨none,0,rfl,nN _,B0.tr hb1⟩
 . skip;have e:lM ((rows,f,n,fl),s,p,r)=jQ rows n++[wl Df (fl.length:Int),wl Dh s,wl Di p,wl Jr r]:=by unfold lM;rw[bD];rfl
   rw[e];obtain⟨F,hF⟩:=TV (jQ rows n);rw[<-hF];have bB:=LZ bD;have N1:Hid (0<=(fl.length:Int)/\(fl.length:Int)<=10000):=TY (by have:=bB.1;simp only at this;omega);have N2:=TY bB.2.1;have N3:=TY bB.2.2.1;have N4:=TY bB.2.2.2;simp only at N2 N3 N4;have cB:rows.length<=8:=Cz bD;have b8:F.length<=rows.length:=by rw[hF];exact vX rows n
   have HF:=TY hF;clear hF;clear bB bD e;go_enter Tryz.func12,Tryz.ntmps12
   go_wp2_with fail
   refine(iC _ _ _ _ ((rows,f,n,fl),s,p,r) _ (h1.TW B0) (h2.TW B0) (h3.TW B0) (h4.TW B0) hs.2.1).mono ?_;rintro e w1 ⟨rfl,hb1⟩;rw[bN.out];have B1:=B0.tr hb1;have bJ:=bP.bl hb1;have cC:=bJ.lt;obtain⟨bO,bR,bU,bW,bY,b5,b6⟩:=bJ.n7;go_wp2_with fail
   refine(CX _ _ rows n _ (h1.TW B1) (h3.TW B1)).mono ?_;rintro e w2 ⟨C,c,rfl,bE,hb2⟩;have B2:=B1.tr hb2;have bK:=bJ.bl hb2;clear bO bR bU bW bY b5 b6;have b9:=bK.lt;obtain⟨bO,bR,bU,bW,bY,b5,b6⟩:=bK.n7;have Bw:Below w2.heap.size w2 w2:=Below.refl _ _;have hz:w2.heap.size<=w2.heap.size:=Nat.le_refl _;rw[<-HF.out]at bE⊢;have H8:Hid ((F.length+4)*16<=140737488355328):=TY (by omega);have HM:Hid (F.length+4<=maxLen):=TY (by unfold maxLen;omega);go_wp2_with fail
   have Bw:Below w2.heap.size w2 w2.drew:=Bw.drew;have hz:w2.heap.size<=w2.drew.heap.size:=Bw.size;have o0:=bE.below Bw;refine rB (fun w'=>w'.cell? ⟨w.heap.size,3,none⟩=some (.slice A4 fl.length c4)/\w'.cell? ⟨w.heap.size,4,none⟩=some (.int .i64 s)/\w'.cell? ⟨w.heap.size,5,none⟩=some (.int .i64 p)/\w'.cell? ⟨w.heap.size,6,none⟩=some (.int .i64 r)) fun hHeld=>?_
   repeat' (first
    |((with_reducible show AllReadyH _ _ _ _ _ _ _ _ _ _);first
    |(with_reducible exact AllReadyH.nil)
    | (refine tN 5 (fun K hK=>?_) ?_
       ((try clear hH);(try (have hH:=hHeld;clear hHeld));refine lD (x:=((fl.length:Int):Int)) rfl _ rfl rfl ?_;intro gX wX a6 bX bC;(try replace o1:=o1.bl a6);(try replace o2:=o2.bl a6);(try replace o3:=o3.bl a6);(try replace o4:=o4.bl a6);have o1:=Js (Uc hz bC) bX (N1.out);replace o0:=o0.below a6;(try clear a8 bA);obtain⟨a8,bA,a7⟩:=bkn a6 w2.heap.size hz;replace hz:=a7;replace Bw:=Bw.tr a6;clear a6 a7 bX bC)
       refine tK hK fun hHeld=>?_
       clear hK K)
    | (refine tN 6 (fun K hK=>?_) ?_
       ((try clear hH);(try (have hH:=hHeld;clear hHeld));go_simp;go_at_call 32;go_must (refine(sD _ Df (by first|exact o1|exact o2|exact o3|exact o4) (by decide) rfl (HT.out.below (B2.tr Bw))).mono ?_;rintro e wX ⟨rfl,a6⟩;(try replace o1:=o1.bl a6);(try replace o2:=o2.bl a6);(try replace o3:=o3.bl a6);(try replace o4:=o4.bl a6);replace o0:=o0.below a6;(try clear a8 bA);obtain⟨a8,bA,a7⟩:=bkn a6 w2.heap.size hz;replace hz:=a7;replace Bw:=Bw.tr a6;clear a6 a7))
       refine tK hK fun hHeld=>?_
       clear hK K)
    | (refine tN 9 (fun K hK=>?_) ?_
       ((try clear hH);(try (have hH:=hHeld;clear hHeld));refine lD (x:=(s:Int)) rfl _ rfl rfl ?_;intro gX wX a6 bX bC;(try replace o1:=o1.bl a6);(try replace o2:=o2.bl a6);(try replace o3:=o3.bl a6);(try replace o4:=o4.bl a6);have o2:=Js (Uc hz bC) bX (N2.out);replace o0:=o0.below a6;(try clear a8 bA);obtain⟨a8,bA,a7⟩:=bkn a6 w2.heap.size hz;replace hz:=a7;replace Bw:=Bw.tr a6;clear a6 a7 bX bC)
       refine tK hK fun hHeld=>?_
       clear hK K)
    | (refine tN 10 (fun K hK=>?_) ?_
       ((try clear hH);(try (have hH:=hHeld;clear hHeld));go_simp;go_at_call 32;go_must (refine(sD _ Dh (by first|exact o1|exact o2|exact o3|exact o4) (by decide) rfl (HT.out.below (B2.tr Bw))).mono ?_;rintro e wX ⟨rfl,a6⟩;(try replace o1:=o1.bl a6);(try replace o2:=o2.bl a6);(try replace o3:=o3.bl a6);(try replace o4:=o4.bl a6);replace o0:=o0.below a6;(try clear a8 bA);obtain⟨a8,bA,a7⟩:=bkn a6 w2.heap.size hz;replace hz:=a7;replace Bw:=Bw.tr a6;clear a6 a7))
       refine tK hK fun hHeld=>?_
       clear hK K)
    | (refine tN 13 (fun K hK=>?_) ?_
       ((try clear hH);(try (have hH:=hHeld;clear hHeld));refine lD (x:=(p:Int)) rfl _ rfl rfl ?_;intro gX wX a6 bX bC;(try replace o1:=o1.bl a6);(try replace o2:=o2.bl a6);(try replace o3:=o3.bl a6);(try replace o4:=o4.bl a6);have o3:=Js (Uc hz bC) bX (N3.out);replace o0:=o0.below a6;(try clear a8 bA);obtain⟨a8,bA,a7⟩:=bkn a6 w2.heap.size hz;replace hz:=a7;replace Bw:=Bw.tr a6;clear a6 a7 bX bC)
       refine tK hK fun hHeld=>?_
       clear hK K)
    | (refine tN 14 (fun K hK=>?_) ?_
       ((try clear hH);(try (have hH:=hHeld;clear hHeld));go_simp;go_at_call 32;go_must (refine(sD _ Di (by first|exact o1|exact o2|exact o3|exact o4) (by decide) rfl (HT.out.below (B2.tr Bw))).mono ?_;rintro e wX ⟨rfl,a6⟩;(try replace o1:=o1.bl a6);(try replace o2:=o2.bl a6);(try replace o3:=o3.bl a6);(try replace o4:=o4.bl a6);replace o0:=o0.below a6;(try clear a8 bA);obtain⟨a8,bA,a7⟩:=bkn a6 w2.heap.size hz;replace hz:=a7;replace Bw:=Bw.tr a6;clear a6 a7))
       refine tK hK fun hHeld=>?_
       clear hK K)
    | (refine tN 17 (fun K hK=>?_) ?_
       ((try clear hH);(try (have hH:=hHeld;clear hHeld));refine lD (x:=(r:Int)) rfl _ rfl rfl ?_;intro gX wX a6 bX bC;(try replace o1:=o1.bl a6);(try replace o2:=o2.bl a6);(try replace o3:=o3.bl a6);(try replace o4:=o4.bl a6);have o4:=Js (Uc hz bC) bX (N4.out);replace o0:=o0.below a6;(try clear a8 bA);obtain⟨a8,bA,a7⟩:=bkn a6 w2.heap.size hz;replace hz:=a7;replace Bw:=Bw.tr a6;clear a6 a7 bX bC)
       refine tK hK fun hHeld=>?_
       clear hK K)
    | (refine tN 18 (fun K hK=>?_) ?_
       ((try clear hH);(try (have hH:=hHeld;clear hHeld));go_simp;go_at_call 32;go_must (refine(sD _ Jr (by first|exact o1|exact o2|exact o3|exact o4) (by decide) rfl (HT.out.below (B2.tr Bw))).mono ?_;rintro e wX ⟨rfl,a6⟩;(try replace o1:=o1.bl a6);(try replace o2:=o2.bl a6);(try replace o3:=o3.bl a6);(try replace o4:=o4.bl a6);replace o0:=o0.below a6;(try clear a8 bA);obtain⟨a8,bA,a7⟩:=bkn a6 w2.heap.size hz;replace hz:=a7;replace Bw:=Bw.tr a6;clear a6 a7))
       refine tK hK fun hHeld=>?_
       clear hK K)
    | (refine tN 19 (fun K hK=>?_) ?_
       (go_simp;have oS:=Qb (B:=w.heap.size) Bw B2.size (wl Df (fl.length:Int)) (wl Dh s) (wl Di p) (wl Jr r);(try simp only[Qa]at oS);have o0:=o0.alloc (.cells #[.string (wl Df (fl.length:Int)),.string (wl Dh s),.string (wl Di p),.string (wl Jr r)] 9);have Bw:=Bw.al (.cells #[.string (wl Df (fl.length:Int)),.string (wl Dh s),.string (wl Di p),.string (wl Jr r)] 9);have hz:=Bw.size)
       refine tK hK fun hHeld=>?_
       clear hK K)
    | (refine tN 20 (fun K hK=>?_) ?_
       (refine JZ (enc:=iX) qG jA sF (B:=w1.heap.size) (hb2.tr Bw).size o0 oS H8.out HM.out rfl _ _ rfl rfl rfl ?_;intro A5 c5 w5 bL b7;have bF:∀k,(Value.slice C F.length c).ownBlock=some k->w1.heap.size<=k:=(fun k hk=>(World.ownsRow.lt o0 k hk).1);have B5:Below w.heap.size w w5:=(B2.tr Bw).grown b7 (B2.tr Bw).size (fun k hk=>Uc B1.size (bF k hk));have cA:=(bK.below Bw b9).grown b7 (fun e=>by have:=bF _ e.symm;omega);obtain⟨cD,cE,cF,cG,cH,cI,cJ⟩:=cA.n7)
       refine tK hK fun hHeld=>?_
       clear hK K)
    )
    |((with_reducible show wpAnyH _ _ _ _ _ _ _ _ _);first
    |(refine(tQ [5,9,13,17]) ?_)
    |(refine(tQ [6,9,13,17]) ?_)
    |(refine(tQ [9,13,17]) ?_)
    |(refine(tQ [10,13,17]) ?_)
    |(refine(tQ [13,17]) ?_)
    |(refine(tQ [14,17]) ?_)
    |(refine(tQ [17]) ?_)
    |(refine(tQ [18]) ?_)
    |(refine(tQ [19]) ?_)
    |(refine(tQ [20]) ?_)
    |(refine(tQ [14]) ?_)
    |(refine(tQ [13]) ?_)
    |(refine(tQ [10,17]) ?_)
    |(refine(tQ [10]) ?_)
    |(refine(tQ [10,13]) ?_)
    |(refine(tQ [9,17]) ?_)
    |(refine(tQ [9]) ?_)
    |(refine(tQ [9,13]) ?_)
    |(refine(tQ [6,13,17]) ?_)
    |(refine(tQ [6,17]) ?_)
    |(refine(tQ [6]) ?_)
    |(refine(tQ [6,13]) ?_)
    |(refine(tQ [6,9,17]) ?_)
    |(refine(tQ [6,9]) ?_)
    |(refine(tQ [6,9,13]) ?_)
    |(refine(tQ [5,13,17]) ?_)
    |(refine(tQ [5,17]) ?_)
    |(refine(tQ [5]) ?_)
    |(refine(tQ [5,13]) ?_)
    |(refine(tQ [5,9,17]) ?_)
    |(refine(tQ [5,9]) ?_)
    |(refine(tQ [5,9,13]) ?_)
    |(refine(tX 0) ?_)
    |(refine(tX 1) ?_)
    |(refine(tX 2) ?_)
    |(refine(tX 3) ?_)
    |(refine(tX 4) ?_)
    |(refine(tX 7) ?_)
    |(refine(tX 8) ?_)
    |(refine(tX 11) ?_)
    |(refine(tX 12) ?_)
    |(refine(tX 15) ?_)
    |(refine(tX 16) ?_)
    |(refine(tX 21) ?_)
    |(refine tE ?_)))
   all_goals (refine⟨trivial,?_⟩)
   all_goals
     go_wp2;go_ret;exact⟨A5,c5,by rw[TZ];rfl,by rw[TZ];exact bL.mono B1.size,B5⟩
def oV:Bs->List Bs
  |[]=>[[]]
  | c :: r => if c = 10 then [] :: oV r else match oV r with
    |h::t=>(c::h)::t
    |[]=>[[c]]
theorem Qc (l:Bs):index (10::l) [10]=((0:Nat):Int):=by rw[index];simp[List.isPrefixOf]
theorem Qd {b:UInt8} (l:Bs) (h:b≠10):index (b::l) [10]=if index l [10]== -1 then-1 else index l [10]+1:=by
 have hp:([10]:List UInt8).isPrefixOf (b::l)=false:=(by simp[List.isPrefixOf,Ne.symm h]);rw[index,hp];simp
theorem CG:∀s:Bs,Ud [10] 0 (Lib.count s [10]) s=oV s
  |[]=>by rw[Lib.count_miss (by simp[index])];rfl
  | b :: l => by
   have ih:=CG l;by_cases h:b=10
   . subst h;rw[Lib.count_cons_eq,Nat.add_comm 1,Ud,Qc];unfold oV;rw[if_neg (by decide),if_pos rfl];simp only[Int.toNat_natCast,List.length_singleton,Nat.zero_add,List.take_zero,List.drop_succ_cons,List.drop_zero];rw[ih]
   . have e1:=Qd l h;rw[Lib.count_cons_ne _ _ _ h];unfold oV;rw[if_neg h,<-ih];by_cases hm:index l [10]= -1
     . rw[Lib.count_miss hm];rfl
     . have a6:=Lib.index_ge l [10];obtain⟨j,hj⟩:∃j:Nat,index l [10]=j:=⟨(index l [10]).toNat,by omega⟩;rw[Lib.count_hit (by simp) hj,Nat.add_comm 1];have e2:index (b::l) [10]=((j+1:Nat):Int):=by rw[e1,if_neg (fun e=>hm (beq_iff_eq.1 e)),hj];omega
       rw[Ud,Ud,if_neg (by rw[e2];simp;omega),if_neg (by rw[hj];simp),e2,hj];simp only[Int.toNat_natCast,List.length_singleton,Nat.add_zero,List.take_succ_cons,List.drop_succ_cons]
noncomputable def nE (s:ByteArray):List ByteArray:=(oV s.data.toList).map toB
theorem Ai (s:ByteArray):Lib.splitB (⟨#[10]⟩:ByteArray) 0 (Ue s (⟨#[10]⟩:ByteArray)) s=nE s:=by
 have h:=Lib.splitB_data (⟨#[10]⟩:ByteArray) 0 (Ue s (⟨#[10]⟩:ByteArray)) s;have e:(⟨#[10]⟩:ByteArray).data.toList=[10]:=rfl;rw[e]at h;have h2:Ud [10] 0 (Ue s (⟨#[10]⟩:ByteArray)) s.data.toList=oV s.data.toList:=CG s.data.toList;rw[h2]at h;exact Fh h
theorem Ia (s:ByteArray):(nE s).length=Ue s (⟨#[10]⟩:ByteArray)+1:=by
 rw[<-Ai];exact Lib.splitB_all _ (by decide) 0 _ s rfl
noncomputable def nQ (s:ByteArray):Option (List Ac):=if(fA s&&decide ((jF s).length=0))=true then some []else if paB s=true then some [paX s]else none
noncomputable def dK:List ByteArray->Option (List Ac)
  |[]=>some []
  | s :: r => match nQ s with
    |none=>none
    |some a=>(dK r).map (a++·)
theorem Qe {L:List ByteArray} {k:Nat} {az:List Ac} (hk:k<L.length) (H:Hid (dK L=(dK (L.drop k)).map (az++·))) (h:(fA L[k]&&decide ((jF L[k]).length=0))=true):Hid (dK L=(dK (L.drop (k+1))).map (az++·)):=by
 have:=H.out;rw[List.drop_eq_getElem_cons hk,dK,show nQ L[k]=some [] by unfold nQ;rw[if_pos h]]at this;simp only[List.nil_append,Option.map_map]at this;refine TY (this.trans ?_);rcases dK (L.drop (k+1))with _|q<;>rfl
theorem Qf {L:List ByteArray} {k:Nat} {az:List Ac} (hk:k<L.length) (H:Hid (dK L=(dK (L.drop k)).map (az++·))) (h:(fA L[k]&&decide ((jF L[k]).length=0))=false) (h2:paB L[k]=true):Hid (dK L=(dK (L.drop (k+1))).map ((az++[paX L[k]])++·)):=by
 have:=H.out;rw[List.drop_eq_getElem_cons hk,dK,show nQ L[k]=some [paX L[k]] by unfold nQ;rw[if_neg (by rw[h];simp),if_pos h2]]at this;simp only[Option.map_map]at this;refine TY (this.trans ?_);rcases dK (L.drop (k+1))with _|q
 . rfl
 . simp[List.append_assoc]
theorem Ot {L:List ByteArray} {k:Nat} {az:List Ac} (hk:k<L.length) (H:Hid (dK L=(dK (L.drop k)).map (az++·))) (h:(fA L[k]&&decide ((jF L[k]).length=0))=false) (h2:paB L[k]=false):dK L=none:=by
 have:=H.out;rw[List.drop_eq_getElem_cons hk,dK,show nQ L[k]=none by unfold nQ;rw[if_neg (by rw[h];simp),if_neg (by rw[h2];simp)]]at this;exact this
theorem Sg {L:List ByteArray} {k:Nat} {az:List Ac} (hk:L.length<=k) (H:Hid (dK L=(dK (L.drop k)).map (az++·))):dK L=some az:=by
 have:=H.out;rw[List.drop_of_length_le hk]at this;simpa[dK]using this
def Bh (n:Int):ByteArray:=⟨(Lib.itoa n).toArray⟩
noncomputable def sJ (y : Wk) (s : ByteArray) : List ByteArray × Bool := if 20000 < s.size then ([], false) else match dK (nE s) with
  |none=>([],false)
  |some az=>if 40<az.length then([],false)else((yE y az).2.map Bh++lM (yE y az).1,true)
theorem L8 {y:Wk} {s:ByteArray} (h:dK (nE s)=none):sJ y s=([],false):=by
 unfold sJ;split
 . rfl
 . rw[h]
theorem Iy {y:Wk} {s:ByteArray} {az:List Ac} (h:dK (nE s)=some az) (h2:40<az.length):sJ y s=([],false):=by
 unfold sJ;split
 . rfl
 . rw[h];simp only;rw[if_pos h2]
theorem CJ {y:Wk} {s:ByteArray} {az:List Ac} (h1:¬20000<s.size) (h:dK (nE s)=some az) (h2:¬40<az.length):sJ y s=((yE y az).2.map Bh++lM (yE y az).1,true):=by
 unfold sJ;rw[if_neg h1,h];simp only;rw[if_neg h2]
theorem Si (y:Wk) (a:Ac) (hs:bZ y.1): -1<=Cy y a/\Cy y a<=1048576:=by
 have hb:∀b:Bool,0<=bI b/\bI b<=1:=fun b=>by cases b<;>simp[bI]
 unfold Cy;repeat' split
 . have:=hb (mH y a.2);omega
 . unfold Ad;split
   . unfold LU;split
     . have h1:=Jl y.1.2.2.1 (Cn y.1.1 y.1.2.2.1 (Nl y a.2.1));have h2:=hs.2.2.1;unfold Small at h2;omega
     . omega
   . omega
 . have:=hb (sV y sam a.2.1);omega
 . have:=hb (kT y.1).2;omega
 . omega
 . omega
theorem QV:∀(l:List Ac) (y:Wk) (ns:List Int),bZ y.1->(∀n∈ns,-1<=n/\n<=1048576)->∀n∈(goR y ns l).2,-1<=n/\n<=1048576
  |[],y,ns,hs,h=>h
  |a::l,y,ns,hs,h=>QV l _ _ (BK a hs) (fun n hn=>(List.mem_append.1 hn).elim (h n) (fun q=>by rw[List.mem_singleton.1 q];exact Si y a hs))
theorem Np {y:Wk} {l:List Ac} (hs:bZ y.1):∀n∈(yE y l).2,-1<=n/\n<=1048576:=by
 unfold yE;split
 . exact QV l y [] hs (fun n hn=>by cases hn)
 . exact fun n hn=>by cases hn
theorem Nq {y:Wk} {l:List Ac}:(yE y l).2.length<=40:=by
 have h:∀(l:List Ac) (y:Wk) (ns:List Int),(goR y ns l).2.length=ns.length+l.length:=by
  intro l;induction l with
  |nil=>intro y ns;rfl
  |cons a l ih=>intro y ns;exact(ih _ _).trans (by simp;omega)
 unfold yE;split
 . rename_i q;rw[h];simp;exact q.2
 . exact Ub _
theorem Ib:∀(x r:Bs),(∀b∈x,b≠10)->oV (x++10::r)=x::oV r
  | [], r, _ => by
   show oV (10::r)=_;rw[oV,if_pos rfl]
  | c :: x, r, h => by
   rw[List.cons_append,oV,if_neg (h c Ua),Ib x r (fun b hb=>h b (List.mem_cons_of_mem _ hb))]
theorem Tv {l : Bs} (h : l.all okb = true) : ∀ b ∈ l, b ≠ 10 := fun b hb e => by
 have:=List.all_eq_true.1 h b hb;rw[e]at this;exact absurd this (by decide)
theorem Nr {k a b:Int} (h:iP k a b=true):(iN k a b).data.toList=join (uX k a b) [32]:=by
 unfold iN;rw[if_pos h,yN h];rfl
theorem Sj {k a b:Int} (h:iP k a b=true):paX (iN k a b)=(k,a,b)/\paB (iN k a b)=true/\(fA (iN k a b)&&decide ((jF (iN k a b)).length=0))=false:=by
 have hd:=Nr h;have hf:fg [] (iN k a b).data.toList=uX k a b:=(by rw[hd,AR _ (MG k a b)]);have hl:=Pe k a b
 have hne:¬(uX k a b).length=0:=by
  unfold uX;by_cases h1:k=1
  . rw[if_pos h1];exact(by decide:¬3=0)
  . rw[if_neg h1];by_cases h2:k=2
    . rw[if_pos h2];exact(by decide:¬2=0)
    . rw[if_neg h2];by_cases h3:k=3
      . rw[if_pos h3];exact(by decide:¬2=0)
      . rw[if_neg h3];by_cases h4:k=4
        . rw[if_pos h4];exact(by decide:¬1=0)
        . rw[if_neg h4];exact(by decide:¬1=0)
 have a6:fA (iN k a b)=true:=by
  unfold fA;rw[hf,hd,xV,decide_eq_true (show(iN k a b).size<=600 by have:=uJ k a b;omega),decide_eq_true (show(uX k a b).length<=24 by omega)];rfl
 have hp := QI a6 (x := (k, a, b)) (by rw [Fj, hf]; exact hl) ⟨h, by
  show rT k a b=_;unfold Jc jF
  have hm : ((uX k a b).map toB).map (fun x => x.data.toList) = uX k a b := by
   rw[List.map_map];conv=>rhs;rw[<-List.map_id (uX k a b)]
   exact List.map_congr_left fun x _=>wQ x
  rw[hf,hm,yN h]⟩
 exact⟨hp.1,hp.2,by rw[Fj,hf,decide_eq_false hne,Bool.and_false]⟩
theorem Ic : ∀ (l : List AcT) (s : ByteArray), (l.foldl (fun s x => s ++ (yP x ++ (⟨#[10]⟩ : ByteArray))) s).data.toList = s.data.toList ++ (l.map fun x => (yP x).data.toList ++ [10]).flatten
  |[],s=>by simp
  | x :: l, s => by
   rw[List.foldl_cons,Ic l];simp[Uf]
theorem Ie : ∀ (l : List AcT), (∀ a ∈ l, iP a.1 a.2.1 a.2.2 = true) -> oV (l.map fun x => (yP x).data.toList ++ [10]).flatten = l.map (fun x => (yP x).data.toList) ++ [[]]
  |[],_=>rfl
  | x :: l, h => by
   have hx:=h x Ua;have hd:(yP x).data.toList=join (uX x.1 x.2.1 x.2.2) [32]:=Nr hx;rw[T9,List.flatten_cons,List.append_assoc,T9];show oV ((yP x).data.toList++10::(l.map fun x=>(yP x).data.toList++[10]).flatten)=(yP x).data.toList::(l.map (fun x=>(yP x).data.toList)++[[]]);rw[Ib _ _ (by rw[hd];exact Tv (xV _ _ _)),Ie l (fun a ha=>h a (List.mem_cons_of_mem _ ha))]
theorem CQ:∀(l:List AcT),(∀a∈l,iP a.1 a.2.1 a.2.2=true)->dK (l.map yP++[empty])=some l
  | [], _ => by
   show dK [empty]=some [];rw[dK,show nQ empty=some [] by unfold nQ;rw[if_pos (by decide)]];rfl
  | x :: l, h => by
   obtain⟨p1,p2,p3⟩:=Sj (h x Ua)
   have hs:nQ (yP x)=some [x]:=by
    unfold nQ yP;rw[if_neg (by rw[p3];simp),if_pos p2,p1]
   rw[T9,List.cons_append,dK,hs,CQ l (fun a ha=>h a (List.mem_cons_of_mem _ ha))];rfl
theorem J2 {y:Wk} {l:List AcT} (h:∀a∈l,iP a.1 a.2.1 a.2.2=true) (hl:l.length<=40):rU l=true/\sJ y (pQ l)=((yE y l).2.map Bh++lM (yE y l).1,true):=by
 have a6:rU l=true:=by
  unfold rU;rw[decide_eq_true hl,Bool.true_and,List.all_eq_true];exact h
 have hlen:=Bq l l.length (Nat.le_refl _);rw[List.take_length]at hlen;have e:pQ l=FN l:=by unfold pQ;rw[if_pos a6]
 have hd : (FN l).data.toList = (l.map fun x => (yP x).data.toList ++ [10]).flatten := by
  unfold FN;rw[Ic];rfl
 refine⟨a6,?_⟩;rw[e];refine CJ (by omega) ?_ (by omega);unfold nE;rw[hd,Ie l h,List.map_append,List.map_map];have hm:l.map (toB∘fun x=>(yP x).data.toList)=l.map yP:=List.map_congr_left fun x _=>Fb (yP x)
 rw[hm];exact CQ l h
end Go.Proofs.YtjijonhkofhikaaGreatDoor
