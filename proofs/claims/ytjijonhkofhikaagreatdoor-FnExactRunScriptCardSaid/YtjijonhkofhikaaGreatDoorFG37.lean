import Derived.Test.YtjijonhkofhikaaGreatDoorFG35
import Derived.Test.YtjijonhkofhikaaGreatDoorFK12
import Derived.Test.YtjijonhkofhikaaGreatDoorFG7
open _root_.List renaming length_append->Tm,map_cons->Tn
open _root_.Nat renaming zero_le->Tp,le_trans->Tq,le_refl->Tt
open _root_.Go.Lib (index)
open _root_.Go.Lib renaming splitK->Tu,countB->Tv
set_option linter.unusedVariables false
set_option linter.unusedSimpArgs false
set_option maxHeartbeats 4000000
set_option maxRecDepth 100000
namespace Go.Proofs.YtjijonhkofhikaaGreatDoor
open Go.ChangeShapes Go.WideShapes Go.ChangeAt Go.RowKit
section
variable {P : Program} {α : Type} {t E : TypeId} {z : Value} {size bytes : Nat} {enc : α -> List Value}
theorem Cq {ops:Array Oper} {o:Oper} {a:Act} {w:World} {K:Act->World->Prop} {Q:Exit->Act->World->Prop} {E':Prop} (R:Row P t E z size bytes)
    (a8:∀x,(enc x).length=size) (h1:∀x,∀u∈enc x,u.oneCell'=true) {B B2:Nat} (hB:B<=w.heap.size) {v:Value} {l m:List α} (hown:aD E size enc B w v l) {g c:Nat} (hm:aD E size enc B2 w (.slice (some ⟨g,0,none⟩) m.length c) m)
    (hlen:(l.length+m.length)*bytes<=140737488355328) (a6:l.length+m.length<=maxLen) (hgd:o.guard=none)
    (s x:Operand) (ho:o.op= .call {callee:= .builtin .append,args:= #[s,x],argTypes:= #[t,t]})
    (hs:a.eval s=v) (hx:a.eval x= .slice (some ⟨g,0,none⟩) m.length c)
    (h:∀A c' w',aD E size enc B w' (.slice A (l.length+m.length) c') (l++m)->w.grownBy w' v.ownBlock->K (a.put o.dst (.slice A (l.length+m.length) c')) w'):
    if Region.wanted o (yielded ops a.tmps)=true then Oper.wp P o a w K Q else E':=by
 have hw:Region.wanted o (yielded ops a.tmps)=true:=(by simp[Region.wanted,hgd]);rw[if_pos hw];obtain⟨ht,a7,hzs,hsz⟩:=R;obtain⟨i0,hi,hz0,hz1,hz2⟩:=info_parts a7
 obtain⟨v',w',hrun,h2,h3,_,h5⟩:=run_append_own_at (P:=P) w B t o.type E i0 z size bytes ht hi hz0 hz1 hz2 hzs hsz v l.length (l.flatMap enc) hown
   ⟨g,0,none⟩ m.length c (m.flatMap enc) (iB a8 m) (World.ownsRow.cells (g:=g) hm rfl) (IL h1 m) a6 hlen hB
 have hO:aD E size enc B w' v' (l++m):=by
  unfold aD;rw[Tm,List.flatMap_append];exact h2
 obtain⟨A',c',e,_⟩:=hO.form;rw[Tm]at e;subst e;unfold Oper.wp execOp;simp only[ho,resolve,invoke,builtin,Sem.run_bind,Sem.run_pure,Result.andThen_ok,List.map_toArray,Tn,List.map_nil,hs,hx,hrun];exact h A' c' w' hO h3
end
def wl (word:ByteArray) (x:Int):ByteArray:=word++iJ x
def uK:ByteArray:=⟨#[102,108,105,112,115,32]⟩
def uL:ByteArray:=⟨#[115,116,111,99,107,32]⟩
def uM:ByteArray:=⟨#[115,112,101,110,116,32]⟩
def Az:ByteArray:=⟨#[114,101,112,97,105,114,115,32]⟩
theorem PZ {word w2:ByteArray} (h:w2.data=word.data++ #[32]) (x:Int):iA word [x]=wl w2 x:=by
 show word++(⟨#[32]⟩:ByteArray)++iJ x=w2++iJ x;congr 1
 apply ByteArray.ext;rw[ByteArray.data_append,h]
def L8 (x:Wk):List ByteArray:=[wl uK x.1.2.2.2.length,wl uL x.2.1,wl uM x.2.2.1,wl Az x.2.2.2]
def iI (x:Wk):List ByteArray:=if dF x=true then eQ x.1.1 x.1.2.2.1++L8 x else[]
theorem nJ (rows:List Int) (l:List Dm):(eQ rows l).length<=rows.length:=by
 unfold eQ;split
 . simp[pU]
 . exact Tp _
theorem EK {x:Wk} (h:dF x=true):x.1.2.2.2.length<=60/\(0<=x.2.1/\x.2.1<=10000)/\(0<=x.2.2.1/\x.2.2.1<=10000)/\(0<=x.2.2.2/\x.2.2.2<=10000):=by
 unfold dF dG inB at h;simp at h;omega
theorem sD {x:Wk} (h:dF x=true):x.1.1.length<=8:=by
 unfold dF dG eF at h;simp only[Bool.and_eq_true]at h;exact(iW h.1.1.1.1.1).1.1
theorem Cr (x:Wk):(iI x).length<=1048576:=by
 unfold iI;split
 . rename_i h;have h1:=sD h;have h2:=nJ x.1.1 x.1.2.2.1;rw[Tm];have:(L8 x).length=4:=rfl;omega
 . exact Tp _
theorem M9 (u v:Value) (l:List ByteArray) (w:World) (h:Rd 1 (RE fJ) w u l) (h':Rd 1 (RE fJ) w v l):Calls Tryz.prog 15 #[u,v] w (Ret (.bool true) w):=by
 have:=KT u v l l w h h';rw[decide_eq_true (rfl:l=l)]at this;exact this
def Ln (B:Nat) (W:World) (v:Value) (x:Int):Prop:=aD 3 1 aW B W v [x]/\0<=x/\x<=10000
theorem Ln.bl {B:Nat} {W W':World} {v:Value} {x:Int} (h:Ln B W v x) (hb:Below W.heap.size W W'):Ln B W' v x:=⟨h.1.below hb,h.2⟩
theorem KO (w:World) (o:Obj):(w.alloc o).heap.size=w.heap.size+1:=by simp
theorem Ji {B g:Nat} {W:World} {x:Int} (hB:B<=g) (hb:Blk W g 3 #[.int .i64 x]) (h:0<=x/\x<=10000):Ln B W (.slice (some ⟨g,0,none⟩) 1 1) x:=
 ⟨⟨by simp[aW],.inr ⟨g,1,#[.int .i64 x],rfl,hB,hb,by simp,by simp[maxLen],by simp,by simp[aW]⟩⟩,h⟩
theorem sF {B:Nat} {v:Value} {x:Int} {W:World} (word w2:ByteArray) (h:Ln B W v x) (hw:word.size<=100) (h2:w2.data=word.data++ #[32]) (ht:Tab W):Calls Tryz.prog 32 #[.string word,v] W (Ret (.string (wl w2 x)) W):=by
 rw[<-PZ h2];exact rR word v [x] W (h.1.rd aM (by decide)) hw (by simp) (Tk (by have:=h.2;simp;omega)) ht
theorem KP {w0 W:World} (Bw:Below w0.heap.size w0 W) {B:Nat} (hB:B<=w0.heap.size) (a b c d:ByteArray):aD 9 1 fJ B (W.alloc (.cells #[.string a,.string b,.string c,.string d] 9)) (.slice (some ⟨W.heap.size,0,none⟩) 4 4) [a,b,c,d]:=by
 have e:[a,b,c,d].flatMap fJ=[.string a,.string b,.string c,.string d]:=rfl;unfold aD;rw[e];exact⟨by simp,.inr ⟨W.heap.size,4,#[.string a,.string b,.string c,.string d],rfl,Tq hB Bw.size,heap_alloc_new W _,by simp,by simp[maxLen],by simp,by simp⟩⟩
set_option maxHeartbeats 16000000 in
theorem LJ (v1 v2 v3 v4:Value) (rows:List Int) (f n:List Dm) (fl:List Cl) (s p r:Int) (w:World) (h1:Rd 1 aZ w v1 rows) (h2:Rd 3 aQ w v2 f) (h3:Rd 3 aQ w v3 n) (h4:Rd 2 bT w v4 fl) (hs:bQ (rows,f,n,fl)) (ht:Tab w):
 Calls Tryz.prog 12 #[.agg #[v1,v2,v3,v4,.int .i64 s,.int .i64 p,.int .i64 r]] w (fM 9 1 fJ (iI ((rows,f,n,fl),s,p,r)) w):=by
 have HT:=Tk ht;clear ht;obtain⟨A1,c1,rfl,_,_⟩:=h1.form;obtain⟨A2,c2,rfl,_,_⟩:=h2.form;obtain⟨A3,c3,rfl,_,_⟩:=h3.form;obtain⟨A4,c4,rfl,_,_⟩:=h4.form;have B0:=(Below.refl w.heap.size w).al (.cells #[.slice A1 rows.length c1,.slice A2 f.length c2,.slice A3 n.length c3,.slice A4 fl.length c4,.int .i64 s,.int .i64 p,.int .i64 r] 32);have bP:=Blk.aX w 32 #[.slice A1 rows.length c1,.slice A2 f.length c2,.slice A3 n.length c3,.slice A4 fl.length c4,.int .i64 s,.int .i64 p,.int .i64 r];rcases bD:dF ((rows,f,n,fl),s,p,r)with _|_
 all_goals have bM:=Tk bD
 . have e : iI ((rows, f, n, fl), s, p, r) = [] := by unfold iI; rw [bD]; rfl
   rw[e];go_enter Tryz.func12,Tryz.ntmps12
   go_wp2_with fail
   refine(iM _ _ _ _ ((rows,f,n,fl),s,p,r) _ (h1.Tj B0) (h2.Tj B0) (h3.Tj B0) (h4.Tj B0) hs.2.1).mono ?_;rintro e w1 ⟨rfl,hb1⟩;rw[bM.out];go_wp2;go_ret;exact⟨none,0,rfl,nS _,B0.tr hb1⟩
 . skip;have e:iI ((rows,f,n,fl),s,p,r)=eQ rows n++[wl uK (fl.length:Int),wl uL s,wl uM p,wl Az r]:=by unfold iI;rw[bD];rfl
   rw[e];obtain⟨F,hF⟩:=Ti (eQ rows n);rw[<-hF];have bB:=EK bD;have N1:Hid (0<=(fl.length:Int)/\(fl.length:Int)<=10000):=Tk (by have:=bB.1;simp only at this;omega);have N2:=Tk bB.2.1;have N3:=Tk bB.2.2.1;have N4:=Tk bB.2.2.2;simp only at N2 N3 N4;have cA:rows.length<=8:=sD bD;have b7:F.length<=rows.length:=by rw[hF];exact nJ rows n
   have HF:=Tk hF;clear hF;clear bB bD e;go_enter Tryz.func12,Tryz.ntmps12
   go_wp2_with fail
   refine(iM _ _ _ _ ((rows,f,n,fl),s,p,r) _ (h1.Tj B0) (h2.Tj B0) (h3.Tj B0) (h4.Tj B0) hs.2.1).mono ?_;rintro e w1 ⟨rfl,hb1⟩;rw[bM.out];have B1:=B0.tr hb1;have bJ:=bP.bl hb1;have cB:=bJ.lt;obtain⟨bN,bO,bR,bS,bU,bY,b5⟩:=bJ.n7;go_wp2_with fail
   refine(Cy _ _ rows n _ (h1.Tj B1) (h3.Tj B1)).mono ?_;rintro e w2 ⟨C,c,rfl,bE,hb2⟩;have B2:=B1.tr hb2;have bK:=bJ.bl hb2;clear bN bO bR bS bU bY b5;have b8:=bK.lt;obtain⟨bN,bO,bR,bS,bU,bY,b5⟩:=bK.n7;have Bw:Below w2.heap.size w2 w2:=Below.refl _ _;have hz:w2.heap.size<=w2.heap.size:=Tt _;rw[<-HF.out]at bE⊢;have H8:Hid ((F.length+4)*16<=140737488355328):=Tk (by omega);have HM:Hid (F.length+4<=maxLen):=Tk (by unfold maxLen;omega);go_wp2_with fail
   have Bw:Below w2.heap.size w2 w2.drew:=Bw.drew;have hz:w2.heap.size<=w2.drew.heap.size:=Bw.size;have o0:=bE.below Bw;refine rB (fun w'=>w'.cell? ⟨w.heap.size,3,none⟩=some (.slice A4 fl.length c4)/\w'.cell? ⟨w.heap.size,4,none⟩=some (.int .i64 s)/\w'.cell? ⟨w.heap.size,5,none⟩=some (.int .i64 p)/\w'.cell? ⟨w.heap.size,6,none⟩=some (.int .i64 r)) fun hHeld=>?_
   repeat' (first
    |((with_reducible show AllReadyH _ _ _ _ _ _ _ _ _ _);first
    |(with_reducible exact AllReadyH.nil)
    | (refine tN 5 (fun K hK=>?_) ?_
       ((try clear hH);(try (have hH:=hHeld;clear hHeld));refine rZ (x:=((fl.length:Int):Int)) rfl _ rfl rfl ?_;intro gX wX a6 bX bC;(try replace o1:=o1.bl a6);(try replace o2:=o2.bl a6);(try replace o3:=o3.bl a6);(try replace o4:=o4.bl a6);have o1:=Ji (Tq hz bC) bX (N1.out);replace o0:=o0.below a6;(try clear a8 bA);obtain⟨a8,bA,a7⟩:=bkn a6 w2.heap.size hz;replace hz:=a7;replace Bw:=Bw.tr a6;clear a6 a7 bX bC)
       refine tK hK fun hHeld=>?_
       clear hK K)
    | (refine tN 6 (fun K hK=>?_) ?_
       ((try clear hH);(try (have hH:=hHeld;clear hHeld));go_simp;go_at_call 32;go_must (refine(sF _ uK (by first|exact o1|exact o2|exact o3|exact o4) (by decide) rfl (HT.out.below (B2.tr Bw))).mono ?_;rintro e wX ⟨rfl,a6⟩;(try replace o1:=o1.bl a6);(try replace o2:=o2.bl a6);(try replace o3:=o3.bl a6);(try replace o4:=o4.bl a6);replace o0:=o0.below a6;(try clear a8 bA);obtain⟨a8,bA,a7⟩:=bkn a6 w2.heap.size hz;replace hz:=a7;replace Bw:=Bw.tr a6;clear a6 a7))
       refine tK hK fun hHeld=>?_
       clear hK K)
    | (refine tN 9 (fun K hK=>?_) ?_
       ((try clear hH);(try (have hH:=hHeld;clear hHeld));refine rZ (x:=(s:Int)) rfl _ rfl rfl ?_;intro gX wX a6 bX bC;(try replace o1:=o1.bl a6);(try replace o2:=o2.bl a6);(try replace o3:=o3.bl a6);(try replace o4:=o4.bl a6);have o2:=Ji (Tq hz bC) bX (N2.out);replace o0:=o0.below a6;(try clear a8 bA);obtain⟨a8,bA,a7⟩:=bkn a6 w2.heap.size hz;replace hz:=a7;replace Bw:=Bw.tr a6;clear a6 a7 bX bC)
       refine tK hK fun hHeld=>?_
       clear hK K)
    | (refine tN 10 (fun K hK=>?_) ?_
       ((try clear hH);(try (have hH:=hHeld;clear hHeld));go_simp;go_at_call 32;go_must (refine(sF _ uL (by first|exact o1|exact o2|exact o3|exact o4) (by decide) rfl (HT.out.below (B2.tr Bw))).mono ?_;rintro e wX ⟨rfl,a6⟩;(try replace o1:=o1.bl a6);(try replace o2:=o2.bl a6);(try replace o3:=o3.bl a6);(try replace o4:=o4.bl a6);replace o0:=o0.below a6;(try clear a8 bA);obtain⟨a8,bA,a7⟩:=bkn a6 w2.heap.size hz;replace hz:=a7;replace Bw:=Bw.tr a6;clear a6 a7))
       refine tK hK fun hHeld=>?_
       clear hK K)
    | (refine tN 13 (fun K hK=>?_) ?_
       ((try clear hH);(try (have hH:=hHeld;clear hHeld));refine rZ (x:=(p:Int)) rfl _ rfl rfl ?_;intro gX wX a6 bX bC;(try replace o1:=o1.bl a6);(try replace o2:=o2.bl a6);(try replace o3:=o3.bl a6);(try replace o4:=o4.bl a6);have o3:=Ji (Tq hz bC) bX (N3.out);replace o0:=o0.below a6;(try clear a8 bA);obtain⟨a8,bA,a7⟩:=bkn a6 w2.heap.size hz;replace hz:=a7;replace Bw:=Bw.tr a6;clear a6 a7 bX bC)
       refine tK hK fun hHeld=>?_
       clear hK K)
    | (refine tN 14 (fun K hK=>?_) ?_
       ((try clear hH);(try (have hH:=hHeld;clear hHeld));go_simp;go_at_call 32;go_must (refine(sF _ uM (by first|exact o1|exact o2|exact o3|exact o4) (by decide) rfl (HT.out.below (B2.tr Bw))).mono ?_;rintro e wX ⟨rfl,a6⟩;(try replace o1:=o1.bl a6);(try replace o2:=o2.bl a6);(try replace o3:=o3.bl a6);(try replace o4:=o4.bl a6);replace o0:=o0.below a6;(try clear a8 bA);obtain⟨a8,bA,a7⟩:=bkn a6 w2.heap.size hz;replace hz:=a7;replace Bw:=Bw.tr a6;clear a6 a7))
       refine tK hK fun hHeld=>?_
       clear hK K)
    | (refine tN 17 (fun K hK=>?_) ?_
       ((try clear hH);(try (have hH:=hHeld;clear hHeld));refine rZ (x:=(r:Int)) rfl _ rfl rfl ?_;intro gX wX a6 bX bC;(try replace o1:=o1.bl a6);(try replace o2:=o2.bl a6);(try replace o3:=o3.bl a6);(try replace o4:=o4.bl a6);have o4:=Ji (Tq hz bC) bX (N4.out);replace o0:=o0.below a6;(try clear a8 bA);obtain⟨a8,bA,a7⟩:=bkn a6 w2.heap.size hz;replace hz:=a7;replace Bw:=Bw.tr a6;clear a6 a7 bX bC)
       refine tK hK fun hHeld=>?_
       clear hK K)
    | (refine tN 18 (fun K hK=>?_) ?_
       ((try clear hH);(try (have hH:=hHeld;clear hHeld));go_simp;go_at_call 32;go_must (refine(sF _ Az (by first|exact o1|exact o2|exact o3|exact o4) (by decide) rfl (HT.out.below (B2.tr Bw))).mono ?_;rintro e wX ⟨rfl,a6⟩;(try replace o1:=o1.bl a6);(try replace o2:=o2.bl a6);(try replace o3:=o3.bl a6);(try replace o4:=o4.bl a6);replace o0:=o0.below a6;(try clear a8 bA);obtain⟨a8,bA,a7⟩:=bkn a6 w2.heap.size hz;replace hz:=a7;replace Bw:=Bw.tr a6;clear a6 a7))
       refine tK hK fun hHeld=>?_
       clear hK K)
    | (refine tN 19 (fun K hK=>?_) ?_
       (go_simp;have oS:=KP (B:=w.heap.size) Bw B2.size (wl uK (fl.length:Int)) (wl uL s) (wl uM p) (wl Az r);(try simp only[KO]at oS);have o0:=o0.alloc (.cells #[.string (wl uK (fl.length:Int)),.string (wl uL s),.string (wl uM p),.string (wl Az r)] 9);have Bw:=Bw.al (.cells #[.string (wl uK (fl.length:Int)),.string (wl uL s),.string (wl uM p),.string (wl Az r)] 9);have hz:=Bw.size)
       refine tK hK fun hHeld=>?_
       clear hK K)
    | (refine tN 20 (fun K hK=>?_) ?_
       (refine Cq (enc:=fJ) mW eZ nM (B:=w1.heap.size) (hb2.tr Bw).size o0 oS H8.out HM.out rfl _ _ rfl rfl rfl ?_;intro A5 c5 w5 bL b6;have bF:∀k,(Value.slice C F.length c).ownBlock=some k->w1.heap.size<=k:=(fun k hk=>(World.ownsRow.lt o0 k hk).1);have B5:Below w.heap.size w w5:=(B2.tr Bw).grown b6 (B2.tr Bw).size (fun k hk=>Tq B1.size (bF k hk));have b9:=(bK.below Bw b8).grown b6 (fun e=>by have:=bF _ e.symm;omega);obtain⟨cC,cD,cE,cF,cG,cH,cI⟩:=b9.n7)
       refine tK hK fun hHeld=>?_
       clear hK K)
    )
    |((with_reducible show wpAnyH _ _ _ _ _ _ _ _ _);first
    |(refine(tQ [5,9,13,17]) ?_)
    |(refine(tQ [6,9,13,17]) ?_)
    |(refine(tQ [9,13,17]) ?_)
    |(refine(tQ [10,13,17]) ?_)
    |(refine(tQ [13,17]) ?_)
    |(refine(tQ [14,17]) ?_)
    |(refine(tQ [17]) ?_)
    |(refine(tQ [18]) ?_)
    |(refine(tQ [19]) ?_)
    |(refine(tQ [20]) ?_)
    |(refine(tQ [14]) ?_)
    |(refine(tQ [13]) ?_)
    |(refine(tQ [10,17]) ?_)
    |(refine(tQ [10]) ?_)
    |(refine(tQ [10,13]) ?_)
    |(refine(tQ [9,17]) ?_)
    |(refine(tQ [9]) ?_)
    |(refine(tQ [9,13]) ?_)
    |(refine(tQ [6,13,17]) ?_)
    |(refine(tQ [6,17]) ?_)
    |(refine(tQ [6]) ?_)
    |(refine(tQ [6,13]) ?_)
    |(refine(tQ [6,9,17]) ?_)
    |(refine(tQ [6,9]) ?_)
    |(refine(tQ [6,9,13]) ?_)
    |(refine(tQ [5,13,17]) ?_)
    |(refine(tQ [5,17]) ?_)
    |(refine(tQ [5]) ?_)
    |(refine(tQ [5,13]) ?_)
    |(refine(tQ [5,9,17]) ?_)
    |(refine(tQ [5,9]) ?_)
    |(refine(tQ [5,9,13]) ?_)
    |(refine(tX 0) ?_)
    |(refine(tX 1) ?_)
    |(refine(tX 2) ?_)
    |(refine(tX 3) ?_)
    |(refine(tX 4) ?_)
    |(refine(tX 7) ?_)
    |(refine(tX 8) ?_)
    |(refine(tX 11) ?_)
    |(refine(tX 12) ?_)
    |(refine(tX 15) ?_)
    |(refine(tX 16) ?_)
    |(refine(tX 21) ?_)
    |(refine tE ?_)))
   all_goals (refine⟨trivial,?_⟩)
   all_goals
     go_wp2;go_ret;exact⟨A5,c5,by rw[Tm];rfl,by rw[Tm];exact bL.mono B1.size,B5⟩
def lC:Bs->List Bs
  |[]=>[[]]
  | c :: r => if c = 10 then [] :: lC r else match lC r with
    |h::t=>(c::h)::t
    |[]=>[[c]]
theorem P5 (l:Bs):index (10::l) [10]=((0:Nat):Int):=by rw[index];simp[List.isPrefixOf]
theorem P6 {b:UInt8} (l:Bs) (h:b≠10):index (b::l) [10]=if index l [10]== -1 then-1 else index l [10]+1:=by
 have hp:([10]:List UInt8).isPrefixOf (b::l)=false:=(by simp[List.isPrefixOf,Ne.symm h]);rw[index,hp];simp
theorem Cs:∀s:Bs,Tu [10] 0 (Lib.count s [10]) s=lC s
  |[]=>by rw[Lib.count_miss (by simp[index])];rfl
  | b :: l => by
   have ih:=Cs l;by_cases h:b=10
   . subst h;rw[Lib.count_cons_eq,Nat.add_comm 1,Tu,P5];unfold lC;rw[if_neg (by decide),if_pos rfl];simp only[Int.toNat_natCast,List.length_singleton,Nat.zero_add,List.take_zero,List.drop_succ_cons,List.drop_zero];rw[ih]
   . have e1:=P6 l h;rw[Lib.count_cons_ne _ _ _ h];unfold lC;rw[if_neg h,<-ih];by_cases hm:index l [10]= -1
     . rw[Lib.count_miss hm];rfl
     . have a6:=Lib.index_ge l [10];obtain⟨j,hj⟩:∃j:Nat,index l [10]=j:=⟨(index l [10]).toNat,by omega⟩;rw[Lib.count_hit (by simp) hj,Nat.add_comm 1];have e2:index (b::l) [10]=((j+1:Nat):Int):=by rw[e1,if_neg (fun e=>hm (beq_iff_eq.1 e)),hj];omega
       rw[Tu,Tu,if_neg (by rw[e2];simp;omega),if_neg (by rw[hj];simp),e2,hj];simp only[Int.toNat_natCast,List.length_singleton,Nat.add_zero,List.take_succ_cons,List.drop_succ_cons]
noncomputable def jV (s:ByteArray):List ByteArray:=(lC s.data.toList).map toB
theorem zX (s:ByteArray):Lib.splitB (⟨#[10]⟩:ByteArray) 0 (Tv s (⟨#[10]⟩:ByteArray)) s=jV s:=by
 have h:=Lib.splitB_data (⟨#[10]⟩:ByteArray) 0 (Tv s (⟨#[10]⟩:ByteArray)) s;have e:(⟨#[10]⟩:ByteArray).data.toList=[10]:=rfl;rw[e]at h;have h2:Tu [10] 0 (Tv s (⟨#[10]⟩:ByteArray)) s.data.toList=lC s.data.toList:=Cs s.data.toList;rw[h2]at h;exact E5 h
theorem GY (s:ByteArray):(jV s).length=Tv s (⟨#[10]⟩:ByteArray)+1:=by
 rw[<-zX];exact Lib.splitB_all _ (by decide) 0 _ s rfl
noncomputable def nG (s:ByteArray):Option (List Ac):=if(dK s&&decide ((eH s).length=0))=true then some []else if paB s=true then some [paX s]else none
noncomputable def cZ:List ByteArray->Option (List Ac)
  |[]=>some []
  | s :: r => match nG s with
    |none=>none
    |some a=>(cZ r).map (a++·)
theorem P7 {L:List ByteArray} {k:Nat} {az:List Ac} (hk:k<L.length) (H:Hid (cZ L=(cZ (L.drop k)).map (az++·))) (h:(dK L[k]&&decide ((eH L[k]).length=0))=true):Hid (cZ L=(cZ (L.drop (k+1))).map (az++·)):=by
 have:=H.out;rw[List.drop_eq_getElem_cons hk,cZ,show nG L[k]=some [] by unfold nG;rw[if_pos h]]at this;simp only[List.nil_append,Option.map_map]at this;refine Tk (this.trans ?_);rcases cZ (L.drop (k+1))with _|q<;>rfl
theorem P8 {L:List ByteArray} {k:Nat} {az:List Ac} (hk:k<L.length) (H:Hid (cZ L=(cZ (L.drop k)).map (az++·))) (h:(dK L[k]&&decide ((eH L[k]).length=0))=false) (h2:paB L[k]=true):Hid (cZ L=(cZ (L.drop (k+1))).map ((az++[paX L[k]])++·)):=by
 have:=H.out;rw[List.drop_eq_getElem_cons hk,cZ,show nG L[k]=some [paX L[k]] by unfold nG;rw[if_neg (by rw[h];simp),if_pos h2]]at this;simp only[Option.map_map]at this;refine Tk (this.trans ?_);rcases cZ (L.drop (k+1))with _|q
 . rfl
 . simp[List.append_assoc]
theorem Oi {L:List ByteArray} {k:Nat} {az:List Ac} (hk:k<L.length) (H:Hid (cZ L=(cZ (L.drop k)).map (az++·))) (h:(dK L[k]&&decide ((eH L[k]).length=0))=false) (h2:paB L[k]=false):cZ L=none:=by
 have:=H.out;rw[List.drop_eq_getElem_cons hk,cZ,show nG L[k]=none by unfold nG;rw[if_neg (by rw[h];simp),if_neg (by rw[h2];simp)]]at this;exact this
theorem RL {L:List ByteArray} {k:Nat} {az:List Ac} (hk:L.length<=k) (H:Hid (cZ L=(cZ (L.drop k)).map (az++·))):cZ L=some az:=by
 have:=H.out;rw[List.drop_of_length_le hk]at this;simpa[cZ]using this
def xD (n:Int):ByteArray:=⟨(Lib.itoa n).toArray⟩
noncomputable def lY (y : Wk) (s : ByteArray) : List ByteArray × Bool := if 20000 < s.size then ([], false) else match cZ (jV s) with
  |none=>([],false)
  |some az=>if 40<az.length then([],false)else((rQ y az).2.map xD++iI (rQ y az).1,true)
theorem EL {y:Wk} {s:ByteArray} (h:cZ (jV s)=none):lY y s=([],false):=by
 unfold lY;split
 . rfl
 . rw[h]
theorem zY {y:Wk} {s:ByteArray} {az:List Ac} (h:cZ (jV s)=some az) (h2:40<az.length):lY y s=([],false):=by
 unfold lY;split
 . rfl
 . rw[h];simp only;rw[if_pos h2]
theorem Ct {y:Wk} {s:ByteArray} {az:List Ac} (h1:¬20000<s.size) (h:cZ (jV s)=some az) (h2:¬40<az.length):lY y s=((rQ y az).2.map xD++iI (rQ y az).1,true):=by
 unfold lY;rw[if_neg h1,h];simp only;rw[if_neg h2]
theorem RN (y:Wk) (a:Ac) (hs:bQ y.1): -1<=zD y a/\zD y a<=1048576:=by
 have hb:∀b:Bool,0<=bI b/\bI b<=1:=fun b=>by cases b<;>simp[bI]
 unfold zD;repeat' split
 . have:=hb (nZ y a.2);omega
 . unfold FM;split
   . unfold LB;split
     . have h1:=Ja y.1.2.2.1 (Ce y.1.1 y.1.2.2.1 (M0 y a.2.1));have h2:=hs.2.2.1;unfold Small at h2;omega
     . omega
   . omega
 . have:=hb (tF y sam a.2.1);omega
 . have:=hb (iU y.1).2;omega
 . omega
 . omega
theorem QK:∀(l:List Ac) (y:Wk) (ns:List Int),bQ y.1->(∀n∈ns,-1<=n/\n<=1048576)->∀n∈(goR y ns l).2,-1<=n/\n<=1048576
  |[],y,ns,hs,h=>h
  |a::l,y,ns,hs,h=>QK l _ _ (xP a hs) (fun n hn=>(List.mem_append.1 hn).elim (h n) (fun q=>by rw[List.mem_singleton.1 q];exact RN y a hs))
theorem Na {y:Wk} {l:List Ac} (hs:bQ y.1):∀n∈(rQ y l).2,-1<=n/\n<=1048576:=by
 unfold rQ;split
 . exact QK l y [] hs (fun n hn=>by cases hn)
 . exact fun n hn=>by cases hn
theorem IJ {y:Wk} {l:List Ac}:(rQ y l).2.length<=40:=by
 have h:∀(l:List Ac) (y:Wk) (ns:List Int),(goR y ns l).2.length=ns.length+l.length:=by
  intro l;induction l with
  |nil=>intro y ns;rfl
  |cons a l ih=>intro y ns;exact(ih _ _).trans (by simp;omega)
 unfold rQ;split
 . rename_i q;rw[h];simp;exact q.2
 . exact Tp _
theorem EM:∀(p r:Bs),(∀c∈p,c≠10)->lC (p++10::r)=p::lC r
  |[],r,_=>by rw[List.nil_append,lC,if_pos rfl]
  |c::p,r,h=>by rw[List.cons_append,lC,if_neg (h c (List.mem_cons_self ..)),EM p r (fun x hx=>h x (List.mem_cons_of_mem _ hx))]
theorem EN:∀(p:Bs),(∀c∈p,c≠10)->lC p=[p]
  |[],_=>rfl
  |c::p,h=>by rw[lC,if_neg (h c (List.mem_cons_self ..)),EN p (fun x hx=>h x (List.mem_cons_of_mem _ hx))]
def LnS (t:ByteArray) (k b:Nat) (az:List Ac):Prop:=b<=k/\k<=t.size/\(∀c∈(t.data.toList.drop b).take (k-b),c≠10)/\cZ (jV t)=(cZ ((lC (t.data.toList.drop b)).map toB)).map (az++·)
def LnT (t:ByteArray) (k b:Nat) (az:List Ac):Prop:=LnS t k b az∨(k=t.size+1/\cZ (jV t)=some az)
theorem P9 (t : ByteArray) : LnT t 0 0 [] := .inl ⟨Tt _, Tp _, by simp, by
 rw[List.drop_zero];show cZ (jV t)=_;unfold jV;rcases cZ ((lC t.data.toList).map toB)with _|q<;>rfl⟩
theorem Qa {t:ByteArray} {k b:Nat} (hk:k<t.size) (hb:b<=k):(t.data.toList.drop b).take (k+1-b)=(t.data.toList.drop b).take (k-b)++[t[k]]:=by
 obtain⟨a6,e⟩:=OI t hk;rw[show k+1-b=k-b+1 by omega,List.take_add_one,List.getElem?_drop,show b+(k-b)=k by omega,List.getElem?_eq_getElem a6,e];rfl
theorem RO {t:ByteArray} {k b:Nat} {az:List Ac} (hk:k<t.size) (hc:t[k].toNat≠10) (h:LnS t k b az):LnT t (k+1) b az:=by
 obtain⟨h1,h2,h3,h4⟩:=h;refine .inl ⟨by omega,by omega,?_,h4⟩;rw[Qa hk h1];intro c hx;rcases List.mem_append.1 hx with q|q
 . exact h3 c q
 . rw[List.mem_singleton.1 q];intro e;apply hc;rw[e];rfl
theorem QL (t:ByteArray) (b k:Nat):toB ((t.data.toList.drop b).take (k-b))=t.extract b k:=by rw[<-ext_list,Ai]
theorem IK {t:ByteArray} {k b:Nat} {az:List Ac} (hk:∀h:k<t.size,t[k].toNat=10) (h:LnS t k b az):
 (∀a,nG (t.extract b k)=some a->LnT t (k+1) (k+1) (az++a))/\(nG (t.extract b k)=none->cZ (jV t)=none):=by
 obtain⟨h1,h2,h3,h4⟩:=h;by_cases hlt:k<t.size
 . obtain⟨a6,e⟩:=OI t hlt
   have hd:t.data.toList.drop b=(t.data.toList.drop b).take (k-b)++10::t.data.toList.drop (k+1):=by
    have e2:t[k]=10:=UInt8.toNat_inj.1 (hk hlt);rw[<-e2,<-e,<-List.drop_eq_getElem_cons a6];conv=>lhs;rw[<-List.take_append_drop (k-b) (t.data.toList.drop b),List.drop_drop,show b+(k-b)=k by omega]
   have hl:lC (t.data.toList.drop b)=(t.data.toList.drop b).take (k-b)::lC (t.data.toList.drop (k+1)):=by
    rw[<-EM _ _ h3,<-hd]
   rw[hl,Tn,QL,cZ]at h4;refine⟨fun a ha=> .inl ⟨Tt _,hlt,by simp,?_⟩,fun hn=>by rw[hn]at h4;exact h4⟩;rw[ha]at h4;rw[h4];simp only;rcases cZ ((lC (t.data.toList.drop (k+1))).map toB)with _|q
   . rfl
   . simp[List.append_assoc]
 . obtain rfl : k = t.size := by omega
   have hd:(t.data.toList.drop b).take (t.size-b)=t.data.toList.drop b:=List.take_of_length_le (by rw[List.length_drop,Array.length_toList];exact Tt _)
   have hl:lC (t.data.toList.drop b)=[(t.data.toList.drop b).take (t.size-b)]:=by
    rw[hd]at h3⊢;exact EN _ h3
   rw[hl,Tn,QL,cZ]at h4;refine⟨fun a ha=> .inr ⟨rfl,?_⟩,fun hn=>by rw[hn]at h4;exact h4⟩;rw[ha]at h4;rw[h4];simp[cZ]
theorem Nb {t:ByteArray} {k b:Nat} {az:List Ac} (hk:∀h:k<t.size,t[k].toNat=10) (h:LnS t k b az) (h2:(dK (t.extract b k)&&decide ((eH (t.extract b k)).length=0))=true):LnT t (k+1) (k+1) az:=by
 have:=(IK hk h).1 [] (by unfold nG;rw[if_pos h2]);rw[List.append_nil]at this;exact this
theorem Nc {t:ByteArray} {k b:Nat} {az:List Ac} (hk:∀h:k<t.size,t[k].toNat=10) (h:LnS t k b az) (h2:(dK (t.extract b k)&&decide ((eH (t.extract b k)).length=0))=false) (h3:paB (t.extract b k)=true):LnT t (k+1) (k+1) (az++[paX (t.extract b k)]):=
 (IK hk h).1 _ (by unfold nG;rw[if_neg (by rw[h2];simp),if_pos h3])
theorem KQ {t:ByteArray} {k b:Nat} {az:List Ac} (hk:∀h:k<t.size,t[k].toNat=10) (h:LnS t k b az) (h2:(dK (t.extract b k)&&decide ((eH (t.extract b k)).length=0))=false) (h3:paB (t.extract b k)=false):cZ (jV t)=none:=
 (IK hk h).2 (by unfold nG;rw[if_neg (by rw[h2];simp),if_neg (by rw[h3];simp)])
theorem JO {y:Wk} {s:ByteArray} (h:20000<s.size):lY y s=([],false):=by unfold lY;rw[if_pos h]
theorem JP (y:Wk) (s:ByteArray):(lY y s).1.length<=1048576:=by
 unfold lY;split
 . simp
 . split
   . simp
   . split
     . simp
     . rename_i az _ _;have h1:=IJ (y:=y) (l:=az)
       have h2:(iI (rQ y az).1).length<=12:=by
        unfold iI;split
        . rename_i h;have h1:=sD h;have h2:=nJ (rQ y az).1.1.1 (rQ y az).1.1.2.2.1;rw[Tm];have:(L8 (rQ y az).1).length=4:=rfl;omega
        . exact Tp _
       simp only[Tm,List.length_map];omega
end Go.Proofs.YtjijonhkofhikaaGreatDoor
