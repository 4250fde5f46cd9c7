/- FormatWorkshop of both sides: the walks. Conditions: sizes that the laws let by; the library's table of powers, as its text lays it. FnSummaries: the law's walk. No conditions but sizes; the library's table of powers. -/
import Derived.Test.YtljfoohaapckeaaGreatDoorCG8
import Derived.Test.YtljfoohaapckeaaGreatDoorCG23
import Derived.Test.YtljfoohaapckeaaGreatDoorCK12
import Derived.Test.YtljfoohaapckeaaGreatDoorCG27
import Derived.Test.YtljfoohaapckeaaGreatDoorCTopPl
import Derived.Test.YtljfoohaapckeaaGreatDoorCG45
import Derived.Test.YtljfoohaapckeaaGreatDoorCG43
open _root_.Go.Proofs.Tryz (prog func20 ntmps20 func9 ntmps9)
namespace Go.Proofs.YtljfoohaapckeaaGreatDoor
open Go.ChangeShapes Go.WideShapes Go.ChangeAt Go.RowKit
set_option linter.unusedVariables false
set_option linter.unusedSimpArgs false
set_option maxHeartbeats 4000000
set_option maxRecDepth 100000
section
variable {P : Program} {α : Type} {t E : TypeId} {z : Value} {size bytes : Nat} {enc : α -> List Value}
theorem Jl {ops:Array Oper} {o:Oper} {a:Act} {w:World} {K:Act->World->Prop} {Q:Exit->Act->World->Prop} {E':Prop} (R:Row P t E z size bytes)
    (henc:∀x,(enc x).length=size) (h1:∀x,∀u∈enc x,u.oneCell'=true) {B B2:Nat} (hB:B<=w.heap.size) {v:Value} {l m:List α} (hown:aC E size enc B w v l) {g c:Nat} (hm:aC E size enc B2 w (.slice (some ⟨g,0,none⟩) m.length c) m)
    (hlen:(l.length+m.length)*bytes<=140737488355328) (hlen2:l.length+m.length<=maxLen) (hgd:o.guard=none)
    (s x:Operand) (ho:o.op= .call {callee:= .builtin .append,args:= #[s,x],argTypes:= #[t,t]})
    (hs:a.eval s=v) (hx:a.eval x= .slice (some ⟨g,0,none⟩) m.length c)
    (h:∀A c' w',aC E size enc B w' (.slice A (l.length+m.length) c') (l++m)->w.grownBy w' v.ownBlock->K (a.put o.dst (.slice A (l.length+m.length) c')) w'):
    if Region.wanted o (yielded ops a.tmps)=true then Oper.wp P o a w K Q else E':=by
 have hw:Region.wanted o (yielded ops a.tmps)=true:=(by simp[Region.wanted,hgd]);rw[if_pos hw];obtain⟨ht,hinfo,hzs,hsz⟩:=R;obtain⟨i0,hi,hz0,hz1,hz2⟩:=info_parts hinfo
 obtain⟨v',w',hrun,h2,h3,_,h5⟩:=run_append_own_at (P:=P) w B t o.type E i0 z size bytes ht hi hz0 hz1 hz2 hzs hsz v l.length (l.flatMap enc) hown
   ⟨g,0,none⟩ m.length c (m.flatMap enc) (fV henc m) (World.ownsRow.cells (g:=g) hm rfl) (Ig h1 m) hlen2 hlen hB
 have hO:aC E size enc B w' v' (l++m):=by
  unfold aC;rw[List.length_append,List.flatMap_append];exact h2
 obtain⟨A',c',e,_⟩:=hO.form;rw[List.length_append]at e;subst e;unfold Oper.wp execOp;simp only[ho,resolve,invoke,builtin,Sem.run_bind,Sem.run_pure,Result.andThen_ok,List.map_toArray,List.map_cons,List.map_nil,hs,hx,hrun];exact h A' c' w' hO h3
end
def wl (word:ByteArray) (x:Int):ByteArray:=word++jE x
def xQ:ByteArray:=⟨#[102,108,105,112,115,32]⟩
def xR:ByteArray:=⟨#[115,116,111,99,107,32]⟩
def xS:ByteArray:=⟨#[115,112,101,110,116,32]⟩
def Ex:ByteArray:=⟨#[114,101,112,97,105,114,115,32]⟩
theorem Pz {word w2:ByteArray} (h:w2.data=word.data++ #[32]) (x:Int):nL word [x]=wl w2 x:=by
 show word++(⟨#[32]⟩:ByteArray)++jE x=w2++jE x;congr 1
 apply ByteArray.ext;rw[ByteArray.data_append,h]
def Sr (x:Wk):List ByteArray:=[wl xQ x.1.2.2.2.length,wl xR x.2.1,wl xS x.2.2.1,wl Ex x.2.2.2]
def uV (x:Wk):List ByteArray:=if dW x=true then fC x.1.1 x.1.2.2.1++Sr x else[]
theorem C9 (rows:List Int) (l:List Dm):(fC rows l).length<=rows.length:=by
 unfold fC;split
 . simp[uX]
 . exact Nat.zero_le _
theorem Ey {x:Wk} (h:dW x=true):x.1.2.2.2.length<=60/\(0<=x.2.1/\x.2.1<=10000)/\(0<=x.2.2.1/\x.2.2.1<=10000)/\(0<=x.2.2.2/\x.2.2.2<=10000):=by
 unfold dW dC inB at h;simp at h;omega
theorem Ck {x:Wk} (h:dW x=true):x.1.1.length<=8:=by
 unfold dW dC dN at h;simp only[Bool.and_eq_true]at h;exact(jA h.1.1.1.1.1).1.1
def Ln (B:Nat) (W:World) (v:Value) (x:Int):Prop:=aC 3 1 bT B W v [x]/\0<=x/\x<=10000
theorem Ln.al {B:Nat} {W:World} {v:Value} {x:Int} (h:Ln B W v x) (o:Obj):Ln B (W.alloc o) v x:=⟨h.1.alloc o,h.2⟩
theorem Ln.bl {B:Nat} {W W':World} {v:Value} {x:Int} (h:Ln B W v x) (hb:Below W.heap.size W W'):Ln B W' v x:=⟨h.1.below hb,h.2⟩
theorem PD (w:World) (o:Obj):(w.alloc o).heap.size=w.heap.size+1:=by simp
theorem IK {B g:Nat} {W:World} {x:Int} (hB:B<=g) (hb:Blk W g 3 #[.int .i64 x]) (h:0<=x/\x<=10000):Ln B W (.slice (some ⟨g,0,none⟩) 1 1) x:=
 ⟨⟨by simp[bT],.inr ⟨g,1,#[.int .i64 x],rfl,hB,hb,by simp,by simp[maxLen],by simp,by simp[bT]⟩⟩,h⟩
theorem rO {B:Nat} {v:Value} {x:Int} {W:World} (word w2:ByteArray) (h:Ln B W v x) (hw:word.size<=100) (h2:w2.data=word.data++ #[32]) (ht:Tab W):Calls prog 68 #[.string word,v] W (Ret (.string (wl w2 x)) W):=by
 rw[<-Pz h2];exact rJ word v [x] W (h.1.rd aN (by decide)) hw (by simp) (SQ (by have:=h.2;simp;omega)) ht
theorem PE {w0 W:World} (Bw:Below w0.heap.size w0 W) {B:Nat} (hB:B<=w0.heap.size) (a b c d:ByteArray):aC 9 1 kP B (W.alloc (.cells #[.string a,.string b,.string c,.string d] 9)) (.slice (some ⟨W.heap.size,0,none⟩) 4 4) [a,b,c,d]:=by
 have e:[a,b,c,d].flatMap kP=[.string a,.string b,.string c,.string d]:=rfl;unfold aC;rw[e];exact⟨by simp,.inr ⟨W.heap.size,4,#[.string a,.string b,.string c,.string d],rfl,Nat.le_trans hB Bw.size,heap_alloc_new W _,by simp,by simp[maxLen],by simp,by simp⟩⟩
set_option maxHeartbeats 16000000 in
theorem Lh (v1 v2 v3 v4:Value) (rows:List Int) (f n:List Dm) (fl:List Cl) (s p r:Int) (w:World) (h1:Rd 1 bV w v1 rows) (h2:Rd 3 bG w v2 f) (h3:Rd 3 bG w v3 n) (h4:Rd 2 eD w v4 fl) (hs:dG (rows,f,n,fl)) (ht:Tab w):
 Calls prog 20 #[.agg #[v1,v2,v3,v4,.int .i64 s,.int .i64 p,.int .i64 r]] w (jV 9 1 kP (uV ((rows,f,n,fl),s,p,r)) w):=by
 have HT:=SQ ht;clear ht;obtain⟨A1,c1,rfl,_,_⟩:=h1.form;obtain⟨A2,c2,rfl,_,_⟩:=h2.form;obtain⟨A3,c3,rfl,_,_⟩:=h3.form;obtain⟨A4,c4,rfl,_,_⟩:=h4.form;have B0:=(Below.refl w.heap.size w).al (.cells #[.slice A1 rows.length c1,.slice A2 f.length c2,.slice A3 n.length c3,.slice A4 fl.length c4,.int .i64 s,.int .i64 p,.int .i64 r] 32);have bP:=Blk.aY w 32 #[.slice A1 rows.length c1,.slice A2 f.length c2,.slice A3 n.length c3,.slice A4 fl.length c4,.int .i64 s,.int .i64 p,.int .i64 r];rcases hok:dW ((rows,f,n,fl),s,p,r)with _|_
 all_goals have HOk:=SQ hok
 . have e : uV ((rows, f, n, fl), s, p, r) = [] := by unfold uV; rw [hok]; rfl
   rw[e];go_enter func20,ntmps20
   go_wp2_with fail
   refine(BN _ _ _ _ ((rows,f,n,fl),s,p,r) _ (h1.SN B0) (h2.SN B0) (h3.SN B0) (h4.SN B0) hs.2.1).mono ?_;rintro e w1 ⟨rfl,hb1⟩;rw[HOk.out];go_wp2;go_ret;exact⟨none,0,rfl,GU _,B0.tr hb1⟩
 . skip;have e:uV ((rows,f,n,fl),s,p,r)=fC rows n++[wl xQ (fl.length:Int),wl xR s,wl xS p,wl Ex r]:=by unfold uV;rw[hok];rfl
   rw[e];obtain⟨F,hF⟩:=SL (fC rows n);rw[<-hF];have hnum:=Ey hok;have N1:Hid (0<=(fl.length:Int)/\(fl.length:Int)<=10000):=SQ (by have:=hnum.1;simp only at this;omega);have N2:=SQ hnum.2.1;have N3:=SQ hnum.2.2.1;have N4:=SQ hnum.2.2.2;simp only at N2 N3 N4;have hr8:rows.length<=8:=Ck hok;have hfl8:F.length<=rows.length:=by rw[hF];exact C9 rows n
   have HF:=SQ hF;clear hF;clear hnum hok e;go_enter func20,ntmps20
   go_wp2_with fail
   refine(BN _ _ _ _ ((rows,f,n,fl),s,p,r) _ (h1.SN B0) (h2.SN B0) (h3.SN B0) (h4.SN B0) hs.2.1).mono ?_;rintro e w1 ⟨rfl,hb1⟩;rw[HOk.out];have B1:=B0.tr hb1;have bP1:=bP.bl hb1;have gP1:=bP1.lt;obtain⟨y_0,y_1,y_2,y_3,y_4,y_5,y_6⟩:=bP1.n7;go_wp2_with fail
   refine(uQ _ _ rows n _ (h1.SN B1) (h3.SN B1)).mono ?_;rintro e w2 ⟨C,c,rfl,own2,hb2⟩;have B2:=B1.tr hb2;have bP2:=bP1.bl hb2;clear y_0 y_1 y_2 y_3 y_4 y_5 y_6;have gP2:=bP2.lt;obtain⟨y_0,y_1,y_2,y_3,y_4,y_5,y_6⟩:=bP2.n7;have Bw:Below w2.heap.size w2 w2:=Below.refl _ _;have hz:w2.heap.size<=w2.heap.size:=Nat.le_refl _;rw[<-HF.out]at own2⊢;have H8:Hid ((F.length+4)*16<=140737488355328):=SQ (by omega);have HM:Hid (F.length+4<=maxLen):=SQ (by unfold maxLen;omega);go_wp2_with fail
   have Bw:Below w2.heap.size w2 w2.drew:=Bw.drew;have hz:w2.heap.size<=w2.drew.heap.size:=Bw.size;have o0:=own2.below Bw;refine rB (fun w'=>w'.cell? ⟨w.heap.size,3,none⟩=some (.slice A4 fl.length c4)/\w'.cell? ⟨w.heap.size,4,none⟩=some (.int .i64 s)/\w'.cell? ⟨w.heap.size,5,none⟩=some (.int .i64 p)/\w'.cell? ⟨w.heap.size,6,none⟩=some (.int .i64 r)) fun hHeld=>?_
   repeat' (first
    |((with_reducible show AllReadyH _ _ _ _ _ _ _ _ _ _);first
    |(with_reducible exact AllReadyH.nil)
    | (refine tN 5 (fun K hK=>?_) ?_
       ((try clear hH);(try (have hH:=hHeld;clear hHeld));refine kZ (x:=((fl.length:Int):Int)) rfl _ rfl rfl ?_;intro gX wX hbX bX hgX;(try replace o1:=o1.bl hbX);(try replace o2:=o2.bl hbX);(try replace o3:=o3.bl hbX);(try replace o4:=o4.bl hbX);have o1:=IK (Nat.le_trans hz hgX) bX (N1.out);replace o0:=o0.below hbX;(try clear hcX hfX);obtain⟨hcX,hfX,hzX⟩:=bkn hbX w2.heap.size hz;replace hz:=hzX;replace Bw:=Bw.tr hbX;clear hbX hzX bX hgX)
       refine tK hK fun hHeld=>?_
       clear hK K)
    | (refine tN 6 (fun K hK=>?_) ?_
       ((try clear hH);(try (have hH:=hHeld;clear hHeld));go_simp;go_at_call 68;go_must (refine(rO _ xQ (by first|exact o1|exact o2|exact o3|exact o4) (by decide) rfl (HT.out.below (B2.tr Bw))).mono ?_;rintro e wX ⟨rfl,hbX⟩;(try replace o1:=o1.bl hbX);(try replace o2:=o2.bl hbX);(try replace o3:=o3.bl hbX);(try replace o4:=o4.bl hbX);replace o0:=o0.below hbX;(try clear hcX hfX);obtain⟨hcX,hfX,hzX⟩:=bkn hbX w2.heap.size hz;replace hz:=hzX;replace Bw:=Bw.tr hbX;clear hbX hzX))
       refine tK hK fun hHeld=>?_
       clear hK K)
    | (refine tN 9 (fun K hK=>?_) ?_
       ((try clear hH);(try (have hH:=hHeld;clear hHeld));refine kZ (x:=(s:Int)) rfl _ rfl rfl ?_;intro gX wX hbX bX hgX;(try replace o1:=o1.bl hbX);(try replace o2:=o2.bl hbX);(try replace o3:=o3.bl hbX);(try replace o4:=o4.bl hbX);have o2:=IK (Nat.le_trans hz hgX) bX (N2.out);replace o0:=o0.below hbX;(try clear hcX hfX);obtain⟨hcX,hfX,hzX⟩:=bkn hbX w2.heap.size hz;replace hz:=hzX;replace Bw:=Bw.tr hbX;clear hbX hzX bX hgX)
       refine tK hK fun hHeld=>?_
       clear hK K)
    | (refine tN 10 (fun K hK=>?_) ?_
       ((try clear hH);(try (have hH:=hHeld;clear hHeld));go_simp;go_at_call 68;go_must (refine(rO _ xR (by first|exact o1|exact o2|exact o3|exact o4) (by decide) rfl (HT.out.below (B2.tr Bw))).mono ?_;rintro e wX ⟨rfl,hbX⟩;(try replace o1:=o1.bl hbX);(try replace o2:=o2.bl hbX);(try replace o3:=o3.bl hbX);(try replace o4:=o4.bl hbX);replace o0:=o0.below hbX;(try clear hcX hfX);obtain⟨hcX,hfX,hzX⟩:=bkn hbX w2.heap.size hz;replace hz:=hzX;replace Bw:=Bw.tr hbX;clear hbX hzX))
       refine tK hK fun hHeld=>?_
       clear hK K)
    | (refine tN 13 (fun K hK=>?_) ?_
       ((try clear hH);(try (have hH:=hHeld;clear hHeld));refine kZ (x:=(p:Int)) rfl _ rfl rfl ?_;intro gX wX hbX bX hgX;(try replace o1:=o1.bl hbX);(try replace o2:=o2.bl hbX);(try replace o3:=o3.bl hbX);(try replace o4:=o4.bl hbX);have o3:=IK (Nat.le_trans hz hgX) bX (N3.out);replace o0:=o0.below hbX;(try clear hcX hfX);obtain⟨hcX,hfX,hzX⟩:=bkn hbX w2.heap.size hz;replace hz:=hzX;replace Bw:=Bw.tr hbX;clear hbX hzX bX hgX)
       refine tK hK fun hHeld=>?_
       clear hK K)
    | (refine tN 14 (fun K hK=>?_) ?_
       ((try clear hH);(try (have hH:=hHeld;clear hHeld));go_simp;go_at_call 68;go_must (refine(rO _ xS (by first|exact o1|exact o2|exact o3|exact o4) (by decide) rfl (HT.out.below (B2.tr Bw))).mono ?_;rintro e wX ⟨rfl,hbX⟩;(try replace o1:=o1.bl hbX);(try replace o2:=o2.bl hbX);(try replace o3:=o3.bl hbX);(try replace o4:=o4.bl hbX);replace o0:=o0.below hbX;(try clear hcX hfX);obtain⟨hcX,hfX,hzX⟩:=bkn hbX w2.heap.size hz;replace hz:=hzX;replace Bw:=Bw.tr hbX;clear hbX hzX))
       refine tK hK fun hHeld=>?_
       clear hK K)
    | (refine tN 17 (fun K hK=>?_) ?_
       ((try clear hH);(try (have hH:=hHeld;clear hHeld));refine kZ (x:=(r:Int)) rfl _ rfl rfl ?_;intro gX wX hbX bX hgX;(try replace o1:=o1.bl hbX);(try replace o2:=o2.bl hbX);(try replace o3:=o3.bl hbX);(try replace o4:=o4.bl hbX);have o4:=IK (Nat.le_trans hz hgX) bX (N4.out);replace o0:=o0.below hbX;(try clear hcX hfX);obtain⟨hcX,hfX,hzX⟩:=bkn hbX w2.heap.size hz;replace hz:=hzX;replace Bw:=Bw.tr hbX;clear hbX hzX bX hgX)
       refine tK hK fun hHeld=>?_
       clear hK K)
    | (refine tN 18 (fun K hK=>?_) ?_
       ((try clear hH);(try (have hH:=hHeld;clear hHeld));go_simp;go_at_call 68;go_must (refine(rO _ Ex (by first|exact o1|exact o2|exact o3|exact o4) (by decide) rfl (HT.out.below (B2.tr Bw))).mono ?_;rintro e wX ⟨rfl,hbX⟩;(try replace o1:=o1.bl hbX);(try replace o2:=o2.bl hbX);(try replace o3:=o3.bl hbX);(try replace o4:=o4.bl hbX);replace o0:=o0.below hbX;(try clear hcX hfX);obtain⟨hcX,hfX,hzX⟩:=bkn hbX w2.heap.size hz;replace hz:=hzX;replace Bw:=Bw.tr hbX;clear hbX hzX))
       refine tK hK fun hHeld=>?_
       clear hK K)
    | (refine tN 19 (fun K hK=>?_) ?_
       (go_simp;have oS:=PE (B:=w.heap.size) Bw B2.size (wl xQ (fl.length:Int)) (wl xR s) (wl xS p) (wl Ex r);(try simp only[PD]at oS);have o0:=o0.alloc (.cells #[.string (wl xQ (fl.length:Int)),.string (wl xR s),.string (wl xS p),.string (wl Ex r)] 9);have Bw:=Bw.al (.cells #[.string (wl xQ (fl.length:Int)),.string (wl xR s),.string (wl xS p),.string (wl Ex r)] 9);have hz:=Bw.size)
       refine tK hK fun hHeld=>?_
       clear hK K)
    | (refine tN 20 (fun K hK=>?_) ?_
       (refine Jl (enc:=kP) xA kG zU (B:=w1.heap.size) (hb2.tr Bw).size o0 oS H8.out HM.out rfl _ _ rfl rfl rfl ?_;intro A5 c5 w5 own5 hg5;have hne5:∀k,(Value.slice C F.length c).ownBlock=some k->w1.heap.size<=k:=(fun k hk=>(World.ownsRow.lt o0 k hk).1);have B5:Below w.heap.size w w5:=(B2.tr Bw).grown hg5 (B2.tr Bw).size (fun k hk=>Nat.le_trans B1.size (hne5 k hk));have bP5:=(bP2.below Bw gP2).grown hg5 (fun e=>by have:=hne5 _ e.symm;omega);obtain⟨q_0,q_1,q_2,q_3,q_4,q_5,q_6⟩:=bP5.n7)
       refine tK hK fun hHeld=>?_
       clear hK K)
    )
    |((with_reducible show wpAnyH _ _ _ _ _ _ _ _ _);first
    |(refine(tQ [5,9,13,17]) ?_)
    |(refine(tQ [6,9,13,17]) ?_)
    |(refine(tQ [9,13,17]) ?_)
    |(refine(tQ [10,13,17]) ?_)
    |(refine(tQ [13,17]) ?_)
    |(refine(tQ [14,17]) ?_)
    |(refine(tQ [17]) ?_)
    |(refine(tQ [18]) ?_)
    |(refine(tQ [19]) ?_)
    |(refine(tQ [20]) ?_)
    |(refine(tQ [14]) ?_)
    |(refine(tQ [13]) ?_)
    |(refine(tQ [10,17]) ?_)
    |(refine(tQ [10]) ?_)
    |(refine(tQ [10,13]) ?_)
    |(refine(tQ [9,17]) ?_)
    |(refine(tQ [9]) ?_)
    |(refine(tQ [9,13]) ?_)
    |(refine(tQ [6,13,17]) ?_)
    |(refine(tQ [6,17]) ?_)
    |(refine(tQ [6]) ?_)
    |(refine(tQ [6,13]) ?_)
    |(refine(tQ [6,9,17]) ?_)
    |(refine(tQ [6,9]) ?_)
    |(refine(tQ [6,9,13]) ?_)
    |(refine(tQ [5,13,17]) ?_)
    |(refine(tQ [5,17]) ?_)
    |(refine(tQ [5]) ?_)
    |(refine(tQ [5,13]) ?_)
    |(refine(tQ [5,9,17]) ?_)
    |(refine(tQ [5,9]) ?_)
    |(refine(tQ [5,9,13]) ?_)
    |(refine(tX 0) ?_)
    |(refine(tX 1) ?_)
    |(refine(tX 2) ?_)
    |(refine(tX 3) ?_)
    |(refine(tX 4) ?_)
    |(refine(tX 7) ?_)
    |(refine(tX 8) ?_)
    |(refine(tX 11) ?_)
    |(refine(tX 12) ?_)
    |(refine(tX 15) ?_)
    |(refine(tX 16) ?_)
    |(refine(tX 21) ?_)
    |(refine tE ?_)))
   all_goals (refine⟨trivial,?_⟩)
   all_goals
     go_wp2;go_ret;exact⟨A5,c5,by rw[List.length_append];rfl,by rw[List.length_append];exact own5.mono B1.size,B5⟩
theorem Kb (v:Value) (l:List Int) (w:World) (h:Rd 1 kT w v l):Calls prog 13 #[v] w (Pure (.bool (decide (1048576<l.length))) w):=by
 obtain⟨A,c,rfl,hc,hm⟩:=h.form;go_enter Tryz.func13,Tryz.ntmps13
 go_wp2;go_ret;exact⟨by simp;omega,rfl⟩
theorem PG {rows:List Int} {fd nd:List Dm} {fl:List Cl} {s p r:Int} (h:dW ((rows,fd,nd,fl),s,p,r)=true):
 uV ((rows,fd,nd,fl),s,p,r)=fC rows nd++[wl xQ (fl.length:Int),wl xR s,wl xS p,wl Ex r]/\(fC rows nd).length=rows.length:=by
 refine⟨by unfold uV;rw[if_pos h];rfl,?_⟩;have hp:=Pw (Nb h);unfold fC;rw[if_pos hp,sI]
theorem Kc (v u:Value) (rows:List Int) (l:List Dm) (L:List ByteArray) (w:World) (h:Rd 1 bV w v rows) (h2:Rd 3 bG w u l) (hL:L=fC rows l):Calls prog 49 #[.agg #[v],u] w (jV 9 1 kP L w):=by
 rw[hL];exact uQ v u rows l w h h2
theorem Ke (u v:Value) (l:List ByteArray) (w:World) (h:Rd 1 (RE kP) w u l) (h':Rd 1 (RE kP) w v l):Calls prog 48 #[u,v] w (Ret (.bool true) w):=by
 have:=CJ u v l l w h h';rw[decide_eq_true (rfl:l=l)]at this;exact this
theorem fmtQ (n:Int) (w:World) (h:0<=n/\n<=10000) (ht:Tab w):Calls prog 50 #[.int .i64 n] w (Ret (.string (jE n)) w):=qV n w h.1 (by omega) ht
theorem AP (w : World) (tab : Tab w) (v : Value) (l : List Int) (h : Rd 1 kT w v l) (ok : lV (fun x => 0 <= x /\ x <= 255) l) : Calls prog 9 #[v] w (Ret (.bool true) w) := by
 by_cases hsz:1048576<l.length
 . have hd : decide (1048576 < l.length) = true := by simpa using hsz
   have Hd:=SQ hd;clear hd;go_enter func9,ntmps9
   go_wp2_with fail
   refine(Kb _ l _ h).mono ?_;rintro e w0 ⟨rfl,rfl⟩;rw[Hd.out];go_wp2;go_ret;exact⟨rfl,Below.refl _ _⟩
 . have hd : decide (1048576 < l.length) = false := by simpa using hsz
   have Hd:=SQ hd;clear hd;have hl:l.length<=1048576:=(by omega);have Hok:=SQ ok;have HTB:=SQ tab;clear ok tab;go_enter func9,ntmps9
   go_wp2_with fail
   refine(Kb _ l _ h).mono ?_;rintro e w0 ⟨rfl,rfl⟩;rw[Hd.out];go_wp2_with fail
   refine(zT _ l _ h Hok.out hl).mono ?_;rintro e w1 ⟨x,s,p,r,V1,V2,V3,V4,al,A,c,rfl,oF,hk,hs,oA,hal,hac,hb1⟩;obtain⟨rows,fd,nd,fl⟩:=x;have HK:=SQ hk;have HS:=SQ hs;clear hk hs hac hal;obtain⟨F1,f1,rfl,_,_⟩:=oF.a.form;obtain⟨F2,f2,rfl,_,_⟩:=oF.b.form;obtain⟨F3,f3,rfl,_,_⟩:=oF.c.form;obtain⟨F4,f4,rfl,_,_⟩:=oF.d.form;simp only at*;go_upto_region 4 with(refine aA rfl 32 _ _ rfl w1.heap.size #[.slice F1 rows.length f1,.slice F2 fd.length f2,.slice F3 nd.length f3,.slice F4 fl.length f4,.int .i64 s,.int .i64 p,.int .i64 r] rfl rfl _ _ (Blk.aY w1 32 #[.slice none 0 0,.slice none 0 0,.slice none 0 0,.slice none 0 0,.int .i64 0,.int .i64 0,.int .i64 0]) (by kernel_rfl) rfl (CG oF.one) ?_;intro w2 bO hg2)
   have oF2:=aF.alg oF (by decide) (by decide) (by decide) hg2;have B2:=(hb1.al (.cells #[.slice none 0 0,.slice none 0 0,.slice none 0 0,.slice none 0 0,.int .i64 0,.int .i64 0,.int .i64 0] 32)).grown hg2 (hb1.al _).size (fun k hk=>by injection hk with hk;subst hk;exact hb1.size);clear oF oA hb1 hg2;obtain⟨gO,hgO⟩:=SL w1.heap.size;rw[<-hgO]at bO⊢;clear hgO;obtain⟨y_0,y_1,y_2,y_3,y_4,y_5,y_6⟩:=bO.n7;have CT:=Lh _ _ _ _ rows fd nd fl s p r w2 oF2.ra oF2.rb oF2.rc oF2.rd HS.out (HTB.out.below B2);obtain⟨e1,hLl⟩:=PG HK.out;rw[e1]at CT;have hnum:=Ey HK.out;have hr8:rows.length<=8:=Ck HK.out;simp only at hnum;have N1:Hid (0<=(fl.length:Int)/\(fl.length:Int)<=10000):=SQ (by have:=hnum.1;omega);have N2:=SQ hnum.2.1;have N3:=SQ hnum.2.2.1;have N4:=SQ hnum.2.2.2;obtain⟨L,hL⟩:=SL (fC rows nd);rw[<-hL]at CT hLl;have HL:=SQ hL;obtain⟨k1,hk1⟩:=SL (wl xQ (fl.length:Int));obtain⟨k2,hk2⟩:=SL (wl xR s);obtain⟨k3,hk3⟩:=SL (wl xS p);obtain⟨k4,hk4⟩:=SL (wl Ex r);rw[<-hk1,<-hk2,<-hk3,<-hk4]at CT;have Q1:Hid ((k1.toList==((⟨#[102,108,105,112,115,32]⟩:ByteArray)++jE (fl.length:Int)).toList)=true):=SQ (qW (by rw[hk1];rfl));have Q2:Hid ((k2.toList==((⟨#[115,116,111,99,107,32]⟩:ByteArray)++jE s).toList)=true):=SQ (qW (by rw[hk2];rfl));have Q3:Hid ((k3.toList==((⟨#[115,112,101,110,116,32]⟩:ByteArray)++jE p).toList)=true):=SQ (qW (by rw[hk3];rfl));have Q4:Hid ((k4.toList==((⟨#[114,101,112,97,105,114,115,32]⟩:ByteArray)++jE r).toList)=true):=SQ (qW (by rw[hk4];rfl));obtain⟨T,hT⟩:=SL (L++[k1,k2,k3,k4]);rw[<-hT]at CT;have hTl:T.length=rows.length+4:=by rw[hT,List.length_append,hLl];rfl
   have HTk:Hid (T.take rows.length=L):=SQ (by rw[hT,<-hLl,List.take_left]);have HT0:Hid (T[rows.length]? =some k1):=SQ (by rw[hT,<-hLl,List.getElem?_append_right (Nat.le_refl _)];simp);have HT1:Hid (T[rows.length+1]? =some k2):=SQ (by rw[hT,<-hLl,List.getElem?_append_right (by omega)];simp);have HT2:Hid (T[rows.length+2]? =some k3):=SQ (by rw[hT,<-hLl,List.getElem?_append_right (by omega)];simp);have HT3:Hid (T[rows.length+3]? =some k4):=SQ (by rw[hT,<-hLl,List.getElem?_append_right (by omega)];simp);clear e1 hnum hL hk1 hk2 hk3 hk4 hT hLl;go_wp2_with fail
   refine CT.mono ?_;rintro e w3 ⟨A7,c7,rfl,oT,hb3⟩;have B3:=B2.tr hb3;have oF3:=oF2.below hb3;have bO3:=bO.bl hb3;clear CT y_0 y_1 y_2 y_3 y_4 y_5 y_6 oF2 bO B2 hb3;obtain⟨y_0,y_1,y_2,y_3,y_4,y_5,y_6⟩:=bO3.n7;have hgl:=bO3.lt
   have hcT:T.length<=c7:=by
    obtain⟨A',c',e',h',_⟩:=oT.form;injection e' with _ _ e3;omega
   obtain⟨gT,rfl,hgT1,hgT2⟩:=oT.split (k:=0) (by omega);have hTN:=hTl;have hne:((T.length:Int) !=(rows.length:Int)+4)=false:=(by simp[hTN]);have e4:IntKind.i64.wrap ((rows.length:Int)+4)=(rows.length:Int)+4:=IntWalk.i64_in _ (by omega);have hs2:rows.length<=c7:=(by omega);have hs3:(rows.length:Int)<=(c7:Int):=(by omega);have oL:Rd 1 (RE kP) w3 (.slice (some ⟨gT,0,none⟩) rows.length c7) L:=NL ((oT.takeA kG (by omega:rows.length<=T.length)).rd kG (by decide)) HTk.out;have Bw:Below w3.heap.size w3 w3.drew:=(Below.refl _ _).drew;have hz:w3.heap.size<=w3.drew.heap.size:=(by simp);have HTN:=SQ hTN;clear hTl hTN;go_upto_region 6 with(fail)
   refine rB (fun w'=>w'.cell? ⟨gO,0,none⟩=some (.slice F1 rows.length f1)/\w'.cell? ⟨gO,2,none⟩=some (.slice F3 nd.length f3)) fun hHeld=>(tW 0)<|(tW 1)<|(tW 2)<|(tW 3)<|(tW 4)<|(tW 5)<|(tW 6)<|(tW 7)<|(tW 8)<|(tW 9)<|(tW 10)<|(tW 11)<|(tW 12)<|(tW 13)<|(tW 14)<|(tR [15])<|tL fun K hK=>?_
   go_simp
   (first|(go_at_call 49;go_must (refine(Kc _ _ rows nd L _ (oF3.below Bw).ra (oF3.below Bw).rc HL.out).mono ?_;rintro e wX ⟨A8,c8,rfl,o8,hbX⟩;obtain⟨hcX,hfX,hzX⟩:=bkn hbX w3.heap.size hz;have hz:=hzX;have Bw:=Bw.tr hbX);(try go_wp2_with fail))|(go_at_call 48;go_must (refine(Ke _ _ L _ (oL.SN Bw) (o8.rd kG (by decide))).mono ?_;rintro e wX ⟨rfl,hbX⟩;obtain⟨hcX,hfX,hzX⟩:=bkn hbX w3.heap.size hz;have hz:=hzX;have Bw:=Bw.tr hbX);(try go_wp2_with fail)))
   refine tK hK fun hHeld=>?_
   clear hK K;refine(tR [16])<|tL fun K hK=>?_
   go_simp
   (first|(go_at_call 49;go_must (refine(Kc _ _ rows nd L _ (oF3.below Bw).ra (oF3.below Bw).rc HL.out).mono ?_;rintro e wX ⟨A8,c8,rfl,o8,hbX⟩;obtain⟨hcX,hfX,hzX⟩:=bkn hbX w3.heap.size hz;have hz:=hzX;have Bw:=Bw.tr hbX);(try go_wp2_with fail))|(go_at_call 48;go_must (refine(Ke _ _ L _ (oL.SN Bw) (o8.rd kG (by decide))).mono ?_;rintro e wX ⟨rfl,hbX⟩;obtain⟨hcX,hfX,hzX⟩:=bkn hbX w3.heap.size hz;have hz:=hzX;have Bw:=Bw.tr hbX);(try go_wp2_with fail)))
   refine tK hK fun hHeld=>?_
   clear hK K;refine(tW 17)<|(tW 18)<|tD ?_
   all_goals
     have BZ:=B3.tr Bw;have bOZ:=bO3.bl Bw;have oTZ:=oT.below Bw;clear y_0 y_1 y_2 y_3 y_4 y_5 y_6 hHeld hcX hfX hzX hz hne e4 hs2 hs3 oL o8 oT bO3 B3 oF3 hgT2 hgl hcT;obtain⟨W8,hW8⟩:=SL wX;rw[<-hW8]at BZ bOZ oTZ Bw⊢;clear hW8
     have cT : ∀ (k : Nat) (q : ByteArray), T[k]? = some q -> W8.cell? ⟨gT, k, none⟩ = some (.string q) /\ k < T.length := fun k q hq => by
      obtain⟨hk,e⟩:=List.getElem?_eq_some_iff.1 hq;have:=oTZ.slot kG (by decide) hk 0 (.string T[k]) rfl;rw[Nat.mul_one,e]at this;exact⟨this,hk⟩
     obtain⟨y_0,y_1,y_2,y_3,y_4,y_5,y_6⟩:=bOZ.n7;have hgl:=bOZ.lt;have hgt:=oTZ.at_.2.2;obtain⟨q0,i0⟩:=cT rows.length k1 HT0.out;obtain⟨n1,hn1⟩:∃n:Nat,n=rows.length+1:=⟨_,rfl⟩;obtain⟨n2,hn2⟩:∃n:Nat,n=rows.length+2:=⟨_,rfl⟩;obtain⟨n3,hn3⟩:∃n:Nat,n=rows.length+3:=⟨_,rfl⟩;obtain⟨q1,i1⟩:=cT n1 k2 (by rw[hn1];exact HT1.out);obtain⟨q2,i2⟩:=cT n2 k3 (by rw[hn2];exact HT2.out);obtain⟨q3,i3⟩:=cT n3 k4 (by rw[hn3];exact HT3.out);have e1:IntKind.i64.wrap ((rows.length:Int)+1)=(n1:Int):=by rw[IntWalk.i64_in _ (by omega)];omega
     have e2:IntKind.i64.wrap ((rows.length:Int)+2)=(n2:Int):=by rw[IntWalk.i64_in _ (by omega)];omega
     have e3:IntKind.i64.wrap ((rows.length:Int)+3)=(n3:Int):=by rw[IntWalk.i64_in _ (by omega)];omega
     have j0:(rows.length:Int)<(T.length:Int):=(by omega);have j1:(n1:Int)<(T.length:Int):=(by omega);have j2:(n2:Int)<(T.length:Int):=(by omega);have j3:(n3:Int)<(T.length:Int):=(by omega);have HNz:∀x:Int,0<=x/\x<=10000->(jE x).size<=21:=fun x q=>Gf q.1 (by omega)
     have z1:¬(9223372036854775807<6+(jE (fl.length:Int)).size):=by have:=HNz _ N1.out;omega
     have z2:¬(9223372036854775807<6+(jE s).size):=by have:=HNz _ N2.out;omega
     have z3:¬(9223372036854775807<6+(jE p).size):=by have:=HNz _ N3.out;omega
     have z4:¬(9223372036854775807<8+(jE r).size):=by have:=HNz _ N4.out;omega
     have p1:=Q1.out;have p2:=Q2.out;have p3:=Q3.out;have p4:=Q4.out;clear HNz hn1 hn2 hn3 cT HL HTk HT0 HT1 HT2 HT3 HTN Q1 Q2 Q3 Q4 oTZ Bw;have Bw:Below W8.heap.size W8 W8.drew:=(Below.refl _ _).drew;have hz:W8.heap.size<=W8.drew.heap.size:=(by simp);go_upto_region 8 with(fail)
     go_region_held3 (fun w'=>w'.cell? ⟨gT,rows.length,none⟩=some (.string k1)/\w'.cell? ⟨gT,n1,none⟩=some (.string k2)/\w'.cell? ⟨gT,n2,none⟩=some (.string k3)/\w'.cell? ⟨gT,n3,none⟩=some (.string k4)/\w'.cell? ⟨gO,3,none⟩=some (.slice F4 fl.length f4)/\w'.cell? ⟨gO,4,none⟩=some (.int .i64 s)/\w'.cell? ⟨gO,5,none⟩=some (.int .i64 p)/\w'.cell? ⟨gO,6,none⟩=some (.int .i64 r)) (go_keep) (first|(go_at_call 50;go_must (refine(fmtQ _ _ (by first|exact N1.out|exact N2.out|exact N3.out|exact N4.out) (HTB.out.below (BZ.tr Bw))).mono ?_;rintro e wX ⟨rfl,hbX⟩;obtain⟨hcX,hfX,hzX⟩:=bkn hbX W8.heap.size hz;have hz:=hzX;have Bw:=Bw.tr hbX);(try go_wp2_with fail)))
     all_goals
       go_wp2;go_ret;exact⟨rfl,BZ.tr Bw⟩
end Go.Proofs.YtljfoohaapckeaaGreatDoor
