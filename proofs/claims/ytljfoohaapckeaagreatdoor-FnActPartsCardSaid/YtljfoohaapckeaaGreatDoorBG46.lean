/- FormatWorkshop of both sides: the walks. Conditions: sizes that the laws let by; the library's table of powers, as its text lays it. Lists of numbers compared, on all sides: the walks. No conditions. -/
import Derived.Test.YtljfoohaapckeaaGreatDoorBG38
import Derived.Test.YtljfoohaapckeaaGreatDoorBG14
import Derived.Test.YtljfoohaapckeaaGreatDoorBK12
import Derived.Test.YtljfoohaapckeaaGreatDoorBG20
import Derived.Test.YtljfoohaapckeaaGreatDoorBK1
namespace Go.Proofs.YtljfoohaapckeaaGreatDoor
open Go.ChangeShapes Go.WideShapes Go.ChangeAt Go.RowKit
set_option linter.unusedVariables false
set_option linter.unusedSimpArgs false
set_option maxHeartbeats 4000000
set_option maxRecDepth 100000
section
variable {P : Program} {α : Type} {t E : TypeId} {z : Value} {size bytes : Nat} {enc : α -> List Value}
theorem Hw {ops:Array Oper} {o:Oper} {a:Act} {w:World} {K:Act->World->Prop} {Q:Exit->Act->World->Prop} {E':Prop} (R:Row P t E z size bytes)
    (henc:∀x,(enc x).length=size) (h1:∀x,∀u∈enc x,u.oneCell'=true) {B B2:Nat} (hB:B<=w.heap.size) {v:Value} {l m:List α} (hown:aD E size enc B w v l) {g c:Nat} (hm:aD E size enc B2 w (.slice (some ⟨g,0,none⟩) m.length c) m)
    (hlen:(l.length+m.length)*bytes<=140737488355328) (hlen2:l.length+m.length<=maxLen) (hgd:o.guard=none)
    (s x:Operand) (ho:o.op= .call {callee:= .builtin .append,args:= #[s,x],argTypes:= #[t,t]})
    (hs:a.eval s=v) (hx:a.eval x= .slice (some ⟨g,0,none⟩) m.length c)
    (h:∀A c' w',aD E size enc B w' (.slice A (l.length+m.length) c') (l++m)->w.grownBy w' v.ownBlock->K (a.put o.dst (.slice A (l.length+m.length) c')) w'):
    if Region.wanted o (yielded ops a.tmps)=true then Oper.wp P o a w K Q else E':=by
 have hw:Region.wanted o (yielded ops a.tmps)=true:=(by simp[Region.wanted,hgd]);rw[if_pos hw];obtain⟨ht,hinfo,hzs,hsz⟩:=R;obtain⟨i0,hi,hz0,hz1,hz2⟩:=info_parts hinfo
 obtain⟨v',w',hrun,h2,h3,_,h5⟩:=run_append_own_at (P:=P) w B t o.type E i0 z size bytes ht hi hz0 hz1 hz2 hzs hsz v l.length (l.flatMap enc) hown
   ⟨g,0,none⟩ m.length c (m.flatMap enc) (fM henc m) (World.ownsRow.cells (g:=g) hm rfl) (DI h1 m) hlen2 hlen hB
 have hO:aD E size enc B w' v' (l++m):=by
  unfold aD;rw[List.length_append,List.flatMap_append];exact h2
 obtain⟨A',c',e,_⟩:=hO.form;rw[List.length_append]at e;subst e;unfold Oper.wp execOp;simp only[ho,resolve,invoke,builtin,Sem.run_bind,Sem.run_pure,Result.andThen_ok,List.map_toArray,List.map_cons,List.map_nil,hs,hx,hrun];exact h A' c' w' hO h3
end
def wl (word:ByteArray) (x:Int):ByteArray:=word++pF x
def Bd:ByteArray:=⟨#[102,108,105,112,115,32]⟩
def Be:ByteArray:=⟨#[115,116,111,99,107,32]⟩
def Bf:ByteArray:=⟨#[115,112,101,110,116,32]⟩
def Gq:ByteArray:=⟨#[114,101,112,97,105,114,115,32]⟩
theorem Nt {word w2:ByteArray} (h:w2.data=word.data++ #[32]) (x:Int):uD word [x]=wl w2 x:=by
 show word++(⟨#[32]⟩:ByteArray)++pF x=w2++pF x;congr 1
 apply ByteArray.ext;rw[ByteArray.data_append,h]
def NR (x:Wk):List ByteArray:=[wl Bd x.1.2.2.2.length,wl Be x.2.1,wl Bf x.2.2.1,wl Gq x.2.2.2]
def pK (x:Wk):List ByteArray:=if aY x=true then jI x.1.1 x.1.2.2.1++NR x else[]
theorem Bo (rows:List Int) (l:List Dm):(jI rows l).length<=rows.length:=by
 unfold jI;split
 . simp[uA]
 . exact Nat.zero_le _
theorem JO {x:Wk} (h:aY x=true):x.1.2.2.2.length<=60/\(0<=x.2.1/\x.2.1<=10000)/\(0<=x.2.2.1/\x.2.2.1<=10000)/\(0<=x.2.2.2/\x.2.2.2<=10000):=by
 unfold aY dG inB at h;simp at h;omega
theorem HV {x:Wk} (h:aY x=true):x.1.1.length<=8:=by
 unfold aY dG eG at h;simp only[Bool.and_eq_true]at h;exact(jA h.1.1.1.1.1).1.1
def Ln (B:Nat) (W:World) (v:Value) (x:Int):Prop:=aD 3 1 aX B W v [x]/\0<=x/\x<=10000
theorem Ln.al {B:Nat} {W:World} {v:Value} {x:Int} (h:Ln B W v x) (o:Obj):Ln B (W.alloc o) v x:=⟨h.1.alloc o,h.2⟩
theorem Ln.bl {B:Nat} {W W':World} {v:Value} {x:Int} (h:Ln B W v x) (hb:Below W.heap.size W W'):Ln B W' v x:=⟨h.1.below hb,h.2⟩
theorem Nu (w:World) (o:Obj):(w.alloc o).heap.size=w.heap.size+1:=by simp
theorem Gr {B g:Nat} {W:World} {x:Int} (hB:B<=g) (hb:Blk W g 3 #[.int .i64 x]) (h:0<=x/\x<=10000):Ln B W (.slice (some ⟨g,0,none⟩) 1 1) x:=
 ⟨⟨by simp[aX],.inr ⟨g,1,#[.int .i64 x],rfl,hB,hb,by simp,by simp[maxLen],by simp,by simp[aX]⟩⟩,h⟩
theorem qM {B:Nat} {v:Value} {x:Int} {W:World} (word w2:ByteArray) (h:Ln B W v x) (hw:word.size<=100) (h2:w2.data=word.data++ #[32]) (ht:Tab W):Calls Tryz.prog 68 #[.string word,v] W (Ret (.string (wl w2 x)) W):=by
 rw[<-Nt h2];exact GH word v [x] W (h.1.rd aI (by decide)) hw (by simp) (Qk (by have:=h.2;simp;omega)) ht
theorem Nv {w0 W:World} (Bw:Below w0.heap.size w0 W) {B:Nat} (hB:B<=w0.heap.size) (a b c d:ByteArray):aD 9 1 pW B (W.alloc (.cells #[.string a,.string b,.string c,.string d] 9)) (.slice (some ⟨W.heap.size,0,none⟩) 4 4) [a,b,c,d]:=by
 have e:[a,b,c,d].flatMap pW=[.string a,.string b,.string c,.string d]:=rfl;unfold aD;rw[e];exact⟨by simp,.inr ⟨W.heap.size,4,#[.string a,.string b,.string c,.string d],rfl,Nat.le_trans hB Bw.size,heap_alloc_new W _,by simp,by simp[maxLen],by simp,by simp⟩⟩
set_option maxHeartbeats 16000000 in
theorem JP (v1 v2 v3 v4:Value) (rows:List Int) (f n:List Dm) (fl:List Cl) (s p r:Int) (w:World) (h1:Rd 1 bH w v1 rows) (h2:Rd 3 aT w v2 f) (h3:Rd 3 aT w v3 n) (h4:Rd 2 bV w v4 fl) (hs:dA (rows,f,n,fl)) (ht:Tab w):
 Calls Tryz.prog 20 #[.agg #[v1,v2,v3,v4,.int .i64 s,.int .i64 p,.int .i64 r]] w (gH 9 1 pW (pK ((rows,f,n,fl),s,p,r)) w):=by
 have HT:=Qk ht;clear ht;obtain⟨A1,c1,rfl,_,_⟩:=h1.form;obtain⟨A2,c2,rfl,_,_⟩:=h2.form;obtain⟨A3,c3,rfl,_,_⟩:=h3.form;obtain⟨A4,c4,rfl,_,_⟩:=h4.form;have B0:=(Below.refl w.heap.size w).al (.cells #[.slice A1 rows.length c1,.slice A2 f.length c2,.slice A3 n.length c3,.slice A4 fl.length c4,.int .i64 s,.int .i64 p,.int .i64 r] 32);have bP:=Blk.aZ w 32 #[.slice A1 rows.length c1,.slice A2 f.length c2,.slice A3 n.length c3,.slice A4 fl.length c4,.int .i64 s,.int .i64 p,.int .i64 r];rcases hok:aY ((rows,f,n,fl),s,p,r)with _|_
 all_goals have HOk:=Qk hok
 . have e : pK ((rows, f, n, fl), s, p, r) = [] := by unfold pK; rw [hok]; rfl
   rw[e];go_enter Tryz.func20,Tryz.ntmps20
   go_wp2_with fail
   refine(iI _ _ _ _ ((rows,f,n,fl),s,p,r) _ (h1.Qj B0) (h2.Qj B0) (h3.Qj B0) (h4.Qj B0) hs.2.1).mono ?_;rintro e w1 ⟨rfl,hb1⟩;rw[HOk.out];go_wp2;go_ret;exact⟨none,0,rfl,vQ _,B0.tr hb1⟩
 . skip;have e:pK ((rows,f,n,fl),s,p,r)=jI rows n++[wl Bd (fl.length:Int),wl Be s,wl Bf p,wl Gq r]:=by unfold pK;rw[hok];rfl
   rw[e];obtain⟨F,hF⟩:=Qi (jI rows n);rw[<-hF];have hnum:=JO hok;have N1:Hid (0<=(fl.length:Int)/\(fl.length:Int)<=10000):=Qk (by have:=hnum.1;simp only at this;omega);have N2:=Qk hnum.2.1;have N3:=Qk hnum.2.2.1;have N4:=Qk hnum.2.2.2;simp only at N2 N3 N4;have hr8:rows.length<=8:=HV hok;have hfl8:F.length<=rows.length:=by rw[hF];exact Bo rows n
   have HF:=Qk hF;clear hF;clear hnum hok e;go_enter Tryz.func20,Tryz.ntmps20
   go_wp2_with fail
   refine(iI _ _ _ _ ((rows,f,n,fl),s,p,r) _ (h1.Qj B0) (h2.Qj B0) (h3.Qj B0) (h4.Qj B0) hs.2.1).mono ?_;rintro e w1 ⟨rfl,hb1⟩;rw[HOk.out];have B1:=B0.tr hb1;have bP1:=bP.bl hb1;have gP1:=bP1.lt;obtain⟨y_0,y_1,y_2,y_3,y_4,y_5,y_6⟩:=bP1.n7;go_wp2_with fail
   refine(AP _ _ rows n _ (h1.Qj B1) (h3.Qj B1)).mono ?_;rintro e w2 ⟨C,c,rfl,own2,hb2⟩;have B2:=B1.tr hb2;have bP2:=bP1.bl hb2;clear y_0 y_1 y_2 y_3 y_4 y_5 y_6;have gP2:=bP2.lt;obtain⟨y_0,y_1,y_2,y_3,y_4,y_5,y_6⟩:=bP2.n7;have Bw:Below w2.heap.size w2 w2:=Below.refl _ _;have hz:w2.heap.size<=w2.heap.size:=Nat.le_refl _;rw[<-HF.out]at own2⊢;have H8:Hid ((F.length+4)*16<=140737488355328):=Qk (by omega);have HM:Hid (F.length+4<=maxLen):=Qk (by unfold maxLen;omega);go_wp2_with fail
   have Bw:Below w2.heap.size w2 w2.drew:=Bw.drew;have hz:w2.heap.size<=w2.drew.heap.size:=Bw.size;have o0:=own2.below Bw;refine rB (fun w'=>w'.cell? ⟨w.heap.size,3,none⟩=some (.slice A4 fl.length c4)/\w'.cell? ⟨w.heap.size,4,none⟩=some (.int .i64 s)/\w'.cell? ⟨w.heap.size,5,none⟩=some (.int .i64 p)/\w'.cell? ⟨w.heap.size,6,none⟩=some (.int .i64 r)) fun hHeld=>?_
   repeat' (first
    |((with_reducible show AllReadyH _ _ _ _ _ _ _ _ _ _);first
    |(with_reducible exact AllReadyH.nil)
    | (refine tN 5 (fun K hK=>?_) ?_
       ((try clear hH);(try (have hH:=hHeld;clear hHeld));refine kN (x:=((fl.length:Int):Int)) rfl _ rfl rfl ?_;intro gX wX hbX bX hgX;(try replace o1:=o1.bl hbX);(try replace o2:=o2.bl hbX);(try replace o3:=o3.bl hbX);(try replace o4:=o4.bl hbX);have o1:=Gr (Nat.le_trans hz hgX) bX (N1.out);replace o0:=o0.below hbX;(try clear hcX hfX);obtain⟨hcX,hfX,hzX⟩:=bkn hbX w2.heap.size hz;replace hz:=hzX;replace Bw:=Bw.tr hbX;clear hbX hzX bX hgX)
       refine tK hK fun hHeld=>?_
       clear hK K)
    | (refine tN 6 (fun K hK=>?_) ?_
       ((try clear hH);(try (have hH:=hHeld;clear hHeld));go_simp;go_at_call 68;go_must (refine(qM _ Bd (by first|exact o1|exact o2|exact o3|exact o4) (by decide) rfl (HT.out.below (B2.tr Bw))).mono ?_;rintro e wX ⟨rfl,hbX⟩;(try replace o1:=o1.bl hbX);(try replace o2:=o2.bl hbX);(try replace o3:=o3.bl hbX);(try replace o4:=o4.bl hbX);replace o0:=o0.below hbX;(try clear hcX hfX);obtain⟨hcX,hfX,hzX⟩:=bkn hbX w2.heap.size hz;replace hz:=hzX;replace Bw:=Bw.tr hbX;clear hbX hzX))
       refine tK hK fun hHeld=>?_
       clear hK K)
    | (refine tN 9 (fun K hK=>?_) ?_
       ((try clear hH);(try (have hH:=hHeld;clear hHeld));refine kN (x:=(s:Int)) rfl _ rfl rfl ?_;intro gX wX hbX bX hgX;(try replace o1:=o1.bl hbX);(try replace o2:=o2.bl hbX);(try replace o3:=o3.bl hbX);(try replace o4:=o4.bl hbX);have o2:=Gr (Nat.le_trans hz hgX) bX (N2.out);replace o0:=o0.below hbX;(try clear hcX hfX);obtain⟨hcX,hfX,hzX⟩:=bkn hbX w2.heap.size hz;replace hz:=hzX;replace Bw:=Bw.tr hbX;clear hbX hzX bX hgX)
       refine tK hK fun hHeld=>?_
       clear hK K)
    | (refine tN 10 (fun K hK=>?_) ?_
       ((try clear hH);(try (have hH:=hHeld;clear hHeld));go_simp;go_at_call 68;go_must (refine(qM _ Be (by first|exact o1|exact o2|exact o3|exact o4) (by decide) rfl (HT.out.below (B2.tr Bw))).mono ?_;rintro e wX ⟨rfl,hbX⟩;(try replace o1:=o1.bl hbX);(try replace o2:=o2.bl hbX);(try replace o3:=o3.bl hbX);(try replace o4:=o4.bl hbX);replace o0:=o0.below hbX;(try clear hcX hfX);obtain⟨hcX,hfX,hzX⟩:=bkn hbX w2.heap.size hz;replace hz:=hzX;replace Bw:=Bw.tr hbX;clear hbX hzX))
       refine tK hK fun hHeld=>?_
       clear hK K)
    | (refine tN 13 (fun K hK=>?_) ?_
       ((try clear hH);(try (have hH:=hHeld;clear hHeld));refine kN (x:=(p:Int)) rfl _ rfl rfl ?_;intro gX wX hbX bX hgX;(try replace o1:=o1.bl hbX);(try replace o2:=o2.bl hbX);(try replace o3:=o3.bl hbX);(try replace o4:=o4.bl hbX);have o3:=Gr (Nat.le_trans hz hgX) bX (N3.out);replace o0:=o0.below hbX;(try clear hcX hfX);obtain⟨hcX,hfX,hzX⟩:=bkn hbX w2.heap.size hz;replace hz:=hzX;replace Bw:=Bw.tr hbX;clear hbX hzX bX hgX)
       refine tK hK fun hHeld=>?_
       clear hK K)
    | (refine tN 14 (fun K hK=>?_) ?_
       ((try clear hH);(try (have hH:=hHeld;clear hHeld));go_simp;go_at_call 68;go_must (refine(qM _ Bf (by first|exact o1|exact o2|exact o3|exact o4) (by decide) rfl (HT.out.below (B2.tr Bw))).mono ?_;rintro e wX ⟨rfl,hbX⟩;(try replace o1:=o1.bl hbX);(try replace o2:=o2.bl hbX);(try replace o3:=o3.bl hbX);(try replace o4:=o4.bl hbX);replace o0:=o0.below hbX;(try clear hcX hfX);obtain⟨hcX,hfX,hzX⟩:=bkn hbX w2.heap.size hz;replace hz:=hzX;replace Bw:=Bw.tr hbX;clear hbX hzX))
       refine tK hK fun hHeld=>?_
       clear hK K)
    | (refine tN 17 (fun K hK=>?_) ?_
       ((try clear hH);(try (have hH:=hHeld;clear hHeld));refine kN (x:=(r:Int)) rfl _ rfl rfl ?_;intro gX wX hbX bX hgX;(try replace o1:=o1.bl hbX);(try replace o2:=o2.bl hbX);(try replace o3:=o3.bl hbX);(try replace o4:=o4.bl hbX);have o4:=Gr (Nat.le_trans hz hgX) bX (N4.out);replace o0:=o0.below hbX;(try clear hcX hfX);obtain⟨hcX,hfX,hzX⟩:=bkn hbX w2.heap.size hz;replace hz:=hzX;replace Bw:=Bw.tr hbX;clear hbX hzX bX hgX)
       refine tK hK fun hHeld=>?_
       clear hK K)
    | (refine tN 18 (fun K hK=>?_) ?_
       ((try clear hH);(try (have hH:=hHeld;clear hHeld));go_simp;go_at_call 68;go_must (refine(qM _ Gq (by first|exact o1|exact o2|exact o3|exact o4) (by decide) rfl (HT.out.below (B2.tr Bw))).mono ?_;rintro e wX ⟨rfl,hbX⟩;(try replace o1:=o1.bl hbX);(try replace o2:=o2.bl hbX);(try replace o3:=o3.bl hbX);(try replace o4:=o4.bl hbX);replace o0:=o0.below hbX;(try clear hcX hfX);obtain⟨hcX,hfX,hzX⟩:=bkn hbX w2.heap.size hz;replace hz:=hzX;replace Bw:=Bw.tr hbX;clear hbX hzX))
       refine tK hK fun hHeld=>?_
       clear hK K)
    | (refine tN 19 (fun K hK=>?_) ?_
       (go_simp;have oS:=Nv (B:=w.heap.size) Bw B2.size (wl Bd (fl.length:Int)) (wl Be s) (wl Bf p) (wl Gq r);(try simp only[Nu]at oS);have o0:=o0.alloc (.cells #[.string (wl Bd (fl.length:Int)),.string (wl Be s),.string (wl Bf p),.string (wl Gq r)] 9);have Bw:=Bw.al (.cells #[.string (wl Bd (fl.length:Int)),.string (wl Be s),.string (wl Bf p),.string (wl Gq r)] 9);have hz:=Bw.size)
       refine tK hK fun hHeld=>?_
       clear hK K)
    | (refine tN 20 (fun K hK=>?_) ?_
       (refine Hw (enc:=pW) F8 iF F7 (B:=w1.heap.size) (hb2.tr Bw).size o0 oS H8.out HM.out rfl _ _ rfl rfl rfl ?_;intro A5 c5 w5 own5 hg5;have hne5:∀k,(Value.slice C F.length c).ownBlock=some k->w1.heap.size<=k:=(fun k hk=>(World.ownsRow.lt o0 k hk).1);have B5:Below w.heap.size w w5:=(B2.tr Bw).grown hg5 (B2.tr Bw).size (fun k hk=>Nat.le_trans B1.size (hne5 k hk));have bP5:=(bP2.below Bw gP2).grown hg5 (fun e=>by have:=hne5 _ e.symm;omega);obtain⟨q_0,q_1,q_2,q_3,q_4,q_5,q_6⟩:=bP5.n7)
       refine tK hK fun hHeld=>?_
       clear hK K)
    )
    |((with_reducible show wpAnyH _ _ _ _ _ _ _ _ _);first
    |(refine(tQ [5,9,13,17]) ?_)
    |(refine(tQ [6,9,13,17]) ?_)
    |(refine(tQ [9,13,17]) ?_)
    |(refine(tQ [10,13,17]) ?_)
    |(refine(tQ [13,17]) ?_)
    |(refine(tQ [14,17]) ?_)
    |(refine(tQ [17]) ?_)
    |(refine(tQ [18]) ?_)
    |(refine(tQ [19]) ?_)
    |(refine(tQ [20]) ?_)
    |(refine(tQ [14]) ?_)
    |(refine(tQ [13]) ?_)
    |(refine(tQ [10,17]) ?_)
    |(refine(tQ [10]) ?_)
    |(refine(tQ [10,13]) ?_)
    |(refine(tQ [9,17]) ?_)
    |(refine(tQ [9]) ?_)
    |(refine(tQ [9,13]) ?_)
    |(refine(tQ [6,13,17]) ?_)
    |(refine(tQ [6,17]) ?_)
    |(refine(tQ [6]) ?_)
    |(refine(tQ [6,13]) ?_)
    |(refine(tQ [6,9,17]) ?_)
    |(refine(tQ [6,9]) ?_)
    |(refine(tQ [6,9,13]) ?_)
    |(refine(tQ [5,13,17]) ?_)
    |(refine(tQ [5,17]) ?_)
    |(refine(tQ [5]) ?_)
    |(refine(tQ [5,13]) ?_)
    |(refine(tQ [5,9,17]) ?_)
    |(refine(tQ [5,9]) ?_)
    |(refine(tQ [5,9,13]) ?_)
    |(refine(tX 0) ?_)
    |(refine(tX 1) ?_)
    |(refine(tX 2) ?_)
    |(refine(tX 3) ?_)
    |(refine(tX 4) ?_)
    |(refine(tX 7) ?_)
    |(refine(tX 8) ?_)
    |(refine(tX 11) ?_)
    |(refine(tX 12) ?_)
    |(refine(tX 15) ?_)
    |(refine(tX 16) ?_)
    |(refine(tX 21) ?_)
    |(refine tE ?_)))
   all_goals (refine⟨trivial,?_⟩)
   all_goals
     go_wp2;go_ret;exact⟨A5,c5,by rw[List.length_append];rfl,by rw[List.length_append];exact own5.mono B1.size,B5⟩
end Go.Proofs.YtljfoohaapckeaaGreatDoor
namespace Go.Proofs.YtljfoohaapckeaaGreatDoor
open Go.RowKit
set_option linter.unusedVariables false
set_option maxHeartbeats 4000000
set_option maxRecDepth 100000
theorem Eg (u v:Value) (l m:List (Int)) (w:World) (h:Rd 1 (RE aX) w u l) (h':Rd 1 (RE aX) w v m):Calls Tryz.prog 22 #[u,v] w (Ret (.bool (l==m)) w):=by
 obtain⟨A,c,rfl,hc,hm⟩:=h.form;obtain⟨A',c',rfl,hc',hm'⟩:=h'.form;by_cases hlen:l.length=m.length
 . have hne : ((l.length : Int) != (m.length : Int)) = false := by simp [hlen]
   have Hlen:=Qk hlen;clear hlen;go_enter Tryz.func22,Tryz.ntmps22
   go_wp2;go_loopw [5] (fun i wr=>∃k:Nat,k<=l.length/\i= .int .i64 k/\Hid ((l.drop k==m.drop k)=(l==m))/\Below w.heap.size w wr) (fun i _=>l.length-(intOf i).toNat)
   case atStart=>exact⟨0,Nat.zero_le _,rfl,Qk rfl,Below.refl _ _⟩
   case round=>
    obtain⟨k,hk,rfl,Hg,hbel⟩:=hrel;by_cases hlt:k<l.length
    . have hlm : k < m.length := by have := Hlen.out; omega
      obtain⟨b,off,rfl,hb,h1⟩:=(h.Qj hbel).pY hlt;obtain⟨b',off',rfl,hb',q1⟩:=(h'.Qj hbel).pY hlm;have hlt':(k:Int)<(m.length:Int):=(by omega);go_wp2_with fail
      go_quiet (fail)
      go_wp2
      all_goals first
        | (go_roundw
           case rel=>exact⟨k+1,by omega,by go_num,eq_go Hg hlt hlm (by rename_i hx;simpa using hx),below_drewN hbel _⟩
           case measure=>simp[intOf];omega)
        | (go_ret
           exact⟨kC (PY Hg hlt hlm (by rename_i hx;simpa using hx)).symm,below_drewN hbel _⟩)
    . go_wp2;go_ret;exact⟨kC (Pj Hg (by omega) (by have:=Hlen.out;omega)).symm,hbel⟩
 . have hne : ((l.length : Int) != (m.length : Int)) = true := by simp; omega
   go_enter Tryz.func22,Tryz.ntmps22
   go_wp2;go_ret;exact⟨kC (by rw[eq_comm,beq_eq_false_iff_ne];exact fun e=>hlen (by rw[e])),Below.refl _ _⟩
end Go.Proofs.YtljfoohaapckeaaGreatDoor
