import Derived.Test.YtjijonhkofhikaaGreatDoorEK6
open _root_.List renaming length_take->TZ,drop_eq_getElem_cons->T9,nil_append->Ua,length_nil->Ub,drop_of_length_le->Uc,getElem?_toArray->Ud,getElem?_cons_zero->Ue,getElem?_cons_succ->Uf
open _root_.Nat renaming zero_le->Ug,le_refl->Uh,add_zero->Ui,zero_add->Uj
open _root_.Go.IntWalk renaming i64_in->Uk
open _root_.Go.Value renaming oneCell'->Ul,ownBlock->Um
open _root_.Go.Proofs.Tryz (prog func186 ntmps186 func167 ntmps167 func168 ntmps168)
open _root_.Go.Proofs.Tryz renaming func133->Un,ntmps133->Uo,func169->Uq,ntmps169->Ur,func113->Us,ntmps113->Ut
set_option linter.unusedVariables false
set_option linter.unusedSimpArgs false
set_option maxHeartbeats 4000000
set_option maxRecDepth 100000
namespace Go.Proofs.YtjijonhkofhikaaGreatDoor
open Go.ChangeShapes Go.WideShapes Go.ChangeAt Go.RowKit
theorem Jf {α:Type} {size:Nat} {R:World->List Value->α->Prop} {w:World} {A:Option Addr} {n c:Nat} {l:List α} (h:Rd size R w (.slice A n c) l):n=l.length/\n<=c:=by
 obtain⟨A0,c',e,h1,h2,h3⟩:=h;injection e with e1 e2 e3;subst e3;exact⟨e2,by omega⟩
theorem Rd.takeA {α:Type} {size:Nat} {R:World->List Value->α->Prop} {w:World} {A:Option Addr} {n c:Nat} {l:List α} (h:Rd size R w (.slice A n c) l) {j:Nat} (hj:j<=n):Rd size R w (.slice A j c) (l.take j):=by
 obtain⟨A0,c',e,h1,h2,h3⟩:=h;injection e with e1 e2 e3;subst e1 e2 e3;refine⟨_,_,by rw[TZ,Nat.min_eq_left hj],by rw[TZ];omega,by first|(rw[TZ];omega)|omega,fun hn=> ?_⟩;rw[TZ]at hn;obtain⟨b,off,rfl,hb,hc⟩:=h3 (by omega);refine⟨b,off,rfl,hb,fun i x hx=> ?_⟩;exact hc i x (by rw[List.getElem?_take]at hx;split at hx;exact hx;cases hx)
theorem gU {P:Program} {ops:Array Oper} {rest:List Oper} {o:Oper} {a:Act} {Q:Exit->Act->World->Prop} {α:Type} {t E:TypeId} {z:Value} {size bytes:Nat} (R:Row P t E z size bytes)
    {enc:α->List Value} (a7:∀x,(enc x).length=size) (h1:∀x,∀u∈enc x,u.oneCell'=true)
    {B:Nat} {w:World} (hB:B<=w.heap.size) {v:Value} {l:List α} (hown:aD E size enc B w v l) {A:Option Addr} {n c:Nat} {m:List α} (hn:m.length=n) (hm:Rd size (RE enc) w (.slice A n c) m)
    (hlen:(l.length+m.length)*bytes<=140737488355328) (a6:l.length+m.length<=maxLen) (hgd:o.guard=none)
    (s x:Operand) (ho:o.op= .call {callee:= .builtin .append,args:= #[s,x],argTypes:= #[t,t]})
    (hs:a.eval s=v) (hx:a.eval x= .slice A n c)
    (h:∀v' w',aD E size enc B w' v' (l++m)->Below B w w'->(∃A' c',v'= .slice A' (l.length+n) c')->wpList P ops Q rest (a.put o.dst v') w'):
    wpList P ops Q (o::rest) a w:=by
 subst hn;exact dX R a7 h1 hB hown hm hlen a6 hgd s x ho hs hx h
theorem Es (x y:Int) (d:Bool) (x' y':Int) (d':Bool) (r:Bool) (w:World) (hd:aI (x,y,d)=true) (a6:aI (x',y',d')=true) (hr:r=decide (aT (x,y,d)<aT (x',y',d'))):
 Calls prog 173 #[.agg #[.int .i64 x,.int .i64 y,.bool d],.agg #[.int .i64 x',.int .i64 y',.bool d']] w (Ret (.bool r) w):=by
 rw[hr];exact pG x y d x' y' d' w hd a6
theorem GA (v:Value) (l:List Dm) (w:World) (h:Rd 3 aU w v l):Calls prog 218 #[v] w (iH 99 3 aX (jB l) w):=by
 obtain⟨A,c,rfl,hc,hm⟩:=h.form;go_enter Tryz.func218,Tryz.ntmps218
 go_wp2;go_loopw [3,4] (fun s3 s4 wr=>∃(k:Nat) (out:List Dm) (A3:Option Addr) (c3:Nat),k<=l.length/\s4= .int .i64 k/\s3= .slice A3 out.length c3/\Hid (kL out (l.drop k)=jB l)/\Hid (Sorted out)/\aD 99 3 aX w.heap.size wr (.slice A3 out.length c3) out/\Below w.heap.size w wr) (fun _ i _=>l.length-(intOf i).toNat)
 case atStart=>exact⟨0,[],_,_,Ug _,rfl,rfl,TY rfl,TY yV,fI w _ rfl _ (Uh _),(Below.refl _ _).al _⟩
 case round=>
  obtain⟨k,out,A3,c3,hk,rfl,rfl,Hg,cJ,hown,bY⟩:=hrel;have gL:=yX cJ.out;obtain⟨wo,rfl⟩:∃wo:World,wo=wr:=⟨_,rfl⟩;by_cases hlt:k<l.length
  . obtain⟨b,off,rfl,hb,q1,q2,q3⟩:=(h.TW bY).jT hlt;have hg:=Hg.out;rw[T9 hlt,Cg]at hg;obtain⟨d,hd⟩:=TV (l[k]);rw[<-hd]at q1 q2 q3 hg;obtain⟨x,y,dn⟩:=d;simp only at q1 q2 q3;have gA:(k:Int)<(l.length:Int):=(by omega);rcases eI:aI (x,y,dn)with _|_
    . have e : kP out (x, y, dn) = out := by unfold kP; rw [eI]; rfl
      rw[e]at hg;have cK:=TY hg;have eK:=TY eI;clear hg eI hd e;go_wp2_with fail
      refine(dC x y dn _).mono ?_;rintro e w1 ⟨rfl,hb1⟩;rw[eK.out];go_wp2;go_roundw
      case rel=>exact⟨k+1,out,A3,c3,by omega,by go_num,rfl,cK,cJ,hown.below hb1,bY.tr hb1⟩
      case measure=>simp[intOf];omega
    . have hst:=zT out eI;have cH:=TY hst;have cK:=TY hg;have eK:=TY eI;have Hd:=TY hd;clear hst hg eI hd;go_wp2_with fail
      refine(dC x y dn _).mono ?_;rintro e w1 ⟨rfl,hb1⟩;rw[eK.out]
      have QF : Hid (∀ wX : World, Below w.heap.size w wX -> b < wX.heap.size /\ wX.cell? ⟨b, off + k * 3, none⟩ = some (.int .i64 x) /\ wX.cell? ⟨b, off + k * 3 + 1, none⟩ = some (.int .i64 y) /\ wX.cell? ⟨b, off + k * 3 + 2, none⟩ = some (.bool dn)) := TY (fun wX hX => by
       obtain⟨b9,gB,e9,r0,r1,r2,r3⟩:=(h.TW hX).jT hlt;injection e9 with e9;injection e9 with gC gD _;subst gC;subst gD;rw[<-Hd.out]at r1 r2 r3;exact⟨r0,r1,r2,r3⟩)
      have eL:=hown.below hb1;have B1:=bY.tr hb1;obtain⟨P,hP⟩:=TV (nO (x,y,dn) out);have bF:P<=out.length:=by rw[hP];exact IQ _ _
      have eM:∀j,(hj:j<out.length)->(aT out[j]<aT (x,y,dn)↔j<P):=fun j hj=>by rw[hP];exact Lg cJ.out hj
      rw[<-hP]at cH;have eR:=TY eM;have HP:=TY hP;clear eM hP;go_wp2;go_loopw [5] (fun s5 wr=>∃j:Nat,j<=P/\s5= .int .i64 j/\aD 99 3 aX w.heap.size wr (.slice A3 out.length c3) out/\Below w.heap.size w wr) (fun i _=>P-(intOf i).toNat)
      case atStart=>exact⟨0,Ug _,rfl,eL,B1⟩
      case round=>
       obtain⟨j,hj,rfl,hown2,bB⟩:=hrel;clear eL B1 hown bY q1 q2 q3 hb1 hb;obtain⟨hb,q1,q2,q3⟩:=QF.out _ bB;by_cases cL:j<out.length
       . obtain⟨g,hA,hg0,hg1⟩:=hown2.split cL;subst hA;obtain⟨e,he⟩:=TV (out[j]);have b5:=hown2.slot aC (by decide) cL;rw[<-he]at b5;have fO:aI e=true:=by rw[he];exact cJ.out.1 _ (List.getElem_mem cL)
         have b6:=eR.out j cL;rw[<-he]at b6;obtain⟨ex,ey,ed⟩:=e;have z0:=b5 0 _ rfl;have z1:=b5 1 _ rfl;have z2:=b5 2 _ rfl;simp only[Ui]at z0;have fR:=TY fO;have He:=TY he;clear b5 fO he;have gM:(j:Int)<(out.length:Int):=(by omega);have Bw:Below wr.heap.size wr wr.drew:=(Below.refl _ _).drew;have hz:wr.heap.size<=wr.drew.heap.size:=(by simp);by_cases eN:j<P
         . have Hr : Hid (true = decide (aT (ex, ey, ed) < aT (x, y, dn))) := TY (by rw [decide_eq_true (b6.2 eN)]);clear b6;go_wp2_with fail
           refine rB (fun w'=>w'.cell? ⟨g,j*3,none⟩=some (.int .i64 ex)/\w'.cell? ⟨g,j*3+1,none⟩=some (.int .i64 ey)/\w'.cell? ⟨g,j*3+2,none⟩=some (.bool ed)/\w'.cell? ⟨b,off+k*3,none⟩=some (.int .i64 x)/\w'.cell? ⟨b,off+k*3+1,none⟩=some (.int .i64 y)/\w'.cell? ⟨b,off+k*3+2,none⟩=some (.bool dn)) fun hHeld=>(tW 0)<|(tW 1)<|(tW 2)<|(tW 3)<|(tW 4)<|(tW 5)<|(tW 6)<|(tW 7)<|(tW 8)<|(tW 9)<|(tW 10)<|(tW 11)<|(tW 12)<|(tR [13])<|tL fun K hK=>?_
           go_simp
           (first|(go_at_call 173;go_must (refine(Es ex ey ed x y dn true _ fR.out eK.out Hr.out).mono ?_;rintro e wX ⟨rfl,eJ⟩;obtain⟨fS,fW,eP⟩:=bkn eJ wr.heap.size hz;have hz:=eP;have Bw:=Bw.tr eJ);(try go_wp2_with fail)))
           refine tK hK fun hHeld=>?_
           clear hK K;refine(tW 14)<|tD ?_
           all_goals
             go_wp2;go_roundw
             case rel=>exact⟨j+1,by omega,by go_num,hown2.below Bw,bB.tr Bw⟩
             case measure=>simp[intOf];omega
         . obtain rfl : P = j := by omega
           have Hr:Hid (false=decide (aT (ex,ey,ed)<aT (x,y,dn))):=TY (by rw[decide_eq_false (mt b6.1 eN)]);clear b6;go_wp2_with fail
           refine rB (fun w'=>w'.cell? ⟨g,P*3,none⟩=some (.int .i64 ex)/\w'.cell? ⟨g,P*3+1,none⟩=some (.int .i64 ey)/\w'.cell? ⟨g,P*3+2,none⟩=some (.bool ed)/\w'.cell? ⟨b,off+k*3,none⟩=some (.int .i64 x)/\w'.cell? ⟨b,off+k*3+1,none⟩=some (.int .i64 y)/\w'.cell? ⟨b,off+k*3+2,none⟩=some (.bool dn)) fun hHeld=>(tW 0)<|(tW 1)<|(tW 2)<|(tW 3)<|(tW 4)<|(tW 5)<|(tW 6)<|(tW 7)<|(tW 8)<|(tW 9)<|(tW 10)<|(tW 11)<|(tW 12)<|(tR [13])<|tL fun K hK=>?_
           go_simp
           (first|(go_at_call 173;go_must (refine(Es ex ey ed x y dn false _ fR.out eK.out Hr.out).mono ?_;rintro e wX ⟨rfl,eJ⟩;obtain⟨fS,fW,eP⟩:=bkn eJ wr.heap.size hz;have hz:=eP;have Bw:=Bw.tr eJ);(try go_wp2_with fail)))
           refine tK hK fun hHeld=>?_
           clear hK K;refine(tW 14)<|tD ?_;have bJ:=hown2.below Bw;have B3:=bB.tr Bw;clear hHeld z0 z1 z2 hb q1 q2 q3 hown2 bB Bw hz fS fW eP eJ;obtain⟨W4,gF⟩:=TV wX;subst gF;have b5:=bJ.slot aC (by decide) cL;rw[<-He.out]at b5;have z0:=b5 0 _ rfl;have z1:=b5 1 _ rfl;have z2:=b5 2 _ rfl;simp only[Ui]at z0;clear b5;obtain⟨hb,q1,q2,q3⟩:=QF.out _ B3;by_cases bX:out[P]? =some (x,y,dn)
           . have fX:(ex,ey,ed)=(x,y,dn):=by
              rw[List.getElem?_eq_getElem cL,Option.some.injEq]at bX;rw[He.out,bX]
             simp only[Prod.mk.injEq]at fX;obtain⟨rfl,rfl,rfl⟩:=fX;have HG:Hid (kL out (l.drop (k+1))=jB l):=TY (by rw[<-cK.out,cH.out,if_pos bX]);clear bX;go_wp2_with fail
             refine rB (fun w'=>w'.cell? ⟨g,P*3,none⟩=some (.int .i64 ex)/\w'.cell? ⟨g,P*3+1,none⟩=some (.int .i64 ey)/\w'.cell? ⟨g,P*3+2,none⟩=some (.bool ed)/\w'.cell? ⟨b,off+k*3,none⟩=some (.int .i64 ex)/\w'.cell? ⟨b,off+k*3+1,none⟩=some (.int .i64 ey)/\w'.cell? ⟨b,off+k*3+2,none⟩=some (.bool ed)) fun hHeld=>(tW 0)<|(tW 1)<|(tW 2)<|(tW 3)<|(tW 4)<|(tW 5)<|(tW 6)<|(tW 7)<|(tW 8)<|(tW 9)<|(tW 10)<|(tW 11)<|(tW 12)<|(tW 13)<|(tW 14)<|tD ?_
             go_wp2;go_roundw
             case rel=>exact⟨k+1,out,_,c3,by omega,by go_num,rfl,HG,cJ,bJ.below ((Below.refl _ _).drew),B3.drew⟩
             case measure=>simp[intOf];omega
           . have cI:=TY bX;clear bX;have hne:¬(ex,ey,ed)=(x,y,dn):=fun q=>cI.out (by rw[List.getElem?_eq_getElem cL,<-He.out,q])
             by_cases h1:ex=x
             . obtain rfl:x=ex:=h1.symm;by_cases h2:ey=y
               . obtain rfl:y=ey:=h2.symm;by_cases h3:ed=dn
                 . exfalso;apply hne;rw[h3]
                 . have fY:=TY hne;clear hne;go_wp2_with fail
                   refine rB (fun w'=>w'.cell? ⟨g,P*3,none⟩=some (.int .i64 x)/\w'.cell? ⟨g,P*3+1,none⟩=some (.int .i64 y)/\w'.cell? ⟨g,P*3+2,none⟩=some (.bool ed)/\w'.cell? ⟨b,off+k*3,none⟩=some (.int .i64 x)/\w'.cell? ⟨b,off+k*3+1,none⟩=some (.int .i64 y)/\w'.cell? ⟨b,off+k*3+2,none⟩=some (.bool dn)) fun hHeld=>(tW 0)<|(tW 1)<|(tW 2)<|(tW 3)<|(tW 4)<|(tW 5)<|(tW 6)<|(tW 7)<|(tW 8)<|(tW 9)<|(tW 10)<|(tW 11)<|(tW 12)<|(tW 13)<|(tW 14)<|tD ?_
                   have HO:=bJ.below ((Below.refl _ _).drew);have B6:=B3.drew;clear hHeld z0 z1 z2 hb q1 q2 q3 bJ B3;obtain⟨W5,b7⟩:=TV W4.drew;rw[<-b7]at HO B6⊢;clear b7;have bA:Hid (kL (out.take P++(x,y,dn)::out.drop P) (l.drop (k+1))=jB l):=TY (by rw[<-cK.out,cH.out,if_neg cI.out]);have b8:Hid (Sorted (out.take P++(x,y,dn)::out.drop P)):=TY (by have:=jJ cJ.out (x,y,dn);rw[cH.out,if_neg cI.out]at this;exact this);obtain⟨NW,bC⟩:=TV (out.take P++(x,y,dn)::out.drop P);have cA:NW.length=out.length+1:=by rw[bC];simp;omega
                   have bD:(out.take P++[(x,y,dn)])++out.drop P=NW:=by rw[bC];simp
                   rw[<-bC]at bA b8;have bK:=HO.rd aC (by decide);obtain⟨_,eW⟩:=Jf bK;have cB:=(bK.TW ((Below.refl _ _).al (.cells #[] 99))).takeA bF;have bL:(out.take P).length=P:=by simp;omega
                   have bN:(out.drop P).length=out.length-P:=(by simp);have e5:P<=c3:=(by omega);have cM:(P:Int)<=(c3:Int):=(by omega);have e6:(P:Int)<=(out.length:Int):=(by omega);obtain⟨TK,bO⟩:=TV (out.take P);obtain⟨DR,bR⟩:=TV (out.drop P);rw[<-bO]at cB bL bD;rw[<-bR]at bN bD;have cC:=TY cA;have cN:=TY bD;have e7:=TY bO;have cP:=TY bR;have cD:=TY bL;have cQ:=TY bN;have cR:Hid ((0+TK.length)*24<=140737488355328):=TY (by omega);have cS:Hid (0+TK.length<=maxLen):=TY (by unfold maxLen;omega);have cT:Hid ((TK.length+1)*24<=140737488355328):=TY (by omega);have cU:Hid (TK.length+1<=maxLen):=TY (by unfold maxLen;omega);have bE:(TK++[((x,y,dn):Dm)]).length=P+1:=by simp;omega
                   have cV:Hid (((TK++[((x,y,dn):Dm)]).length+DR.length)*24<=140737488355328):=TY (by rw[bE];omega);have cW:Hid ((TK++[((x,y,dn):Dm)]).length+DR.length<=maxLen):=TY (by rw[bE];unfold maxLen;omega);have cE:=TY bE;have cX:Hid ((P:Int)=((P:Nat):Int)):=TY rfl;clear cA bD bC bO bR bL bN bE bK;go_wp2_with (first|(at_builtin;(refine gU (enc:=aX) aK aC aM (B:=W5.heap.size) (by simp) (fI W5 _ rfl _ (Uh _)) (n:=P) cD.out cB cR.out cS.out rfl _ _ rfl rfl rfl ?_);intro v6 w6 a6 cY dL;obtain⟨A6,c6,rfl⟩:=dL;simp only[Ua,Ub,Uj]at a6⊢;have cF:Below W5.heap.size W5 w6:=((Below.refl _ _).al _).trans cY;obtain⟨hb,q1,q2,q3⟩:=QF.out _ (B6.tr cF))|(at_builtin;(refine gU (enc:=aX) aK aC aM (B:=W5.heap.size) bU.size a7 (n:=out.length-P) cQ.out cG cV.out cW.out rfl _ _ rfl rfl rfl ?_);intro v9 w9 a8 dT eA;obtain⟨A9,c9,rfl⟩:=eA;rw[cN.out]at a8)|((with_reducible refine mQ aK bW P bF cX.out rfl _ _ rfl rfl rfl ?_);intro A8 c8 cG;rw[<-cP.out]at cG)|(at_builtin;go_must ((refine aF (enc:=aX) aK aC aM cF a6 ((x,y,dn):Dm) cT.out cU.out rfl _ _ rfl rfl rfl ?_);intro v7 w7 a7 bU e8 fD;obtain⟨A7,c7,rfl,fL,fN⟩:=a7.form;rw[cE.out]at a7⊢;have bW:=(HO.below bU).rd aC (by decide))))
                   have eC:TK.length+1+(out.length-P)=NW.length:=by rw[cC.out,cD.out];omega
                   have eE:(TK++[((x,y,dn):Dm)]).length+(out.length-P)=NW.length:=by rw[cC.out,cE.out];omega
                   rw[eE]at a8;go_roundw
                   case rel=>exact⟨k+1,NW,A9,c9,by omega,by go_num,by rw[eC],bA,b8,a8.mono B6.size,B6.trans (bU.trans dT|>.mono B6.size)⟩
                   case measure=>simp[intOf];omega
               . have fY:=TY hne;clear hne;go_wp2_with fail
                 refine rB (fun w'=>w'.cell? ⟨g,P*3,none⟩=some (.int .i64 x)/\w'.cell? ⟨g,P*3+1,none⟩=some (.int .i64 ey)/\w'.cell? ⟨g,P*3+2,none⟩=some (.bool ed)/\w'.cell? ⟨b,off+k*3,none⟩=some (.int .i64 x)/\w'.cell? ⟨b,off+k*3+1,none⟩=some (.int .i64 y)/\w'.cell? ⟨b,off+k*3+2,none⟩=some (.bool dn)) fun hHeld=>(tW 0)<|(tW 1)<|(tW 2)<|(tW 3)<|(tW 4)<|(tW 5)<|(tW 6)<|(tW 7)<|(tW 8)<|(tW 9)<|(tW 10)<|(tW 11)<|(tW 12)<|(tW 13)<|(tW 14)<|tD ?_
                 have HO:=bJ.below ((Below.refl _ _).drew);have B6:=B3.drew;clear hHeld z0 z1 z2 hb q1 q2 q3 bJ B3;obtain⟨W5,b7⟩:=TV W4.drew;rw[<-b7]at HO B6⊢;clear b7;have bA:Hid (kL (out.take P++(x,y,dn)::out.drop P) (l.drop (k+1))=jB l):=TY (by rw[<-cK.out,cH.out,if_neg cI.out]);have b8:Hid (Sorted (out.take P++(x,y,dn)::out.drop P)):=TY (by have:=jJ cJ.out (x,y,dn);rw[cH.out,if_neg cI.out]at this;exact this);obtain⟨NW,bC⟩:=TV (out.take P++(x,y,dn)::out.drop P);have cA:NW.length=out.length+1:=by rw[bC];simp;omega
                 have bD:(out.take P++[(x,y,dn)])++out.drop P=NW:=by rw[bC];simp
                 rw[<-bC]at bA b8;have bK:=HO.rd aC (by decide);obtain⟨_,eW⟩:=Jf bK;have cB:=(bK.TW ((Below.refl _ _).al (.cells #[] 99))).takeA bF;have bL:(out.take P).length=P:=by simp;omega
                 have bN:(out.drop P).length=out.length-P:=(by simp);have e5:P<=c3:=(by omega);have cM:(P:Int)<=(c3:Int):=(by omega);have e6:(P:Int)<=(out.length:Int):=(by omega);obtain⟨TK,bO⟩:=TV (out.take P);obtain⟨DR,bR⟩:=TV (out.drop P);rw[<-bO]at cB bL bD;rw[<-bR]at bN bD;have cC:=TY cA;have cN:=TY bD;have e7:=TY bO;have cP:=TY bR;have cD:=TY bL;have cQ:=TY bN;have cR:Hid ((0+TK.length)*24<=140737488355328):=TY (by omega);have cS:Hid (0+TK.length<=maxLen):=TY (by unfold maxLen;omega);have cT:Hid ((TK.length+1)*24<=140737488355328):=TY (by omega);have cU:Hid (TK.length+1<=maxLen):=TY (by unfold maxLen;omega);have bE:(TK++[((x,y,dn):Dm)]).length=P+1:=by simp;omega
                 have cV:Hid (((TK++[((x,y,dn):Dm)]).length+DR.length)*24<=140737488355328):=TY (by rw[bE];omega);have cW:Hid ((TK++[((x,y,dn):Dm)]).length+DR.length<=maxLen):=TY (by rw[bE];unfold maxLen;omega);have cE:=TY bE;have cX:Hid ((P:Int)=((P:Nat):Int)):=TY rfl;clear cA bD bC bO bR bL bN bE bK;go_wp2_with (first|(at_builtin;(refine gU (enc:=aX) aK aC aM (B:=W5.heap.size) (by simp) (fI W5 _ rfl _ (Uh _)) (n:=P) cD.out cB cR.out cS.out rfl _ _ rfl rfl rfl ?_);intro v6 w6 a6 cY dL;obtain⟨A6,c6,rfl⟩:=dL;simp only[Ua,Ub,Uj]at a6⊢;have cF:Below W5.heap.size W5 w6:=((Below.refl _ _).al _).trans cY;obtain⟨hb,q1,q2,q3⟩:=QF.out _ (B6.tr cF))|(at_builtin;(refine gU (enc:=aX) aK aC aM (B:=W5.heap.size) bU.size a7 (n:=out.length-P) cQ.out cG cV.out cW.out rfl _ _ rfl rfl rfl ?_);intro v9 w9 a8 dT eA;obtain⟨A9,c9,rfl⟩:=eA;rw[cN.out]at a8)|((with_reducible refine mQ aK bW P bF cX.out rfl _ _ rfl rfl rfl ?_);intro A8 c8 cG;rw[<-cP.out]at cG)|(at_builtin;go_must ((refine aF (enc:=aX) aK aC aM cF a6 ((x,y,dn):Dm) cT.out cU.out rfl _ _ rfl rfl rfl ?_);intro v7 w7 a7 bU e8 fD;obtain⟨A7,c7,rfl,fL,fN⟩:=a7.form;rw[cE.out]at a7⊢;have bW:=(HO.below bU).rd aC (by decide))))
                 have eC:TK.length+1+(out.length-P)=NW.length:=by rw[cC.out,cD.out];omega
                 have eE:(TK++[((x,y,dn):Dm)]).length+(out.length-P)=NW.length:=by rw[cC.out,cE.out];omega
                 rw[eE]at a8;go_roundw
                 case rel=>exact⟨k+1,NW,A9,c9,by omega,by go_num,by rw[eC],bA,b8,a8.mono B6.size,B6.trans (bU.trans dT|>.mono B6.size)⟩
                 case measure=>simp[intOf];omega
             . have fY:=TY hne;clear hne;go_wp2_with fail
               refine rB (fun w'=>w'.cell? ⟨g,P*3,none⟩=some (.int .i64 ex)/\w'.cell? ⟨g,P*3+1,none⟩=some (.int .i64 ey)/\w'.cell? ⟨g,P*3+2,none⟩=some (.bool ed)/\w'.cell? ⟨b,off+k*3,none⟩=some (.int .i64 x)/\w'.cell? ⟨b,off+k*3+1,none⟩=some (.int .i64 y)/\w'.cell? ⟨b,off+k*3+2,none⟩=some (.bool dn)) fun hHeld=>(tW 0)<|(tW 1)<|(tW 2)<|(tW 3)<|(tW 4)<|(tW 5)<|(tW 6)<|(tW 7)<|(tW 8)<|(tW 9)<|(tW 10)<|(tW 11)<|(tW 12)<|(tW 13)<|(tW 14)<|tD ?_
               have HO:=bJ.below ((Below.refl _ _).drew);have B6:=B3.drew;clear hHeld z0 z1 z2 hb q1 q2 q3 bJ B3;obtain⟨W5,b7⟩:=TV W4.drew;rw[<-b7]at HO B6⊢;clear b7;have bA:Hid (kL (out.take P++(x,y,dn)::out.drop P) (l.drop (k+1))=jB l):=TY (by rw[<-cK.out,cH.out,if_neg cI.out]);have b8:Hid (Sorted (out.take P++(x,y,dn)::out.drop P)):=TY (by have:=jJ cJ.out (x,y,dn);rw[cH.out,if_neg cI.out]at this;exact this);obtain⟨NW,bC⟩:=TV (out.take P++(x,y,dn)::out.drop P);have cA:NW.length=out.length+1:=by rw[bC];simp;omega
               have bD:(out.take P++[(x,y,dn)])++out.drop P=NW:=by rw[bC];simp
               rw[<-bC]at bA b8;have bK:=HO.rd aC (by decide);obtain⟨_,eW⟩:=Jf bK;have cB:=(bK.TW ((Below.refl _ _).al (.cells #[] 99))).takeA bF;have bL:(out.take P).length=P:=by simp;omega
               have bN:(out.drop P).length=out.length-P:=(by simp);have e5:P<=c3:=(by omega);have cM:(P:Int)<=(c3:Int):=(by omega);have e6:(P:Int)<=(out.length:Int):=(by omega);obtain⟨TK,bO⟩:=TV (out.take P);obtain⟨DR,bR⟩:=TV (out.drop P);rw[<-bO]at cB bL bD;rw[<-bR]at bN bD;have cC:=TY cA;have cN:=TY bD;have e7:=TY bO;have cP:=TY bR;have cD:=TY bL;have cQ:=TY bN;have cR:Hid ((0+TK.length)*24<=140737488355328):=TY (by omega);have cS:Hid (0+TK.length<=maxLen):=TY (by unfold maxLen;omega);have cT:Hid ((TK.length+1)*24<=140737488355328):=TY (by omega);have cU:Hid (TK.length+1<=maxLen):=TY (by unfold maxLen;omega);have bE:(TK++[((x,y,dn):Dm)]).length=P+1:=by simp;omega
               have cV:Hid (((TK++[((x,y,dn):Dm)]).length+DR.length)*24<=140737488355328):=TY (by rw[bE];omega);have cW:Hid ((TK++[((x,y,dn):Dm)]).length+DR.length<=maxLen):=TY (by rw[bE];unfold maxLen;omega);have cE:=TY bE;have cX:Hid ((P:Int)=((P:Nat):Int)):=TY rfl;clear cA bD bC bO bR bL bN bE bK;go_wp2_with (first|(at_builtin;(refine gU (enc:=aX) aK aC aM (B:=W5.heap.size) (by simp) (fI W5 _ rfl _ (Uh _)) (n:=P) cD.out cB cR.out cS.out rfl _ _ rfl rfl rfl ?_);intro v6 w6 a6 cY dL;obtain⟨A6,c6,rfl⟩:=dL;simp only[Ua,Ub,Uj]at a6⊢;have cF:Below W5.heap.size W5 w6:=((Below.refl _ _).al _).trans cY;obtain⟨hb,q1,q2,q3⟩:=QF.out _ (B6.tr cF))|(at_builtin;(refine gU (enc:=aX) aK aC aM (B:=W5.heap.size) bU.size a7 (n:=out.length-P) cQ.out cG cV.out cW.out rfl _ _ rfl rfl rfl ?_);intro v9 w9 a8 dT eA;obtain⟨A9,c9,rfl⟩:=eA;rw[cN.out]at a8)|((with_reducible refine mQ aK bW P bF cX.out rfl _ _ rfl rfl rfl ?_);intro A8 c8 cG;rw[<-cP.out]at cG)|(at_builtin;go_must ((refine aF (enc:=aX) aK aC aM cF a6 ((x,y,dn):Dm) cT.out cU.out rfl _ _ rfl rfl rfl ?_);intro v7 w7 a7 bU e8 fD;obtain⟨A7,c7,rfl,fL,fN⟩:=a7.form;rw[cE.out]at a7⊢;have bW:=(HO.below bU).rd aC (by decide))))
               have eC:TK.length+1+(out.length-P)=NW.length:=by rw[cC.out,cD.out];omega
               have eE:(TK++[((x,y,dn):Dm)]).length+(out.length-P)=NW.length:=by rw[cC.out,cE.out];omega
               rw[eE]at a8;go_roundw
               case rel=>exact⟨k+1,NW,A9,c9,by omega,by go_num,by rw[eC],bA,b8,a8.mono B6.size,B6.trans (bU.trans dT|>.mono B6.size)⟩
               case measure=>simp[intOf];omega
       . have eN : P = j := by omega
         subst eN;have gN:(out.length:Int)<=(P:Int):=(by omega);have cI:Hid (¬out[P]? =some (x,y,dn)):=TY (by rw[List.getElem?_eq_none (by omega)];simp);have gK:decide (P<out.length)=false:=by simp;omega
         clear hb q1 q2 q3;go_wp2_with fail
         refine rB (fun _=>True) fun hHeld=>(tW 0)<|(tW 1)<|(tW 2)<|(tW 3)<|(tW 4)<|(tU 5)<|(tU 6)<|(tU 7)<|(tU 8)<|(tU 9)<|(tU 10)<|(tU 11)<|(tU 12)<|(tU 13)<|(tW 14)<|tD ?_
         go_wp2_with fail
         refine rB (fun _=>True) fun hHeld=>(tW 0)<|(tW 1)<|(tW 2)<|(tW 3)<|(tW 4)<|(tU 5)<|(tU 6)<|(tU 7)<|(tU 8)<|(tU 9)<|(tU 10)<|(tU 11)<|(tU 12)<|(tU 13)<|(tW 14)<|tD ?_
         have Bw:Below wr.heap.size wr wr.drew.drew:=(Below.refl _ _).drew.drew;have a6:=hown2.below Bw;have B6:=bB.tr Bw;clear hHeld hown2 bB Bw;obtain⟨W5,b7⟩:=TV wr.drew.drew;rw[<-b7]at a6 B6⊢;clear b7 gK;have HO:=a6;clear a6;have bA:Hid (kL (out.take P++(x,y,dn)::out.drop P) (l.drop (k+1))=jB l):=TY (by rw[<-cK.out,cH.out,if_neg cI.out]);have b8:Hid (Sorted (out.take P++(x,y,dn)::out.drop P)):=TY (by have:=jJ cJ.out (x,y,dn);rw[cH.out,if_neg cI.out]at this;exact this);obtain⟨NW,bC⟩:=TV (out.take P++(x,y,dn)::out.drop P);have cA:NW.length=out.length+1:=by rw[bC];simp;omega
         have bD:(out.take P++[(x,y,dn)])++out.drop P=NW:=by rw[bC];simp
         rw[<-bC]at bA b8;have bK:=HO.rd aC (by decide);obtain⟨_,eW⟩:=Jf bK;have cB:=(bK.TW ((Below.refl _ _).al (.cells #[] 99))).takeA bF;have bL:(out.take P).length=P:=by simp;omega
         have bN:(out.drop P).length=out.length-P:=(by simp);have e5:P<=c3:=(by omega);have cM:(P:Int)<=(c3:Int):=(by omega);have e6:(P:Int)<=(out.length:Int):=(by omega);obtain⟨TK,bO⟩:=TV (out.take P);obtain⟨DR,bR⟩:=TV (out.drop P);rw[<-bO]at cB bL bD;rw[<-bR]at bN bD;have cC:=TY cA;have cN:=TY bD;have e7:=TY bO;have cP:=TY bR;have cD:=TY bL;have cQ:=TY bN;have cR:Hid ((0+TK.length)*24<=140737488355328):=TY (by omega);have cS:Hid (0+TK.length<=maxLen):=TY (by unfold maxLen;omega);have cT:Hid ((TK.length+1)*24<=140737488355328):=TY (by omega);have cU:Hid (TK.length+1<=maxLen):=TY (by unfold maxLen;omega);have bE:(TK++[((x,y,dn):Dm)]).length=P+1:=by simp;omega
         have cV:Hid (((TK++[((x,y,dn):Dm)]).length+DR.length)*24<=140737488355328):=TY (by rw[bE];omega);have cW:Hid ((TK++[((x,y,dn):Dm)]).length+DR.length<=maxLen):=TY (by rw[bE];unfold maxLen;omega);have cE:=TY bE;have cX:Hid ((P:Int)=((P:Nat):Int)):=TY rfl;clear cA bD bC bO bR bL bN bE bK;go_wp2_with (first|(at_builtin;(refine gU (enc:=aX) aK aC aM (B:=W5.heap.size) (by simp) (fI W5 _ rfl _ (Uh _)) (n:=P) cD.out cB cR.out cS.out rfl _ _ rfl rfl rfl ?_);intro v6 w6 a6 cY dL;obtain⟨A6,c6,rfl⟩:=dL;simp only[Ua,Ub,Uj]at a6⊢;have cF:Below W5.heap.size W5 w6:=((Below.refl _ _).al _).trans cY;obtain⟨hb,q1,q2,q3⟩:=QF.out _ (B6.tr cF))|(at_builtin;(refine gU (enc:=aX) aK aC aM (B:=W5.heap.size) bU.size a7 (n:=out.length-P) cQ.out cG cV.out cW.out rfl _ _ rfl rfl rfl ?_);intro v9 w9 a8 dT eA;obtain⟨A9,c9,rfl⟩:=eA;rw[cN.out]at a8)|((with_reducible refine mQ aK bW P bF cX.out rfl _ _ rfl rfl rfl ?_);intro A8 c8 cG;rw[<-cP.out]at cG)|(at_builtin;go_must ((refine aF (enc:=aX) aK aC aM cF a6 ((x,y,dn):Dm) cT.out cU.out rfl _ _ rfl rfl rfl ?_);intro v7 w7 a7 bU e8 fD;obtain⟨A7,c7,rfl,fL,fN⟩:=a7.form;rw[cE.out]at a7⊢;have bW:=(HO.below bU).rd aC (by decide))))
         have eC:TK.length+1+(out.length-P)=NW.length:=by rw[cC.out,cD.out];omega
         have eE:(TK++[((x,y,dn):Dm)]).length+(out.length-P)=NW.length:=by rw[cC.out,cE.out];omega
         rw[eE]at a8;go_roundw
         case rel=>exact⟨k+1,NW,A9,c9,by omega,by go_num,by rw[eC],bA,b8,a8.mono B6.size,B6.trans (bU.trans dT|>.mono B6.size)⟩
         case measure=>simp[intOf];omega
  . obtain rfl : k = l.length := by omega
    have hg:=Hg.out;rw[Uc (Uh _)]at hg;have hg2:out=jB l:=hg;clear hg;subst hg2;go_wp2;go_ret;exact⟨_,_,rfl,hown,bY⟩
theorem Fs (x y:Int) (w:World) (h:kM (x,y)=true):Calls prog 186 #[.agg #[.int .i64 x,.int .i64 y],.bool true] w (Ret (.tuple #[.agg #[.int .i64 x,.int .i64 y,.bool true],.agg #[.int .i64 (x+1),.int .i64 y,.bool true]]) w):=by
 unfold kM at h;rw[Bool.and_eq_true,decide_eq_true_eq,decide_eq_true_eq]at h;simp only at h;obtain⟨⟨x0,x1⟩,y0,y1⟩:=h;have hA:=(Below.refl w.heap.size w).al (.cells #[.int .i64 x,.int .i64 y] 83);go_enter func186,ntmps186
 have e1:IntKind.i64.wrap (x+1)=x+1:=Uk _ (by omega);have e2:IntKind.i64.wrap (y+1)=y+1:=Uk _ (by omega);go_wp2_with fail
 obtain⟨W3,hW⟩:=TV (((w.alloc (.cells #[.int .i64 x,.int .i64 y] 83)).alloc (.cells #[.int .i64 0,.int .i64 0,.bool false] 99)).alloc (.cells #[.int .i64 0,.int .i64 0,.bool false] 99));have bC:Blk W3 w.heap.size 83 #[.int .i64 x,.int .i64 y]:=by rw[hW];exact((Blk.aZ w _ _).alloc _).alloc _
 have b1:Blk W3 (w.heap.size+1) 99 #[.int .i64 0,.int .i64 0,.bool false]:=by rw[hW];exact(Blk.gZ _ _ _ _ (by simp)).alloc _
 have b2:Blk W3 (w.heap.size+1+1) 99 #[.int .i64 0,.int .i64 0,.bool false]:=by rw[hW];exact Blk.gZ _ _ _ _ (by simp)
 have B3:Below w.heap.size w W3:=by rw[hW];exact(hA.al _).al _
 rw[<-hW];obtain⟨g0,hg0⟩:=TV w.heap.size;obtain⟨g1,hg1⟩:=TV (w.heap.size+1);obtain⟨g2,hg2⟩:=TV (w.heap.size+1+1);rw[<-hg2]at b2⊢;rw[<-hg1]at b1⊢;rw[<-hg0]at bC⊢;have bN:g0≠g1:=(by omega);have bO:g0≠g2:=(by omega);have bR:g1≠g2:=(by omega);have bU:w.heap.size<=g1:=(by omega);have hl2:w.heap.size<=g2:=(by omega);clear hW hg0 hg1 hg2 hA;have c0:=bC.cell 0;have c1:=bC.cell 1;simp only[Ud,Ue,Uf]at c0 c1;have B4:Below w.heap.size w W3.drew:=B3.drew;have a8:Blk W3.drew g1 99 #[.int .i64 0,.int .i64 0,.bool false]:=b1;have bA:Blk W3.drew g2 99 #[.int .i64 0,.int .i64 0,.bool false]:=b2;have a6:Blk W3.drew g0 83 #[.int .i64 x,.int .i64 y]:=bC;clear b1 b2 bC B3;refine rB (fun w'=>w'.cell? ⟨g0,0,none⟩=some (.int .i64 x)/\w'.cell? ⟨g0,1,none⟩=some (.int .i64 y)) fun hHeld=>(tW 0)<|(tW 1)<|(tW 2)<|(tW 3)<|(tW 4)<|(tW 5)<|(tW 6)<|(tW 7)<|(tW 8)<|(tW 9)<|(tW 10)<|(tR [11])<|tL fun K hK=>?_
 (first|(refine aL rfl 99 _ _ rfl g1 #[.int .i64 x,.int .i64 y,.bool true] rfl rfl _ _ a8 (by kernel_rfl) rfl (by simp[Ul]) ?_;intro wS bB a7;have a8:=bB;have bA:=bA.grown a7 (by simp;omega);have a6:=a6.grown a7 (by simp;omega);have B4:=B4.grown a7 B4.size (fun k hk=>by injection hk with hk;omega);have c0:=a6.cell 0;have c1:=a6.cell 1;simp only[Ud,Ue,Uf]at c0 c1)|(refine aL rfl 99 _ _ rfl g2 #[.int .i64 (x+1),.int .i64 y,.bool true] rfl rfl _ _ bA (by kernel_rfl) rfl (by simp[Ul]) ?_;intro wS bB a7;have bA:=bB;have a8:=a8.grown a7 (by simp;omega);have a6:=a6.grown a7 (by simp;omega);have B4:=B4.grown a7 B4.size (fun k hk=>by injection hk with hk;omega);have c0:=a6.cell 0;have c1:=a6.cell 1;simp only[Ud,Ue,Uf]at c0 c1))
 refine tK hK fun hHeld=>?_
 clear hK K;refine(tR [12])<|tL fun K hK=>?_
 (first|(refine aL rfl 99 _ _ rfl g1 #[.int .i64 x,.int .i64 y,.bool true] rfl rfl _ _ a8 (by kernel_rfl) rfl (by simp[Ul]) ?_;intro wS bB a7;have a8:=bB;have bA:=bA.grown a7 (by simp;omega);have a6:=a6.grown a7 (by simp;omega);have B4:=B4.grown a7 B4.size (fun k hk=>by injection hk with hk;omega);have c0:=a6.cell 0;have c1:=a6.cell 1;simp only[Ud,Ue,Uf]at c0 c1)|(refine aL rfl 99 _ _ rfl g2 #[.int .i64 (x+1),.int .i64 y,.bool true] rfl rfl _ _ bA (by kernel_rfl) rfl (by simp[Ul]) ?_;intro wS bB a7;have bA:=bB;have a8:=a8.grown a7 (by simp;omega);have a6:=a6.grown a7 (by simp;omega);have B4:=B4.grown a7 B4.size (fun k hk=>by injection hk with hk;omega);have c0:=a6.cell 0;have c1:=a6.cell 1;simp only[Ud,Ue,Uf]at c0 c1))
 refine tK hK fun hHeld=>?_
 clear hK K;refine tD ?_
 all_goals
   obtain⟨bD,bE,bF⟩:=a8.n3;obtain⟨bJ,bK,bL⟩:=bA.n3;go_wp2_with fail
   refine bodyPost_ret (v:= .tuple #[.agg #[.int .i64 x,.int .i64 y,.bool true],.agg #[.int .i64 (x+1),.int .i64 y,.bool true]]) (by simp[results,Tryz.results186,go_sem,bD,bE,bF,bJ,bK,bL]) rfl ⟨rfl,B4⟩
theorem Fu (x y:Int) (w:World) (h:kM (x,y)=true):Calls prog 186 #[.agg #[.int .i64 x,.int .i64 y],.bool false] w (Ret (.tuple #[.agg #[.int .i64 x,.int .i64 y,.bool false],.agg #[.int .i64 x,.int .i64 (y+1),.bool false]]) w):=by
 unfold kM at h;rw[Bool.and_eq_true,decide_eq_true_eq,decide_eq_true_eq]at h;simp only at h;obtain⟨⟨x0,x1⟩,y0,y1⟩:=h;have hA:=(Below.refl w.heap.size w).al (.cells #[.int .i64 x,.int .i64 y] 83);go_enter func186,ntmps186
 have e1:IntKind.i64.wrap (x+1)=x+1:=Uk _ (by omega);have e2:IntKind.i64.wrap (y+1)=y+1:=Uk _ (by omega);go_wp2_with fail
 obtain⟨W3,hW⟩:=TV (((w.alloc (.cells #[.int .i64 x,.int .i64 y] 83)).alloc (.cells #[.int .i64 0,.int .i64 0,.bool false] 99)).alloc (.cells #[.int .i64 0,.int .i64 0,.bool false] 99));have bC:Blk W3 w.heap.size 83 #[.int .i64 x,.int .i64 y]:=by rw[hW];exact((Blk.aZ w _ _).alloc _).alloc _
 have b1:Blk W3 (w.heap.size+1) 99 #[.int .i64 0,.int .i64 0,.bool false]:=by rw[hW];exact(Blk.gZ _ _ _ _ (by simp)).alloc _
 have b2:Blk W3 (w.heap.size+1+1) 99 #[.int .i64 0,.int .i64 0,.bool false]:=by rw[hW];exact Blk.gZ _ _ _ _ (by simp)
 have B3:Below w.heap.size w W3:=by rw[hW];exact(hA.al _).al _
 rw[<-hW];obtain⟨g0,hg0⟩:=TV w.heap.size;obtain⟨g1,hg1⟩:=TV (w.heap.size+1);obtain⟨g2,hg2⟩:=TV (w.heap.size+1+1);rw[<-hg2]at b2⊢;rw[<-hg1]at b1⊢;rw[<-hg0]at bC⊢;have bN:g0≠g1:=(by omega);have bO:g0≠g2:=(by omega);have bR:g1≠g2:=(by omega);have bU:w.heap.size<=g1:=(by omega);have hl2:w.heap.size<=g2:=(by omega);clear hW hg0 hg1 hg2 hA;have c0:=bC.cell 0;have c1:=bC.cell 1;simp only[Ud,Ue,Uf]at c0 c1;have B4:Below w.heap.size w W3.drew:=B3.drew;have a8:Blk W3.drew g1 99 #[.int .i64 0,.int .i64 0,.bool false]:=b1;have bA:Blk W3.drew g2 99 #[.int .i64 0,.int .i64 0,.bool false]:=b2;have a6:Blk W3.drew g0 83 #[.int .i64 x,.int .i64 y]:=bC;clear b1 b2 bC B3;refine rB (fun w'=>w'.cell? ⟨g0,0,none⟩=some (.int .i64 x)/\w'.cell? ⟨g0,1,none⟩=some (.int .i64 y)) fun hHeld=>(tW 0)<|(tW 1)<|(tW 2)<|(tW 3)<|(tW 4)<|(tW 5)<|(tW 6)<|(tW 7)<|(tW 8)<|(tW 9)<|(tW 10)<|(tR [11])<|tL fun K hK=>?_
 (first|(refine aL rfl 99 _ _ rfl g1 #[.int .i64 x,.int .i64 y,.bool false] rfl rfl _ _ a8 (by kernel_rfl) rfl (by simp[Ul]) ?_;intro wS bB a7;have a8:=bB;have bA:=bA.grown a7 (by simp;omega);have a6:=a6.grown a7 (by simp;omega);have B4:=B4.grown a7 B4.size (fun k hk=>by injection hk with hk;omega);have c0:=a6.cell 0;have c1:=a6.cell 1;simp only[Ud,Ue,Uf]at c0 c1)|(refine aL rfl 99 _ _ rfl g2 #[.int .i64 x,.int .i64 (y+1),.bool false] rfl rfl _ _ bA (by kernel_rfl) rfl (by simp[Ul]) ?_;intro wS bB a7;have bA:=bB;have a8:=a8.grown a7 (by simp;omega);have a6:=a6.grown a7 (by simp;omega);have B4:=B4.grown a7 B4.size (fun k hk=>by injection hk with hk;omega);have c0:=a6.cell 0;have c1:=a6.cell 1;simp only[Ud,Ue,Uf]at c0 c1))
 refine tK hK fun hHeld=>?_
 clear hK K;refine(tR [12])<|tL fun K hK=>?_
 (first|(refine aL rfl 99 _ _ rfl g1 #[.int .i64 x,.int .i64 y,.bool false] rfl rfl _ _ a8 (by kernel_rfl) rfl (by simp[Ul]) ?_;intro wS bB a7;have a8:=bB;have bA:=bA.grown a7 (by simp;omega);have a6:=a6.grown a7 (by simp;omega);have B4:=B4.grown a7 B4.size (fun k hk=>by injection hk with hk;omega);have c0:=a6.cell 0;have c1:=a6.cell 1;simp only[Ud,Ue,Uf]at c0 c1)|(refine aL rfl 99 _ _ rfl g2 #[.int .i64 x,.int .i64 (y+1),.bool false] rfl rfl _ _ bA (by kernel_rfl) rfl (by simp[Ul]) ?_;intro wS bB a7;have bA:=bB;have a8:=a8.grown a7 (by simp;omega);have a6:=a6.grown a7 (by simp;omega);have B4:=B4.grown a7 B4.size (fun k hk=>by injection hk with hk;omega);have c0:=a6.cell 0;have c1:=a6.cell 1;simp only[Ud,Ue,Uf]at c0 c1))
 refine tK hK fun hHeld=>?_
 clear hK K;refine tD ?_
 all_goals
   obtain⟨bD,bE,bF⟩:=a8.n3;obtain⟨bJ,bK,bL⟩:=bA.n3;go_wp2_with fail
   refine bodyPost_ret (v:= .tuple #[.agg #[.int .i64 x,.int .i64 y,.bool false],.agg #[.int .i64 x,.int .i64 (y+1),.bool false]]) (by simp[results,Tryz.results186,go_sem,bD,bE,bF,bJ,bK,bL]) rfl ⟨rfl,B4⟩
def FT (d:Dm):List Dm->Nat->Int
  |[],_=> -1
  |e::r,k=>if e=d then(k:Int)else FT d r (k+1)
theorem xM (d e:Dm) (r:List Dm) (k:Nat):FT d (e::r) k=if e=d then(k:Int)else FT d r (k+1):=rfl
theorem Fv (d:Dm):∀(l:List Dm) (k:Nat),(l.contains d=true->0<=FT d l k)/\(l.contains d=false->FT d l k= -1)
  |[],k=>by simp[FT]
  | e :: r, k => by
   have:=Fv d r (k+1);unfold FT;by_cases h:e=d
   . subst h;simp
   . rw[if_neg h,List.contains_cons,show(d==e)=false by rw[beq_eq_false_iff_ne];exact fun q=>h q.symm,Bool.false_or];exact this
theorem Km (v:Value) (l:List Dm) (x y:Int) (d:Bool) (w:World) (h:Rd 3 aU w v l):Calls prog 185 #[v,.agg #[.int .i64 x,.int .i64 y,.bool d]] w (Ret (.int .i64 (FT (x,y,d) l 0)) w):=by
 obtain⟨A,c,rfl,hc,hm⟩:=h.form;have hA:=((Below.refl w.heap.size w).al (.cells #[.int .i64 x,.int .i64 y,.bool d] 99));have hx:=Blk.aZ w 99 #[.int .i64 x,.int .i64 y,.bool d];obtain⟨R,hR⟩:=TV (FT (x,y,d) l 0);rw[<-hR];have HR:=TY hR;clear hR;go_enter Tryz.func185,Tryz.ntmps185
 go_wp2;go_loopw [5] (fun s9 wr=>∃k:Nat,k<=l.length/\s9= .int .i64 k/\Hid (FT (x,y,d) (l.drop k) k=R)/\Below (w.alloc (.cells #[.int .i64 x,.int .i64 y,.bool d] 99)).heap.size (w.alloc (.cells #[.int .i64 x,.int .i64 y,.bool d] 99)) wr) (fun i _=>l.length-(intOf i).toNat)
 case atStart=>exact⟨0,Ug _,rfl,TY HR.out.symm,Below.refl _ _⟩
 case round=>
  obtain⟨k,hk,rfl,Hg,a6⟩:=hrel;have z:=hx.bl a6;obtain⟨bA,bB,bC⟩:=z.n3;have bD:=z.lt;by_cases hlt:k<l.length
  . obtain⟨b,off,rfl,hb,q1,q2,q3⟩:=((h.TW hA).TW a6).jT hlt;have a8:(k:Int)<(l.length:Int):=(by omega);have hg:=Hg.out;rw[T9 hlt]at hg;obtain⟨e,he⟩:=TV (l[k]);rw[<-he]at q1 q2 q3 hg;obtain⟨ex,ey,ed⟩:=e;simp only at q1 q2 q3;have a7:=TY hg;clear hg he;by_cases h1:x=ex
    . obtain rfl:x=ex:=h1;by_cases h2:y=ey
      . obtain rfl:y=ey:=h2;by_cases h3:d=ed
        . obtain rfl:d=ed:=h3;have HG:=TY (show(k:Int)=R by rw[<-a7.out,xM,if_pos rfl]);go_wp2_with fail
          go_quiet (fail)
          go_wp2;go_ret;exact⟨F8 HG.out,hA.tr (below_drewN a6 _)⟩
        . have bE : ¬ ed = d := fun q => h3 q.symm
          have HG:=TY (show FT (x,y,d) (l.drop (k+1)) (k+1)=R by rw[<-a7.out,xM,if_neg (by simp[*])]);go_wp2_with fail
          go_quiet (fail)
          go_wp2;go_roundw
          case rel=>exact⟨k+1,by omega,by go_num,HG,below_drewN a6 _⟩
          case measure=>simp[intOf];omega
      . have bF : ¬ ey = y := fun q => h2 q.symm
        have HG:=TY (show FT (x,y,d) (l.drop (k+1)) (k+1)=R by rw[<-a7.out,xM,if_neg (by simp[*])]);go_wp2_with fail
        go_quiet (fail)
        go_wp2;go_roundw
        case rel=>exact⟨k+1,by omega,by go_num,HG,below_drewN a6 _⟩
        case measure=>simp[intOf];omega
    . have bJ : ¬ ex = x := fun q => h1 q.symm
      have HG:=TY (show FT (x,y,d) (l.drop (k+1)) (k+1)=R by rw[<-a7.out,xM,if_neg (by simp[*])]);go_wp2_with fail
      go_quiet (fail)
      go_wp2;go_roundw
      case rel=>exact⟨k+1,by omega,by go_num,HG,below_drewN a6 _⟩
      case measure=>simp[intOf];omega
  . obtain rfl : k = l.length := by omega
    have hg:=Hg.out;rw[Uc (Uh _)]at hg;have hg2:(-1:Int)=R:=hg;have HG:=TY hg2;clear hg hg2;go_wp2;go_ret;exact⟨F8 HG.out,hA.tr a6⟩
theorem rH (v:Value) (l:List Dm) (x y:Int) (d:Bool) (w:World) (h:Rd 3 aU w v l) (hc:l.contains (x,y,d)=true):∃r:Int,0<=r/\Calls prog 185 #[v,.agg #[.int .i64 x,.int .i64 y,.bool d]] w (Ret (.int .i64 r) w):=
 ⟨_,(Fv (x,y,d) l 0).1 hc,Km v l x y d w h⟩
theorem xZ (v:Value) (l:List Dm) (x y:Int) (d:Bool) (w:World) (h:Rd 3 aU w v l) (hc:l.contains (x,y,d)=false):Calls prog 185 #[v,.agg #[.int .i64 x,.int .i64 y,.bool d]] w (Ret (.int .i64 (-1)) w):=by
 have:=Km v l x y d w h;rw[(Fv (x,y,d) l 0).2 hc]at this;exact this
theorem GD (v:Value) (l:List Dm) (x y:Int) (w:World) (h:Rd 3 aU w v l):Calls prog 133 #[v,.agg #[.int .i64 x,.int .i64 y]] w (Ret (.int .i64 (kindOf l (x,y):Nat)) w):=by
 obtain⟨A,c,rfl,hc,hm⟩:=h.form;have hA:=(Below.refl w.heap.size w).al (.cells #[.int .i64 x,.int .i64 y] 83);have bY:=Blk.aZ w 83 #[.int .i64 x,.int .i64 y];have bK:=Kk x y;rcases hx:inB x 0 6 with _|_
 . have e : kindOf l (x, y) = 0 := wZ (by rw [bK, hx]; rfl);rw[e];have Hx:=TY hx;clear hx bK e;go_enter Un,Uo
   go_wp2_with fail
   refine(iY _ _ _ _).mono ?_;rintro e w1 ⟨rfl,rfl⟩;rw[Hx.out];go_wp2;go_ret;exact⟨rfl,hA⟩
 . rcases hy:inB y 0 6 with _|_
   . have e : kindOf l (x, y) = 0 := wZ (by rw [bK, hx, hy]; rfl);rw[e];have Hx:=TY hx;have Hy:=TY hy;clear hx hy bK e;go_enter Un,Uo
     go_wp2_with fail
     refine(iY _ _ _ _).mono ?_;rintro e w1 ⟨rfl,rfl⟩;rw[Hx.out];go_wp2_with fail
     refine(iY _ _ _ _).mono ?_;rintro e w2 ⟨rfl,rfl⟩;rw[Hy.out];go_wp2;go_ret;exact⟨rfl,hA⟩
   . have bF : kM (x, y) = true := by rw [bK, hx, hy]; rfl
     have hk:kindOf l (x,y)=if l.contains (x,y,false)&&l.contains (x,y+1,false)then 1 else if l.contains (x,y,true)&&l.contains (x+1,y,true)then 2 else 0:=by
      unfold kindOf fH qX vD;rw[bF,if_pos rfl]
     obtain⟨R,hR⟩:=TV (kindOf l (x,y));rw[<-hR]at hk⊢;obtain⟨a1,ha1⟩:=TV (l.contains (x,y,false));obtain⟨a2,ha2⟩:=TV (l.contains (x,y+1,false));obtain⟨d1,bU⟩:=TV (l.contains (x,y,true));obtain⟨d2,bW⟩:=TV (l.contains (x+1,y,true));rw[<-ha1,<-ha2,<-bU,<-bW]at hk;have Hx:=TY hx;have Hy:=TY hy;have bL:=TY bF;have b5:=TY ha1.symm;have b6:=TY ha2.symm;have b7:=TY bU.symm;have b8:=TY bW.symm;have Hk:=TY hk;clear hx hy bK bF ha1 ha2 bU bW hR hk;go_enter Un,Uo
     go_wp2_with fail
     refine(iY _ _ _ _).mono ?_;rintro e w1 ⟨rfl,rfl⟩;rw[Hx.out];go_wp2_with fail
     refine(iY _ _ _ _).mono ?_;rintro e w2 ⟨rfl,rfl⟩;rw[Hy.out];go_wp2;go_loopw [5] (fun s5 wr=>∃kd:Nat,1<=kd/\kd<=3/\s5= .int .i64 kd/\Hid ((2<=kd->(a1&&a2)=false)/\(3<=kd->(d1&&d2)=false))/\Blk wr w.heap.size 83 #[.int .i64 x,.int .i64 y]/\Below w.heap.size w wr) (fun i _=>3-(intOf i).toNat)
     case atStart=>exact⟨1,by omega,by omega,rfl,TY ⟨fun q=>by omega,fun q=>by omega⟩,bY,hA⟩
     case round=>
      obtain⟨kd,cB,hk3,rfl,Hg,hC,bJ⟩:=hrel;clear bY hA;obtain⟨bN,bO⟩:=hC.n2;have bR:kd=1∨kd=2∨kd=3:=(by omega);rcases bR with rfl|rfl|rfl
      . rw[show((1:Nat):Int)=1 from rfl];go_wp2_with fail
        refine(Fu x y _ bL.out).mono ?_;rintro e w3 ⟨rfl,hb3⟩;have B3:=((bJ.tr hb3).al (.cells #[.int .i64 x,.int .i64 y,.bool false] 99)).al (.cells #[.int .i64 x,.int .i64 (y+1),.bool false] 99);have bC:=((hC.bl hb3).alloc (.cells #[.int .i64 x,.int .i64 y,.bool false] 99)).alloc (.cells #[.int .i64 x,.int .i64 (y+1),.bool false] 99);have bd:=(Blk.aZ w3 99 #[.int .i64 x,.int .i64 y,.bool false]).alloc (.cells #[.int .i64 x,.int .i64 (y+1),.bool false] 99);have be:=Blk.gZ (w3.alloc (.cells #[.int .i64 x,.int .i64 y,.bool false] 99)) 99 #[.int .i64 x,.int .i64 (y+1),.bool false] (w3.heap.size+1) (by simp);clear bN bO;obtain⟨a7,a8,bA⟩:=bd.n3;obtain⟨bB,bD,bE⟩:=be.n3;rcases a1 with _|_
        . skip;go_wp2_with fail
          refine(xZ _ l x y false _ (h.TW B3) b5.out).mono ?_;rintro e w4 ⟨rfl,hb4⟩;have B4:=B3.tr hb4;clear a7 a8 bA bB bD bE;have bd:=bd.bl hb4;have be:=be.bl hb4;have bC:=bC.bl hb4;obtain⟨a7,a8,bA⟩:=bd.n3;obtain⟨bB,bD,bE⟩:=be.n3;go_wp2;go_roundw
          case rel=>exact⟨2,by omega,by omega,by go_num,TY ⟨fun _=>rfl,fun q=>by omega⟩,bC,B4⟩
          case measure=>simp[intOf]
        . skip;obtain⟨r4,hr4,c4⟩:=rH _ l x y false _ (h.TW B3) b5.out;go_wp2_with fail
          refine(c4).mono ?_;rintro e w4 ⟨rfl,hb4⟩;have B4:=B3.tr hb4;clear a7 a8 bA bB bD bE c4;have bd:=bd.bl hb4;have be:=be.bl hb4;have bC:=bC.bl hb4;obtain⟨a7,a8,bA⟩:=bd.n3;obtain⟨bB,bD,bE⟩:=be.n3;rcases a2 with _|_
          . skip;go_wp2_with fail
            refine(xZ _ l x (y+1) false _ (h.TW B4) b6.out).mono ?_;rintro e w5 ⟨rfl,a6⟩;have B5:=B4.tr a6;clear a7 a8 bA bB bD bE;have bd:=bd.bl a6;have be:=be.bl a6;have bC:=bC.bl a6;obtain⟨a7,a8,bA⟩:=bd.n3;obtain⟨bB,bD,bE⟩:=be.n3;go_wp2;go_roundw
            case rel=>exact⟨2,by omega,by omega,by go_num,TY ⟨fun _=>rfl,fun q=>by omega⟩,bC,B5⟩
            case measure=>simp[intOf]
          . skip;obtain⟨r5,cA,c5⟩:=rH _ l x (y+1) false _ (h.TW B4) b6.out;go_wp2_with fail
            refine(c5).mono ?_;rintro e w5 ⟨rfl,a6⟩;have B5:=B4.tr a6;clear a7 a8 bA bB bD bE c5;have bd:=bd.bl a6;have be:=be.bl a6;have bC:=bC.bl a6;obtain⟨a7,a8,bA⟩:=bd.n3;obtain⟨bB,bD,bE⟩:=be.n3;have HR:Hid ((1:Int)=((R:Nat):Int)):=TY (by rw[Hk.out];rfl);go_wp2;go_ret;exact⟨F8 HR.out,B5⟩
      . rw[show((2:Nat):Int)=2 from rfl];have b9:=Hg.out.1 (by omega);have bX:=TY b9;clear b9;go_wp2_with fail
        refine(Fs x y _ bL.out).mono ?_;rintro e w3 ⟨rfl,hb3⟩;have B3:=((bJ.tr hb3).al (.cells #[.int .i64 x,.int .i64 y,.bool true] 99)).al (.cells #[.int .i64 (x+1),.int .i64 y,.bool true] 99);have bC:=((hC.bl hb3).alloc (.cells #[.int .i64 x,.int .i64 y,.bool true] 99)).alloc (.cells #[.int .i64 (x+1),.int .i64 y,.bool true] 99);have bd:=(Blk.aZ w3 99 #[.int .i64 x,.int .i64 y,.bool true]).alloc (.cells #[.int .i64 (x+1),.int .i64 y,.bool true] 99);have be:=Blk.gZ (w3.alloc (.cells #[.int .i64 x,.int .i64 y,.bool true] 99)) 99 #[.int .i64 (x+1),.int .i64 y,.bool true] (w3.heap.size+1) (by simp);clear bN bO;obtain⟨a7,a8,bA⟩:=bd.n3;obtain⟨bB,bD,bE⟩:=be.n3;rcases d1 with _|_
        . skip;go_wp2_with fail
          refine(xZ _ l x y true _ (h.TW B3) b7.out).mono ?_;rintro e w4 ⟨rfl,hb4⟩;have B4:=B3.tr hb4;clear a7 a8 bA bB bD bE;have bd:=bd.bl hb4;have be:=be.bl hb4;have bC:=bC.bl hb4;obtain⟨a7,a8,bA⟩:=bd.n3;obtain⟨bB,bD,bE⟩:=be.n3;go_wp2;go_roundw
          case rel=>exact⟨3,by omega,by omega,by go_num,TY ⟨fun _=>bX.out,fun q=>rfl⟩,bC,B4⟩
          case measure=>simp[intOf]
        . skip;obtain⟨r4,hr4,c4⟩:=rH _ l x y true _ (h.TW B3) b7.out;go_wp2_with fail
          refine(c4).mono ?_;rintro e w4 ⟨rfl,hb4⟩;have B4:=B3.tr hb4;clear a7 a8 bA bB bD bE c4;have bd:=bd.bl hb4;have be:=be.bl hb4;have bC:=bC.bl hb4;obtain⟨a7,a8,bA⟩:=bd.n3;obtain⟨bB,bD,bE⟩:=be.n3;rcases d2 with _|_
          . skip;go_wp2_with fail
            refine(xZ _ l (x+1) y true _ (h.TW B4) b8.out).mono ?_;rintro e w5 ⟨rfl,a6⟩;have B5:=B4.tr a6;clear a7 a8 bA bB bD bE;have bd:=bd.bl a6;have be:=be.bl a6;have bC:=bC.bl a6;obtain⟨a7,a8,bA⟩:=bd.n3;obtain⟨bB,bD,bE⟩:=be.n3;go_wp2;go_roundw
            case rel=>exact⟨3,by omega,by omega,by go_num,TY ⟨fun _=>bX.out,fun q=>rfl⟩,bC,B5⟩
            case measure=>simp[intOf]
          . skip;obtain⟨r5,cA,c5⟩:=rH _ l (x+1) y true _ (h.TW B4) b8.out;go_wp2_with fail
            refine(c5).mono ?_;rintro e w5 ⟨rfl,a6⟩;have B5:=B4.tr a6;clear a7 a8 bA bB bD bE c5;have bd:=bd.bl a6;have be:=be.bl a6;have bC:=bC.bl a6;obtain⟨a7,a8,bA⟩:=bd.n3;obtain⟨bB,bD,bE⟩:=be.n3;have HR:Hid ((2:Int)=((R:Nat):Int)):=TY (by rw[Hk.out,bX.out];rfl);go_wp2;go_ret;exact⟨F8 HR.out,B5⟩
      . rw[show((3:Nat):Int)=3 from rfl];have HR:Hid ((0:Int)=((R:Nat):Int)):=TY (by rw[Hk.out,Hg.out.1 (by omega),Hg.out.2 (by omega)];rfl);go_wp2;go_ret;exact⟨F8 HR.out,bJ⟩
theorem Fw (v:Value) (l:List Dm) (x y:Int) (n:Nat) (w:World) (h:Rd 3 aU w v l) (hn:kindOf l (x,y)=n):Calls prog 133 #[v,.agg #[.int .i64 x,.int .i64 y]] w (Ret (.int .i64 n) w):=by
 have:=GD v l x y w h;rw[hn]at this;exact this
def MP (v:Value) (l:List Dm) (g h B:Nat) (w:World):Prop:=aD 99 3 aX B w v l/\v.ownBlock≠some g/\v.ownBlock≠some h
theorem MP.drewN {v:Value} {l:List Dm} {g h B:Nat} {w:World} (o:MP v l g h B w) (n:Nat):MP v l g h B (w.drewN n):=⟨o.1.drewN n,o.2.1,o.2.2⟩
theorem MP.app {v:Value} {l:List Dm} {g h B:Nat} {w w':World} {cells:Obj} {v':Value} {l':List Dm} {t1 t2:TypeId} {c1 c2:Array Value} (o:MP v l g h B w) (o':aD 99 3 aX B w' v' l') (a6:(w.alloc cells).grownBy w' v.ownBlock)
    (hd:v'.ownBlock=v.ownBlock∨v'.ownBlock=some (w.heap.size+1)) (b1:Blk w g t1 c1) (b2:Blk w h t2 c2):MP v' l' g h B w':=by
 refine⟨o',?_,?_⟩
 . rcases hd with e|e
   . rw[e];exact o.2.1
   . rw[e];intro q;injection q with q;have:=b1.lt;omega
 . rcases hd with e|e
   . rw[e];exact o.2.2
   . rw[e];intro q;injection q with q;have:=b2.lt;omega
set_option maxHeartbeats 8000000 in
theorem rZ (v:Value) (l:List Dm) (x y:Int) (w:World) (h:Rd 3 aU w v l) (hl:Small l.length):Calls prog 169 #[v,.agg #[.int .i64 x,.int .i64 y]] w (gJ 99 3 aX (fJ l (x,y)).1 (fJ l (x,y)).2 w):=by
 obtain⟨A,c,rfl,hc,hm⟩:=h.form;have hA:=(Below.refl w.heap.size w).al (.cells #[.int .i64 x,.int .i64 y] 83);have bC:=Blk.aZ w 83 #[.int .i64 x,.int .i64 y];by_cases hk:kindOf l (x,y)=0
 . have e : fJ l (x, y) = (l, false) := by unfold fJ; rw [if_pos hk]
   rw[e];have Hk:=TY hk;clear hk e;have eM:(0+l.length)*24<=140737488355328:=by unfold Small at hl;omega
   have hsm:0+l.length<=maxLen:=by have:=hl.max;omega
   have H8:=TY eM;have HM:=TY hsm;clear eM hsm;go_enter Uq,Ur
   go_wp2_with fail
   refine(Fw _ l x y 0 _ (h.TW hA) Hk.out).mono ?_;rintro e w1 ⟨rfl,hb1⟩;have B1:=hA.tr hb1;have h1:=(h.TW B1).TW ((Below.refl _ _).al (.cells #[] 99));rw[show((0:Nat):Int)=0 from rfl];go_wp2_with (at_builtin;go_must (refine dX (enc:=aX) aK aC aM (B:=w1.heap.size) (by simp) (eZ w1) h1 H8.out HM.out rfl _ _ rfl rfl rfl ?_);intro v2 w2 cN hb2 hv2;obtain⟨A2,c2,rfl⟩:=hv2;simp only[Ua,Ub,Uj]at cN)
   go_wp2;go_ret2
   exact⟨A2,c2,rfl,cN.mono B1.size,B1.tr (((Below.refl _ _).al _).trans hb2)⟩
 . have e : fJ l (x, y) = (aW l (x, y), true) := by unfold fJ; rw [if_neg hk]
   rw[e];have bU:=TY (Kl hk);clear e;have bY:kindOf l (x,y)=1∨kindOf l (x,y)=2:=by have:=Gt l (x,y);omega
   clear hk;rcases bY with cP|cP
   . skip;have bY:kindOf l (x,y)=1:=cP;have cQ:=TY bY;clear bY cP;go_enter Uq,Ur
     go_wp2_with fail
     refine(Fw _ l x y 1 _ (h.TW hA) cQ.out).mono ?_;rintro e w1 ⟨rfl,hb1⟩;have B1:=hA.tr hb1;have b5:=bC.bl hb1;obtain⟨bB,bD⟩:=b5.n2;go_wp2_with fail
     refine(Fu x y _ bU.out).mono ?_;rintro e w3 ⟨rfl,hb3⟩;have B3:=((B1.tr hb3).al (.cells #[.int .i64 x,.int .i64 y,.bool false] 99)).al (.cells #[.int .i64 x,.int .i64 (y+1),.bool false] 99);have cR:=((b5.bl hb3).alloc (.cells #[.int .i64 x,.int .i64 y,.bool false] 99)).alloc (.cells #[.int .i64 x,.int .i64 (y+1),.bool false] 99);have bd:=(Blk.aZ w3 99 #[.int .i64 x,.int .i64 y,.bool false]).alloc (.cells #[.int .i64 x,.int .i64 (y+1),.bool false] 99);have be:=Blk.gZ (w3.alloc (.cells #[.int .i64 x,.int .i64 y,.bool false] 99)) 99 #[.int .i64 x,.int .i64 (y+1),.bool false] (w3.heap.size+1) (by simp);clear bB bD b5;obtain⟨bB,bD⟩:=cR.n2;go_wp2_with fail
     refine(Fs x y _ bU.out).mono ?_;rintro e w4 ⟨rfl,hb4⟩;have B4:=((B3.tr hb4).al (.cells #[.int .i64 x,.int .i64 y,.bool true] 99)).al (.cells #[.int .i64 (x+1),.int .i64 y,.bool true] 99);have bW:=((bd.bl hb4).alloc (.cells #[.int .i64 x,.int .i64 y,.bool true] 99)).alloc (.cells #[.int .i64 (x+1),.int .i64 y,.bool true] 99);have bX:=((be.bl hb4).alloc (.cells #[.int .i64 x,.int .i64 y,.bool true] 99)).alloc (.cells #[.int .i64 (x+1),.int .i64 y,.bool true] 99);have bu:=(Blk.aZ w4 99 #[.int .i64 x,.int .i64 y,.bool true]).alloc (.cells #[.int .i64 (x+1),.int .i64 y,.bool true] 99);have bv:=Blk.gZ (w4.alloc (.cells #[.int .i64 x,.int .i64 y,.bool true] 99)) 99 #[.int .i64 (x+1),.int .i64 y,.bool true] (w4.heap.size+1) (by simp);clear bB bD cR bd be;obtain⟨b6,cA,cB⟩:=bu.n3;obtain⟨cC,cD,cE⟩:=bv.n3;go_wp2_with fail
     obtain⟨W5,cF⟩:=TV ((w4.alloc (.cells #[.int .i64 x,.int .i64 y,.bool true] 99)).alloc (.cells #[.int .i64 (x+1),.int .i64 y,.bool true] 99));have hs5:W5.heap.size=w4.heap.size+1+1:=by rw[cF];simp
     rw[<-cF]at B4 bW bX⊢;rw[<-hs5];obtain⟨g8,cS⟩:=TV (w3.heap.size+1);obtain⟨g7,cT⟩:=TV w3.heap.size;have cX:w.heap.size<=g7:=by have:=(B1.tr hb3).size;omega
     have cY:w.heap.size<=g8:=(by omega);rw[<-cS]at bX⊢;rw[<-cT]at bW⊢;obtain⟨gx,hgx⟩:∃n:Int,n=x:=⟨_,rfl⟩;obtain⟨gy,cG⟩:∃n:Int,n=y:=⟨_,rfl⟩;obtain⟨gb,hgb⟩:∃n:Bool,n=false:=⟨_,rfl⟩;obtain⟨kx,cH⟩:∃n:Int,n=x:=⟨_,rfl⟩;obtain⟨ky,cI⟩:∃n:Int,n=(y+1):=⟨_,rfl⟩;obtain⟨kb,hkb⟩:∃n:Bool,n=false:=⟨_,rfl⟩;have b7:Blk W5 g7 99 #[.int .i64 gx,.int .i64 gy,.bool gb]:=by rw[hgx,cG,hgb];exact bW
     have b8:Blk W5 g8 99 #[.int .i64 kx,.int .i64 ky,.bool kb]:=by rw[cH,cI,hkb];exact bX
     have cU:Hid (nV (kindOf l (x,y)) (x,y)=((gx,gy,gb),(kx,ky,kb))/\qL (kindOf l (x,y)) (x,y)=((x,y,true),((x+1),y,true))):=TY (by rw[cQ.out,hgx,cG,hgb,cH,cI,hkb];exact⟨rfl,rfl⟩);clear hgx cG hgb cH cI hkb bW bX bu bv cF hs5 cT cS b6 cA cB cC cD cE;have bK:aD 99 3 aX w.heap.size (W5.alloc (.cells #[.int .i64 x,.int .i64 y,.bool true,.int .i64 (x+1),.int .i64 y,.bool true] 99)) (.slice (some ⟨W5.heap.size,0,none⟩) 2 2) [((x,y,true):Dm),((x+1),y,true)]:=Bb _ (x,y,true) ((x+1),y,true) _ B4.size;have bL:Um (.slice (some ⟨W5.heap.size,0,none⟩) 2 2)≠some g7:=by have:=b7.lt;simp[Um];omega
     have bN:Um (.slice (some ⟨W5.heap.size,0,none⟩) 2 2)≠some g8:=by have:=b8.lt;simp[Um];omega
     have cV:=b7.alloc (.cells #[.int .i64 x,.int .i64 y,.bool true,.int .i64 (x+1),.int .i64 y,.bool true] 99);have cW:=b8.alloc (.cells #[.int .i64 x,.int .i64 y,.bool true,.int .i64 (x+1),.int .i64 y,.bool true] 99);have B0:=B4.al (.cells #[.int .i64 x,.int .i64 y,.bool true,.int .i64 (x+1),.int .i64 y,.bool true] 99);go_loopw [11,12] (fun s8 dL wr=>∃(k:Nat) (out:List Dm) (A8:Option Addr) (c8:Nat),k<=l.length/\out.length<=k+2/\dL= .int .i64 k/\s8= .slice A8 out.length c8/\Hid (out++(l.drop k).filter (keepD ((gx,gy,gb),(kx,ky,kb)))=iW l ((gx,gy,gb),(kx,ky,kb)) ((x,y,true),((x+1),y,true)))/\MP (.slice A8 out.length c8) out g7 g8 w.heap.size wr/\Blk wr g7 99 #[.int .i64 gx,.int .i64 gy,.bool gb]/\Blk wr g8 99 #[.int .i64 kx,.int .i64 ky,.bool kb]/\Below w.heap.size w wr) (fun _ i _=>l.length-(intOf i).toNat)
     case atStart=>exact⟨0,[((x,y,true):Dm),((x+1),y,true)],_,_,Ug _,by simp,rfl,rfl,TY rfl,⟨bK,bL,bN⟩,cV,cW,B0⟩
     case round=>
      obtain⟨k,out,A8,c8,hk,eN,rfl,rfl,Hg,hown,bF,bJ,a7⟩:=hrel;clear bK cV cW B0 bL bN;by_cases hlt:k<l.length
      . have dT : (k : Int) < (l.length : Int) := by omega
        obtain⟨b,off,rfl,hb,q1,q2,q3⟩:=(h.TW a7).jT hlt;have hg:=Hg.out;rw[T9 hlt,List.filter_cons]at hg;obtain⟨d,hd⟩:=TV (l[k]);rw[<-hd]at q1 q2 q3 hg;obtain⟨ex,ey,ed⟩:=d;simp only at q1 q2 q3
        have QF : Hid (∀ wX : World, Below w.heap.size w wX -> b < wX.heap.size /\ wX.cell? ⟨b, off + k * 3, none⟩ = some (.int .i64 ex) /\ wX.cell? ⟨b, off + k * 3 + 1, none⟩ = some (.int .i64 ey) /\ wX.cell? ⟨b, off + k * 3 + 2, none⟩ = some (.bool ed)) := TY (fun wX hX => by
         obtain⟨b9,eA,e9,r0,r1,r2,r3⟩:=(h.TW hX).jT hlt;injection e9 with e9;injection e9 with eC eE _;subst eC;subst eE;rw[<-hd]at r1 r2 r3;exact⟨r0,r1,r2,r3⟩)
        obtain⟨b6,cA,cB⟩:=bF.n3;obtain⟨cC,cD,cE⟩:=bJ.n3;have H8:Hid ((out.length+1)*24<=140737488355328):=TY (by unfold Small at hl;omega);have HM:Hid (out.length+1<=maxLen):=TY (by unfold Small at hl;unfold maxLen;omega);clear hd;by_cases e1:((ex,ey,ed):Dm)=(gx,gy,gb)
        . rw [if_neg (by rw [e1]; simp [keepD])] at hg;have bE:=TY hg;clear hg;simp only[Prod.mk.injEq]at e1;obtain⟨rfl,rfl,rfl⟩:=e1;go_wp2_with fail
          go_quiet (fail)
          go_wp2;go_roundw
          case rel=>exact⟨k+1,out,A8,c8,by omega,by omega,by go_num,rfl,bE,hown.drewN _,bF.drewN _,bJ.drewN _,below_drewN a7 _⟩
          case measure=>simp[intOf];omega
        . by_cases e2:((ex,ey,ed):Dm)=(kx,ky,kb)
          . rw [if_neg (by rw [e2]; simp [keepD])] at hg;have bE:=TY hg;clear hg;simp only[Prod.mk.injEq]at e2;obtain⟨rfl,rfl,rfl⟩:=e2;rcases jS e1 with p|⟨rfl,p⟩|⟨rfl,rfl,p⟩
            . clear e1;go_wp2_with fail
              go_quiet (fail)
              go_wp2;go_roundw
              case rel=>exact⟨k+1,out,A8,c8,by omega,by omega,by go_num,rfl,bE,hown.drewN _,bF.drewN _,bJ.drewN _,below_drewN a7 _⟩
              case measure=>simp[intOf];omega
            . clear e1;go_wp2_with fail
              go_quiet (fail)
              go_wp2;go_roundw
              case rel=>exact⟨k+1,out,A8,c8,by omega,by omega,by go_num,rfl,bE,hown.drewN _,bF.drewN _,bJ.drewN _,below_drewN a7 _⟩
              case measure=>simp[intOf];omega
            . clear e1;go_wp2_with fail
              go_quiet (fail)
              go_wp2;go_roundw
              case rel=>exact⟨k+1,out,A8,c8,by omega,by omega,by go_num,rfl,bE,hown.drewN _,bF.drewN _,bJ.drewN _,below_drewN a7 _⟩
              case measure=>simp[intOf];omega
          . rw [if_pos (by simp only [keepD, decide_eq_false e1, decide_eq_false e2]; rfl), <- List.singleton_append, <- List.append_assoc] at hg;have bE:=TY hg;clear hg;rcases jS e1 with p|⟨rfl,p⟩|⟨rfl,rfl,p⟩<;>rcases jS e2 with q|⟨rfl,q⟩|⟨rfl,rfl,q⟩
            all_goals
              clear e1 e2;go_wp2_with fail
              go_quiet (fail)
              obtain⟨wd,hwd⟩:=TV (wr.drewN nq);have a6:=hown.drewN nq;have cJ:=bF.drewN nq;have cK:=bJ.drewN nq;have a8:=below_drewN a7 nq;rw[<-hwd]at a6 cJ cK a8⊢;clear hwd hb q1 q2 q3 b6 cA cB cC cD cE;obtain⟨hb,q1,q2,q3⟩:=QF.out _ a8;go_wp2_with (at_builtin;go_must (first|(refine aF (enc:=aX) aK aC aM a8 a6.1 ((ex,ey,ed):Dm) H8.out HM.out rfl _ _ rfl rfl rfl ?_)|(refine aF (enc:=aX) aK aC aM a8 a6.1 ((ex,gy,ed):Dm) H8.out HM.out rfl _ _ rfl rfl rfl ?_)|(refine aF (enc:=aX) aK aC aM a8 a6.1 ((ex,ky,ed):Dm) H8.out HM.out rfl _ _ rfl rfl rfl ?_)|(refine aF (enc:=aX) aK aC aM a8 a6.1 ((gx,ey,ed):Dm) H8.out HM.out rfl _ _ rfl rfl rfl ?_)|(refine aF (enc:=aX) aK aC aM a8 a6.1 ((gx,gy,ed):Dm) H8.out HM.out rfl _ _ rfl rfl rfl ?_)|(refine aF (enc:=aX) aK aC aM a8 a6.1 ((gx,ky,ed):Dm) H8.out HM.out rfl _ _ rfl rfl rfl ?_)|(refine aF (enc:=aX) aK aC aM a8 a6.1 ((kx,ey,ed):Dm) H8.out HM.out rfl _ _ rfl rfl rfl ?_)|(refine aF (enc:=aX) aK aC aM a8 a6.1 ((kx,gy,ed):Dm) H8.out HM.out rfl _ _ rfl rfl rfl ?_)|(refine aF (enc:=aX) aK aC aM a8 a6.1 ((kx,ky,ed):Dm) H8.out HM.out rfl _ _ rfl rfl rfl ?_));intro v4 w4 bO hb4 hg4 eI;obtain⟨A4,c4,rfl,eP,eR⟩:=bO.form)
              have bR:=a6.app bO hg4 eI cJ cK;have eJ:=(cJ.alloc _).grown hg4 (fun e=>a6.2.1 e.symm);have eK:=(cK.alloc _).grown hg4 (fun e=>a6.2.2 e.symm);go_roundw
              case rel=>exact⟨k+1,_,A4,c4,by omega,by simp;omega,by go_num,by simp,bE,bR,eJ,eK,hb4⟩
              case measure=>simp[intOf];omega
      . obtain rfl : k = l.length := by omega
        have hg:=Hg.out;rw[Uc (Uh _),List.filter_nil,List.append_nil]at hg;have cL:=TY hg;clear hg;go_wp2_with fail
        refine(GA _ out _ (hown.1.rd aC (by decide))).mono ?_;rintro e eW ⟨eL,c70,rfl,bA,cM⟩;go_wp2;go_ret2
        have e9:jB out=aW l (x,y):=by rw[cL.out];unfold aW;rw[cU.out.1,cU.out.2]
        rw[e9]at bA⊢;exact⟨eL,c70,rfl,bA.mono a7.size,a7.tr cM⟩
   . skip;have bY:kindOf l (x,y)=2:=cP;have cQ:=TY bY;clear bY cP;go_enter Uq,Ur
     go_wp2_with fail
     refine(Fw _ l x y 2 _ (h.TW hA) cQ.out).mono ?_;rintro e w1 ⟨rfl,hb1⟩;have B1:=hA.tr hb1;have b5:=bC.bl hb1;obtain⟨bB,bD⟩:=b5.n2;go_wp2_with fail
     refine(Fs x y _ bU.out).mono ?_;rintro e w3 ⟨rfl,hb3⟩;have B3:=((B1.tr hb3).al (.cells #[.int .i64 x,.int .i64 y,.bool true] 99)).al (.cells #[.int .i64 (x+1),.int .i64 y,.bool true] 99);have cR:=((b5.bl hb3).alloc (.cells #[.int .i64 x,.int .i64 y,.bool true] 99)).alloc (.cells #[.int .i64 (x+1),.int .i64 y,.bool true] 99);have bd:=(Blk.aZ w3 99 #[.int .i64 x,.int .i64 y,.bool true]).alloc (.cells #[.int .i64 (x+1),.int .i64 y,.bool true] 99);have be:=Blk.gZ (w3.alloc (.cells #[.int .i64 x,.int .i64 y,.bool true] 99)) 99 #[.int .i64 (x+1),.int .i64 y,.bool true] (w3.heap.size+1) (by simp);clear bB bD b5;obtain⟨bB,bD⟩:=cR.n2;go_wp2_with fail
     refine(Fu x y _ bU.out).mono ?_;rintro e w4 ⟨rfl,hb4⟩;have B4:=((B3.tr hb4).al (.cells #[.int .i64 x,.int .i64 y,.bool false] 99)).al (.cells #[.int .i64 x,.int .i64 (y+1),.bool false] 99);have bW:=((bd.bl hb4).alloc (.cells #[.int .i64 x,.int .i64 y,.bool false] 99)).alloc (.cells #[.int .i64 x,.int .i64 (y+1),.bool false] 99);have bX:=((be.bl hb4).alloc (.cells #[.int .i64 x,.int .i64 y,.bool false] 99)).alloc (.cells #[.int .i64 x,.int .i64 (y+1),.bool false] 99);have bu:=(Blk.aZ w4 99 #[.int .i64 x,.int .i64 y,.bool false]).alloc (.cells #[.int .i64 x,.int .i64 (y+1),.bool false] 99);have bv:=Blk.gZ (w4.alloc (.cells #[.int .i64 x,.int .i64 y,.bool false] 99)) 99 #[.int .i64 x,.int .i64 (y+1),.bool false] (w4.heap.size+1) (by simp);clear bB bD cR bd be;obtain⟨b6,cA,cB⟩:=bu.n3;obtain⟨cC,cD,cE⟩:=bv.n3;go_wp2_with fail
     obtain⟨W5,cF⟩:=TV ((w4.alloc (.cells #[.int .i64 x,.int .i64 y,.bool false] 99)).alloc (.cells #[.int .i64 x,.int .i64 (y+1),.bool false] 99));have hs5:W5.heap.size=w4.heap.size+1+1:=by rw[cF];simp
     rw[<-cF]at B4 bW bX⊢;rw[<-hs5];obtain⟨g8,cS⟩:=TV (w3.heap.size+1);obtain⟨g7,cT⟩:=TV w3.heap.size;have cX:w.heap.size<=g7:=by have:=(B1.tr hb3).size;omega
     have cY:w.heap.size<=g8:=(by omega);rw[<-cS]at bX⊢;rw[<-cT]at bW⊢;obtain⟨gx,hgx⟩:∃n:Int,n=x:=⟨_,rfl⟩;obtain⟨gy,cG⟩:∃n:Int,n=y:=⟨_,rfl⟩;obtain⟨gb,hgb⟩:∃n:Bool,n=true:=⟨_,rfl⟩;obtain⟨kx,cH⟩:∃n:Int,n=(x+1):=⟨_,rfl⟩;obtain⟨ky,cI⟩:∃n:Int,n=y:=⟨_,rfl⟩;obtain⟨kb,hkb⟩:∃n:Bool,n=true:=⟨_,rfl⟩;have b7:Blk W5 g7 99 #[.int .i64 gx,.int .i64 gy,.bool gb]:=by rw[hgx,cG,hgb];exact bW
     have b8:Blk W5 g8 99 #[.int .i64 kx,.int .i64 ky,.bool kb]:=by rw[cH,cI,hkb];exact bX
     have cU:Hid (nV (kindOf l (x,y)) (x,y)=((gx,gy,gb),(kx,ky,kb))/\qL (kindOf l (x,y)) (x,y)=((x,y,false),(x,(y+1),false))):=TY (by rw[cQ.out,hgx,cG,hgb,cH,cI,hkb];exact⟨rfl,rfl⟩);clear hgx cG hgb cH cI hkb bW bX bu bv cF hs5 cT cS b6 cA cB cC cD cE;have bK:aD 99 3 aX w.heap.size (W5.alloc (.cells #[.int .i64 x,.int .i64 y,.bool false,.int .i64 x,.int .i64 (y+1),.bool false] 99)) (.slice (some ⟨W5.heap.size,0,none⟩) 2 2) [((x,y,false):Dm),(x,(y+1),false)]:=Bb _ (x,y,false) (x,(y+1),false) _ B4.size;have bL:Um (.slice (some ⟨W5.heap.size,0,none⟩) 2 2)≠some g7:=by have:=b7.lt;simp[Um];omega
     have bN:Um (.slice (some ⟨W5.heap.size,0,none⟩) 2 2)≠some g8:=by have:=b8.lt;simp[Um];omega
     have cV:=b7.alloc (.cells #[.int .i64 x,.int .i64 y,.bool false,.int .i64 x,.int .i64 (y+1),.bool false] 99);have cW:=b8.alloc (.cells #[.int .i64 x,.int .i64 y,.bool false,.int .i64 x,.int .i64 (y+1),.bool false] 99);have B0:=B4.al (.cells #[.int .i64 x,.int .i64 y,.bool false,.int .i64 x,.int .i64 (y+1),.bool false] 99);go_loopw [11,12] (fun s8 dL wr=>∃(k:Nat) (out:List Dm) (A8:Option Addr) (c8:Nat),k<=l.length/\out.length<=k+2/\dL= .int .i64 k/\s8= .slice A8 out.length c8/\Hid (out++(l.drop k).filter (keepD ((gx,gy,gb),(kx,ky,kb)))=iW l ((gx,gy,gb),(kx,ky,kb)) ((x,y,false),(x,(y+1),false)))/\MP (.slice A8 out.length c8) out g7 g8 w.heap.size wr/\Blk wr g7 99 #[.int .i64 gx,.int .i64 gy,.bool gb]/\Blk wr g8 99 #[.int .i64 kx,.int .i64 ky,.bool kb]/\Below w.heap.size w wr) (fun _ i _=>l.length-(intOf i).toNat)
     case atStart=>exact⟨0,[((x,y,false):Dm),(x,(y+1),false)],_,_,Ug _,by simp,rfl,rfl,TY rfl,⟨bK,bL,bN⟩,cV,cW,B0⟩
     case round=>
      obtain⟨k,out,A8,c8,hk,eN,rfl,rfl,Hg,hown,bF,bJ,a7⟩:=hrel;clear bK cV cW B0 bL bN;by_cases hlt:k<l.length
      . have dT : (k : Int) < (l.length : Int) := by omega
        obtain⟨b,off,rfl,hb,q1,q2,q3⟩:=(h.TW a7).jT hlt;have hg:=Hg.out;rw[T9 hlt,List.filter_cons]at hg;obtain⟨d,hd⟩:=TV (l[k]);rw[<-hd]at q1 q2 q3 hg;obtain⟨ex,ey,ed⟩:=d;simp only at q1 q2 q3
        have QF : Hid (∀ wX : World, Below w.heap.size w wX -> b < wX.heap.size /\ wX.cell? ⟨b, off + k * 3, none⟩ = some (.int .i64 ex) /\ wX.cell? ⟨b, off + k * 3 + 1, none⟩ = some (.int .i64 ey) /\ wX.cell? ⟨b, off + k * 3 + 2, none⟩ = some (.bool ed)) := TY (fun wX hX => by
         obtain⟨b9,eA,e9,r0,r1,r2,r3⟩:=(h.TW hX).jT hlt;injection e9 with e9;injection e9 with eC eE _;subst eC;subst eE;rw[<-hd]at r1 r2 r3;exact⟨r0,r1,r2,r3⟩)
        obtain⟨b6,cA,cB⟩:=bF.n3;obtain⟨cC,cD,cE⟩:=bJ.n3;have H8:Hid ((out.length+1)*24<=140737488355328):=TY (by unfold Small at hl;omega);have HM:Hid (out.length+1<=maxLen):=TY (by unfold Small at hl;unfold maxLen;omega);clear hd;by_cases e1:((ex,ey,ed):Dm)=(gx,gy,gb)
        . rw [if_neg (by rw [e1]; simp [keepD])] at hg;have bE:=TY hg;clear hg;simp only[Prod.mk.injEq]at e1;obtain⟨rfl,rfl,rfl⟩:=e1;go_wp2_with fail
          go_quiet (fail)
          go_wp2;go_roundw
          case rel=>exact⟨k+1,out,A8,c8,by omega,by omega,by go_num,rfl,bE,hown.drewN _,bF.drewN _,bJ.drewN _,below_drewN a7 _⟩
          case measure=>simp[intOf];omega
        . by_cases e2:((ex,ey,ed):Dm)=(kx,ky,kb)
          . rw [if_neg (by rw [e2]; simp [keepD])] at hg;have bE:=TY hg;clear hg;simp only[Prod.mk.injEq]at e2;obtain⟨rfl,rfl,rfl⟩:=e2;rcases jS e1 with p|⟨rfl,p⟩|⟨rfl,rfl,p⟩
            . clear e1;go_wp2_with fail
              go_quiet (fail)
              go_wp2;go_roundw
              case rel=>exact⟨k+1,out,A8,c8,by omega,by omega,by go_num,rfl,bE,hown.drewN _,bF.drewN _,bJ.drewN _,below_drewN a7 _⟩
              case measure=>simp[intOf];omega
            . clear e1;go_wp2_with fail
              go_quiet (fail)
              go_wp2;go_roundw
              case rel=>exact⟨k+1,out,A8,c8,by omega,by omega,by go_num,rfl,bE,hown.drewN _,bF.drewN _,bJ.drewN _,below_drewN a7 _⟩
              case measure=>simp[intOf];omega
            . clear e1;go_wp2_with fail
              go_quiet (fail)
              go_wp2;go_roundw
              case rel=>exact⟨k+1,out,A8,c8,by omega,by omega,by go_num,rfl,bE,hown.drewN _,bF.drewN _,bJ.drewN _,below_drewN a7 _⟩
              case measure=>simp[intOf];omega
          . rw [if_pos (by simp only [keepD, decide_eq_false e1, decide_eq_false e2]; rfl), <- List.singleton_append, <- List.append_assoc] at hg;have bE:=TY hg;clear hg;rcases jS e1 with p|⟨rfl,p⟩|⟨rfl,rfl,p⟩<;>rcases jS e2 with q|⟨rfl,q⟩|⟨rfl,rfl,q⟩
            all_goals
              clear e1 e2;go_wp2_with fail
              go_quiet (fail)
              obtain⟨wd,hwd⟩:=TV (wr.drewN nq);have a6:=hown.drewN nq;have cJ:=bF.drewN nq;have cK:=bJ.drewN nq;have a8:=below_drewN a7 nq;rw[<-hwd]at a6 cJ cK a8⊢;clear hwd hb q1 q2 q3 b6 cA cB cC cD cE;obtain⟨hb,q1,q2,q3⟩:=QF.out _ a8;go_wp2_with (at_builtin;go_must (first|(refine aF (enc:=aX) aK aC aM a8 a6.1 ((ex,ey,ed):Dm) H8.out HM.out rfl _ _ rfl rfl rfl ?_)|(refine aF (enc:=aX) aK aC aM a8 a6.1 ((ex,gy,ed):Dm) H8.out HM.out rfl _ _ rfl rfl rfl ?_)|(refine aF (enc:=aX) aK aC aM a8 a6.1 ((ex,ky,ed):Dm) H8.out HM.out rfl _ _ rfl rfl rfl ?_)|(refine aF (enc:=aX) aK aC aM a8 a6.1 ((gx,ey,ed):Dm) H8.out HM.out rfl _ _ rfl rfl rfl ?_)|(refine aF (enc:=aX) aK aC aM a8 a6.1 ((gx,gy,ed):Dm) H8.out HM.out rfl _ _ rfl rfl rfl ?_)|(refine aF (enc:=aX) aK aC aM a8 a6.1 ((gx,ky,ed):Dm) H8.out HM.out rfl _ _ rfl rfl rfl ?_)|(refine aF (enc:=aX) aK aC aM a8 a6.1 ((kx,ey,ed):Dm) H8.out HM.out rfl _ _ rfl rfl rfl ?_)|(refine aF (enc:=aX) aK aC aM a8 a6.1 ((kx,gy,ed):Dm) H8.out HM.out rfl _ _ rfl rfl rfl ?_)|(refine aF (enc:=aX) aK aC aM a8 a6.1 ((kx,ky,ed):Dm) H8.out HM.out rfl _ _ rfl rfl rfl ?_));intro v4 w4 bO hb4 hg4 eI;obtain⟨A4,c4,rfl,eP,eR⟩:=bO.form)
              have bR:=a6.app bO hg4 eI cJ cK;have eJ:=(cJ.alloc _).grown hg4 (fun e=>a6.2.1 e.symm);have eK:=(cK.alloc _).grown hg4 (fun e=>a6.2.2 e.symm);go_roundw
              case rel=>exact⟨k+1,_,A4,c4,by omega,by simp;omega,by go_num,by simp,bE,bR,eJ,eK,hb4⟩
              case measure=>simp[intOf];omega
      . obtain rfl : k = l.length := by omega
        have hg:=Hg.out;rw[Uc (Uh _),List.filter_nil,List.append_nil]at hg;have cL:=TY hg;clear hg;go_wp2_with fail
        refine(GA _ out _ (hown.1.rd aC (by decide))).mono ?_;rintro e eW ⟨eL,c70,rfl,bA,cM⟩;go_wp2;go_ret2
        have e9:jB out=aW l (x,y):=by rw[cL.out];unfold aW;rw[cU.out.1,cU.out.2]
        rw[e9]at bA⊢;exact⟨eL,c70,rfl,bA.mono a7.size,a7.tr cM⟩
theorem Et (v:Value) (l:List Dm) (x y:Int) (w:World) (h:Rd 3 aU w v l) (hl:Small l.length) (hk:kindOf l (x,y)=0):Calls prog 169 #[v,.agg #[.int .i64 x,.int .i64 y]] w (gJ 99 3 aX l false w):=by
 have:=rZ v l x y w h hl;unfold fJ at this;rw[if_pos hk]at this;exact this
theorem wJ (v:Value) (l:List Dm) (x y:Int) (w:World) (h:Rd 3 aU w v l) (hl:Small l.length) (hk:¬kindOf l (x,y)=0):Calls prog 169 #[v,.agg #[.int .i64 x,.int .i64 y]] w (gJ 99 3 aX (aW l (x,y)) true w):=by
 have:=rZ v l x y w h hl;unfold fJ at this;rw[if_neg hk]at this;exact this
theorem Ip (v u:Value) (l:List Dm) (cs:List Cl) (w:World) (h:Rd 3 aU w v l) (h2:Rd 2 cO w u cs) (hl:Small l.length):Calls prog 167 #[v,u] w (gJ 99 3 aX (dS l cs).1 (dS l cs).2 w):=by
 obtain⟨A,c,rfl,hc,hm⟩:=h.form;obtain⟨A2,c2,rfl,hc2,b7⟩:=h2.form;have bO:(0+l.length)*24<=140737488355328:=by unfold Small at hl;omega
 have hsm:0+l.length<=maxLen:=by have:=hl.max;omega
 have H8:=TY bO;have HM:=TY hsm;clear bO hsm;have hR:=Below.refl w.heap.size w;by_cases bK:cs.length>200
 . have e : dS l cs = (l, false) := by unfold dS; rw [if_pos bK]
   rw[e];have bX:(200:Int)<(cs.length:Int):=(by omega);have b8:(0:Int)<(cs.length:Int):=(by omega);clear e;go_enter func167,ntmps167
   have h1:=(h.TW hR).TW ((Below.refl _ _).al (.cells #[] 99));go_wp2_with (at_builtin;go_must (refine dX (enc:=aX) aK aC aM (B:=w.heap.size) (by simp) (eZ w) h1 H8.out HM.out rfl _ _ rfl rfl rfl ?_);intro v1 w1 a8 hb1 bL;obtain⟨A1,c1,rfl⟩:=bL;simp only[Ua,Ub,Uj]at a8)
   have B1:=hR.tr (((Below.refl _ _).al (.cells #[] 99)).trans hb1);go_wp2;go_loopw [6,7] (fun s6 s7 wr=>s7= .int .i64 0/\s6= .slice A1 l.length c1/\aD 99 3 aX w.heap.size wr (.slice A1 l.length c1) l/\Below w.heap.size w wr) (fun _ _ _=>0)
   case atStart=>exact⟨rfl,rfl,a8,B1⟩
   case round=>
    obtain⟨rfl,rfl,hown,a6⟩:=hrel;clear a8 B1;obtain⟨b,off,rfl,hb,q1,q2⟩:=(h2.TW a6).fQ (k:=0) (by omega);obtain⟨d,hd⟩:=TV (cs[0]);rw[<-hd]at q1 q2;obtain⟨cx,cy⟩:=d;simp only[Nat.zero_mul,Ui]at q1 q2;clear hd;by_cases bA:kindOf l (cx,cy)=0
    . have bC:=TY bA;clear bA;go_wp2_with fail
      refine(Et _ l cx cy _ (hown.rd aC (by decide)) hl bC.out).mono ?_;rintro e w2 ⟨A3,c3,rfl,bB,hb2⟩;have B2:=a6.tr hb2;have h5:=(h.TW B2).TW ((Below.refl _ _).al (.cells #[] 99));go_wp2_with (at_builtin;go_must (refine dX (enc:=aX) aK aC aM (B:=w2.heap.size) (by simp) (eZ w2) h5 H8.out HM.out rfl _ _ rfl rfl rfl ?_);intro v5 w5 a7 bD bE;obtain⟨A5,c5,rfl⟩:=bE;simp only[Ua,Ub,Uj]at a7)
      have B5:=B2.tr (((Below.refl _ _).al (.cells #[] 99)).trans bD);go_wp2;go_ret2
      exact⟨A5,c5,rfl,a7.mono B2.size,B5⟩
    . have bC:=TY bA;clear bA;go_wp2_with fail
      refine(wJ _ l cx cy _ (hown.rd aC (by decide)) hl bC.out).mono ?_;rintro e w2 ⟨A3,c3,rfl,bB,hb2⟩;have B2:=a6.tr hb2;have h5:=(h.TW B2).TW ((Below.refl _ _).al (.cells #[] 99));go_wp2_with (at_builtin;go_must (refine dX (enc:=aX) aK aC aM (B:=w2.heap.size) (by simp) (eZ w2) h5 H8.out HM.out rfl _ _ rfl rfl rfl ?_);intro v5 w5 a7 bD bE;obtain⟨A5,c5,rfl⟩:=bE;simp only[Ua,Ub,Uj]at a7)
      have B5:=B2.tr (((Below.refl _ _).al (.cells #[] 99)).trans bD);go_wp2;go_ret2
      exact⟨A5,c5,rfl,a7.mono B2.size,B5⟩
 . have bX : (cs.length : Int) <= 200 := by omega
   obtain⟨F1,bN⟩:=TV ((dS l cs).1);obtain⟨F2,hF2⟩:=TV ((dS l cs).2);rw[<-bN,<-hF2];have bR:=TY bN;have bU:=TY hF2;have bW:=TY bK;clear bN hF2 bK;go_enter func167,ntmps167
   have h1:=(h.TW hR).TW ((Below.refl _ _).al (.cells #[] 99));go_wp2_with (at_builtin;go_must (refine dX (enc:=aX) aK aC aM (B:=w.heap.size) (by simp) (eZ w) h1 H8.out HM.out rfl _ _ rfl rfl rfl ?_);intro v1 w1 a8 hb1 bL;obtain⟨A1,c1,rfl⟩:=bL;simp only[Ua,Ub,Uj]at a8)
   have B1:=hR.tr (((Below.refl _ _).al (.cells #[] 99)).trans hb1);go_wp2;go_loopw [6,7] (fun s6 bY wr=>∃(k:Nat) (m:List Dm) (A6:Option Addr) (c6:Nat),k<=cs.length/\bY= .int .i64 k/\s6= .slice A6 m.length c6/\Hid (iJ m (cs.drop k)=iJ l cs)/\Hid (Small m.length)/\aD 99 3 aX w.heap.size wr (.slice A6 m.length c6) m/\Below w.heap.size w wr) (fun _ i _=>cs.length-(intOf i).toNat)
   case atStart=>exact⟨0,l,A1,c1,Ug _,rfl,rfl,TY rfl,TY hl,a8,B1⟩
   case round=>
    obtain⟨k,m,A6,c6,hk,rfl,rfl,Hg,Hs,hown,a6⟩:=hrel;clear a8 hb1 B1;by_cases hlt:k<cs.length
    . have b5 : (k : Int) < (cs.length : Int) := by omega
      obtain⟨b,off,rfl,hb,q1,q2⟩:=(h2.TW a6).fQ hlt;have hg:=Hg.out;rw[T9 hlt,wI]at hg;obtain⟨d,hd⟩:=TV (cs[k]);rw[<-hd]at q1 q2 hg;obtain⟨cx,cy⟩:=d;simp only at q1 q2;clear hd;by_cases bA:kindOf m (cx,cy)=0
      . rw[if_pos bA]at hg;have bF:=zW bW.out hg.symm;have bC:=TY bA;have bJ:=TY bF;clear bA hg bF;go_wp2_with fail
        refine(Et _ m cx cy _ (hown.rd aC (by decide)) Hs.out bC.out).mono ?_;rintro e w2 ⟨A3,c3,rfl,bB,hb2⟩;have B2:=a6.tr hb2;have h5:=(h.TW B2).TW ((Below.refl _ _).al (.cells #[] 99));go_wp2_with (at_builtin;go_must (refine dX (enc:=aX) aK aC aM (B:=w2.heap.size) (by simp) (eZ w2) h5 H8.out HM.out rfl _ _ rfl rfl rfl ?_);intro v5 w5 a7 bD bE;obtain⟨A5,c5,rfl⟩:=bE;simp only[Ua,Ub,Uj]at a7)
        have B5:=B2.tr (((Below.refl _ _).al (.cells #[] 99)).trans bD);go_wp2;go_ret2
        have e1:F1=l:=(by rw[bR.out,bJ.out]);have e2:F2=false:=(by rw[bU.out,bJ.out]);rw[e1,e2];exact⟨A5,c5,rfl,a7.mono B2.size,B5⟩
      . rw[if_neg bA]at hg;have bC:=TY bA;have b6:=TY hg;clear bA hg;go_wp2_with fail
        refine(wJ _ m cx cy _ (hown.rd aC (by decide)) Hs.out bC.out).mono ?_;rintro e w2 ⟨A3,c3,rfl,bB,hb2⟩;go_wp2;go_roundw
        case rel=>exact⟨k+1,aW m (cx,cy),A3,c3,by omega,by go_num,rfl,b6,TY (uO _ _),bB.mono a6.size,a6.tr hb2⟩
        case measure=>simp[intOf];omega
    . obtain rfl : k = cs.length := by omega
      have hg:=Hg.out;rw[Uc (Uh _)]at hg;have bF:=zU bW.out hg.symm;have bJ:=TY bF;clear hg bF;go_wp2;go_ret2
      have e1:F1=m:=(by rw[bR.out,bJ.out]);have e2:F2=true:=(by rw[bU.out,bJ.out]);rw[e1,e2];exact⟨A6,c6,rfl,hown,a6⟩
theorem uQ (u v:Value) (l m:List Dm) (w:World) (h:Rd 3 aU w u l) (h':Rd 3 aU w v m):Calls prog 168 #[u,v] w (Ret (.bool (decide (l=m))) w):=by
 obtain⟨A,c,rfl,hc,hm⟩:=h.form;obtain⟨A',c',rfl,hc',bE⟩:=h'.form;by_cases hlen:l.length=m.length
 . have hne : ((l.length : Int) != (m.length : Int)) = false := by simp [hlen]
   have a8:=TY hlen;clear hlen;go_enter func168,ntmps168
   go_wp2;go_loopw [5] (fun i wr=>∃k:Nat,k<=l.length/\i= .int .i64 k/\Hid (decide (l.drop k=m.drop k)=decide (l=m))/\Below w.heap.size w wr) (fun i _=>l.length-(intOf i).toNat)
   case atStart=>exact⟨0,Ug _,rfl,TY rfl,Below.refl _ _⟩
   case round=>
    obtain⟨k,hk,rfl,Hg,a6⟩:=hrel;by_cases hlt:k<l.length
    . have bA : k < m.length := by have := a8.out; omega
      obtain⟨b,off,rfl,hb,q1,q2,q3⟩:=(h.TW a6).jT hlt;obtain⟨b',bB,rfl,hb',p1,p2,p3⟩:=(h'.TW a6).jT bA;have bC:(k:Int)<(m.length:Int):=(by omega);obtain⟨d,hd⟩:=TV (l[k]);obtain⟨e,he⟩:=TV (m[k]);rw[<-hd]at q1 q2 q3;rw[<-he]at p1 p2 p3;obtain⟨dx,dy,dd⟩:=d;obtain⟨ex,ey,ed⟩:=e;simp only at q1 q2 q3 p1 p2 p3;by_cases a7:((dx,dy,dd):Dm)=(ex,ey,ed)
      . have bD := Mg Hg hlt bA (by rw [<- hd, <- he]; exact a7);simp only[Prod.mk.injEq]at a7;obtain⟨rfl,rfl,rfl⟩:=a7;clear hd he;go_wp2_with fail
        go_quiet (fail)
        go_wp2;go_roundw
        case rel=>exact⟨k+1,by omega,by go_num,bD,below_drewN a6 _⟩
        case measure=>simp[intOf];omega
      . have HR := TY (Mh Hg hlt bA (by rw [<- hd, <- he]; exact a7)).symm;clear hd he;rcases jS a7 with p|⟨rfl,p⟩|⟨rfl,rfl,p⟩
        all_goals
          clear a7;go_wp2_with fail
          go_quiet (fail)
          go_wp2;go_ret;exact⟨lF HR.out,below_drewN a6 _⟩
    . go_wp2;go_ret;exact⟨lF (IL Hg (by omega) (by have:=a8.out;omega)).symm,a6⟩
 . have hne : ((l.length : Int) != (m.length : Int)) = true := by simp; omega
   go_enter func168,ntmps168
   go_wp2;go_ret;exact⟨lF (by rw[eq_comm,decide_eq_false_iff_not];exact fun e=>hlen (by rw[e])),Below.refl _ _⟩
theorem uR (vr vf vn vc:Value) (rows:List Int) (f n:List Dm) (cs:List Cl) (w:World) (h1:Rd 1 bG w vr rows) (h2:Rd 3 aU w vf f) (h3:Rd 3 aU w vn n) (h4:Rd 2 cO w vc cs) (hl:Small f.length):
 Calls prog 113 #[.agg #[vr,vf,vn,vc]] w (Ret (.bool (dM rows f n cs)) w):=by
 obtain⟨A1,c1,rfl,hc1,bE⟩:=h1.form;obtain⟨A2,c2,rfl,hc2,bJ⟩:=h2.form;obtain⟨A3,c3,rfl,hc3,bK⟩:=h3.form;obtain⟨A4,c4,rfl,bA,bL⟩:=h4.form;have hA:=(Below.refl w.heap.size w).al (.cells #[.slice A1 rows.length c1,.slice A2 f.length c2,.slice A3 n.length c3,.slice A4 cs.length c4] 30);have bF:=Blk.aZ w 30 #[.slice A1 rows.length c1,.slice A2 f.length c2,.slice A3 n.length c3,.slice A4 cs.length c4];have g1:=h1.TW hA;have g2:=h2.TW hA;have g3:=h3.TW hA;have g4:=h4.TW hA;clear hc1 hc2 hc3 bA;rcases ht:eX rows f with _|_
 . have e : dM rows f n cs = false := by unfold dM; rw [ht]; rfl
   rw[e];have Ht:=TY ht;clear ht e;go_enter Us,Ut
   go_wp2_with fail
   refine(wF _ _ rows f _ g1 g2).mono ?_;rintro e w1 ⟨rfl,hb1⟩;rw[Ht.out];go_wp2;go_ret;exact⟨rfl,hA.tr hb1⟩
 . by_cases hn:cs.length<=60
   . have e : dM rows f n cs = ((dS f cs).2 && decide ((dS f cs).1 = n)) := by unfold dM; rw [ht, decide_eq_true hn]; rfl
     have bB:(cs.length:Int)<=60:=(by omega);obtain⟨M,hM⟩:=TV ((dS f cs).1);obtain⟨b,hb⟩:=TV ((dS f cs).2);rw[<-hM,<-hb]at e;rw[e];have Ht:=TY ht;have HM:=TY hM;have Hb:=TY hb;clear ht e hM hb;go_enter Us,Ut
     go_wp2_with fail
     refine(wF _ _ rows f _ g1 g2).mono ?_;rintro e w1 ⟨rfl,hb1⟩;rw[Ht.out];have a6:=bF.bl hb1;have z1:=a6.cell 1;have z3:=a6.cell 3;simp only[Ud,Ue,Uf]at z1 z3;go_wp2_with fail
     refine(Ip _ _ f cs _ (g2.TW hb1) (g4.TW hb1) hl).mono ?_;rintro e w2 ⟨Am,cm,rfl,a7,hb2⟩;rw[<-HM.out]at a7;rw[<-HM.out,<-Hb.out];have bC:=a6.bl hb2;clear z1 z3;have z2:=bC.cell 2;simp only[Ud,Ue,Uf]at z2;have B2:=(hA.tr hb1).tr hb2;cases b
     . go_wp2;go_ret;exact⟨rfl,B2⟩
     . go_wp2_with fail
       refine(uQ _ _ M n _ (a7.rd aC (by decide)) ((g3.TW hb1).TW hb2)).mono ?_;rintro e w3 ⟨rfl,hb3⟩;obtain⟨R,hR⟩:∃R,R=decide (M=n):=⟨_,rfl⟩;rw[<-hR];have a8:(true&&decide (M=n))=R:=by rw[hR];rfl
       have bD:=TY a8;clear hR a8;go_wp2;go_ret;exact⟨lF bD.out.symm,B2.tr hb3⟩
   . have e : dM rows f n cs = false := by unfold dM; rw [ht, decide_eq_false hn]; rfl
     rw[e];have bB:(60:Int)<(cs.length:Int):=(by omega);have Ht:=TY ht;clear ht e hn;go_enter Us,Ut
     go_wp2_with fail
     refine(wF _ _ rows f _ g1 g2).mono ?_;rintro e w1 ⟨rfl,hb1⟩;rw[Ht.out];have a6:=bF.bl hb1;have z3:=a6.cell 3;simp only[Ud,Ue,Uf]at z3;go_wp2;go_ret;exact⟨rfl,hA.tr hb1⟩
end Go.Proofs.YtjijonhkofhikaaGreatDoor
