import Derived.Test.YtjijonhkofhikaaGreatDoorFK6
open _root_.List renaming length_take->Tm,drop_eq_getElem_cons->Tn,nil_append->Tp,length_nil->Tq,drop_of_length_le->Tt,getElem?_toArray->Tu,getElem?_cons_zero->Tv,getElem?_cons_succ->Tw
open _root_.Nat renaming zero_le->Tx,le_refl->Ty,add_zero->Tz,zero_add->TA
open _root_.Go.IntWalk renaming i64_in->TB
open _root_.Go.Value renaming oneCell'->TC,ownBlock->TD
open _root_.Go.Proofs.Tryz (prog func186 ntmps186 func167 ntmps167 func168 ntmps168)
open _root_.Go.Proofs.Tryz renaming func133->TE,ntmps133->TF,func169->TG,ntmps169->TH,func113->TI,ntmps113->TJ
set_option linter.unusedVariables false
set_option linter.unusedSimpArgs false
set_option maxHeartbeats 4000000
set_option maxRecDepth 100000
namespace Go.Proofs.YtjijonhkofhikaaGreatDoor
open Go.ChangeShapes Go.WideShapes Go.ChangeAt Go.RowKit
theorem I1 {α:Type} {size:Nat} {R:World->List Value->α->Prop} {w:World} {A:Option Addr} {n c:Nat} {l:List α} (h:Rd size R w (.slice A n c) l):n=l.length/\n<=c:=by
 obtain⟨A0,c',e,h1,h2,h3⟩:=h;injection e with e1 e2 e3;subst e3;exact⟨e2,by omega⟩
theorem Rd.takeA {α:Type} {size:Nat} {R:World->List Value->α->Prop} {w:World} {A:Option Addr} {n c:Nat} {l:List α} (h:Rd size R w (.slice A n c) l) {j:Nat} (hj:j<=n):Rd size R w (.slice A j c) (l.take j):=by
 obtain⟨A0,c',e,h1,h2,h3⟩:=h;injection e with e1 e2 e3;subst e1 e2 e3;refine⟨_,_,by rw[Tm,Nat.min_eq_left hj],by rw[Tm];omega,by first|(rw[Tm];omega)|omega,fun hn=> ?_⟩;rw[Tm]at hn;obtain⟨b,off,rfl,hb,hc⟩:=h3 (by omega);refine⟨b,off,rfl,hb,fun i x hx=> ?_⟩;exact hc i x (by rw[List.getElem?_take]at hx;split at hx;exact hx;cases hx)
theorem iG {P:Program} {ops:Array Oper} {rest:List Oper} {o:Oper} {a:Act} {Q:Exit->Act->World->Prop} {α:Type} {t E:TypeId} {z:Value} {size bytes:Nat} (R:Row P t E z size bytes)
    {enc:α->List Value} (a7:∀x,(enc x).length=size) (h1:∀x,∀u∈enc x,u.oneCell'=true)
    {B:Nat} {w:World} (hB:B<=w.heap.size) {v:Value} {l:List α} (hown:aD E size enc B w v l) {A:Option Addr} {n c:Nat} {m:List α} (hn:m.length=n) (hm:Rd size (RE enc) w (.slice A n c) m)
    (hlen:(l.length+m.length)*bytes<=140737488355328) (a6:l.length+m.length<=maxLen) (hgd:o.guard=none)
    (s x:Operand) (ho:o.op= .call {callee:= .builtin .append,args:= #[s,x],argTypes:= #[t,t]})
    (hs:a.eval s=v) (hx:a.eval x= .slice A n c)
    (h:∀v' w',aD E size enc B w' v' (l++m)->Below B w w'->(∃A' c',v'= .slice A' (l.length+n) c')->wpList P ops Q rest (a.put o.dst v') w'):
    wpList P ops Q (o::rest) a w:=by
 subst hn;exact dN R a7 h1 hB hown hm hlen a6 hgd s x ho hs hx h
theorem Ec (x y:Int) (d:Bool) (x' y':Int) (d':Bool) (r:Bool) (w:World) (hd:aI (x,y,d)=true) (a6:aI (x',y',d')=true) (hr:r=decide (aS (x,y,d)<aS (x',y',d'))):
 Calls prog 173 #[.agg #[.int .i64 x,.int .i64 y,.bool d],.agg #[.int .i64 x',.int .i64 y',.bool d']] w (Ret (.bool r) w):=by
 rw[hr];exact pQ x y d x' y' d' w hd a6
theorem Gi (v:Value) (l:List Dm) (w:World) (h:Rd 3 aQ w v l):Calls prog 218 #[v] w (fM 99 3 aV (jI l) w):=by
 obtain⟨A,c,rfl,hc,hm⟩:=h.form;go_enter Tryz.func218,Tryz.ntmps218
 go_wp2;go_loopw [3,4] (fun s3 s4 wr=>∃(k:Nat) (out:List Dm) (A3:Option Addr) (c3:Nat),k<=l.length/\s4= .int .i64 k/\s3= .slice A3 out.length c3/\Hid (kT out (l.drop k)=jI l)/\Hid (Sorted out)/\aD 99 3 aV w.heap.size wr (.slice A3 out.length c3) out/\Below w.heap.size w wr) (fun _ i _=>l.length-(intOf i).toNat)
 case atStart=>exact⟨0,[],_,_,Tx _,rfl,rfl,Tk rfl,Tk yT,eG w _ rfl _ (Ty _),(Below.refl _ _).al _⟩
 case round=>
  obtain⟨k,out,A3,c3,hk,rfl,rfl,Hg,cH,hown,bU⟩:=hrel;have gF:=yU cH.out;obtain⟨wo,rfl⟩:∃wo:World,wo=wr:=⟨_,rfl⟩;by_cases hlt:k<l.length
  . obtain⟨b,off,rfl,hb,q1,q2,q3⟩:=(h.Tj bU).kE hlt;have hg:=Hg.out;rw[Tn hlt,BR]at hg;obtain⟨d,hd⟩:=Ti (l[k]);rw[<-hd]at q1 q2 q3 hg;obtain⟨x,y,dn⟩:=d;simp only at q1 q2 q3;have fX:(k:Int)<(l.length:Int):=(by omega);rcases eC:aI (x,y,dn)with _|_
    . have e : kX out (x, y, dn) = out := by unfold kX; rw [eC]; rfl
      rw[e]at hg;have cI:=Tk hg;have eI:=Tk eC;clear hg eC hd e;go_wp2_with fail
      refine(dD x y dn _).mono ?_;rintro e w1 ⟨rfl,hb1⟩;rw[eI.out];go_wp2;go_roundw
      case rel=>exact⟨k+1,out,A3,c3,by omega,by go_num,rfl,cI,cH,hown.below hb1,bU.tr hb1⟩
      case measure=>simp[intOf];omega
    . have hst:=zM out eC;have cF:=Tk hst;have cI:=Tk hg;have eI:=Tk eC;have Hd:=Tk hd;clear hst hg eC hd;go_wp2_with fail
      refine(dD x y dn _).mono ?_;rintro e w1 ⟨rfl,hb1⟩;rw[eI.out]
      have QF : Hid (∀ wX : World, Below w.heap.size w wX -> b < wX.heap.size /\ wX.cell? ⟨b, off + k * 3, none⟩ = some (.int .i64 x) /\ wX.cell? ⟨b, off + k * 3 + 1, none⟩ = some (.int .i64 y) /\ wX.cell? ⟨b, off + k * 3 + 2, none⟩ = some (.bool dn)) := Tk (fun wX hX => by
       obtain⟨b9,fY,e9,r0,r1,r2,r3⟩:=(h.Tj hX).kE hlt;injection e9 with e9;injection e9 with gA gB _;subst gA;subst gB;rw[<-Hd.out]at r1 r2 r3;exact⟨r0,r1,r2,r3⟩)
      have eJ:=hown.below hb1;have B1:=bU.tr hb1;obtain⟨P,hP⟩:=Ti (nT (x,y,dn) out);have bF:P<=out.length:=by rw[hP];exact Ir _ _
      have eK:∀j,(hj:j<out.length)->(aS out[j]<aS (x,y,dn)↔j<P):=fun j hj=>by rw[hP];exact K5 cH.out hj
      rw[<-hP]at cF;have eN:=Tk eK;have HP:=Tk hP;clear eK hP;go_wp2;go_loopw [5] (fun s5 wr=>∃j:Nat,j<=P/\s5= .int .i64 j/\aD 99 3 aV w.heap.size wr (.slice A3 out.length c3) out/\Below w.heap.size w wr) (fun i _=>P-(intOf i).toNat)
      case atStart=>exact⟨0,Tx _,rfl,eJ,B1⟩
      case round=>
       obtain⟨j,hj,rfl,hown2,bB⟩:=hrel;clear eJ B1 hown bU q1 q2 q3 hb1 hb;obtain⟨hb,q1,q2,q3⟩:=QF.out _ bB;by_cases cJ:j<out.length
       . obtain⟨g,hA,hg0,hg1⟩:=hown2.split cJ;subst hA;obtain⟨e,he⟩:=Ti (out[j]);have bX:=hown2.slot aC (by decide) cJ;rw[<-he]at bX;have fL:aI e=true:=by rw[he];exact cH.out.1 _ (List.getElem_mem cJ)
         have bY:=eN.out j cJ;rw[<-he]at bY;obtain⟨ex,ey,ed⟩:=e;have z0:=bX 0 _ rfl;have z1:=bX 1 _ rfl;have z2:=bX 2 _ rfl;simp only[Tz]at z0;have fN:=Tk fL;have He:=Tk he;clear bX fL he;have gK:(j:Int)<(out.length:Int):=(by omega);have Bw:Below wr.heap.size wr wr.drew:=(Below.refl _ _).drew;have hz:wr.heap.size<=wr.drew.heap.size:=(by simp);by_cases eL:j<P
         . have Hr : Hid (true = decide (aS (ex, ey, ed) < aS (x, y, dn))) := Tk (by rw [decide_eq_true (bY.2 eL)]);clear bY;go_wp2_with fail
           refine rB (fun w'=>w'.cell? ⟨g,j*3,none⟩=some (.int .i64 ex)/\w'.cell? ⟨g,j*3+1,none⟩=some (.int .i64 ey)/\w'.cell? ⟨g,j*3+2,none⟩=some (.bool ed)/\w'.cell? ⟨b,off+k*3,none⟩=some (.int .i64 x)/\w'.cell? ⟨b,off+k*3+1,none⟩=some (.int .i64 y)/\w'.cell? ⟨b,off+k*3+2,none⟩=some (.bool dn)) fun hHeld=>(tW 0)<|(tW 1)<|(tW 2)<|(tW 3)<|(tW 4)<|(tW 5)<|(tW 6)<|(tW 7)<|(tW 8)<|(tW 9)<|(tW 10)<|(tW 11)<|(tW 12)<|(tR [13])<|tL fun K hK=>?_
           go_simp
           (first|(go_at_call 173;go_must (refine(Ec ex ey ed x y dn true _ fN.out eI.out Hr.out).mono ?_;rintro e wX ⟨rfl,eE⟩;obtain⟨fO,fR,eM⟩:=bkn eE wr.heap.size hz;have hz:=eM;have Bw:=Bw.tr eE);(try go_wp2_with fail)))
           refine tK hK fun hHeld=>?_
           clear hK K;refine(tW 14)<|tD ?_
           all_goals
             go_wp2;go_roundw
             case rel=>exact⟨j+1,by omega,by go_num,hown2.below Bw,bB.tr Bw⟩
             case measure=>simp[intOf];omega
         . obtain rfl : P = j := by omega
           have Hr:Hid (false=decide (aS (ex,ey,ed)<aS (x,y,dn))):=Tk (by rw[decide_eq_false (mt bY.1 eL)]);clear bY;go_wp2_with fail
           refine rB (fun w'=>w'.cell? ⟨g,P*3,none⟩=some (.int .i64 ex)/\w'.cell? ⟨g,P*3+1,none⟩=some (.int .i64 ey)/\w'.cell? ⟨g,P*3+2,none⟩=some (.bool ed)/\w'.cell? ⟨b,off+k*3,none⟩=some (.int .i64 x)/\w'.cell? ⟨b,off+k*3+1,none⟩=some (.int .i64 y)/\w'.cell? ⟨b,off+k*3+2,none⟩=some (.bool dn)) fun hHeld=>(tW 0)<|(tW 1)<|(tW 2)<|(tW 3)<|(tW 4)<|(tW 5)<|(tW 6)<|(tW 7)<|(tW 8)<|(tW 9)<|(tW 10)<|(tW 11)<|(tW 12)<|(tR [13])<|tL fun K hK=>?_
           go_simp
           (first|(go_at_call 173;go_must (refine(Ec ex ey ed x y dn false _ fN.out eI.out Hr.out).mono ?_;rintro e wX ⟨rfl,eE⟩;obtain⟨fO,fR,eM⟩:=bkn eE wr.heap.size hz;have hz:=eM;have Bw:=Bw.tr eE);(try go_wp2_with fail)))
           refine tK hK fun hHeld=>?_
           clear hK K;refine(tW 14)<|tD ?_;have bJ:=hown2.below Bw;have B3:=bB.tr Bw;clear hHeld z0 z1 z2 hb q1 q2 q3 hown2 bB Bw hz fO fR eM eE;obtain⟨W4,gC⟩:=Ti wX;subst gC;have bX:=bJ.slot aC (by decide) cJ;rw[<-He.out]at bX;have z0:=bX 0 _ rfl;have z1:=bX 1 _ rfl;have z2:=bX 2 _ rfl;simp only[Tz]at z0;clear bX;obtain⟨hb,q1,q2,q3⟩:=QF.out _ B3;by_cases bS:out[P]? =some (x,y,dn)
           . have fS:(ex,ey,ed)=(x,y,dn):=by
              rw[List.getElem?_eq_getElem cJ,Option.some.injEq]at bS;rw[He.out,bS]
             simp only[Prod.mk.injEq]at fS;obtain⟨rfl,rfl,rfl⟩:=fS;have HG:Hid (kT out (l.drop (k+1))=jI l):=Tk (by rw[<-cI.out,cF.out,if_pos bS]);clear bS;go_wp2_with fail
             refine rB (fun w'=>w'.cell? ⟨g,P*3,none⟩=some (.int .i64 ex)/\w'.cell? ⟨g,P*3+1,none⟩=some (.int .i64 ey)/\w'.cell? ⟨g,P*3+2,none⟩=some (.bool ed)/\w'.cell? ⟨b,off+k*3,none⟩=some (.int .i64 ex)/\w'.cell? ⟨b,off+k*3+1,none⟩=some (.int .i64 ey)/\w'.cell? ⟨b,off+k*3+2,none⟩=some (.bool ed)) fun hHeld=>(tW 0)<|(tW 1)<|(tW 2)<|(tW 3)<|(tW 4)<|(tW 5)<|(tW 6)<|(tW 7)<|(tW 8)<|(tW 9)<|(tW 10)<|(tW 11)<|(tW 12)<|(tW 13)<|(tW 14)<|tD ?_
             go_wp2;go_roundw
             case rel=>exact⟨k+1,out,_,c3,by omega,by go_num,rfl,HG,cH,bJ.below ((Below.refl _ _).drew),B3.drew⟩
             case measure=>simp[intOf];omega
           . have cG:=Tk bS;clear bS;have hne:¬(ex,ey,ed)=(x,y,dn):=fun q=>cG.out (by rw[List.getElem?_eq_getElem cJ,<-He.out,q])
             by_cases h1:ex=x
             . obtain rfl:x=ex:=h1.symm;by_cases h2:ey=y
               . obtain rfl:y=ey:=h2.symm;by_cases h3:ed=dn
                 . exfalso;apply hne;rw[h3]
                 . have fW:=Tk hne;clear hne;go_wp2_with fail
                   refine rB (fun w'=>w'.cell? ⟨g,P*3,none⟩=some (.int .i64 x)/\w'.cell? ⟨g,P*3+1,none⟩=some (.int .i64 y)/\w'.cell? ⟨g,P*3+2,none⟩=some (.bool ed)/\w'.cell? ⟨b,off+k*3,none⟩=some (.int .i64 x)/\w'.cell? ⟨b,off+k*3+1,none⟩=some (.int .i64 y)/\w'.cell? ⟨b,off+k*3+2,none⟩=some (.bool dn)) fun hHeld=>(tW 0)<|(tW 1)<|(tW 2)<|(tW 3)<|(tW 4)<|(tW 5)<|(tW 6)<|(tW 7)<|(tW 8)<|(tW 9)<|(tW 10)<|(tW 11)<|(tW 12)<|(tW 13)<|(tW 14)<|tD ?_
                   have HO:=bJ.below ((Below.refl _ _).drew);have B6:=B3.drew;clear hHeld z0 z1 z2 hb q1 q2 q3 bJ B3;obtain⟨W5,b5⟩:=Ti W4.drew;rw[<-b5]at HO B6⊢;clear b5;have bA:Hid (kT (out.take P++(x,y,dn)::out.drop P) (l.drop (k+1))=jI l):=Tk (by rw[<-cI.out,cF.out,if_neg cG.out]);have b6:Hid (Sorted (out.take P++(x,y,dn)::out.drop P)):=Tk (by have:=jO cH.out (x,y,dn);rw[cF.out,if_neg cG.out]at this;exact this);obtain⟨NW,bC⟩:=Ti (out.take P++(x,y,dn)::out.drop P);have b7:NW.length=out.length+1:=by rw[bC];simp;omega
                   have bD:(out.take P++[(x,y,dn)])++out.drop P=NW:=by rw[bC];simp
                   rw[<-bC]at bA b6;have bK:=HO.rd aC (by decide);obtain⟨_,eP⟩:=I1 bK;have b8:=(bK.Tj ((Below.refl _ _).al (.cells #[] 99))).takeA bF;have bL:(out.take P).length=P:=by simp;omega
                   have bM:(out.drop P).length=out.length-P:=(by simp);have eR:P<=c3:=(by omega);have cK:(P:Int)<=(c3:Int):=(by omega);have eW:(P:Int)<=(out.length:Int):=(by omega);obtain⟨TK,bN⟩:=Ti (out.take P);obtain⟨DR,bO⟩:=Ti (out.drop P);rw[<-bN]at b8 bL bD;rw[<-bO]at bM bD;have cA:=Tk b7;have cL:=Tk bD;have e5:=Tk bN;have cM:=Tk bO;have cB:=Tk bL;have cN:=Tk bM;have cP:Hid ((0+TK.length)*24<=140737488355328):=Tk (by omega);have cQ:Hid (0+TK.length<=maxLen):=Tk (by unfold maxLen;omega);have cR:Hid ((TK.length+1)*24<=140737488355328):=Tk (by omega);have cS:Hid (TK.length+1<=maxLen):=Tk (by unfold maxLen;omega);have bE:(TK++[((x,y,dn):Dm)]).length=P+1:=by simp;omega
                   have cT:Hid (((TK++[((x,y,dn):Dm)]).length+DR.length)*24<=140737488355328):=Tk (by rw[bE];omega);have cU:Hid ((TK++[((x,y,dn):Dm)]).length+DR.length<=maxLen):=Tk (by rw[bE];unfold maxLen;omega);have cC:=Tk bE;have cV:Hid ((P:Int)=((P:Nat):Int)):=Tk rfl;clear b7 bD bC bN bO bL bM bE bK;go_wp2_with (first|(at_builtin;(refine iG (enc:=aV) aJ aC aL (B:=W5.heap.size) (by simp) (eG W5 _ rfl _ (Ty _)) (n:=P) cB.out b8 cP.out cQ.out rfl _ _ rfl rfl rfl ?_);intro v6 w6 a6 cW cX;obtain⟨A6,c6,rfl⟩:=cX;simp only[Tp,Tq,TA]at a6⊢;have cD:Below W5.heap.size W5 w6:=((Below.refl _ _).al _).trans cW;obtain⟨hb,q1,q2,q3⟩:=QF.out _ (B6.tr cD))|(at_builtin;(refine iG (enc:=aV) aJ aC aL (B:=W5.heap.size) bP.size a7 (n:=out.length-P) cN.out cE cT.out cU.out rfl _ _ rfl rfl rfl ?_);intro v9 w9 a8 cY dL;obtain⟨A9,c9,rfl⟩:=dL;rw[cL.out]at a8)|((with_reducible refine mX aJ bR P bF cV.out rfl _ _ rfl rfl rfl ?_);intro A8 c8 cE;rw[<-cM.out]at cE)|(at_builtin;go_must ((refine aF (enc:=aV) aJ aC aL cD a6 ((x,y,dn):Dm) cR.out cS.out rfl _ _ rfl rfl rfl ?_);intro v7 w7 a7 bP e6 e7;obtain⟨A7,c7,rfl,e8,fD⟩:=a7.form;rw[cC.out]at a7⊢;have bR:=(HO.below bP).rd aC (by decide))))
                   have dT:TK.length+1+(out.length-P)=NW.length:=by rw[cA.out,cB.out];omega
                   have eA:(TK++[((x,y,dn):Dm)]).length+(out.length-P)=NW.length:=by rw[cA.out,cC.out];omega
                   rw[eA]at a8;go_roundw
                   case rel=>exact⟨k+1,NW,A9,c9,by omega,by go_num,by rw[dT],bA,b6,a8.mono B6.size,B6.trans (bP.trans cY|>.mono B6.size)⟩
                   case measure=>simp[intOf];omega
               . have fW:=Tk hne;clear hne;go_wp2_with fail
                 refine rB (fun w'=>w'.cell? ⟨g,P*3,none⟩=some (.int .i64 x)/\w'.cell? ⟨g,P*3+1,none⟩=some (.int .i64 ey)/\w'.cell? ⟨g,P*3+2,none⟩=some (.bool ed)/\w'.cell? ⟨b,off+k*3,none⟩=some (.int .i64 x)/\w'.cell? ⟨b,off+k*3+1,none⟩=some (.int .i64 y)/\w'.cell? ⟨b,off+k*3+2,none⟩=some (.bool dn)) fun hHeld=>(tW 0)<|(tW 1)<|(tW 2)<|(tW 3)<|(tW 4)<|(tW 5)<|(tW 6)<|(tW 7)<|(tW 8)<|(tW 9)<|(tW 10)<|(tW 11)<|(tW 12)<|(tW 13)<|(tW 14)<|tD ?_
                 have HO:=bJ.below ((Below.refl _ _).drew);have B6:=B3.drew;clear hHeld z0 z1 z2 hb q1 q2 q3 bJ B3;obtain⟨W5,b5⟩:=Ti W4.drew;rw[<-b5]at HO B6⊢;clear b5;have bA:Hid (kT (out.take P++(x,y,dn)::out.drop P) (l.drop (k+1))=jI l):=Tk (by rw[<-cI.out,cF.out,if_neg cG.out]);have b6:Hid (Sorted (out.take P++(x,y,dn)::out.drop P)):=Tk (by have:=jO cH.out (x,y,dn);rw[cF.out,if_neg cG.out]at this;exact this);obtain⟨NW,bC⟩:=Ti (out.take P++(x,y,dn)::out.drop P);have b7:NW.length=out.length+1:=by rw[bC];simp;omega
                 have bD:(out.take P++[(x,y,dn)])++out.drop P=NW:=by rw[bC];simp
                 rw[<-bC]at bA b6;have bK:=HO.rd aC (by decide);obtain⟨_,eP⟩:=I1 bK;have b8:=(bK.Tj ((Below.refl _ _).al (.cells #[] 99))).takeA bF;have bL:(out.take P).length=P:=by simp;omega
                 have bM:(out.drop P).length=out.length-P:=(by simp);have eR:P<=c3:=(by omega);have cK:(P:Int)<=(c3:Int):=(by omega);have eW:(P:Int)<=(out.length:Int):=(by omega);obtain⟨TK,bN⟩:=Ti (out.take P);obtain⟨DR,bO⟩:=Ti (out.drop P);rw[<-bN]at b8 bL bD;rw[<-bO]at bM bD;have cA:=Tk b7;have cL:=Tk bD;have e5:=Tk bN;have cM:=Tk bO;have cB:=Tk bL;have cN:=Tk bM;have cP:Hid ((0+TK.length)*24<=140737488355328):=Tk (by omega);have cQ:Hid (0+TK.length<=maxLen):=Tk (by unfold maxLen;omega);have cR:Hid ((TK.length+1)*24<=140737488355328):=Tk (by omega);have cS:Hid (TK.length+1<=maxLen):=Tk (by unfold maxLen;omega);have bE:(TK++[((x,y,dn):Dm)]).length=P+1:=by simp;omega
                 have cT:Hid (((TK++[((x,y,dn):Dm)]).length+DR.length)*24<=140737488355328):=Tk (by rw[bE];omega);have cU:Hid ((TK++[((x,y,dn):Dm)]).length+DR.length<=maxLen):=Tk (by rw[bE];unfold maxLen;omega);have cC:=Tk bE;have cV:Hid ((P:Int)=((P:Nat):Int)):=Tk rfl;clear b7 bD bC bN bO bL bM bE bK;go_wp2_with (first|(at_builtin;(refine iG (enc:=aV) aJ aC aL (B:=W5.heap.size) (by simp) (eG W5 _ rfl _ (Ty _)) (n:=P) cB.out b8 cP.out cQ.out rfl _ _ rfl rfl rfl ?_);intro v6 w6 a6 cW cX;obtain⟨A6,c6,rfl⟩:=cX;simp only[Tp,Tq,TA]at a6⊢;have cD:Below W5.heap.size W5 w6:=((Below.refl _ _).al _).trans cW;obtain⟨hb,q1,q2,q3⟩:=QF.out _ (B6.tr cD))|(at_builtin;(refine iG (enc:=aV) aJ aC aL (B:=W5.heap.size) bP.size a7 (n:=out.length-P) cN.out cE cT.out cU.out rfl _ _ rfl rfl rfl ?_);intro v9 w9 a8 cY dL;obtain⟨A9,c9,rfl⟩:=dL;rw[cL.out]at a8)|((with_reducible refine mX aJ bR P bF cV.out rfl _ _ rfl rfl rfl ?_);intro A8 c8 cE;rw[<-cM.out]at cE)|(at_builtin;go_must ((refine aF (enc:=aV) aJ aC aL cD a6 ((x,y,dn):Dm) cR.out cS.out rfl _ _ rfl rfl rfl ?_);intro v7 w7 a7 bP e6 e7;obtain⟨A7,c7,rfl,e8,fD⟩:=a7.form;rw[cC.out]at a7⊢;have bR:=(HO.below bP).rd aC (by decide))))
                 have dT:TK.length+1+(out.length-P)=NW.length:=by rw[cA.out,cB.out];omega
                 have eA:(TK++[((x,y,dn):Dm)]).length+(out.length-P)=NW.length:=by rw[cA.out,cC.out];omega
                 rw[eA]at a8;go_roundw
                 case rel=>exact⟨k+1,NW,A9,c9,by omega,by go_num,by rw[dT],bA,b6,a8.mono B6.size,B6.trans (bP.trans cY|>.mono B6.size)⟩
                 case measure=>simp[intOf];omega
             . have fW:=Tk hne;clear hne;go_wp2_with fail
               refine rB (fun w'=>w'.cell? ⟨g,P*3,none⟩=some (.int .i64 ex)/\w'.cell? ⟨g,P*3+1,none⟩=some (.int .i64 ey)/\w'.cell? ⟨g,P*3+2,none⟩=some (.bool ed)/\w'.cell? ⟨b,off+k*3,none⟩=some (.int .i64 x)/\w'.cell? ⟨b,off+k*3+1,none⟩=some (.int .i64 y)/\w'.cell? ⟨b,off+k*3+2,none⟩=some (.bool dn)) fun hHeld=>(tW 0)<|(tW 1)<|(tW 2)<|(tW 3)<|(tW 4)<|(tW 5)<|(tW 6)<|(tW 7)<|(tW 8)<|(tW 9)<|(tW 10)<|(tW 11)<|(tW 12)<|(tW 13)<|(tW 14)<|tD ?_
               have HO:=bJ.below ((Below.refl _ _).drew);have B6:=B3.drew;clear hHeld z0 z1 z2 hb q1 q2 q3 bJ B3;obtain⟨W5,b5⟩:=Ti W4.drew;rw[<-b5]at HO B6⊢;clear b5;have bA:Hid (kT (out.take P++(x,y,dn)::out.drop P) (l.drop (k+1))=jI l):=Tk (by rw[<-cI.out,cF.out,if_neg cG.out]);have b6:Hid (Sorted (out.take P++(x,y,dn)::out.drop P)):=Tk (by have:=jO cH.out (x,y,dn);rw[cF.out,if_neg cG.out]at this;exact this);obtain⟨NW,bC⟩:=Ti (out.take P++(x,y,dn)::out.drop P);have b7:NW.length=out.length+1:=by rw[bC];simp;omega
               have bD:(out.take P++[(x,y,dn)])++out.drop P=NW:=by rw[bC];simp
               rw[<-bC]at bA b6;have bK:=HO.rd aC (by decide);obtain⟨_,eP⟩:=I1 bK;have b8:=(bK.Tj ((Below.refl _ _).al (.cells #[] 99))).takeA bF;have bL:(out.take P).length=P:=by simp;omega
               have bM:(out.drop P).length=out.length-P:=(by simp);have eR:P<=c3:=(by omega);have cK:(P:Int)<=(c3:Int):=(by omega);have eW:(P:Int)<=(out.length:Int):=(by omega);obtain⟨TK,bN⟩:=Ti (out.take P);obtain⟨DR,bO⟩:=Ti (out.drop P);rw[<-bN]at b8 bL bD;rw[<-bO]at bM bD;have cA:=Tk b7;have cL:=Tk bD;have e5:=Tk bN;have cM:=Tk bO;have cB:=Tk bL;have cN:=Tk bM;have cP:Hid ((0+TK.length)*24<=140737488355328):=Tk (by omega);have cQ:Hid (0+TK.length<=maxLen):=Tk (by unfold maxLen;omega);have cR:Hid ((TK.length+1)*24<=140737488355328):=Tk (by omega);have cS:Hid (TK.length+1<=maxLen):=Tk (by unfold maxLen;omega);have bE:(TK++[((x,y,dn):Dm)]).length=P+1:=by simp;omega
               have cT:Hid (((TK++[((x,y,dn):Dm)]).length+DR.length)*24<=140737488355328):=Tk (by rw[bE];omega);have cU:Hid ((TK++[((x,y,dn):Dm)]).length+DR.length<=maxLen):=Tk (by rw[bE];unfold maxLen;omega);have cC:=Tk bE;have cV:Hid ((P:Int)=((P:Nat):Int)):=Tk rfl;clear b7 bD bC bN bO bL bM bE bK;go_wp2_with (first|(at_builtin;(refine iG (enc:=aV) aJ aC aL (B:=W5.heap.size) (by simp) (eG W5 _ rfl _ (Ty _)) (n:=P) cB.out b8 cP.out cQ.out rfl _ _ rfl rfl rfl ?_);intro v6 w6 a6 cW cX;obtain⟨A6,c6,rfl⟩:=cX;simp only[Tp,Tq,TA]at a6⊢;have cD:Below W5.heap.size W5 w6:=((Below.refl _ _).al _).trans cW;obtain⟨hb,q1,q2,q3⟩:=QF.out _ (B6.tr cD))|(at_builtin;(refine iG (enc:=aV) aJ aC aL (B:=W5.heap.size) bP.size a7 (n:=out.length-P) cN.out cE cT.out cU.out rfl _ _ rfl rfl rfl ?_);intro v9 w9 a8 cY dL;obtain⟨A9,c9,rfl⟩:=dL;rw[cL.out]at a8)|((with_reducible refine mX aJ bR P bF cV.out rfl _ _ rfl rfl rfl ?_);intro A8 c8 cE;rw[<-cM.out]at cE)|(at_builtin;go_must ((refine aF (enc:=aV) aJ aC aL cD a6 ((x,y,dn):Dm) cR.out cS.out rfl _ _ rfl rfl rfl ?_);intro v7 w7 a7 bP e6 e7;obtain⟨A7,c7,rfl,e8,fD⟩:=a7.form;rw[cC.out]at a7⊢;have bR:=(HO.below bP).rd aC (by decide))))
               have dT:TK.length+1+(out.length-P)=NW.length:=by rw[cA.out,cB.out];omega
               have eA:(TK++[((x,y,dn):Dm)]).length+(out.length-P)=NW.length:=by rw[cA.out,cC.out];omega
               rw[eA]at a8;go_roundw
               case rel=>exact⟨k+1,NW,A9,c9,by omega,by go_num,by rw[dT],bA,b6,a8.mono B6.size,B6.trans (bP.trans cY|>.mono B6.size)⟩
               case measure=>simp[intOf];omega
       . have eL : P = j := by omega
         subst eL;have gL:(out.length:Int)<=(P:Int):=(by omega);have cG:Hid (¬out[P]? =some (x,y,dn)):=Tk (by rw[List.getElem?_eq_none (by omega)];simp);have gD:decide (P<out.length)=false:=by simp;omega
         clear hb q1 q2 q3;go_wp2_with fail
         refine rB (fun _=>True) fun hHeld=>(tW 0)<|(tW 1)<|(tW 2)<|(tW 3)<|(tW 4)<|(tU 5)<|(tU 6)<|(tU 7)<|(tU 8)<|(tU 9)<|(tU 10)<|(tU 11)<|(tU 12)<|(tU 13)<|(tW 14)<|tD ?_
         go_wp2_with fail
         refine rB (fun _=>True) fun hHeld=>(tW 0)<|(tW 1)<|(tW 2)<|(tW 3)<|(tW 4)<|(tU 5)<|(tU 6)<|(tU 7)<|(tU 8)<|(tU 9)<|(tU 10)<|(tU 11)<|(tU 12)<|(tU 13)<|(tW 14)<|tD ?_
         have Bw:Below wr.heap.size wr wr.drew.drew:=(Below.refl _ _).drew.drew;have a6:=hown2.below Bw;have B6:=bB.tr Bw;clear hHeld hown2 bB Bw;obtain⟨W5,b5⟩:=Ti wr.drew.drew;rw[<-b5]at a6 B6⊢;clear b5 gD;have HO:=a6;clear a6;have bA:Hid (kT (out.take P++(x,y,dn)::out.drop P) (l.drop (k+1))=jI l):=Tk (by rw[<-cI.out,cF.out,if_neg cG.out]);have b6:Hid (Sorted (out.take P++(x,y,dn)::out.drop P)):=Tk (by have:=jO cH.out (x,y,dn);rw[cF.out,if_neg cG.out]at this;exact this);obtain⟨NW,bC⟩:=Ti (out.take P++(x,y,dn)::out.drop P);have b7:NW.length=out.length+1:=by rw[bC];simp;omega
         have bD:(out.take P++[(x,y,dn)])++out.drop P=NW:=by rw[bC];simp
         rw[<-bC]at bA b6;have bK:=HO.rd aC (by decide);obtain⟨_,eP⟩:=I1 bK;have b8:=(bK.Tj ((Below.refl _ _).al (.cells #[] 99))).takeA bF;have bL:(out.take P).length=P:=by simp;omega
         have bM:(out.drop P).length=out.length-P:=(by simp);have eR:P<=c3:=(by omega);have cK:(P:Int)<=(c3:Int):=(by omega);have eW:(P:Int)<=(out.length:Int):=(by omega);obtain⟨TK,bN⟩:=Ti (out.take P);obtain⟨DR,bO⟩:=Ti (out.drop P);rw[<-bN]at b8 bL bD;rw[<-bO]at bM bD;have cA:=Tk b7;have cL:=Tk bD;have e5:=Tk bN;have cM:=Tk bO;have cB:=Tk bL;have cN:=Tk bM;have cP:Hid ((0+TK.length)*24<=140737488355328):=Tk (by omega);have cQ:Hid (0+TK.length<=maxLen):=Tk (by unfold maxLen;omega);have cR:Hid ((TK.length+1)*24<=140737488355328):=Tk (by omega);have cS:Hid (TK.length+1<=maxLen):=Tk (by unfold maxLen;omega);have bE:(TK++[((x,y,dn):Dm)]).length=P+1:=by simp;omega
         have cT:Hid (((TK++[((x,y,dn):Dm)]).length+DR.length)*24<=140737488355328):=Tk (by rw[bE];omega);have cU:Hid ((TK++[((x,y,dn):Dm)]).length+DR.length<=maxLen):=Tk (by rw[bE];unfold maxLen;omega);have cC:=Tk bE;have cV:Hid ((P:Int)=((P:Nat):Int)):=Tk rfl;clear b7 bD bC bN bO bL bM bE bK;go_wp2_with (first|(at_builtin;(refine iG (enc:=aV) aJ aC aL (B:=W5.heap.size) (by simp) (eG W5 _ rfl _ (Ty _)) (n:=P) cB.out b8 cP.out cQ.out rfl _ _ rfl rfl rfl ?_);intro v6 w6 a6 cW cX;obtain⟨A6,c6,rfl⟩:=cX;simp only[Tp,Tq,TA]at a6⊢;have cD:Below W5.heap.size W5 w6:=((Below.refl _ _).al _).trans cW;obtain⟨hb,q1,q2,q3⟩:=QF.out _ (B6.tr cD))|(at_builtin;(refine iG (enc:=aV) aJ aC aL (B:=W5.heap.size) bP.size a7 (n:=out.length-P) cN.out cE cT.out cU.out rfl _ _ rfl rfl rfl ?_);intro v9 w9 a8 cY dL;obtain⟨A9,c9,rfl⟩:=dL;rw[cL.out]at a8)|((with_reducible refine mX aJ bR P bF cV.out rfl _ _ rfl rfl rfl ?_);intro A8 c8 cE;rw[<-cM.out]at cE)|(at_builtin;go_must ((refine aF (enc:=aV) aJ aC aL cD a6 ((x,y,dn):Dm) cR.out cS.out rfl _ _ rfl rfl rfl ?_);intro v7 w7 a7 bP e6 e7;obtain⟨A7,c7,rfl,e8,fD⟩:=a7.form;rw[cC.out]at a7⊢;have bR:=(HO.below bP).rd aC (by decide))))
         have dT:TK.length+1+(out.length-P)=NW.length:=by rw[cA.out,cB.out];omega
         have eA:(TK++[((x,y,dn):Dm)]).length+(out.length-P)=NW.length:=by rw[cA.out,cC.out];omega
         rw[eA]at a8;go_roundw
         case rel=>exact⟨k+1,NW,A9,c9,by omega,by go_num,by rw[dT],bA,b6,a8.mono B6.size,B6.trans (bP.trans cY|>.mono B6.size)⟩
         case measure=>simp[intOf];omega
  . obtain rfl : k = l.length := by omega
    have hg:=Hg.out;rw[Tt (Ty _)]at hg;have hg2:out=jI l:=hg;clear hg;subst hg2;go_wp2;go_ret;exact⟨_,_,rfl,hown,bU⟩
theorem Fa (x y:Int) (w:World) (h:kU (x,y)=true):Calls prog 186 #[.agg #[.int .i64 x,.int .i64 y],.bool true] w (Ret (.tuple #[.agg #[.int .i64 x,.int .i64 y,.bool true],.agg #[.int .i64 (x+1),.int .i64 y,.bool true]]) w):=by
 unfold kU at h;rw[Bool.and_eq_true,decide_eq_true_eq,decide_eq_true_eq]at h;simp only at h;obtain⟨⟨x0,x1⟩,y0,y1⟩:=h;have hA:=(Below.refl w.heap.size w).al (.cells #[.int .i64 x,.int .i64 y] 83);go_enter func186,ntmps186
 have e1:IntKind.i64.wrap (x+1)=x+1:=TB _ (by omega);have e2:IntKind.i64.wrap (y+1)=y+1:=TB _ (by omega);go_wp2_with fail
 obtain⟨W3,hW⟩:=Ti (((w.alloc (.cells #[.int .i64 x,.int .i64 y] 83)).alloc (.cells #[.int .i64 0,.int .i64 0,.bool false] 99)).alloc (.cells #[.int .i64 0,.int .i64 0,.bool false] 99));have bC:Blk W3 w.heap.size 83 #[.int .i64 x,.int .i64 y]:=by rw[hW];exact((Blk.aX w _ _).alloc _).alloc _
 have b1:Blk W3 (w.heap.size+1) 99 #[.int .i64 0,.int .i64 0,.bool false]:=by rw[hW];exact(Blk.gI _ _ _ _ (by simp)).alloc _
 have b2:Blk W3 (w.heap.size+1+1) 99 #[.int .i64 0,.int .i64 0,.bool false]:=by rw[hW];exact Blk.gI _ _ _ _ (by simp)
 have B3:Below w.heap.size w W3:=by rw[hW];exact(hA.al _).al _
 rw[<-hW];obtain⟨g0,hg0⟩:=Ti w.heap.size;obtain⟨g1,hg1⟩:=Ti (w.heap.size+1);obtain⟨g2,hg2⟩:=Ti (w.heap.size+1+1);rw[<-hg2]at b2⊢;rw[<-hg1]at b1⊢;rw[<-hg0]at bC⊢;have bM:g0≠g1:=(by omega);have bN:g0≠g2:=(by omega);have bO:g1≠g2:=(by omega);have bP:w.heap.size<=g1:=(by omega);have hl2:w.heap.size<=g2:=(by omega);clear hW hg0 hg1 hg2 hA;have c0:=bC.cell 0;have c1:=bC.cell 1;simp only[Tu,Tv,Tw]at c0 c1;have B4:Below w.heap.size w W3.drew:=B3.drew;have a8:Blk W3.drew g1 99 #[.int .i64 0,.int .i64 0,.bool false]:=b1;have bA:Blk W3.drew g2 99 #[.int .i64 0,.int .i64 0,.bool false]:=b2;have a6:Blk W3.drew g0 83 #[.int .i64 x,.int .i64 y]:=bC;clear b1 b2 bC B3;refine rB (fun w'=>w'.cell? ⟨g0,0,none⟩=some (.int .i64 x)/\w'.cell? ⟨g0,1,none⟩=some (.int .i64 y)) fun hHeld=>(tW 0)<|(tW 1)<|(tW 2)<|(tW 3)<|(tW 4)<|(tW 5)<|(tW 6)<|(tW 7)<|(tW 8)<|(tW 9)<|(tW 10)<|(tR [11])<|tL fun K hK=>?_
 (first|(refine aK rfl 99 _ _ rfl g1 #[.int .i64 x,.int .i64 y,.bool true] rfl rfl _ _ a8 (by kernel_rfl) rfl (by simp[TC]) ?_;intro wS bB a7;have a8:=bB;have bA:=bA.grown a7 (by simp;omega);have a6:=a6.grown a7 (by simp;omega);have B4:=B4.grown a7 B4.size (fun k hk=>by injection hk with hk;omega);have c0:=a6.cell 0;have c1:=a6.cell 1;simp only[Tu,Tv,Tw]at c0 c1)|(refine aK rfl 99 _ _ rfl g2 #[.int .i64 (x+1),.int .i64 y,.bool true] rfl rfl _ _ bA (by kernel_rfl) rfl (by simp[TC]) ?_;intro wS bB a7;have bA:=bB;have a8:=a8.grown a7 (by simp;omega);have a6:=a6.grown a7 (by simp;omega);have B4:=B4.grown a7 B4.size (fun k hk=>by injection hk with hk;omega);have c0:=a6.cell 0;have c1:=a6.cell 1;simp only[Tu,Tv,Tw]at c0 c1))
 refine tK hK fun hHeld=>?_
 clear hK K;refine(tR [12])<|tL fun K hK=>?_
 (first|(refine aK rfl 99 _ _ rfl g1 #[.int .i64 x,.int .i64 y,.bool true] rfl rfl _ _ a8 (by kernel_rfl) rfl (by simp[TC]) ?_;intro wS bB a7;have a8:=bB;have bA:=bA.grown a7 (by simp;omega);have a6:=a6.grown a7 (by simp;omega);have B4:=B4.grown a7 B4.size (fun k hk=>by injection hk with hk;omega);have c0:=a6.cell 0;have c1:=a6.cell 1;simp only[Tu,Tv,Tw]at c0 c1)|(refine aK rfl 99 _ _ rfl g2 #[.int .i64 (x+1),.int .i64 y,.bool true] rfl rfl _ _ bA (by kernel_rfl) rfl (by simp[TC]) ?_;intro wS bB a7;have bA:=bB;have a8:=a8.grown a7 (by simp;omega);have a6:=a6.grown a7 (by simp;omega);have B4:=B4.grown a7 B4.size (fun k hk=>by injection hk with hk;omega);have c0:=a6.cell 0;have c1:=a6.cell 1;simp only[Tu,Tv,Tw]at c0 c1))
 refine tK hK fun hHeld=>?_
 clear hK K;refine tD ?_
 all_goals
   obtain⟨bD,bE,bF⟩:=a8.n3;obtain⟨bJ,bK,bL⟩:=bA.n3;go_wp2_with fail
   refine bodyPost_ret (v:= .tuple #[.agg #[.int .i64 x,.int .i64 y,.bool true],.agg #[.int .i64 (x+1),.int .i64 y,.bool true]]) (by simp[results,Tryz.results186,go_sem,bD,bE,bF,bJ,bK,bL]) rfl ⟨rfl,B4⟩
theorem Fb (x y:Int) (w:World) (h:kU (x,y)=true):Calls prog 186 #[.agg #[.int .i64 x,.int .i64 y],.bool false] w (Ret (.tuple #[.agg #[.int .i64 x,.int .i64 y,.bool false],.agg #[.int .i64 x,.int .i64 (y+1),.bool false]]) w):=by
 unfold kU at h;rw[Bool.and_eq_true,decide_eq_true_eq,decide_eq_true_eq]at h;simp only at h;obtain⟨⟨x0,x1⟩,y0,y1⟩:=h;have hA:=(Below.refl w.heap.size w).al (.cells #[.int .i64 x,.int .i64 y] 83);go_enter func186,ntmps186
 have e1:IntKind.i64.wrap (x+1)=x+1:=TB _ (by omega);have e2:IntKind.i64.wrap (y+1)=y+1:=TB _ (by omega);go_wp2_with fail
 obtain⟨W3,hW⟩:=Ti (((w.alloc (.cells #[.int .i64 x,.int .i64 y] 83)).alloc (.cells #[.int .i64 0,.int .i64 0,.bool false] 99)).alloc (.cells #[.int .i64 0,.int .i64 0,.bool false] 99));have bC:Blk W3 w.heap.size 83 #[.int .i64 x,.int .i64 y]:=by rw[hW];exact((Blk.aX w _ _).alloc _).alloc _
 have b1:Blk W3 (w.heap.size+1) 99 #[.int .i64 0,.int .i64 0,.bool false]:=by rw[hW];exact(Blk.gI _ _ _ _ (by simp)).alloc _
 have b2:Blk W3 (w.heap.size+1+1) 99 #[.int .i64 0,.int .i64 0,.bool false]:=by rw[hW];exact Blk.gI _ _ _ _ (by simp)
 have B3:Below w.heap.size w W3:=by rw[hW];exact(hA.al _).al _
 rw[<-hW];obtain⟨g0,hg0⟩:=Ti w.heap.size;obtain⟨g1,hg1⟩:=Ti (w.heap.size+1);obtain⟨g2,hg2⟩:=Ti (w.heap.size+1+1);rw[<-hg2]at b2⊢;rw[<-hg1]at b1⊢;rw[<-hg0]at bC⊢;have bM:g0≠g1:=(by omega);have bN:g0≠g2:=(by omega);have bO:g1≠g2:=(by omega);have bP:w.heap.size<=g1:=(by omega);have hl2:w.heap.size<=g2:=(by omega);clear hW hg0 hg1 hg2 hA;have c0:=bC.cell 0;have c1:=bC.cell 1;simp only[Tu,Tv,Tw]at c0 c1;have B4:Below w.heap.size w W3.drew:=B3.drew;have a8:Blk W3.drew g1 99 #[.int .i64 0,.int .i64 0,.bool false]:=b1;have bA:Blk W3.drew g2 99 #[.int .i64 0,.int .i64 0,.bool false]:=b2;have a6:Blk W3.drew g0 83 #[.int .i64 x,.int .i64 y]:=bC;clear b1 b2 bC B3;refine rB (fun w'=>w'.cell? ⟨g0,0,none⟩=some (.int .i64 x)/\w'.cell? ⟨g0,1,none⟩=some (.int .i64 y)) fun hHeld=>(tW 0)<|(tW 1)<|(tW 2)<|(tW 3)<|(tW 4)<|(tW 5)<|(tW 6)<|(tW 7)<|(tW 8)<|(tW 9)<|(tW 10)<|(tR [11])<|tL fun K hK=>?_
 (first|(refine aK rfl 99 _ _ rfl g1 #[.int .i64 x,.int .i64 y,.bool false] rfl rfl _ _ a8 (by kernel_rfl) rfl (by simp[TC]) ?_;intro wS bB a7;have a8:=bB;have bA:=bA.grown a7 (by simp;omega);have a6:=a6.grown a7 (by simp;omega);have B4:=B4.grown a7 B4.size (fun k hk=>by injection hk with hk;omega);have c0:=a6.cell 0;have c1:=a6.cell 1;simp only[Tu,Tv,Tw]at c0 c1)|(refine aK rfl 99 _ _ rfl g2 #[.int .i64 x,.int .i64 (y+1),.bool false] rfl rfl _ _ bA (by kernel_rfl) rfl (by simp[TC]) ?_;intro wS bB a7;have bA:=bB;have a8:=a8.grown a7 (by simp;omega);have a6:=a6.grown a7 (by simp;omega);have B4:=B4.grown a7 B4.size (fun k hk=>by injection hk with hk;omega);have c0:=a6.cell 0;have c1:=a6.cell 1;simp only[Tu,Tv,Tw]at c0 c1))
 refine tK hK fun hHeld=>?_
 clear hK K;refine(tR [12])<|tL fun K hK=>?_
 (first|(refine aK rfl 99 _ _ rfl g1 #[.int .i64 x,.int .i64 y,.bool false] rfl rfl _ _ a8 (by kernel_rfl) rfl (by simp[TC]) ?_;intro wS bB a7;have a8:=bB;have bA:=bA.grown a7 (by simp;omega);have a6:=a6.grown a7 (by simp;omega);have B4:=B4.grown a7 B4.size (fun k hk=>by injection hk with hk;omega);have c0:=a6.cell 0;have c1:=a6.cell 1;simp only[Tu,Tv,Tw]at c0 c1)|(refine aK rfl 99 _ _ rfl g2 #[.int .i64 x,.int .i64 (y+1),.bool false] rfl rfl _ _ bA (by kernel_rfl) rfl (by simp[TC]) ?_;intro wS bB a7;have bA:=bB;have a8:=a8.grown a7 (by simp;omega);have a6:=a6.grown a7 (by simp;omega);have B4:=B4.grown a7 B4.size (fun k hk=>by injection hk with hk;omega);have c0:=a6.cell 0;have c1:=a6.cell 1;simp only[Tu,Tv,Tw]at c0 c1))
 refine tK hK fun hHeld=>?_
 clear hK K;refine tD ?_
 all_goals
   obtain⟨bD,bE,bF⟩:=a8.n3;obtain⟨bJ,bK,bL⟩:=bA.n3;go_wp2_with fail
   refine bodyPost_ret (v:= .tuple #[.agg #[.int .i64 x,.int .i64 y,.bool false],.agg #[.int .i64 x,.int .i64 (y+1),.bool false]]) (by simp[results,Tryz.results186,go_sem,bD,bE,bF,bJ,bK,bL]) rfl ⟨rfl,B4⟩
def FE (d:Dm):List Dm->Nat->Int
  |[],_=> -1
  |e::r,k=>if e=d then(k:Int)else FE d r (k+1)
theorem xK (d e:Dm) (r:List Dm) (k:Nat):FE d (e::r) k=if e=d then(k:Int)else FE d r (k+1):=rfl
theorem Fe (d:Dm):∀(l:List Dm) (k:Nat),(l.contains d=true->0<=FE d l k)/\(l.contains d=false->FE d l k= -1)
  |[],k=>by simp[FE]
  | e :: r, k => by
   have:=Fe d r (k+1);unfold FE;by_cases h:e=d
   . subst h;simp
   . rw[if_neg h,List.contains_cons,show(d==e)=false by rw[beq_eq_false_iff_ne];exact fun q=>h q.symm,Bool.false_or];exact this
theorem J9 (v:Value) (l:List Dm) (x y:Int) (d:Bool) (w:World) (h:Rd 3 aQ w v l):Calls prog 185 #[v,.agg #[.int .i64 x,.int .i64 y,.bool d]] w (Ret (.int .i64 (FE (x,y,d) l 0)) w):=by
 obtain⟨A,c,rfl,hc,hm⟩:=h.form;have hA:=((Below.refl w.heap.size w).al (.cells #[.int .i64 x,.int .i64 y,.bool d] 99));have hx:=Blk.aX w 99 #[.int .i64 x,.int .i64 y,.bool d];obtain⟨R,hR⟩:=Ti (FE (x,y,d) l 0);rw[<-hR];have HR:=Tk hR;clear hR;go_enter Tryz.func185,Tryz.ntmps185
 go_wp2;go_loopw [5] (fun s9 wr=>∃k:Nat,k<=l.length/\s9= .int .i64 k/\Hid (FE (x,y,d) (l.drop k) k=R)/\Below (w.alloc (.cells #[.int .i64 x,.int .i64 y,.bool d] 99)).heap.size (w.alloc (.cells #[.int .i64 x,.int .i64 y,.bool d] 99)) wr) (fun i _=>l.length-(intOf i).toNat)
 case atStart=>exact⟨0,Tx _,rfl,Tk HR.out.symm,Below.refl _ _⟩
 case round=>
  obtain⟨k,hk,rfl,Hg,a6⟩:=hrel;have z:=hx.bl a6;obtain⟨bA,bB,bC⟩:=z.n3;have bD:=z.lt;by_cases hlt:k<l.length
  . obtain⟨b,off,rfl,hb,q1,q2,q3⟩:=((h.Tj hA).Tj a6).kE hlt;have a8:(k:Int)<(l.length:Int):=(by omega);have hg:=Hg.out;rw[Tn hlt]at hg;obtain⟨e,he⟩:=Ti (l[k]);rw[<-he]at q1 q2 q3 hg;obtain⟨ex,ey,ed⟩:=e;simp only at q1 q2 q3;have a7:=Tk hg;clear hg he;by_cases h1:x=ex
    . obtain rfl:x=ex:=h1;by_cases h2:y=ey
      . obtain rfl:y=ey:=h2;by_cases h3:d=ed
        . obtain rfl:d=ed:=h3;have HG:=Tk (show(k:Int)=R by rw[<-a7.out,xK,if_pos rfl]);go_wp2_with fail
          go_quiet (fail)
          go_wp2;go_ret;exact⟨FQ HG.out,hA.tr (below_drewN a6 _)⟩
        . have bE : ¬ ed = d := fun q => h3 q.symm
          have HG:=Tk (show FE (x,y,d) (l.drop (k+1)) (k+1)=R by rw[<-a7.out,xK,if_neg (by simp[*])]);go_wp2_with fail
          go_quiet (fail)
          go_wp2;go_roundw
          case rel=>exact⟨k+1,by omega,by go_num,HG,below_drewN a6 _⟩
          case measure=>simp[intOf];omega
      . have bF : ¬ ey = y := fun q => h2 q.symm
        have HG:=Tk (show FE (x,y,d) (l.drop (k+1)) (k+1)=R by rw[<-a7.out,xK,if_neg (by simp[*])]);go_wp2_with fail
        go_quiet (fail)
        go_wp2;go_roundw
        case rel=>exact⟨k+1,by omega,by go_num,HG,below_drewN a6 _⟩
        case measure=>simp[intOf];omega
    . have bJ : ¬ ex = x := fun q => h1 q.symm
      have HG:=Tk (show FE (x,y,d) (l.drop (k+1)) (k+1)=R by rw[<-a7.out,xK,if_neg (by simp[*])]);go_wp2_with fail
      go_quiet (fail)
      go_wp2;go_roundw
      case rel=>exact⟨k+1,by omega,by go_num,HG,below_drewN a6 _⟩
      case measure=>simp[intOf];omega
  . obtain rfl : k = l.length := by omega
    have hg:=Hg.out;rw[Tt (Ty _)]at hg;have hg2:(-1:Int)=R:=hg;have HG:=Tk hg2;clear hg hg2;go_wp2;go_ret;exact⟨FQ HG.out,hA.tr a6⟩
theorem rH (v:Value) (l:List Dm) (x y:Int) (d:Bool) (w:World) (h:Rd 3 aQ w v l) (hc:l.contains (x,y,d)=true):∃r:Int,0<=r/\Calls prog 185 #[v,.agg #[.int .i64 x,.int .i64 y,.bool d]] w (Ret (.int .i64 r) w):=
 ⟨_,(Fe (x,y,d) l 0).1 hc,J9 v l x y d w h⟩
theorem yB (v:Value) (l:List Dm) (x y:Int) (d:Bool) (w:World) (h:Rd 3 aQ w v l) (hc:l.contains (x,y,d)=false):Calls prog 185 #[v,.agg #[.int .i64 x,.int .i64 y,.bool d]] w (Ret (.int .i64 (-1)) w):=by
 have:=J9 v l x y d w h;rw[(Fe (x,y,d) l 0).2 hc]at this;exact this
theorem Gj (v:Value) (l:List Dm) (x y:Int) (w:World) (h:Rd 3 aQ w v l):Calls prog 133 #[v,.agg #[.int .i64 x,.int .i64 y]] w (Ret (.int .i64 (kindOf l (x,y):Nat)) w):=by
 obtain⟨A,c,rfl,hc,hm⟩:=h.form;have hA:=(Below.refl w.heap.size w).al (.cells #[.int .i64 x,.int .i64 y] 83);have bU:=Blk.aX w 83 #[.int .i64 x,.int .i64 y];have bK:=J7 x y;rcases hx:inB x 0 6 with _|_
 . have e : kindOf l (x, y) = 0 := wZ (by rw [bK, hx]; rfl);rw[e];have Hx:=Tk hx;clear hx bK e;go_enter TE,TF
   go_wp2_with fail
   refine(iY _ _ _ _).mono ?_;rintro e w1 ⟨rfl,rfl⟩;rw[Hx.out];go_wp2;go_ret;exact⟨rfl,hA⟩
 . rcases hy:inB y 0 6 with _|_
   . have e : kindOf l (x, y) = 0 := wZ (by rw [bK, hx, hy]; rfl);rw[e];have Hx:=Tk hx;have Hy:=Tk hy;clear hx hy bK e;go_enter TE,TF
     go_wp2_with fail
     refine(iY _ _ _ _).mono ?_;rintro e w1 ⟨rfl,rfl⟩;rw[Hx.out];go_wp2_with fail
     refine(iY _ _ _ _).mono ?_;rintro e w2 ⟨rfl,rfl⟩;rw[Hy.out];go_wp2;go_ret;exact⟨rfl,hA⟩
   . have bF : kU (x, y) = true := by rw [bK, hx, hy]; rfl
     have hk:kindOf l (x,y)=if l.contains (x,y,false)&&l.contains (x,y+1,false)then 1 else if l.contains (x,y,true)&&l.contains (x+1,y,true)then 2 else 0:=by
      unfold kindOf fK qW vG;rw[bF,if_pos rfl]
     obtain⟨R,hR⟩:=Ti (kindOf l (x,y));rw[<-hR]at hk⊢;obtain⟨a1,ha1⟩:=Ti (l.contains (x,y,false));obtain⟨a2,ha2⟩:=Ti (l.contains (x,y+1,false));obtain⟨d1,bP⟩:=Ti (l.contains (x,y,true));obtain⟨d2,bR⟩:=Ti (l.contains (x+1,y,true));rw[<-ha1,<-ha2,<-bP,<-bR]at hk;have Hx:=Tk hx;have Hy:=Tk hy;have bL:=Tk bF;have bX:=Tk ha1.symm;have bY:=Tk ha2.symm;have b5:=Tk bP.symm;have b6:=Tk bR.symm;have Hk:=Tk hk;clear hx hy bK bF ha1 ha2 bP bR hR hk;go_enter TE,TF
     go_wp2_with fail
     refine(iY _ _ _ _).mono ?_;rintro e w1 ⟨rfl,rfl⟩;rw[Hx.out];go_wp2_with fail
     refine(iY _ _ _ _).mono ?_;rintro e w2 ⟨rfl,rfl⟩;rw[Hy.out];go_wp2;go_loopw [5] (fun s5 wr=>∃kd:Nat,1<=kd/\kd<=3/\s5= .int .i64 kd/\Hid ((2<=kd->(a1&&a2)=false)/\(3<=kd->(d1&&d2)=false))/\Blk wr w.heap.size 83 #[.int .i64 x,.int .i64 y]/\Below w.heap.size w wr) (fun i _=>3-(intOf i).toNat)
     case atStart=>exact⟨1,by omega,by omega,rfl,Tk ⟨fun q=>by omega,fun q=>by omega⟩,bU,hA⟩
     case round=>
      obtain⟨kd,b9,hk3,rfl,Hg,hC,bJ⟩:=hrel;clear bU hA;obtain⟨bM,bN⟩:=hC.n2;have bO:kd=1∨kd=2∨kd=3:=(by omega);rcases bO with rfl|rfl|rfl
      . rw[show((1:Nat):Int)=1 from rfl];go_wp2_with fail
        refine(Fb x y _ bL.out).mono ?_;rintro e w3 ⟨rfl,hb3⟩;have B3:=((bJ.tr hb3).al (.cells #[.int .i64 x,.int .i64 y,.bool false] 99)).al (.cells #[.int .i64 x,.int .i64 (y+1),.bool false] 99);have bC:=((hC.bl hb3).alloc (.cells #[.int .i64 x,.int .i64 y,.bool false] 99)).alloc (.cells #[.int .i64 x,.int .i64 (y+1),.bool false] 99);have bd:=(Blk.aX w3 99 #[.int .i64 x,.int .i64 y,.bool false]).alloc (.cells #[.int .i64 x,.int .i64 (y+1),.bool false] 99);have be:=Blk.gI (w3.alloc (.cells #[.int .i64 x,.int .i64 y,.bool false] 99)) 99 #[.int .i64 x,.int .i64 (y+1),.bool false] (w3.heap.size+1) (by simp);clear bM bN;obtain⟨a7,a8,bA⟩:=bd.n3;obtain⟨bB,bD,bE⟩:=be.n3;rcases a1 with _|_
        . skip;go_wp2_with fail
          refine(yB _ l x y false _ (h.Tj B3) bX.out).mono ?_;rintro e w4 ⟨rfl,hb4⟩;have B4:=B3.tr hb4;clear a7 a8 bA bB bD bE;have bd:=bd.bl hb4;have be:=be.bl hb4;have bC:=bC.bl hb4;obtain⟨a7,a8,bA⟩:=bd.n3;obtain⟨bB,bD,bE⟩:=be.n3;go_wp2;go_roundw
          case rel=>exact⟨2,by omega,by omega,by go_num,Tk ⟨fun _=>rfl,fun q=>by omega⟩,bC,B4⟩
          case measure=>simp[intOf]
        . skip;obtain⟨r4,hr4,c4⟩:=rH _ l x y false _ (h.Tj B3) bX.out;go_wp2_with fail
          refine(c4).mono ?_;rintro e w4 ⟨rfl,hb4⟩;have B4:=B3.tr hb4;clear a7 a8 bA bB bD bE c4;have bd:=bd.bl hb4;have be:=be.bl hb4;have bC:=bC.bl hb4;obtain⟨a7,a8,bA⟩:=bd.n3;obtain⟨bB,bD,bE⟩:=be.n3;rcases a2 with _|_
          . skip;go_wp2_with fail
            refine(yB _ l x (y+1) false _ (h.Tj B4) bY.out).mono ?_;rintro e w5 ⟨rfl,a6⟩;have B5:=B4.tr a6;clear a7 a8 bA bB bD bE;have bd:=bd.bl a6;have be:=be.bl a6;have bC:=bC.bl a6;obtain⟨a7,a8,bA⟩:=bd.n3;obtain⟨bB,bD,bE⟩:=be.n3;go_wp2;go_roundw
            case rel=>exact⟨2,by omega,by omega,by go_num,Tk ⟨fun _=>rfl,fun q=>by omega⟩,bC,B5⟩
            case measure=>simp[intOf]
          . skip;obtain⟨r5,b8,c5⟩:=rH _ l x (y+1) false _ (h.Tj B4) bY.out;go_wp2_with fail
            refine(c5).mono ?_;rintro e w5 ⟨rfl,a6⟩;have B5:=B4.tr a6;clear a7 a8 bA bB bD bE c5;have bd:=bd.bl a6;have be:=be.bl a6;have bC:=bC.bl a6;obtain⟨a7,a8,bA⟩:=bd.n3;obtain⟨bB,bD,bE⟩:=be.n3;have HR:Hid ((1:Int)=((R:Nat):Int)):=Tk (by rw[Hk.out];rfl);go_wp2;go_ret;exact⟨FQ HR.out,B5⟩
      . rw[show((2:Nat):Int)=2 from rfl];have b7:=Hg.out.1 (by omega);have bS:=Tk b7;clear b7;go_wp2_with fail
        refine(Fa x y _ bL.out).mono ?_;rintro e w3 ⟨rfl,hb3⟩;have B3:=((bJ.tr hb3).al (.cells #[.int .i64 x,.int .i64 y,.bool true] 99)).al (.cells #[.int .i64 (x+1),.int .i64 y,.bool true] 99);have bC:=((hC.bl hb3).alloc (.cells #[.int .i64 x,.int .i64 y,.bool true] 99)).alloc (.cells #[.int .i64 (x+1),.int .i64 y,.bool true] 99);have bd:=(Blk.aX w3 99 #[.int .i64 x,.int .i64 y,.bool true]).alloc (.cells #[.int .i64 (x+1),.int .i64 y,.bool true] 99);have be:=Blk.gI (w3.alloc (.cells #[.int .i64 x,.int .i64 y,.bool true] 99)) 99 #[.int .i64 (x+1),.int .i64 y,.bool true] (w3.heap.size+1) (by simp);clear bM bN;obtain⟨a7,a8,bA⟩:=bd.n3;obtain⟨bB,bD,bE⟩:=be.n3;rcases d1 with _|_
        . skip;go_wp2_with fail
          refine(yB _ l x y true _ (h.Tj B3) b5.out).mono ?_;rintro e w4 ⟨rfl,hb4⟩;have B4:=B3.tr hb4;clear a7 a8 bA bB bD bE;have bd:=bd.bl hb4;have be:=be.bl hb4;have bC:=bC.bl hb4;obtain⟨a7,a8,bA⟩:=bd.n3;obtain⟨bB,bD,bE⟩:=be.n3;go_wp2;go_roundw
          case rel=>exact⟨3,by omega,by omega,by go_num,Tk ⟨fun _=>bS.out,fun q=>rfl⟩,bC,B4⟩
          case measure=>simp[intOf]
        . skip;obtain⟨r4,hr4,c4⟩:=rH _ l x y true _ (h.Tj B3) b5.out;go_wp2_with fail
          refine(c4).mono ?_;rintro e w4 ⟨rfl,hb4⟩;have B4:=B3.tr hb4;clear a7 a8 bA bB bD bE c4;have bd:=bd.bl hb4;have be:=be.bl hb4;have bC:=bC.bl hb4;obtain⟨a7,a8,bA⟩:=bd.n3;obtain⟨bB,bD,bE⟩:=be.n3;rcases d2 with _|_
          . skip;go_wp2_with fail
            refine(yB _ l (x+1) y true _ (h.Tj B4) b6.out).mono ?_;rintro e w5 ⟨rfl,a6⟩;have B5:=B4.tr a6;clear a7 a8 bA bB bD bE;have bd:=bd.bl a6;have be:=be.bl a6;have bC:=bC.bl a6;obtain⟨a7,a8,bA⟩:=bd.n3;obtain⟨bB,bD,bE⟩:=be.n3;go_wp2;go_roundw
            case rel=>exact⟨3,by omega,by omega,by go_num,Tk ⟨fun _=>bS.out,fun q=>rfl⟩,bC,B5⟩
            case measure=>simp[intOf]
          . skip;obtain⟨r5,b8,c5⟩:=rH _ l (x+1) y true _ (h.Tj B4) b6.out;go_wp2_with fail
            refine(c5).mono ?_;rintro e w5 ⟨rfl,a6⟩;have B5:=B4.tr a6;clear a7 a8 bA bB bD bE c5;have bd:=bd.bl a6;have be:=be.bl a6;have bC:=bC.bl a6;obtain⟨a7,a8,bA⟩:=bd.n3;obtain⟨bB,bD,bE⟩:=be.n3;have HR:Hid ((2:Int)=((R:Nat):Int)):=Tk (by rw[Hk.out,bS.out];rfl);go_wp2;go_ret;exact⟨FQ HR.out,B5⟩
      . rw[show((3:Nat):Int)=3 from rfl];have HR:Hid ((0:Int)=((R:Nat):Int)):=Tk (by rw[Hk.out,Hg.out.1 (by omega),Hg.out.2 (by omega)];rfl);go_wp2;go_ret;exact⟨FQ HR.out,bJ⟩
theorem Ff (v:Value) (l:List Dm) (x y:Int) (n:Nat) (w:World) (h:Rd 3 aQ w v l) (hn:kindOf l (x,y)=n):Calls prog 133 #[v,.agg #[.int .i64 x,.int .i64 y]] w (Ret (.int .i64 n) w):=by
 have:=Gj v l x y w h;rw[hn]at this;exact this
def Mw (v:Value) (l:List Dm) (g h B:Nat) (w:World):Prop:=aD 99 3 aV B w v l/\v.ownBlock≠some g/\v.ownBlock≠some h
theorem Mw.drewN {v:Value} {l:List Dm} {g h B:Nat} {w:World} (o:Mw v l g h B w) (n:Nat):Mw v l g h B (w.drewN n):=⟨o.1.drewN n,o.2.1,o.2.2⟩
theorem Mw.app {v:Value} {l:List Dm} {g h B:Nat} {w w':World} {cells:Obj} {v':Value} {l':List Dm} {t1 t2:TypeId} {c1 c2:Array Value} (o:Mw v l g h B w) (o':aD 99 3 aV B w' v' l') (a6:(w.alloc cells).grownBy w' v.ownBlock)
    (hd:v'.ownBlock=v.ownBlock∨v'.ownBlock=some (w.heap.size+1)) (b1:Blk w g t1 c1) (b2:Blk w h t2 c2):Mw v' l' g h B w':=by
 refine⟨o',?_,?_⟩
 . rcases hd with e|e
   . rw[e];exact o.2.1
   . rw[e];intro q;injection q with q;have:=b1.lt;omega
 . rcases hd with e|e
   . rw[e];exact o.2.2
   . rw[e];intro q;injection q with q;have:=b2.lt;omega
set_option maxHeartbeats 8000000 in
theorem rW (v:Value) (l:List Dm) (x y:Int) (w:World) (h:Rd 3 aQ w v l) (hl:Small l.length):Calls prog 169 #[v,.agg #[.int .i64 x,.int .i64 y]] w (fZ 99 3 aV (fE l (x,y)).1 (fE l (x,y)).2 w):=by
 obtain⟨A,c,rfl,hc,hm⟩:=h.form;have hA:=(Below.refl w.heap.size w).al (.cells #[.int .i64 x,.int .i64 y] 83);have bC:=Blk.aX w 83 #[.int .i64 x,.int .i64 y];by_cases hk:kindOf l (x,y)=0
 . have e : fE l (x, y) = (l, false) := by unfold fE; rw [if_pos hk]
   rw[e];have Hk:=Tk hk;clear hk e;have eK:(0+l.length)*24<=140737488355328:=by unfold Small at hl;omega
   have hsm:0+l.length<=maxLen:=by have:=hl.max;omega
   have H8:=Tk eK;have HM:=Tk hsm;clear eK hsm;go_enter TG,TH
   go_wp2_with fail
   refine(Ff _ l x y 0 _ (h.Tj hA) Hk.out).mono ?_;rintro e w1 ⟨rfl,hb1⟩;have B1:=hA.tr hb1;have h1:=(h.Tj B1).Tj ((Below.refl _ _).al (.cells #[] 99));rw[show((0:Nat):Int)=0 from rfl];go_wp2_with (at_builtin;go_must (refine dN (enc:=aV) aJ aC aL (B:=w1.heap.size) (by simp) (fF w1) h1 H8.out HM.out rfl _ _ rfl rfl rfl ?_);intro v2 w2 cL hb2 hv2;obtain⟨A2,c2,rfl⟩:=hv2;simp only[Tp,Tq,TA]at cL)
   go_wp2;go_ret2
   exact⟨A2,c2,rfl,cL.mono B1.size,B1.tr (((Below.refl _ _).al _).trans hb2)⟩
 . have e : fE l (x, y) = (aU l (x, y), true) := by unfold fE; rw [if_neg hk]
   rw[e];have bP:=Tk (J8 hk);clear e;have bU:kindOf l (x,y)=1∨kindOf l (x,y)=2:=by have:=F9 l (x,y);omega
   clear hk;rcases bU with cM|cM
   . skip;have bU:kindOf l (x,y)=1:=cM;have cN:=Tk bU;clear bU cM;go_enter TG,TH
     go_wp2_with fail
     refine(Ff _ l x y 1 _ (h.Tj hA) cN.out).mono ?_;rintro e w1 ⟨rfl,hb1⟩;have B1:=hA.tr hb1;have bX:=bC.bl hb1;obtain⟨bB,bD⟩:=bX.n2;go_wp2_with fail
     refine(Fb x y _ bP.out).mono ?_;rintro e w3 ⟨rfl,hb3⟩;have B3:=((B1.tr hb3).al (.cells #[.int .i64 x,.int .i64 y,.bool false] 99)).al (.cells #[.int .i64 x,.int .i64 (y+1),.bool false] 99);have cP:=((bX.bl hb3).alloc (.cells #[.int .i64 x,.int .i64 y,.bool false] 99)).alloc (.cells #[.int .i64 x,.int .i64 (y+1),.bool false] 99);have bd:=(Blk.aX w3 99 #[.int .i64 x,.int .i64 y,.bool false]).alloc (.cells #[.int .i64 x,.int .i64 (y+1),.bool false] 99);have be:=Blk.gI (w3.alloc (.cells #[.int .i64 x,.int .i64 y,.bool false] 99)) 99 #[.int .i64 x,.int .i64 (y+1),.bool false] (w3.heap.size+1) (by simp);clear bB bD bX;obtain⟨bB,bD⟩:=cP.n2;go_wp2_with fail
     refine(Fa x y _ bP.out).mono ?_;rintro e w4 ⟨rfl,hb4⟩;have B4:=((B3.tr hb4).al (.cells #[.int .i64 x,.int .i64 y,.bool true] 99)).al (.cells #[.int .i64 (x+1),.int .i64 y,.bool true] 99);have bR:=((bd.bl hb4).alloc (.cells #[.int .i64 x,.int .i64 y,.bool true] 99)).alloc (.cells #[.int .i64 (x+1),.int .i64 y,.bool true] 99);have bS:=((be.bl hb4).alloc (.cells #[.int .i64 x,.int .i64 y,.bool true] 99)).alloc (.cells #[.int .i64 (x+1),.int .i64 y,.bool true] 99);have bu:=(Blk.aX w4 99 #[.int .i64 x,.int .i64 y,.bool true]).alloc (.cells #[.int .i64 (x+1),.int .i64 y,.bool true] 99);have bv:=Blk.gI (w4.alloc (.cells #[.int .i64 x,.int .i64 y,.bool true] 99)) 99 #[.int .i64 (x+1),.int .i64 y,.bool true] (w4.heap.size+1) (by simp);clear bB bD cP bd be;obtain⟨bY,b5,b6⟩:=bu.n3;obtain⟨cA,cB,cC⟩:=bv.n3;go_wp2_with fail
     obtain⟨W5,cD⟩:=Ti ((w4.alloc (.cells #[.int .i64 x,.int .i64 y,.bool true] 99)).alloc (.cells #[.int .i64 (x+1),.int .i64 y,.bool true] 99));have hs5:W5.heap.size=w4.heap.size+1+1:=by rw[cD];simp
     rw[<-cD]at B4 bR bS⊢;rw[<-hs5];obtain⟨g8,cQ⟩:=Ti (w3.heap.size+1);obtain⟨g7,cR⟩:=Ti w3.heap.size;have cV:w.heap.size<=g7:=by have:=(B1.tr hb3).size;omega
     have cW:w.heap.size<=g8:=(by omega);rw[<-cQ]at bS⊢;rw[<-cR]at bR⊢;obtain⟨gx,hgx⟩:∃n:Int,n=x:=⟨_,rfl⟩;obtain⟨gy,cE⟩:∃n:Int,n=y:=⟨_,rfl⟩;obtain⟨gb,hgb⟩:∃n:Bool,n=false:=⟨_,rfl⟩;obtain⟨kx,cF⟩:∃n:Int,n=x:=⟨_,rfl⟩;obtain⟨ky,cG⟩:∃n:Int,n=(y+1):=⟨_,rfl⟩;obtain⟨kb,hkb⟩:∃n:Bool,n=false:=⟨_,rfl⟩;have b7:Blk W5 g7 99 #[.int .i64 gx,.int .i64 gy,.bool gb]:=by rw[hgx,cE,hgb];exact bR
     have b8:Blk W5 g8 99 #[.int .i64 kx,.int .i64 ky,.bool kb]:=by rw[cF,cG,hkb];exact bS
     have cS:Hid (nY (kindOf l (x,y)) (x,y)=((gx,gy,gb),(kx,ky,kb))/\qM (kindOf l (x,y)) (x,y)=((x,y,true),((x+1),y,true))):=Tk (by rw[cN.out,hgx,cE,hgb,cF,cG,hkb];exact⟨rfl,rfl⟩);clear hgx cE hgb cF cG hkb bR bS bu bv cD hs5 cR cQ bY b5 b6 cA cB cC;have bK:aD 99 3 aV w.heap.size (W5.alloc (.cells #[.int .i64 x,.int .i64 y,.bool true,.int .i64 (x+1),.int .i64 y,.bool true] 99)) (.slice (some ⟨W5.heap.size,0,none⟩) 2 2) [((x,y,true):Dm),((x+1),y,true)]:=AQ _ (x,y,true) ((x+1),y,true) _ B4.size;have bL:TD (.slice (some ⟨W5.heap.size,0,none⟩) 2 2)≠some g7:=by have:=b7.lt;simp[TD];omega
     have bM:TD (.slice (some ⟨W5.heap.size,0,none⟩) 2 2)≠some g8:=by have:=b8.lt;simp[TD];omega
     have cT:=b7.alloc (.cells #[.int .i64 x,.int .i64 y,.bool true,.int .i64 (x+1),.int .i64 y,.bool true] 99);have cU:=b8.alloc (.cells #[.int .i64 x,.int .i64 y,.bool true,.int .i64 (x+1),.int .i64 y,.bool true] 99);have B0:=B4.al (.cells #[.int .i64 x,.int .i64 y,.bool true,.int .i64 (x+1),.int .i64 y,.bool true] 99);go_loopw [11,12] (fun s8 cX wr=>∃(k:Nat) (out:List Dm) (A8:Option Addr) (c8:Nat),k<=l.length/\out.length<=k+2/\cX= .int .i64 k/\s8= .slice A8 out.length c8/\Hid (out++(l.drop k).filter (keepD ((gx,gy,gb),(kx,ky,kb)))=jH l ((gx,gy,gb),(kx,ky,kb)) ((x,y,true),((x+1),y,true)))/\Mw (.slice A8 out.length c8) out g7 g8 w.heap.size wr/\Blk wr g7 99 #[.int .i64 gx,.int .i64 gy,.bool gb]/\Blk wr g8 99 #[.int .i64 kx,.int .i64 ky,.bool kb]/\Below w.heap.size w wr) (fun _ i _=>l.length-(intOf i).toNat)
     case atStart=>exact⟨0,[((x,y,true):Dm),((x+1),y,true)],_,_,Tx _,by simp,rfl,rfl,Tk rfl,⟨bK,bL,bM⟩,cT,cU,B0⟩
     case round=>
      obtain⟨k,out,A8,c8,hk,eL,rfl,rfl,Hg,hown,bF,bJ,a7⟩:=hrel;clear bK cT cU B0 bL bM;by_cases hlt:k<l.length
      . have cY : (k : Int) < (l.length : Int) := by omega
        obtain⟨b,off,rfl,hb,q1,q2,q3⟩:=(h.Tj a7).kE hlt;have hg:=Hg.out;rw[Tn hlt,List.filter_cons]at hg;obtain⟨d,hd⟩:=Ti (l[k]);rw[<-hd]at q1 q2 q3 hg;obtain⟨ex,ey,ed⟩:=d;simp only at q1 q2 q3
        have QF : Hid (∀ wX : World, Below w.heap.size w wX -> b < wX.heap.size /\ wX.cell? ⟨b, off + k * 3, none⟩ = some (.int .i64 ex) /\ wX.cell? ⟨b, off + k * 3 + 1, none⟩ = some (.int .i64 ey) /\ wX.cell? ⟨b, off + k * 3 + 2, none⟩ = some (.bool ed)) := Tk (fun wX hX => by
         obtain⟨b9,dL,e9,r0,r1,r2,r3⟩:=(h.Tj hX).kE hlt;injection e9 with e9;injection e9 with dT eA _;subst dT;subst eA;rw[<-hd]at r1 r2 r3;exact⟨r0,r1,r2,r3⟩)
        obtain⟨bY,b5,b6⟩:=bF.n3;obtain⟨cA,cB,cC⟩:=bJ.n3;have H8:Hid ((out.length+1)*24<=140737488355328):=Tk (by unfold Small at hl;omega);have HM:Hid (out.length+1<=maxLen):=Tk (by unfold Small at hl;unfold maxLen;omega);clear hd;by_cases e1:((ex,ey,ed):Dm)=(gx,gy,gb)
        . rw [if_neg (by rw [e1]; simp [keepD])] at hg;have bE:=Tk hg;clear hg;simp only[Prod.mk.injEq]at e1;obtain⟨rfl,rfl,rfl⟩:=e1;go_wp2_with fail
          go_quiet (fail)
          go_wp2;go_roundw
          case rel=>exact⟨k+1,out,A8,c8,by omega,by omega,by go_num,rfl,bE,hown.drewN _,bF.drewN _,bJ.drewN _,below_drewN a7 _⟩
          case measure=>simp[intOf];omega
        . by_cases e2:((ex,ey,ed):Dm)=(kx,ky,kb)
          . rw [if_neg (by rw [e2]; simp [keepD])] at hg;have bE:=Tk hg;clear hg;simp only[Prod.mk.injEq]at e2;obtain⟨rfl,rfl,rfl⟩:=e2;rcases kC e1 with p|⟨rfl,p⟩|⟨rfl,rfl,p⟩
            . clear e1;go_wp2_with fail
              go_quiet (fail)
              go_wp2;go_roundw
              case rel=>exact⟨k+1,out,A8,c8,by omega,by omega,by go_num,rfl,bE,hown.drewN _,bF.drewN _,bJ.drewN _,below_drewN a7 _⟩
              case measure=>simp[intOf];omega
            . clear e1;go_wp2_with fail
              go_quiet (fail)
              go_wp2;go_roundw
              case rel=>exact⟨k+1,out,A8,c8,by omega,by omega,by go_num,rfl,bE,hown.drewN _,bF.drewN _,bJ.drewN _,below_drewN a7 _⟩
              case measure=>simp[intOf];omega
            . clear e1;go_wp2_with fail
              go_quiet (fail)
              go_wp2;go_roundw
              case rel=>exact⟨k+1,out,A8,c8,by omega,by omega,by go_num,rfl,bE,hown.drewN _,bF.drewN _,bJ.drewN _,below_drewN a7 _⟩
              case measure=>simp[intOf];omega
          . rw [if_pos (by simp only [keepD, decide_eq_false e1, decide_eq_false e2]; rfl), <- List.singleton_append, <- List.append_assoc] at hg;have bE:=Tk hg;clear hg;rcases kC e1 with p|⟨rfl,p⟩|⟨rfl,rfl,p⟩<;>rcases kC e2 with q|⟨rfl,q⟩|⟨rfl,rfl,q⟩
            all_goals
              clear e1 e2;go_wp2_with fail
              go_quiet (fail)
              obtain⟨wd,hwd⟩:=Ti (wr.drewN nq);have a6:=hown.drewN nq;have cH:=bF.drewN nq;have cI:=bJ.drewN nq;have a8:=below_drewN a7 nq;rw[<-hwd]at a6 cH cI a8⊢;clear hwd hb q1 q2 q3 bY b5 b6 cA cB cC;obtain⟨hb,q1,q2,q3⟩:=QF.out _ a8;go_wp2_with (at_builtin;go_must (first|(refine aF (enc:=aV) aJ aC aL a8 a6.1 ((ex,ey,ed):Dm) H8.out HM.out rfl _ _ rfl rfl rfl ?_)|(refine aF (enc:=aV) aJ aC aL a8 a6.1 ((ex,gy,ed):Dm) H8.out HM.out rfl _ _ rfl rfl rfl ?_)|(refine aF (enc:=aV) aJ aC aL a8 a6.1 ((ex,ky,ed):Dm) H8.out HM.out rfl _ _ rfl rfl rfl ?_)|(refine aF (enc:=aV) aJ aC aL a8 a6.1 ((gx,ey,ed):Dm) H8.out HM.out rfl _ _ rfl rfl rfl ?_)|(refine aF (enc:=aV) aJ aC aL a8 a6.1 ((gx,gy,ed):Dm) H8.out HM.out rfl _ _ rfl rfl rfl ?_)|(refine aF (enc:=aV) aJ aC aL a8 a6.1 ((gx,ky,ed):Dm) H8.out HM.out rfl _ _ rfl rfl rfl ?_)|(refine aF (enc:=aV) aJ aC aL a8 a6.1 ((kx,ey,ed):Dm) H8.out HM.out rfl _ _ rfl rfl rfl ?_)|(refine aF (enc:=aV) aJ aC aL a8 a6.1 ((kx,gy,ed):Dm) H8.out HM.out rfl _ _ rfl rfl rfl ?_)|(refine aF (enc:=aV) aJ aC aL a8 a6.1 ((kx,ky,ed):Dm) H8.out HM.out rfl _ _ rfl rfl rfl ?_));intro v4 w4 bN hb4 hg4 eC;obtain⟨A4,c4,rfl,eM,eN⟩:=bN.form)
              have bO:=a6.app bN hg4 eC cH cI;have eE:=(cH.alloc _).grown hg4 (fun e=>a6.2.1 e.symm);have eI:=(cI.alloc _).grown hg4 (fun e=>a6.2.2 e.symm);go_roundw
              case rel=>exact⟨k+1,_,A4,c4,by omega,by simp;omega,by go_num,by simp,bE,bO,eE,eI,hb4⟩
              case measure=>simp[intOf];omega
      . obtain rfl : k = l.length := by omega
        have hg:=Hg.out;rw[Tt (Ty _),List.filter_nil,List.append_nil]at hg;have cJ:=Tk hg;clear hg;go_wp2_with fail
        refine(Gi _ out _ (hown.1.rd aC (by decide))).mono ?_;rintro e eP ⟨eJ,c70,rfl,bA,cK⟩;go_wp2;go_ret2
        have e9:jI out=aU l (x,y):=by rw[cJ.out];unfold aU;rw[cS.out.1,cS.out.2]
        rw[e9]at bA⊢;exact⟨eJ,c70,rfl,bA.mono a7.size,a7.tr cK⟩
   . skip;have bU:kindOf l (x,y)=2:=cM;have cN:=Tk bU;clear bU cM;go_enter TG,TH
     go_wp2_with fail
     refine(Ff _ l x y 2 _ (h.Tj hA) cN.out).mono ?_;rintro e w1 ⟨rfl,hb1⟩;have B1:=hA.tr hb1;have bX:=bC.bl hb1;obtain⟨bB,bD⟩:=bX.n2;go_wp2_with fail
     refine(Fa x y _ bP.out).mono ?_;rintro e w3 ⟨rfl,hb3⟩;have B3:=((B1.tr hb3).al (.cells #[.int .i64 x,.int .i64 y,.bool true] 99)).al (.cells #[.int .i64 (x+1),.int .i64 y,.bool true] 99);have cP:=((bX.bl hb3).alloc (.cells #[.int .i64 x,.int .i64 y,.bool true] 99)).alloc (.cells #[.int .i64 (x+1),.int .i64 y,.bool true] 99);have bd:=(Blk.aX w3 99 #[.int .i64 x,.int .i64 y,.bool true]).alloc (.cells #[.int .i64 (x+1),.int .i64 y,.bool true] 99);have be:=Blk.gI (w3.alloc (.cells #[.int .i64 x,.int .i64 y,.bool true] 99)) 99 #[.int .i64 (x+1),.int .i64 y,.bool true] (w3.heap.size+1) (by simp);clear bB bD bX;obtain⟨bB,bD⟩:=cP.n2;go_wp2_with fail
     refine(Fb x y _ bP.out).mono ?_;rintro e w4 ⟨rfl,hb4⟩;have B4:=((B3.tr hb4).al (.cells #[.int .i64 x,.int .i64 y,.bool false] 99)).al (.cells #[.int .i64 x,.int .i64 (y+1),.bool false] 99);have bR:=((bd.bl hb4).alloc (.cells #[.int .i64 x,.int .i64 y,.bool false] 99)).alloc (.cells #[.int .i64 x,.int .i64 (y+1),.bool false] 99);have bS:=((be.bl hb4).alloc (.cells #[.int .i64 x,.int .i64 y,.bool false] 99)).alloc (.cells #[.int .i64 x,.int .i64 (y+1),.bool false] 99);have bu:=(Blk.aX w4 99 #[.int .i64 x,.int .i64 y,.bool false]).alloc (.cells #[.int .i64 x,.int .i64 (y+1),.bool false] 99);have bv:=Blk.gI (w4.alloc (.cells #[.int .i64 x,.int .i64 y,.bool false] 99)) 99 #[.int .i64 x,.int .i64 (y+1),.bool false] (w4.heap.size+1) (by simp);clear bB bD cP bd be;obtain⟨bY,b5,b6⟩:=bu.n3;obtain⟨cA,cB,cC⟩:=bv.n3;go_wp2_with fail
     obtain⟨W5,cD⟩:=Ti ((w4.alloc (.cells #[.int .i64 x,.int .i64 y,.bool false] 99)).alloc (.cells #[.int .i64 x,.int .i64 (y+1),.bool false] 99));have hs5:W5.heap.size=w4.heap.size+1+1:=by rw[cD];simp
     rw[<-cD]at B4 bR bS⊢;rw[<-hs5];obtain⟨g8,cQ⟩:=Ti (w3.heap.size+1);obtain⟨g7,cR⟩:=Ti w3.heap.size;have cV:w.heap.size<=g7:=by have:=(B1.tr hb3).size;omega
     have cW:w.heap.size<=g8:=(by omega);rw[<-cQ]at bS⊢;rw[<-cR]at bR⊢;obtain⟨gx,hgx⟩:∃n:Int,n=x:=⟨_,rfl⟩;obtain⟨gy,cE⟩:∃n:Int,n=y:=⟨_,rfl⟩;obtain⟨gb,hgb⟩:∃n:Bool,n=true:=⟨_,rfl⟩;obtain⟨kx,cF⟩:∃n:Int,n=(x+1):=⟨_,rfl⟩;obtain⟨ky,cG⟩:∃n:Int,n=y:=⟨_,rfl⟩;obtain⟨kb,hkb⟩:∃n:Bool,n=true:=⟨_,rfl⟩;have b7:Blk W5 g7 99 #[.int .i64 gx,.int .i64 gy,.bool gb]:=by rw[hgx,cE,hgb];exact bR
     have b8:Blk W5 g8 99 #[.int .i64 kx,.int .i64 ky,.bool kb]:=by rw[cF,cG,hkb];exact bS
     have cS:Hid (nY (kindOf l (x,y)) (x,y)=((gx,gy,gb),(kx,ky,kb))/\qM (kindOf l (x,y)) (x,y)=((x,y,false),(x,(y+1),false))):=Tk (by rw[cN.out,hgx,cE,hgb,cF,cG,hkb];exact⟨rfl,rfl⟩);clear hgx cE hgb cF cG hkb bR bS bu bv cD hs5 cR cQ bY b5 b6 cA cB cC;have bK:aD 99 3 aV w.heap.size (W5.alloc (.cells #[.int .i64 x,.int .i64 y,.bool false,.int .i64 x,.int .i64 (y+1),.bool false] 99)) (.slice (some ⟨W5.heap.size,0,none⟩) 2 2) [((x,y,false):Dm),(x,(y+1),false)]:=AQ _ (x,y,false) (x,(y+1),false) _ B4.size;have bL:TD (.slice (some ⟨W5.heap.size,0,none⟩) 2 2)≠some g7:=by have:=b7.lt;simp[TD];omega
     have bM:TD (.slice (some ⟨W5.heap.size,0,none⟩) 2 2)≠some g8:=by have:=b8.lt;simp[TD];omega
     have cT:=b7.alloc (.cells #[.int .i64 x,.int .i64 y,.bool false,.int .i64 x,.int .i64 (y+1),.bool false] 99);have cU:=b8.alloc (.cells #[.int .i64 x,.int .i64 y,.bool false,.int .i64 x,.int .i64 (y+1),.bool false] 99);have B0:=B4.al (.cells #[.int .i64 x,.int .i64 y,.bool false,.int .i64 x,.int .i64 (y+1),.bool false] 99);go_loopw [11,12] (fun s8 cX wr=>∃(k:Nat) (out:List Dm) (A8:Option Addr) (c8:Nat),k<=l.length/\out.length<=k+2/\cX= .int .i64 k/\s8= .slice A8 out.length c8/\Hid (out++(l.drop k).filter (keepD ((gx,gy,gb),(kx,ky,kb)))=jH l ((gx,gy,gb),(kx,ky,kb)) ((x,y,false),(x,(y+1),false)))/\Mw (.slice A8 out.length c8) out g7 g8 w.heap.size wr/\Blk wr g7 99 #[.int .i64 gx,.int .i64 gy,.bool gb]/\Blk wr g8 99 #[.int .i64 kx,.int .i64 ky,.bool kb]/\Below w.heap.size w wr) (fun _ i _=>l.length-(intOf i).toNat)
     case atStart=>exact⟨0,[((x,y,false):Dm),(x,(y+1),false)],_,_,Tx _,by simp,rfl,rfl,Tk rfl,⟨bK,bL,bM⟩,cT,cU,B0⟩
     case round=>
      obtain⟨k,out,A8,c8,hk,eL,rfl,rfl,Hg,hown,bF,bJ,a7⟩:=hrel;clear bK cT cU B0 bL bM;by_cases hlt:k<l.length
      . have cY : (k : Int) < (l.length : Int) := by omega
        obtain⟨b,off,rfl,hb,q1,q2,q3⟩:=(h.Tj a7).kE hlt;have hg:=Hg.out;rw[Tn hlt,List.filter_cons]at hg;obtain⟨d,hd⟩:=Ti (l[k]);rw[<-hd]at q1 q2 q3 hg;obtain⟨ex,ey,ed⟩:=d;simp only at q1 q2 q3
        have QF : Hid (∀ wX : World, Below w.heap.size w wX -> b < wX.heap.size /\ wX.cell? ⟨b, off + k * 3, none⟩ = some (.int .i64 ex) /\ wX.cell? ⟨b, off + k * 3 + 1, none⟩ = some (.int .i64 ey) /\ wX.cell? ⟨b, off + k * 3 + 2, none⟩ = some (.bool ed)) := Tk (fun wX hX => by
         obtain⟨b9,dL,e9,r0,r1,r2,r3⟩:=(h.Tj hX).kE hlt;injection e9 with e9;injection e9 with dT eA _;subst dT;subst eA;rw[<-hd]at r1 r2 r3;exact⟨r0,r1,r2,r3⟩)
        obtain⟨bY,b5,b6⟩:=bF.n3;obtain⟨cA,cB,cC⟩:=bJ.n3;have H8:Hid ((out.length+1)*24<=140737488355328):=Tk (by unfold Small at hl;omega);have HM:Hid (out.length+1<=maxLen):=Tk (by unfold Small at hl;unfold maxLen;omega);clear hd;by_cases e1:((ex,ey,ed):Dm)=(gx,gy,gb)
        . rw [if_neg (by rw [e1]; simp [keepD])] at hg;have bE:=Tk hg;clear hg;simp only[Prod.mk.injEq]at e1;obtain⟨rfl,rfl,rfl⟩:=e1;go_wp2_with fail
          go_quiet (fail)
          go_wp2;go_roundw
          case rel=>exact⟨k+1,out,A8,c8,by omega,by omega,by go_num,rfl,bE,hown.drewN _,bF.drewN _,bJ.drewN _,below_drewN a7 _⟩
          case measure=>simp[intOf];omega
        . by_cases e2:((ex,ey,ed):Dm)=(kx,ky,kb)
          . rw [if_neg (by rw [e2]; simp [keepD])] at hg;have bE:=Tk hg;clear hg;simp only[Prod.mk.injEq]at e2;obtain⟨rfl,rfl,rfl⟩:=e2;rcases kC e1 with p|⟨rfl,p⟩|⟨rfl,rfl,p⟩
            . clear e1;go_wp2_with fail
              go_quiet (fail)
              go_wp2;go_roundw
              case rel=>exact⟨k+1,out,A8,c8,by omega,by omega,by go_num,rfl,bE,hown.drewN _,bF.drewN _,bJ.drewN _,below_drewN a7 _⟩
              case measure=>simp[intOf];omega
            . clear e1;go_wp2_with fail
              go_quiet (fail)
              go_wp2;go_roundw
              case rel=>exact⟨k+1,out,A8,c8,by omega,by omega,by go_num,rfl,bE,hown.drewN _,bF.drewN _,bJ.drewN _,below_drewN a7 _⟩
              case measure=>simp[intOf];omega
            . clear e1;go_wp2_with fail
              go_quiet (fail)
              go_wp2;go_roundw
              case rel=>exact⟨k+1,out,A8,c8,by omega,by omega,by go_num,rfl,bE,hown.drewN _,bF.drewN _,bJ.drewN _,below_drewN a7 _⟩
              case measure=>simp[intOf];omega
          . rw [if_pos (by simp only [keepD, decide_eq_false e1, decide_eq_false e2]; rfl), <- List.singleton_append, <- List.append_assoc] at hg;have bE:=Tk hg;clear hg;rcases kC e1 with p|⟨rfl,p⟩|⟨rfl,rfl,p⟩<;>rcases kC e2 with q|⟨rfl,q⟩|⟨rfl,rfl,q⟩
            all_goals
              clear e1 e2;go_wp2_with fail
              go_quiet (fail)
              obtain⟨wd,hwd⟩:=Ti (wr.drewN nq);have a6:=hown.drewN nq;have cH:=bF.drewN nq;have cI:=bJ.drewN nq;have a8:=below_drewN a7 nq;rw[<-hwd]at a6 cH cI a8⊢;clear hwd hb q1 q2 q3 bY b5 b6 cA cB cC;obtain⟨hb,q1,q2,q3⟩:=QF.out _ a8;go_wp2_with (at_builtin;go_must (first|(refine aF (enc:=aV) aJ aC aL a8 a6.1 ((ex,ey,ed):Dm) H8.out HM.out rfl _ _ rfl rfl rfl ?_)|(refine aF (enc:=aV) aJ aC aL a8 a6.1 ((ex,gy,ed):Dm) H8.out HM.out rfl _ _ rfl rfl rfl ?_)|(refine aF (enc:=aV) aJ aC aL a8 a6.1 ((ex,ky,ed):Dm) H8.out HM.out rfl _ _ rfl rfl rfl ?_)|(refine aF (enc:=aV) aJ aC aL a8 a6.1 ((gx,ey,ed):Dm) H8.out HM.out rfl _ _ rfl rfl rfl ?_)|(refine aF (enc:=aV) aJ aC aL a8 a6.1 ((gx,gy,ed):Dm) H8.out HM.out rfl _ _ rfl rfl rfl ?_)|(refine aF (enc:=aV) aJ aC aL a8 a6.1 ((gx,ky,ed):Dm) H8.out HM.out rfl _ _ rfl rfl rfl ?_)|(refine aF (enc:=aV) aJ aC aL a8 a6.1 ((kx,ey,ed):Dm) H8.out HM.out rfl _ _ rfl rfl rfl ?_)|(refine aF (enc:=aV) aJ aC aL a8 a6.1 ((kx,gy,ed):Dm) H8.out HM.out rfl _ _ rfl rfl rfl ?_)|(refine aF (enc:=aV) aJ aC aL a8 a6.1 ((kx,ky,ed):Dm) H8.out HM.out rfl _ _ rfl rfl rfl ?_));intro v4 w4 bN hb4 hg4 eC;obtain⟨A4,c4,rfl,eM,eN⟩:=bN.form)
              have bO:=a6.app bN hg4 eC cH cI;have eE:=(cH.alloc _).grown hg4 (fun e=>a6.2.1 e.symm);have eI:=(cI.alloc _).grown hg4 (fun e=>a6.2.2 e.symm);go_roundw
              case rel=>exact⟨k+1,_,A4,c4,by omega,by simp;omega,by go_num,by simp,bE,bO,eE,eI,hb4⟩
              case measure=>simp[intOf];omega
      . obtain rfl : k = l.length := by omega
        have hg:=Hg.out;rw[Tt (Ty _),List.filter_nil,List.append_nil]at hg;have cJ:=Tk hg;clear hg;go_wp2_with fail
        refine(Gi _ out _ (hown.1.rd aC (by decide))).mono ?_;rintro e eP ⟨eJ,c70,rfl,bA,cK⟩;go_wp2;go_ret2
        have e9:jI out=aU l (x,y):=by rw[cJ.out];unfold aU;rw[cS.out.1,cS.out.2]
        rw[e9]at bA⊢;exact⟨eJ,c70,rfl,bA.mono a7.size,a7.tr cK⟩
theorem Ed (v:Value) (l:List Dm) (x y:Int) (w:World) (h:Rd 3 aQ w v l) (hl:Small l.length) (hk:kindOf l (x,y)=0):Calls prog 169 #[v,.agg #[.int .i64 x,.int .i64 y]] w (fZ 99 3 aV l false w):=by
 have:=rW v l x y w h hl;unfold fE at this;rw[if_pos hk]at this;exact this
theorem rX (v:Value) (l:List Dm) (x y:Int) (w:World) (h:Rd 3 aQ w v l) (hl:Small l.length) (hk:¬kindOf l (x,y)=0):Calls prog 169 #[v,.agg #[.int .i64 x,.int .i64 y]] w (fZ 99 3 aV (aU l (x,y)) true w):=by
 have:=rW v l x y w h hl;unfold fE at this;rw[if_neg hk]at this;exact this
theorem Hw (v u:Value) (l:List Dm) (cs:List Cl) (w:World) (h:Rd 3 aQ w v l) (h2:Rd 2 bT w u cs) (hl:Small l.length):Calls prog 167 #[v,u] w (fZ 99 3 aV (dS l cs).1 (dS l cs).2 w):=by
 obtain⟨A,c,rfl,hc,hm⟩:=h.form;obtain⟨A2,c2,rfl,hc2,b5⟩:=h2.form;have bN:(0+l.length)*24<=140737488355328:=by unfold Small at hl;omega
 have hsm:0+l.length<=maxLen:=by have:=hl.max;omega
 have H8:=Tk bN;have HM:=Tk hsm;clear bN hsm;have hR:=Below.refl w.heap.size w;by_cases bK:cs.length>200
 . have e : dS l cs = (l, false) := by unfold dS; rw [if_pos bK]
   rw[e];have bS:(200:Int)<(cs.length:Int):=(by omega);have b6:(0:Int)<(cs.length:Int):=(by omega);clear e;go_enter func167,ntmps167
   have h1:=(h.Tj hR).Tj ((Below.refl _ _).al (.cells #[] 99));go_wp2_with (at_builtin;go_must (refine dN (enc:=aV) aJ aC aL (B:=w.heap.size) (by simp) (fF w) h1 H8.out HM.out rfl _ _ rfl rfl rfl ?_);intro v1 w1 a8 hb1 bL;obtain⟨A1,c1,rfl⟩:=bL;simp only[Tp,Tq,TA]at a8)
   have B1:=hR.tr (((Below.refl _ _).al (.cells #[] 99)).trans hb1);go_wp2;go_loopw [6,7] (fun s6 s7 wr=>s7= .int .i64 0/\s6= .slice A1 l.length c1/\aD 99 3 aV w.heap.size wr (.slice A1 l.length c1) l/\Below w.heap.size w wr) (fun _ _ _=>0)
   case atStart=>exact⟨rfl,rfl,a8,B1⟩
   case round=>
    obtain⟨rfl,rfl,hown,a6⟩:=hrel;clear a8 B1;obtain⟨b,off,rfl,hb,q1,q2⟩:=(h2.Tj a6).iR (k:=0) (by omega);obtain⟨d,hd⟩:=Ti (cs[0]);rw[<-hd]at q1 q2;obtain⟨cx,cy⟩:=d;simp only[Nat.zero_mul,Tz]at q1 q2;clear hd;by_cases bA:kindOf l (cx,cy)=0
    . have bC:=Tk bA;clear bA;go_wp2_with fail
      refine(Ed _ l cx cy _ (hown.rd aC (by decide)) hl bC.out).mono ?_;rintro e w2 ⟨A3,c3,rfl,bB,hb2⟩;have B2:=a6.tr hb2;have h5:=(h.Tj B2).Tj ((Below.refl _ _).al (.cells #[] 99));go_wp2_with (at_builtin;go_must (refine dN (enc:=aV) aJ aC aL (B:=w2.heap.size) (by simp) (fF w2) h5 H8.out HM.out rfl _ _ rfl rfl rfl ?_);intro v5 w5 a7 bD bE;obtain⟨A5,c5,rfl⟩:=bE;simp only[Tp,Tq,TA]at a7)
      have B5:=B2.tr (((Below.refl _ _).al (.cells #[] 99)).trans bD);go_wp2;go_ret2
      exact⟨A5,c5,rfl,a7.mono B2.size,B5⟩
    . have bC:=Tk bA;clear bA;go_wp2_with fail
      refine(rX _ l cx cy _ (hown.rd aC (by decide)) hl bC.out).mono ?_;rintro e w2 ⟨A3,c3,rfl,bB,hb2⟩;have B2:=a6.tr hb2;have h5:=(h.Tj B2).Tj ((Below.refl _ _).al (.cells #[] 99));go_wp2_with (at_builtin;go_must (refine dN (enc:=aV) aJ aC aL (B:=w2.heap.size) (by simp) (fF w2) h5 H8.out HM.out rfl _ _ rfl rfl rfl ?_);intro v5 w5 a7 bD bE;obtain⟨A5,c5,rfl⟩:=bE;simp only[Tp,Tq,TA]at a7)
      have B5:=B2.tr (((Below.refl _ _).al (.cells #[] 99)).trans bD);go_wp2;go_ret2
      exact⟨A5,c5,rfl,a7.mono B2.size,B5⟩
 . have bS : (cs.length : Int) <= 200 := by omega
   obtain⟨F1,bM⟩:=Ti ((dS l cs).1);obtain⟨F2,hF2⟩:=Ti ((dS l cs).2);rw[<-bM,<-hF2];have bO:=Tk bM;have bP:=Tk hF2;have bR:=Tk bK;clear bM hF2 bK;go_enter func167,ntmps167
   have h1:=(h.Tj hR).Tj ((Below.refl _ _).al (.cells #[] 99));go_wp2_with (at_builtin;go_must (refine dN (enc:=aV) aJ aC aL (B:=w.heap.size) (by simp) (fF w) h1 H8.out HM.out rfl _ _ rfl rfl rfl ?_);intro v1 w1 a8 hb1 bL;obtain⟨A1,c1,rfl⟩:=bL;simp only[Tp,Tq,TA]at a8)
   have B1:=hR.tr (((Below.refl _ _).al (.cells #[] 99)).trans hb1);go_wp2;go_loopw [6,7] (fun s6 bU wr=>∃(k:Nat) (m:List Dm) (A6:Option Addr) (c6:Nat),k<=cs.length/\bU= .int .i64 k/\s6= .slice A6 m.length c6/\Hid (fQ m (cs.drop k)=fQ l cs)/\Hid (Small m.length)/\aD 99 3 aV w.heap.size wr (.slice A6 m.length c6) m/\Below w.heap.size w wr) (fun _ i _=>cs.length-(intOf i).toNat)
   case atStart=>exact⟨0,l,A1,c1,Tx _,rfl,rfl,Tk rfl,Tk hl,a8,B1⟩
   case round=>
    obtain⟨k,m,A6,c6,hk,rfl,rfl,Hg,Hs,hown,a6⟩:=hrel;clear a8 hb1 B1;by_cases hlt:k<cs.length
    . have bX : (k : Int) < (cs.length : Int) := by omega
      obtain⟨b,off,rfl,hb,q1,q2⟩:=(h2.Tj a6).iR hlt;have hg:=Hg.out;rw[Tn hlt,wM]at hg;obtain⟨d,hd⟩:=Ti (cs[k]);rw[<-hd]at q1 q2 hg;obtain⟨cx,cy⟩:=d;simp only at q1 q2;clear hd;by_cases bA:kindOf m (cx,cy)=0
      . rw[if_pos bA]at hg;have bF:=zP bR.out hg.symm;have bC:=Tk bA;have bJ:=Tk bF;clear bA hg bF;go_wp2_with fail
        refine(Ed _ m cx cy _ (hown.rd aC (by decide)) Hs.out bC.out).mono ?_;rintro e w2 ⟨A3,c3,rfl,bB,hb2⟩;have B2:=a6.tr hb2;have h5:=(h.Tj B2).Tj ((Below.refl _ _).al (.cells #[] 99));go_wp2_with (at_builtin;go_must (refine dN (enc:=aV) aJ aC aL (B:=w2.heap.size) (by simp) (fF w2) h5 H8.out HM.out rfl _ _ rfl rfl rfl ?_);intro v5 w5 a7 bD bE;obtain⟨A5,c5,rfl⟩:=bE;simp only[Tp,Tq,TA]at a7)
        have B5:=B2.tr (((Below.refl _ _).al (.cells #[] 99)).trans bD);go_wp2;go_ret2
        have e1:F1=l:=(by rw[bO.out,bJ.out]);have e2:F2=false:=(by rw[bP.out,bJ.out]);rw[e1,e2];exact⟨A5,c5,rfl,a7.mono B2.size,B5⟩
      . rw[if_neg bA]at hg;have bC:=Tk bA;have bY:=Tk hg;clear bA hg;go_wp2_with fail
        refine(rX _ m cx cy _ (hown.rd aC (by decide)) Hs.out bC.out).mono ?_;rintro e w2 ⟨A3,c3,rfl,bB,hb2⟩;go_wp2;go_roundw
        case rel=>exact⟨k+1,aU m (cx,cy),A3,c3,by omega,by go_num,rfl,bY,Tk (uS _ _),bB.mono a6.size,a6.tr hb2⟩
        case measure=>simp[intOf];omega
    . obtain rfl : k = cs.length := by omega
      have hg:=Hg.out;rw[Tt (Ty _)]at hg;have bF:=zN bR.out hg.symm;have bJ:=Tk bF;clear hg bF;go_wp2;go_ret2
      have e1:F1=m:=(by rw[bO.out,bJ.out]);have e2:F2=true:=(by rw[bP.out,bJ.out]);rw[e1,e2];exact⟨A6,c6,rfl,hown,a6⟩
theorem qK (u v:Value) (l m:List Dm) (w:World) (h:Rd 3 aQ w u l) (h':Rd 3 aQ w v m):Calls prog 168 #[u,v] w (Ret (.bool (decide (l=m))) w):=by
 obtain⟨A,c,rfl,hc,hm⟩:=h.form;obtain⟨A',c',rfl,hc',bE⟩:=h'.form;by_cases hlen:l.length=m.length
 . have hne : ((l.length : Int) != (m.length : Int)) = false := by simp [hlen]
   have a8:=Tk hlen;clear hlen;go_enter func168,ntmps168
   go_wp2;go_loopw [5] (fun i wr=>∃k:Nat,k<=l.length/\i= .int .i64 k/\Hid (decide (l.drop k=m.drop k)=decide (l=m))/\Below w.heap.size w wr) (fun i _=>l.length-(intOf i).toNat)
   case atStart=>exact⟨0,Tx _,rfl,Tk rfl,Below.refl _ _⟩
   case round=>
    obtain⟨k,hk,rfl,Hg,a6⟩:=hrel;by_cases hlt:k<l.length
    . have bA : k < m.length := by have := a8.out; omega
      obtain⟨b,off,rfl,hb,q1,q2,q3⟩:=(h.Tj a6).kE hlt;obtain⟨b',bB,rfl,hb',p1,p2,p3⟩:=(h'.Tj a6).kE bA;have bC:(k:Int)<(m.length:Int):=(by omega);obtain⟨d,hd⟩:=Ti (l[k]);obtain⟨e,he⟩:=Ti (m[k]);rw[<-hd]at q1 q2 q3;rw[<-he]at p1 p2 p3;obtain⟨dx,dy,dd⟩:=d;obtain⟨ex,ey,ed⟩:=e;simp only at q1 q2 q3 p1 p2 p3;by_cases a7:((dx,dy,dd):Dm)=(ex,ey,ed)
      . have bD := LW Hg hlt bA (by rw [<- hd, <- he]; exact a7);simp only[Prod.mk.injEq]at a7;obtain⟨rfl,rfl,rfl⟩:=a7;clear hd he;go_wp2_with fail
        go_quiet (fail)
        go_wp2;go_roundw
        case rel=>exact⟨k+1,by omega,by go_num,bD,below_drewN a6 _⟩
        case measure=>simp[intOf];omega
      . have HR := Tk (LX Hg hlt bA (by rw [<- hd, <- he]; exact a7)).symm;clear hd he;rcases kC a7 with p|⟨rfl,p⟩|⟨rfl,rfl,p⟩
        all_goals
          clear a7;go_wp2_with fail
          go_quiet (fail)
          go_wp2;go_ret;exact⟨lJ HR.out,below_drewN a6 _⟩
    . go_wp2;go_ret;exact⟨lJ (Ii Hg (by omega) (by have:=a8.out;omega)).symm,a6⟩
 . have hne : ((l.length : Int) != (m.length : Int)) = true := by simp; omega
   go_enter func168,ntmps168
   go_wp2;go_ret;exact⟨lJ (by rw[eq_comm,decide_eq_false_iff_not];exact fun e=>hlen (by rw[e])),Below.refl _ _⟩
theorem lV (vr vf vn vc:Value) (rows:List Int) (f n:List Dm) (cs:List Cl) (w:World) (h1:Rd 1 aZ w vr rows) (h2:Rd 3 aQ w vf f) (h3:Rd 3 aQ w vn n) (h4:Rd 2 bT w vc cs) (hl:Small f.length):
 Calls prog 113 #[.agg #[vr,vf,vn,vc]] w (Ret (.bool (dG rows f n cs)) w):=by
 obtain⟨A1,c1,rfl,hc1,bE⟩:=h1.form;obtain⟨A2,c2,rfl,hc2,bJ⟩:=h2.form;obtain⟨A3,c3,rfl,hc3,bK⟩:=h3.form;obtain⟨A4,c4,rfl,bA,bL⟩:=h4.form;have hA:=(Below.refl w.heap.size w).al (.cells #[.slice A1 rows.length c1,.slice A2 f.length c2,.slice A3 n.length c3,.slice A4 cs.length c4] 30);have bF:=Blk.aX w 30 #[.slice A1 rows.length c1,.slice A2 f.length c2,.slice A3 n.length c3,.slice A4 cs.length c4];have g1:=h1.Tj hA;have g2:=h2.Tj hA;have g3:=h3.Tj hA;have g4:=h4.Tj hA;clear hc1 hc2 hc3 bA;rcases ht:eF rows f with _|_
 . have e : dG rows f n cs = false := by unfold dG; rw [ht]; rfl
   rw[e];have Ht:=Tk ht;clear ht e;go_enter TI,TJ
   go_wp2_with fail
   refine(wJ _ _ rows f _ g1 g2).mono ?_;rintro e w1 ⟨rfl,hb1⟩;rw[Ht.out];go_wp2;go_ret;exact⟨rfl,hA.tr hb1⟩
 . by_cases hn:cs.length<=60
   . have e : dG rows f n cs = ((dS f cs).2 && decide ((dS f cs).1 = n)) := by unfold dG; rw [ht, decide_eq_true hn]; rfl
     have bB:(cs.length:Int)<=60:=(by omega);obtain⟨M,hM⟩:=Ti ((dS f cs).1);obtain⟨b,hb⟩:=Ti ((dS f cs).2);rw[<-hM,<-hb]at e;rw[e];have Ht:=Tk ht;have HM:=Tk hM;have Hb:=Tk hb;clear ht e hM hb;go_enter TI,TJ
     go_wp2_with fail
     refine(wJ _ _ rows f _ g1 g2).mono ?_;rintro e w1 ⟨rfl,hb1⟩;rw[Ht.out];have a6:=bF.bl hb1;have z1:=a6.cell 1;have z3:=a6.cell 3;simp only[Tu,Tv,Tw]at z1 z3;go_wp2_with fail
     refine(Hw _ _ f cs _ (g2.Tj hb1) (g4.Tj hb1) hl).mono ?_;rintro e w2 ⟨Am,cm,rfl,a7,hb2⟩;rw[<-HM.out]at a7;rw[<-HM.out,<-Hb.out];have bC:=a6.bl hb2;clear z1 z3;have z2:=bC.cell 2;simp only[Tu,Tv,Tw]at z2;have B2:=(hA.tr hb1).tr hb2;cases b
     . go_wp2;go_ret;exact⟨rfl,B2⟩
     . go_wp2_with fail
       refine(qK _ _ M n _ (a7.rd aC (by decide)) ((g3.Tj hb1).Tj hb2)).mono ?_;rintro e w3 ⟨rfl,hb3⟩;obtain⟨R,hR⟩:∃R,R=decide (M=n):=⟨_,rfl⟩;rw[<-hR];have a8:(true&&decide (M=n))=R:=by rw[hR];rfl
       have bD:=Tk a8;clear hR a8;go_wp2;go_ret;exact⟨lJ bD.out.symm,B2.tr hb3⟩
   . have e : dG rows f n cs = false := by unfold dG; rw [ht, decide_eq_false hn]; rfl
     rw[e];have bB:(60:Int)<(cs.length:Int):=(by omega);have Ht:=Tk ht;clear ht e hn;go_enter TI,TJ
     go_wp2_with fail
     refine(wJ _ _ rows f _ g1 g2).mono ?_;rintro e w1 ⟨rfl,hb1⟩;rw[Ht.out];have a6:=bF.bl hb1;have z3:=a6.cell 3;simp only[Tu,Tv,Tw]at z3;go_wp2;go_ret;exact⟨rfl,hA.tr hb1⟩
end Go.Proofs.YtjijonhkofhikaaGreatDoor
