/- SortDominoes of the reference: the walk. Conditions: sizes. The pairs of dominoes over a square, the place of a domino in a list, the kind of a flip, of the reference: the walks. No conditions but sizes. FlipAt of the reference: the walk. Conditions: sizes. FlipAll, SameDominoes, FloorOk of the reference: the walks. Conditions: sizes.. Conditions, where there are any, stand in the statements. -/
import Derived.Test.YtljfoohaapckeaaGreatDoorDK6
import Derived.Test.YtljfoohaapckeaaGreatDoorDK4
open _root_.List (length_take drop_eq_getElem_cons nil_append length_nil drop_of_length_le getElem?_toArray getElem?_cons_zero getElem?_cons_succ)
open _root_.Nat (zero_le le_refl add_zero zero_add)
open _root_.Go.Value (oneCell' ownBlock)
open _root_.Go.Proofs.Tryz (prog func139 ntmps139 func85 ntmps85 func156 ntmps156 func196 ntmps196 func31 ntmps31 func152 ntmps152)
namespace Go.Proofs.YtljfoohaapckeaaGreatDoor
open Go.ChangeShapes Go.WideShapes Go.ChangeAt Go.RowKit
set_option linter.unusedVariables false
set_option linter.unusedSimpArgs false
set_option maxHeartbeats 4000000
set_option maxRecDepth 100000
theorem Fy {α:Type} {size:Nat} {R:World->List Value->α->Prop} {w:World} {A:Option Addr} {n c:Nat} {l:List α} (h:Rd size R w (.slice A n c) l):n=l.length/\n<=c:=by
 obtain⟨A0,c',e,h1,h2,h3⟩:=h;injection e with e1 e2 e3;subst e3;exact⟨e2,by omega⟩
theorem Rd.takeA {α:Type} {size:Nat} {R:World->List Value->α->Prop} {w:World} {A:Option Addr} {n c:Nat} {l:List α} (h:Rd size R w (.slice A n c) l) {j:Nat} (hj:j<=n):Rd size R w (.slice A j c) (l.take j):=by
 obtain⟨A0,c',e,h1,h2,h3⟩:=h;injection e with e1 e2 e3;subst e1 e2 e3;refine⟨_,_,by rw[length_take,Nat.min_eq_left hj],by rw[length_take];omega,by first|(rw[length_take];omega)|omega,fun hn=> ?_⟩;rw[length_take]at hn;obtain⟨b,off,rfl,hb,hc⟩:=h3 (by omega);refine⟨b,off,rfl,hb,fun i x hx=> ?_⟩;exact hc i x (by rw[List.getElem?_take]at hx;split at hx;exact hx;cases hx)
theorem fT {P:Program} {ops:Array Oper} {rest:List Oper} {o:Oper} {a:Act} {Q:Exit->Act->World->Prop} {α:Type} {t E:TypeId} {z:Value} {size bytes:Nat} (R:Row P t E z size bytes)
    {enc:α->List Value} (henc:∀x,(enc x).length=size) (h1:∀x,∀u∈enc x,u.oneCell'=true)
    {B:Nat} {w:World} (hB:B<=w.heap.size) {v:Value} {l:List α} (hown:aC E size enc B w v l) {A:Option Addr} {n c:Nat} {m:List α} (hn:m.length=n) (hm:Rd size (RE enc) w (.slice A n c) m)
    (hlen:(l.length+m.length)*bytes<=140737488355328) (hlen2:l.length+m.length<=maxLen) (hgd:o.guard=none)
    (s x:Operand) (ho:o.op= .call {callee:= .builtin .append,args:= #[s,x],argTypes:= #[t,t]})
    (hs:a.eval s=v) (hx:a.eval x= .slice A n c)
    (h:∀v' w',aC E size enc B w' v' (l++m)->Below B w w'->(∃A' c',v'= .slice A' (l.length+n) c')->wpList P ops Q rest (a.put o.dst v') w'):
    wpList P ops Q (o::rest) a w:=by
 subst hn;exact dY R henc h1 hB hown hm hlen hlen2 hgd s x ho hs hx h
theorem Bv (x y:Int) (d:Bool) (x' y':Int) (d':Bool) (r:Bool) (w:World) (hd:aH (x,y,d)=true) (hd':aH (x',y',d')=true) (hr:r=decide (aP (x,y,d)<aP (x',y',d'))):
 Calls prog 159 #[.agg #[.int .i64 x,.int .i64 y,.bool d],.agg #[.int .i64 x',.int .i64 y',.bool d']] w (Ret (.bool r) w):=by
 rw[hr];exact mI x y d x' y' d' w hd hd'
theorem Eh (v:Value) (l:List Dm) (w:World) (h:Rd 3 aU w v l):Calls prog 202 #[v] w (jA 60 3 aT (iL l) w):=by
 obtain⟨A,c,rfl,hc,hm⟩:=h.form;go_enter Tryz.func202,Tryz.ntmps202
 go_wp2;go_loopw [3,4] (fun s3 s4 wr=>∃(k:Nat) (out:List Dm) (A3:Option Addr) (c3:Nat),k<=l.length/\s4= .int .i64 k/\s3= .slice A3 out.length c3/\Hid (jO out (l.drop k)=iL l)/\Hid (Sorted out)/\aC 60 3 aT w.heap.size wr (.slice A3 out.length c3) out/\Below w.heap.size w wr) (fun _ i _=>l.length-(intOf i).toNat)
 case atStart=>exact⟨0,[],_,_,zero_le _,rfl,rfl,OA rfl,OA vP,iK w _ rfl _ (le_refl _),(Below.refl _ _).al _⟩
 case round=>
  obtain⟨k,out,A3,c3,hk,rfl,rfl,Hg,Hso,hown,hbel⟩:=hrel;have hol:=vQ Hso.out;obtain⟨wo,rfl⟩:∃wo:World,wo=wr:=⟨_,rfl⟩;by_cases hlt:k<l.length
  . obtain⟨b,off,rfl,hb,q1,q2,q3⟩:=(h.Oz hbel).jJ hlt;have hg:=Hg.out;rw[drop_eq_getElem_cons hlt,zC]at hg;obtain⟨d,hd⟩:=Oy (l[k]);rw[<-hd]at q1 q2 q3 hg;obtain⟨x,y,dn⟩:=d;simp only at q1 q2 q3;have hltI:(k:Int)<(l.length:Int):=(by omega);rcases hok:aH (x,y,dn)with _|_
    . have e : jR out (x, y, dn) = out := by unfold jR; rw [hok]; rfl
      rw[e]at hg;have Hg2:=OA hg;have Hok:=OA hok;clear hg hok hd e;go_wp2_with fail
      refine(bM x y dn _).mono ?_;rintro e w1 ⟨rfl,hb1⟩;rw[Hok.out];go_wp2;go_roundw
      case rel=>exact⟨k+1,out,A3,c3,by omega,by go_num,rfl,Hg2,Hso,hown.below hb1,hbel.tr hb1⟩
      case measure=>simp[intOf];omega
    . have hst:=wD out hok;have Hst:=OA hst;have Hg2:=OA hg;have Hok:=OA hok;have Hd:=OA hd;clear hst hg hok hd;go_wp2_with fail
      refine(bM x y dn _).mono ?_;rintro e w1 ⟨rfl,hb1⟩;rw[Hok.out]
      have QF : Hid (∀ wX : World, Below w.heap.size w wX -> b < wX.heap.size /\ wX.cell? ⟨b, off + k * 3, none⟩ = some (.int .i64 x) /\ wX.cell? ⟨b, off + k * 3 + 1, none⟩ = some (.int .i64 y) /\ wX.cell? ⟨b, off + k * 3 + 2, none⟩ = some (.bool dn)) := OA (fun wX hX => by
       obtain⟨b9,off9,e9,r0,r1,r2,r3⟩:=(h.Oz hX).jJ hlt;injection e9 with e9;injection e9 with e91 e92 _;subst e91;subst e92;rw[<-Hd.out]at r1 r2 r3;exact⟨r0,r1,r2,r3⟩)
      have own1:=hown.below hb1;have B1:=hbel.tr hb1;obtain⟨P,hP⟩:=Oy (lN (x,y,dn) out);have hPle:P<=out.length:=by rw[hP];exact EY _ _
      have hbef:∀j,(hj:j<out.length)->(aP out[j]<aP (x,y,dn)↔j<P):=fun j hj=>by rw[hP];exact Ia Hso.out hj
      rw[<-hP]at Hst;have Hbef:=OA hbef;have HP:=OA hP;clear hbef hP;go_wp2;go_loopw [5] (fun s5 wr=>∃j:Nat,j<=P/\s5= .int .i64 j/\aC 60 3 aT w.heap.size wr (.slice A3 out.length c3) out/\Below w.heap.size w wr) (fun i _=>P-(intOf i).toNat)
      case atStart=>exact⟨0,zero_le _,rfl,own1,B1⟩
      case round=>
       obtain⟨j,hj,rfl,hown2,hbel2⟩:=hrel;clear own1 B1 hown hbel q1 q2 q3 hb1 hb;obtain⟨hb,q1,q2,q3⟩:=QF.out _ hbel2;by_cases hjo:j<out.length
       . obtain⟨g,hA,hg0,hg1⟩:=hown2.split hjo;subst hA;obtain⟨e,he⟩:=Oy (out[j]);have hsl:=hown2.slot aB (by decide) hjo;rw[<-he]at hsl;have heo:aH e=true:=by rw[he];exact Hso.out.1 _ (List.getElem_mem hjo)
         have hcmp:=Hbef.out j hjo;rw[<-he]at hcmp;obtain⟨ex,ey,ed⟩:=e;have z0:=hsl 0 _ rfl;have z1:=hsl 1 _ rfl;have z2:=hsl 2 _ rfl;simp only[add_zero]at z0;have Heo:=OA heo;have He:=OA he;clear hsl heo he;have hjI:(j:Int)<(out.length:Int):=(by omega);have Bw:Below wr.heap.size wr wr.drew:=(Below.refl _ _).drew;have hz:wr.heap.size<=wr.drew.heap.size:=(by simp);by_cases hjP:j<P
         . have Hr : Hid (true = decide (aP (ex, ey, ed) < aP (x, y, dn))) := OA (by rw [decide_eq_true (hcmp.2 hjP)]);clear hcmp;go_wp2_with fail
           refine rB (fun w'=>w'.cell? ⟨g,j*3,none⟩=some (.int .i64 ex)/\w'.cell? ⟨g,j*3+1,none⟩=some (.int .i64 ey)/\w'.cell? ⟨g,j*3+2,none⟩=some (.bool ed)/\w'.cell? ⟨b,off+k*3,none⟩=some (.int .i64 x)/\w'.cell? ⟨b,off+k*3+1,none⟩=some (.int .i64 y)/\w'.cell? ⟨b,off+k*3+2,none⟩=some (.bool dn)) fun hHeld=>(tW 0)<|(tW 1)<|(tW 2)<|(tW 3)<|(tW 4)<|(tW 5)<|(tW 6)<|(tW 7)<|(tW 8)<|(tW 9)<|(tW 10)<|(tW 11)<|(tW 12)<|(tR [13])<|tL fun K hK=>?_
           go_simp
           (first|(go_at_call 159;go_must (refine(Bv ex ey ed x y dn true _ Heo.out Hok.out Hr.out).mono ?_;rintro e wX ⟨rfl,hbX⟩;obtain⟨hcX,hfX,hzX⟩:=bkn hbX wr.heap.size hz;have hz:=hzX;have Bw:=Bw.tr hbX);(try go_wp2_with fail)))
           refine tK hK fun hHeld=>?_
           clear hK K;refine(tW 14)<|tD ?_
           all_goals
             go_wp2;go_roundw
             case rel=>exact⟨j+1,by omega,by go_num,hown2.below Bw,hbel2.tr Bw⟩
             case measure=>simp[intOf];omega
         . obtain rfl : P = j := by omega
           have Hr:Hid (false=decide (aP (ex,ey,ed)<aP (x,y,dn))):=OA (by rw[decide_eq_false (mt hcmp.1 hjP)]);clear hcmp;go_wp2_with fail
           refine rB (fun w'=>w'.cell? ⟨g,P*3,none⟩=some (.int .i64 ex)/\w'.cell? ⟨g,P*3+1,none⟩=some (.int .i64 ey)/\w'.cell? ⟨g,P*3+2,none⟩=some (.bool ed)/\w'.cell? ⟨b,off+k*3,none⟩=some (.int .i64 x)/\w'.cell? ⟨b,off+k*3+1,none⟩=some (.int .i64 y)/\w'.cell? ⟨b,off+k*3+2,none⟩=some (.bool dn)) fun hHeld=>(tW 0)<|(tW 1)<|(tW 2)<|(tW 3)<|(tW 4)<|(tW 5)<|(tW 6)<|(tW 7)<|(tW 8)<|(tW 9)<|(tW 10)<|(tW 11)<|(tW 12)<|(tR [13])<|tL fun K hK=>?_
           go_simp
           (first|(go_at_call 159;go_must (refine(Bv ex ey ed x y dn false _ Heo.out Hok.out Hr.out).mono ?_;rintro e wX ⟨rfl,hbX⟩;obtain⟨hcX,hfX,hzX⟩:=bkn hbX wr.heap.size hz;have hz:=hzX;have Bw:=Bw.tr hbX);(try go_wp2_with fail)))
           refine tK hK fun hHeld=>?_
           clear hK K;refine(tW 14)<|tD ?_;have own3:=hown2.below Bw;have B3:=hbel2.tr Bw;clear hHeld z0 z1 z2 hb q1 q2 q3 hown2 hbel2 Bw hz hcX hfX hzX hbX;obtain⟨W4,hW4⟩:=Oy wX;subst hW4;have hsl:=own3.slot aB (by decide) hjo;rw[<-He.out]at hsl;have z0:=hsl 0 _ rfl;have z1:=hsl 1 _ rfl;have z2:=hsl 2 _ rfl;simp only[add_zero]at z0;clear hsl;obtain⟨hb,q1,q2,q3⟩:=QF.out _ B3;by_cases hyes:out[P]? =some (x,y,dn)
           . have he2:(ex,ey,ed)=(x,y,dn):=by
              rw[List.getElem?_eq_getElem hjo,Option.some.injEq]at hyes;rw[He.out,hyes]
             simp only[Prod.mk.injEq]at he2;obtain⟨rfl,rfl,rfl⟩:=he2;have HG:Hid (jO out (l.drop (k+1))=iL l):=OA (by rw[<-Hg2.out,Hst.out,if_pos hyes]);clear hyes;go_wp2_with fail
             refine rB (fun w'=>w'.cell? ⟨g,P*3,none⟩=some (.int .i64 ex)/\w'.cell? ⟨g,P*3+1,none⟩=some (.int .i64 ey)/\w'.cell? ⟨g,P*3+2,none⟩=some (.bool ed)/\w'.cell? ⟨b,off+k*3,none⟩=some (.int .i64 ex)/\w'.cell? ⟨b,off+k*3+1,none⟩=some (.int .i64 ey)/\w'.cell? ⟨b,off+k*3+2,none⟩=some (.bool ed)) fun hHeld=>(tW 0)<|(tW 1)<|(tW 2)<|(tW 3)<|(tW 4)<|(tW 5)<|(tW 6)<|(tW 7)<|(tW 8)<|(tW 9)<|(tW 10)<|(tW 11)<|(tW 12)<|(tW 13)<|(tW 14)<|tD ?_
             go_wp2;go_roundw
             case rel=>exact⟨k+1,out,_,c3,by omega,by go_num,rfl,HG,Hso,own3.below ((Below.refl _ _).drew),B3.drew⟩
             case measure=>simp[intOf];omega
           . have HNo:=OA hyes;clear hyes;have hne:¬(ex,ey,ed)=(x,y,dn):=fun q=>HNo.out (by rw[List.getElem?_eq_getElem hjo,<-He.out,q])
             by_cases h1:ex=x
             . obtain rfl:x=ex:=h1.symm;by_cases h2:ey=y
               . obtain rfl:y=ey:=h2.symm;by_cases h3:ed=dn
                 . exfalso;apply hne;rw[h3]
                 . have Hne:=OA hne;clear hne;go_wp2_with fail
                   refine rB (fun w'=>w'.cell? ⟨g,P*3,none⟩=some (.int .i64 x)/\w'.cell? ⟨g,P*3+1,none⟩=some (.int .i64 y)/\w'.cell? ⟨g,P*3+2,none⟩=some (.bool ed)/\w'.cell? ⟨b,off+k*3,none⟩=some (.int .i64 x)/\w'.cell? ⟨b,off+k*3+1,none⟩=some (.int .i64 y)/\w'.cell? ⟨b,off+k*3+2,none⟩=some (.bool dn)) fun hHeld=>(tW 0)<|(tW 1)<|(tW 2)<|(tW 3)<|(tW 4)<|(tW 5)<|(tW 6)<|(tW 7)<|(tW 8)<|(tW 9)<|(tW 10)<|(tW 11)<|(tW 12)<|(tW 13)<|(tW 14)<|tD ?_
                   have HO:=own3.below ((Below.refl _ _).drew);have B6:=B3.drew;clear hHeld z0 z1 z2 hb q1 q2 q3 own3 B3;obtain⟨W5,hW5⟩:=Oy W4.drew;rw[<-hW5]at HO B6⊢;clear hW5;have Hins:Hid (jO (out.take P++(x,y,dn)::out.drop P) (l.drop (k+1))=iL l):=OA (by rw[<-Hg2.out,Hst.out,if_neg HNo.out]);have Hsi:Hid (Sorted (out.take P++(x,y,dn)::out.drop P)):=OA (by have:=iO Hso.out (x,y,dn);rw[Hst.out,if_neg HNo.out]at this;exact this);obtain⟨NW,hNW⟩:=Oy (out.take P++(x,y,dn)::out.drop P);have hNl:NW.length=out.length+1:=by rw[hNW];simp;omega
                   have hN2:(out.take P++[(x,y,dn)])++out.drop P=NW:=by rw[hNW];simp
                   rw[<-hNW]at Hins Hsi;have hrd:=HO.rd aB (by decide);obtain⟨_,h3b⟩:=Fy hrd;have hrA:=(hrd.Oz ((Below.refl _ _).al (.cells #[] 60))).takeA hPle;have htl:(out.take P).length=P:=by simp;omega
                   have hdl:(out.drop P).length=out.length-P:=(by simp);have hPc:P<=c3:=(by omega);have hPcI:(P:Int)<=(c3:Int):=(by omega);have hPo:(P:Int)<=(out.length:Int):=(by omega);obtain⟨TK,hTK⟩:=Oy (out.take P);obtain⟨DR,hDR⟩:=Oy (out.drop P);rw[<-hTK]at hrA htl hN2;rw[<-hDR]at hdl hN2;have HNl:=OA hNl;have HN2:=OA hN2;have HTK:=OA hTK;have HDR:=OA hDR;have Htl:=OA htl;have Hdl:=OA hdl;have H8a:Hid ((0+TK.length)*24<=140737488355328):=OA (by omega);have HMa:Hid (0+TK.length<=maxLen):=OA (by unfold maxLen;omega);have H8b:Hid ((TK.length+1)*24<=140737488355328):=OA (by omega);have HMb:Hid (TK.length+1<=maxLen):=OA (by unfold maxLen;omega);have hTl:(TK++[((x,y,dn):Dm)]).length=P+1:=by simp;omega
                   have H8c:Hid (((TK++[((x,y,dn):Dm)]).length+DR.length)*24<=140737488355328):=OA (by rw[hTl];omega);have HMc:Hid ((TK++[((x,y,dn):Dm)]).length+DR.length<=maxLen):=OA (by rw[hTl];unfold maxLen;omega);have HTl:=OA hTl;have hJP:Hid ((P:Int)=((P:Nat):Int)):=OA rfl;clear hNl hN2 hNW hTK hDR htl hdl hTl hrd;go_wp2_with (first|(at_builtin;(refine fT (enc:=aT) aI aB aM (B:=W5.heap.size) (by simp) (iK W5 _ rfl _ (le_refl _)) (n:=P) Htl.out hrA H8a.out HMa.out rfl _ _ rfl rfl rfl ?_);intro v6 w6 own6 hb6 hv6;obtain⟨A6,c6,rfl⟩:=hv6;simp only[nil_append,length_nil,zero_add]at own6⊢;have B56:Below W5.heap.size W5 w6:=((Below.refl _ _).al _).trans hb6;obtain⟨hb,q1,q2,q3⟩:=QF.out _ (B6.tr B56))|(at_builtin;(refine fT (enc:=aT) aI aB aM (B:=W5.heap.size) hb7.size own7 (n:=out.length-P) Hdl.out hr8 H8c.out HMc.out rfl _ _ rfl rfl rfl ?_);intro v9 w9 own9 hb9 hv9;obtain⟨A9,c9,rfl⟩:=hv9;rw[HN2.out]at own9)|((with_reducible refine kU aI hrd7 P hPle hJP.out rfl _ _ rfl rfl rfl ?_);intro A8 c8 hr8;rw[<-HDR.out]at hr8)|(at_builtin;go_must ((refine aG (enc:=aT) aI aB aM B56 own6 ((x,y,dn):Dm) H8b.out HMb.out rfl _ _ rfl rfl rfl ?_);intro v7 w7 own7 hb7 hg7 hd7;obtain⟨A7,c7,rfl,hc7,hm7⟩:=own7.form;rw[HTl.out]at own7⊢;have hrd7:=(HO.below hb7).rd aB (by decide))))
                   have hNA:TK.length+1+(out.length-P)=NW.length:=by rw[HNl.out,Htl.out];omega
                   have hNB:(TK++[((x,y,dn):Dm)]).length+(out.length-P)=NW.length:=by rw[HNl.out,HTl.out];omega
                   rw[hNB]at own9;go_roundw
                   case rel=>exact⟨k+1,NW,A9,c9,by omega,by go_num,by rw[hNA],Hins,Hsi,own9.mono B6.size,B6.trans (hb7.trans hb9|>.mono B6.size)⟩
                   case measure=>simp[intOf];omega
               . have Hne:=OA hne;clear hne;go_wp2_with fail
                 refine rB (fun w'=>w'.cell? ⟨g,P*3,none⟩=some (.int .i64 x)/\w'.cell? ⟨g,P*3+1,none⟩=some (.int .i64 ey)/\w'.cell? ⟨g,P*3+2,none⟩=some (.bool ed)/\w'.cell? ⟨b,off+k*3,none⟩=some (.int .i64 x)/\w'.cell? ⟨b,off+k*3+1,none⟩=some (.int .i64 y)/\w'.cell? ⟨b,off+k*3+2,none⟩=some (.bool dn)) fun hHeld=>(tW 0)<|(tW 1)<|(tW 2)<|(tW 3)<|(tW 4)<|(tW 5)<|(tW 6)<|(tW 7)<|(tW 8)<|(tW 9)<|(tW 10)<|(tW 11)<|(tW 12)<|(tW 13)<|(tW 14)<|tD ?_
                 have HO:=own3.below ((Below.refl _ _).drew);have B6:=B3.drew;clear hHeld z0 z1 z2 hb q1 q2 q3 own3 B3;obtain⟨W5,hW5⟩:=Oy W4.drew;rw[<-hW5]at HO B6⊢;clear hW5;have Hins:Hid (jO (out.take P++(x,y,dn)::out.drop P) (l.drop (k+1))=iL l):=OA (by rw[<-Hg2.out,Hst.out,if_neg HNo.out]);have Hsi:Hid (Sorted (out.take P++(x,y,dn)::out.drop P)):=OA (by have:=iO Hso.out (x,y,dn);rw[Hst.out,if_neg HNo.out]at this;exact this);obtain⟨NW,hNW⟩:=Oy (out.take P++(x,y,dn)::out.drop P);have hNl:NW.length=out.length+1:=by rw[hNW];simp;omega
                 have hN2:(out.take P++[(x,y,dn)])++out.drop P=NW:=by rw[hNW];simp
                 rw[<-hNW]at Hins Hsi;have hrd:=HO.rd aB (by decide);obtain⟨_,h3b⟩:=Fy hrd;have hrA:=(hrd.Oz ((Below.refl _ _).al (.cells #[] 60))).takeA hPle;have htl:(out.take P).length=P:=by simp;omega
                 have hdl:(out.drop P).length=out.length-P:=(by simp);have hPc:P<=c3:=(by omega);have hPcI:(P:Int)<=(c3:Int):=(by omega);have hPo:(P:Int)<=(out.length:Int):=(by omega);obtain⟨TK,hTK⟩:=Oy (out.take P);obtain⟨DR,hDR⟩:=Oy (out.drop P);rw[<-hTK]at hrA htl hN2;rw[<-hDR]at hdl hN2;have HNl:=OA hNl;have HN2:=OA hN2;have HTK:=OA hTK;have HDR:=OA hDR;have Htl:=OA htl;have Hdl:=OA hdl;have H8a:Hid ((0+TK.length)*24<=140737488355328):=OA (by omega);have HMa:Hid (0+TK.length<=maxLen):=OA (by unfold maxLen;omega);have H8b:Hid ((TK.length+1)*24<=140737488355328):=OA (by omega);have HMb:Hid (TK.length+1<=maxLen):=OA (by unfold maxLen;omega);have hTl:(TK++[((x,y,dn):Dm)]).length=P+1:=by simp;omega
                 have H8c:Hid (((TK++[((x,y,dn):Dm)]).length+DR.length)*24<=140737488355328):=OA (by rw[hTl];omega);have HMc:Hid ((TK++[((x,y,dn):Dm)]).length+DR.length<=maxLen):=OA (by rw[hTl];unfold maxLen;omega);have HTl:=OA hTl;have hJP:Hid ((P:Int)=((P:Nat):Int)):=OA rfl;clear hNl hN2 hNW hTK hDR htl hdl hTl hrd;go_wp2_with (first|(at_builtin;(refine fT (enc:=aT) aI aB aM (B:=W5.heap.size) (by simp) (iK W5 _ rfl _ (le_refl _)) (n:=P) Htl.out hrA H8a.out HMa.out rfl _ _ rfl rfl rfl ?_);intro v6 w6 own6 hb6 hv6;obtain⟨A6,c6,rfl⟩:=hv6;simp only[nil_append,length_nil,zero_add]at own6⊢;have B56:Below W5.heap.size W5 w6:=((Below.refl _ _).al _).trans hb6;obtain⟨hb,q1,q2,q3⟩:=QF.out _ (B6.tr B56))|(at_builtin;(refine fT (enc:=aT) aI aB aM (B:=W5.heap.size) hb7.size own7 (n:=out.length-P) Hdl.out hr8 H8c.out HMc.out rfl _ _ rfl rfl rfl ?_);intro v9 w9 own9 hb9 hv9;obtain⟨A9,c9,rfl⟩:=hv9;rw[HN2.out]at own9)|((with_reducible refine kU aI hrd7 P hPle hJP.out rfl _ _ rfl rfl rfl ?_);intro A8 c8 hr8;rw[<-HDR.out]at hr8)|(at_builtin;go_must ((refine aG (enc:=aT) aI aB aM B56 own6 ((x,y,dn):Dm) H8b.out HMb.out rfl _ _ rfl rfl rfl ?_);intro v7 w7 own7 hb7 hg7 hd7;obtain⟨A7,c7,rfl,hc7,hm7⟩:=own7.form;rw[HTl.out]at own7⊢;have hrd7:=(HO.below hb7).rd aB (by decide))))
                 have hNA:TK.length+1+(out.length-P)=NW.length:=by rw[HNl.out,Htl.out];omega
                 have hNB:(TK++[((x,y,dn):Dm)]).length+(out.length-P)=NW.length:=by rw[HNl.out,HTl.out];omega
                 rw[hNB]at own9;go_roundw
                 case rel=>exact⟨k+1,NW,A9,c9,by omega,by go_num,by rw[hNA],Hins,Hsi,own9.mono B6.size,B6.trans (hb7.trans hb9|>.mono B6.size)⟩
                 case measure=>simp[intOf];omega
             . have Hne:=OA hne;clear hne;go_wp2_with fail
               refine rB (fun w'=>w'.cell? ⟨g,P*3,none⟩=some (.int .i64 ex)/\w'.cell? ⟨g,P*3+1,none⟩=some (.int .i64 ey)/\w'.cell? ⟨g,P*3+2,none⟩=some (.bool ed)/\w'.cell? ⟨b,off+k*3,none⟩=some (.int .i64 x)/\w'.cell? ⟨b,off+k*3+1,none⟩=some (.int .i64 y)/\w'.cell? ⟨b,off+k*3+2,none⟩=some (.bool dn)) fun hHeld=>(tW 0)<|(tW 1)<|(tW 2)<|(tW 3)<|(tW 4)<|(tW 5)<|(tW 6)<|(tW 7)<|(tW 8)<|(tW 9)<|(tW 10)<|(tW 11)<|(tW 12)<|(tW 13)<|(tW 14)<|tD ?_
               have HO:=own3.below ((Below.refl _ _).drew);have B6:=B3.drew;clear hHeld z0 z1 z2 hb q1 q2 q3 own3 B3;obtain⟨W5,hW5⟩:=Oy W4.drew;rw[<-hW5]at HO B6⊢;clear hW5;have Hins:Hid (jO (out.take P++(x,y,dn)::out.drop P) (l.drop (k+1))=iL l):=OA (by rw[<-Hg2.out,Hst.out,if_neg HNo.out]);have Hsi:Hid (Sorted (out.take P++(x,y,dn)::out.drop P)):=OA (by have:=iO Hso.out (x,y,dn);rw[Hst.out,if_neg HNo.out]at this;exact this);obtain⟨NW,hNW⟩:=Oy (out.take P++(x,y,dn)::out.drop P);have hNl:NW.length=out.length+1:=by rw[hNW];simp;omega
               have hN2:(out.take P++[(x,y,dn)])++out.drop P=NW:=by rw[hNW];simp
               rw[<-hNW]at Hins Hsi;have hrd:=HO.rd aB (by decide);obtain⟨_,h3b⟩:=Fy hrd;have hrA:=(hrd.Oz ((Below.refl _ _).al (.cells #[] 60))).takeA hPle;have htl:(out.take P).length=P:=by simp;omega
               have hdl:(out.drop P).length=out.length-P:=(by simp);have hPc:P<=c3:=(by omega);have hPcI:(P:Int)<=(c3:Int):=(by omega);have hPo:(P:Int)<=(out.length:Int):=(by omega);obtain⟨TK,hTK⟩:=Oy (out.take P);obtain⟨DR,hDR⟩:=Oy (out.drop P);rw[<-hTK]at hrA htl hN2;rw[<-hDR]at hdl hN2;have HNl:=OA hNl;have HN2:=OA hN2;have HTK:=OA hTK;have HDR:=OA hDR;have Htl:=OA htl;have Hdl:=OA hdl;have H8a:Hid ((0+TK.length)*24<=140737488355328):=OA (by omega);have HMa:Hid (0+TK.length<=maxLen):=OA (by unfold maxLen;omega);have H8b:Hid ((TK.length+1)*24<=140737488355328):=OA (by omega);have HMb:Hid (TK.length+1<=maxLen):=OA (by unfold maxLen;omega);have hTl:(TK++[((x,y,dn):Dm)]).length=P+1:=by simp;omega
               have H8c:Hid (((TK++[((x,y,dn):Dm)]).length+DR.length)*24<=140737488355328):=OA (by rw[hTl];omega);have HMc:Hid ((TK++[((x,y,dn):Dm)]).length+DR.length<=maxLen):=OA (by rw[hTl];unfold maxLen;omega);have HTl:=OA hTl;have hJP:Hid ((P:Int)=((P:Nat):Int)):=OA rfl;clear hNl hN2 hNW hTK hDR htl hdl hTl hrd;go_wp2_with (first|(at_builtin;(refine fT (enc:=aT) aI aB aM (B:=W5.heap.size) (by simp) (iK W5 _ rfl _ (le_refl _)) (n:=P) Htl.out hrA H8a.out HMa.out rfl _ _ rfl rfl rfl ?_);intro v6 w6 own6 hb6 hv6;obtain⟨A6,c6,rfl⟩:=hv6;simp only[nil_append,length_nil,zero_add]at own6⊢;have B56:Below W5.heap.size W5 w6:=((Below.refl _ _).al _).trans hb6;obtain⟨hb,q1,q2,q3⟩:=QF.out _ (B6.tr B56))|(at_builtin;(refine fT (enc:=aT) aI aB aM (B:=W5.heap.size) hb7.size own7 (n:=out.length-P) Hdl.out hr8 H8c.out HMc.out rfl _ _ rfl rfl rfl ?_);intro v9 w9 own9 hb9 hv9;obtain⟨A9,c9,rfl⟩:=hv9;rw[HN2.out]at own9)|((with_reducible refine kU aI hrd7 P hPle hJP.out rfl _ _ rfl rfl rfl ?_);intro A8 c8 hr8;rw[<-HDR.out]at hr8)|(at_builtin;go_must ((refine aG (enc:=aT) aI aB aM B56 own6 ((x,y,dn):Dm) H8b.out HMb.out rfl _ _ rfl rfl rfl ?_);intro v7 w7 own7 hb7 hg7 hd7;obtain⟨A7,c7,rfl,hc7,hm7⟩:=own7.form;rw[HTl.out]at own7⊢;have hrd7:=(HO.below hb7).rd aB (by decide))))
               have hNA:TK.length+1+(out.length-P)=NW.length:=by rw[HNl.out,Htl.out];omega
               have hNB:(TK++[((x,y,dn):Dm)]).length+(out.length-P)=NW.length:=by rw[HNl.out,HTl.out];omega
               rw[hNB]at own9;go_roundw
               case rel=>exact⟨k+1,NW,A9,c9,by omega,by go_num,by rw[hNA],Hins,Hsi,own9.mono B6.size,B6.trans (hb7.trans hb9|>.mono B6.size)⟩
               case measure=>simp[intOf];omega
       . have hjP : P = j := by omega
         subst hjP;have hjz:(out.length:Int)<=(P:Int):=(by omega);have HNo:Hid (¬out[P]? =some (x,y,dn)):=OA (by rw[List.getElem?_eq_none (by omega)];simp);have hn3:decide (P<out.length)=false:=by simp;omega
         clear hb q1 q2 q3;go_wp2_with fail
         refine rB (fun _=>True) fun hHeld=>(tW 0)<|(tW 1)<|(tW 2)<|(tW 3)<|(tW 4)<|(tU 5)<|(tU 6)<|(tU 7)<|(tU 8)<|(tU 9)<|(tU 10)<|(tU 11)<|(tU 12)<|(tU 13)<|(tW 14)<|tD ?_
         go_wp2_with fail
         refine rB (fun _=>True) fun hHeld=>(tW 0)<|(tW 1)<|(tW 2)<|(tW 3)<|(tW 4)<|(tU 5)<|(tU 6)<|(tU 7)<|(tU 8)<|(tU 9)<|(tU 10)<|(tU 11)<|(tU 12)<|(tU 13)<|(tW 14)<|tD ?_
         have Bw:Below wr.heap.size wr wr.drew.drew:=(Below.refl _ _).drew.drew;have own6:=hown2.below Bw;have B6:=hbel2.tr Bw;clear hHeld hown2 hbel2 Bw;obtain⟨W5,hW5⟩:=Oy wr.drew.drew;rw[<-hW5]at own6 B6⊢;clear hW5 hn3;have HO:=own6;clear own6;have Hins:Hid (jO (out.take P++(x,y,dn)::out.drop P) (l.drop (k+1))=iL l):=OA (by rw[<-Hg2.out,Hst.out,if_neg HNo.out]);have Hsi:Hid (Sorted (out.take P++(x,y,dn)::out.drop P)):=OA (by have:=iO Hso.out (x,y,dn);rw[Hst.out,if_neg HNo.out]at this;exact this);obtain⟨NW,hNW⟩:=Oy (out.take P++(x,y,dn)::out.drop P);have hNl:NW.length=out.length+1:=by rw[hNW];simp;omega
         have hN2:(out.take P++[(x,y,dn)])++out.drop P=NW:=by rw[hNW];simp
         rw[<-hNW]at Hins Hsi;have hrd:=HO.rd aB (by decide);obtain⟨_,h3b⟩:=Fy hrd;have hrA:=(hrd.Oz ((Below.refl _ _).al (.cells #[] 60))).takeA hPle;have htl:(out.take P).length=P:=by simp;omega
         have hdl:(out.drop P).length=out.length-P:=(by simp);have hPc:P<=c3:=(by omega);have hPcI:(P:Int)<=(c3:Int):=(by omega);have hPo:(P:Int)<=(out.length:Int):=(by omega);obtain⟨TK,hTK⟩:=Oy (out.take P);obtain⟨DR,hDR⟩:=Oy (out.drop P);rw[<-hTK]at hrA htl hN2;rw[<-hDR]at hdl hN2;have HNl:=OA hNl;have HN2:=OA hN2;have HTK:=OA hTK;have HDR:=OA hDR;have Htl:=OA htl;have Hdl:=OA hdl;have H8a:Hid ((0+TK.length)*24<=140737488355328):=OA (by omega);have HMa:Hid (0+TK.length<=maxLen):=OA (by unfold maxLen;omega);have H8b:Hid ((TK.length+1)*24<=140737488355328):=OA (by omega);have HMb:Hid (TK.length+1<=maxLen):=OA (by unfold maxLen;omega);have hTl:(TK++[((x,y,dn):Dm)]).length=P+1:=by simp;omega
         have H8c:Hid (((TK++[((x,y,dn):Dm)]).length+DR.length)*24<=140737488355328):=OA (by rw[hTl];omega);have HMc:Hid ((TK++[((x,y,dn):Dm)]).length+DR.length<=maxLen):=OA (by rw[hTl];unfold maxLen;omega);have HTl:=OA hTl;have hJP:Hid ((P:Int)=((P:Nat):Int)):=OA rfl;clear hNl hN2 hNW hTK hDR htl hdl hTl hrd;go_wp2_with (first|(at_builtin;(refine fT (enc:=aT) aI aB aM (B:=W5.heap.size) (by simp) (iK W5 _ rfl _ (le_refl _)) (n:=P) Htl.out hrA H8a.out HMa.out rfl _ _ rfl rfl rfl ?_);intro v6 w6 own6 hb6 hv6;obtain⟨A6,c6,rfl⟩:=hv6;simp only[nil_append,length_nil,zero_add]at own6⊢;have B56:Below W5.heap.size W5 w6:=((Below.refl _ _).al _).trans hb6;obtain⟨hb,q1,q2,q3⟩:=QF.out _ (B6.tr B56))|(at_builtin;(refine fT (enc:=aT) aI aB aM (B:=W5.heap.size) hb7.size own7 (n:=out.length-P) Hdl.out hr8 H8c.out HMc.out rfl _ _ rfl rfl rfl ?_);intro v9 w9 own9 hb9 hv9;obtain⟨A9,c9,rfl⟩:=hv9;rw[HN2.out]at own9)|((with_reducible refine kU aI hrd7 P hPle hJP.out rfl _ _ rfl rfl rfl ?_);intro A8 c8 hr8;rw[<-HDR.out]at hr8)|(at_builtin;go_must ((refine aG (enc:=aT) aI aB aM B56 own6 ((x,y,dn):Dm) H8b.out HMb.out rfl _ _ rfl rfl rfl ?_);intro v7 w7 own7 hb7 hg7 hd7;obtain⟨A7,c7,rfl,hc7,hm7⟩:=own7.form;rw[HTl.out]at own7⊢;have hrd7:=(HO.below hb7).rd aB (by decide))))
         have hNA:TK.length+1+(out.length-P)=NW.length:=by rw[HNl.out,Htl.out];omega
         have hNB:(TK++[((x,y,dn):Dm)]).length+(out.length-P)=NW.length:=by rw[HNl.out,HTl.out];omega
         rw[hNB]at own9;go_roundw
         case rel=>exact⟨k+1,NW,A9,c9,by omega,by go_num,by rw[hNA],Hins,Hsi,own9.mono B6.size,B6.trans (hb7.trans hb9|>.mono B6.size)⟩
         case measure=>simp[intOf];omega
  . obtain rfl : k = l.length := by omega
    have hg:=Hg.out;rw[drop_of_length_le (le_refl _)]at hg;have hg2:out=iL l:=hg;clear hg;subst hg2;go_wp2;go_ret;exact⟨_,_,rfl,hown,hbel⟩
theorem Cu (x y:Int) (w:World) (h:jP (x,y)=true):Calls prog 139 #[.agg #[.int .i64 x,.int .i64 y],.bool true] w (Ret (.tuple #[.agg #[.int .i64 x,.int .i64 y,.bool true],.agg #[.int .i64 (x+1),.int .i64 y,.bool true]]) w):=by
 unfold jP at h;rw[Bool.and_eq_true,decide_eq_true_eq,decide_eq_true_eq]at h;simp only at h;obtain⟨⟨x0,x1⟩,y0,y1⟩:=h;have hA:=(Below.refl w.heap.size w).al (.cells #[.int .i64 x,.int .i64 y] 70);go_enter func139,ntmps139
 have e1:IntKind.i64.wrap (x+1)=x+1:=IntWalk.i64_in _ (by omega);have e2:IntKind.i64.wrap (y+1)=y+1:=IntWalk.i64_in _ (by omega);go_wp2_with fail
 obtain⟨W3,hW⟩:=Oy (((w.alloc (.cells #[.int .i64 x,.int .i64 y] 70)).alloc (.cells #[.int .i64 0,.int .i64 0,.bool false] 60)).alloc (.cells #[.int .i64 0,.int .i64 0,.bool false] 60));have bC:Blk W3 w.heap.size 70 #[.int .i64 x,.int .i64 y]:=by rw[hW];exact((Blk.bK w _ _).alloc _).alloc _
 have b1:Blk W3 (w.heap.size+1) 60 #[.int .i64 0,.int .i64 0,.bool false]:=by rw[hW];exact(Blk.iV _ _ _ _ (by simp)).alloc _
 have b2:Blk W3 (w.heap.size+1+1) 60 #[.int .i64 0,.int .i64 0,.bool false]:=by rw[hW];exact Blk.iV _ _ _ _ (by simp)
 have B3:Below w.heap.size w W3:=by rw[hW];exact(hA.al _).al _
 rw[<-hW];obtain⟨g0,hg0⟩:=Oy w.heap.size;obtain⟨g1,hg1⟩:=Oy (w.heap.size+1);obtain⟨g2,hg2⟩:=Oy (w.heap.size+1+1);rw[<-hg2]at b2⊢;rw[<-hg1]at b1⊢;rw[<-hg0]at bC⊢;have hn1:g0≠g1:=(by omega);have hn2:g0≠g2:=(by omega);have hn3:g1≠g2:=(by omega);have hl1:w.heap.size<=g1:=(by omega);have hl2:w.heap.size<=g2:=(by omega);clear hW hg0 hg1 hg2 hA;have c0:=bC.cell 0;have c1:=bC.cell 1;simp only[getElem?_toArray,getElem?_cons_zero,getElem?_cons_succ]at c0 c1;have B4:Below w.heap.size w W3.drew:=B3.drew;have b1':Blk W3.drew g1 60 #[.int .i64 0,.int .i64 0,.bool false]:=b1;have b2':Blk W3.drew g2 60 #[.int .i64 0,.int .i64 0,.bool false]:=b2;have bC':Blk W3.drew g0 70 #[.int .i64 x,.int .i64 y]:=bC;clear b1 b2 bC B3;refine rB (fun w'=>w'.cell? ⟨g0,0,none⟩=some (.int .i64 x)/\w'.cell? ⟨g0,1,none⟩=some (.int .i64 y)) fun hHeld=>(tW 0)<|(tW 1)<|(tW 2)<|(tW 3)<|(tW 4)<|(tW 5)<|(tW 6)<|(tW 7)<|(tW 8)<|(tW 9)<|(tW 10)<|(tR [11])<|tL fun K hK=>?_
 (first|(refine aJ rfl 60 _ _ rfl g1 #[.int .i64 x,.int .i64 y,.bool true] rfl rfl _ _ b1' (by kernel_rfl) rfl (by simp[oneCell']) ?_;intro wS hbS hgS;have b1':=hbS;have b2':=b2'.grown hgS (by simp;omega);have bC':=bC'.grown hgS (by simp;omega);have B4:=B4.grown hgS B4.size (fun k hk=>by injection hk with hk;omega);have c0:=bC'.cell 0;have c1:=bC'.cell 1;simp only[getElem?_toArray,getElem?_cons_zero,getElem?_cons_succ]at c0 c1)|(refine aJ rfl 60 _ _ rfl g2 #[.int .i64 (x+1),.int .i64 y,.bool true] rfl rfl _ _ b2' (by kernel_rfl) rfl (by simp[oneCell']) ?_;intro wS hbS hgS;have b2':=hbS;have b1':=b1'.grown hgS (by simp;omega);have bC':=bC'.grown hgS (by simp;omega);have B4:=B4.grown hgS B4.size (fun k hk=>by injection hk with hk;omega);have c0:=bC'.cell 0;have c1:=bC'.cell 1;simp only[getElem?_toArray,getElem?_cons_zero,getElem?_cons_succ]at c0 c1))
 refine tK hK fun hHeld=>?_
 clear hK K;refine(tR [12])<|tL fun K hK=>?_
 (first|(refine aJ rfl 60 _ _ rfl g1 #[.int .i64 x,.int .i64 y,.bool true] rfl rfl _ _ b1' (by kernel_rfl) rfl (by simp[oneCell']) ?_;intro wS hbS hgS;have b1':=hbS;have b2':=b2'.grown hgS (by simp;omega);have bC':=bC'.grown hgS (by simp;omega);have B4:=B4.grown hgS B4.size (fun k hk=>by injection hk with hk;omega);have c0:=bC'.cell 0;have c1:=bC'.cell 1;simp only[getElem?_toArray,getElem?_cons_zero,getElem?_cons_succ]at c0 c1)|(refine aJ rfl 60 _ _ rfl g2 #[.int .i64 (x+1),.int .i64 y,.bool true] rfl rfl _ _ b2' (by kernel_rfl) rfl (by simp[oneCell']) ?_;intro wS hbS hgS;have b2':=hbS;have b1':=b1'.grown hgS (by simp;omega);have bC':=bC'.grown hgS (by simp;omega);have B4:=B4.grown hgS B4.size (fun k hk=>by injection hk with hk;omega);have c0:=bC'.cell 0;have c1:=bC'.cell 1;simp only[getElem?_toArray,getElem?_cons_zero,getElem?_cons_succ]at c0 c1))
 refine tK hK fun hHeld=>?_
 clear hK K;refine tD ?_
 all_goals
   obtain⟨u_0,u_1,u_2⟩:=b1'.n3;obtain⟨t_0,t_1,t_2⟩:=b2'.n3;go_wp2_with fail
   refine bodyPost_ret (v:= .tuple #[.agg #[.int .i64 x,.int .i64 y,.bool true],.agg #[.int .i64 (x+1),.int .i64 y,.bool true]]) (by simp[results,Tryz.results139,go_sem,u_0,u_1,u_2,t_0,t_1,t_2]) rfl ⟨rfl,B4⟩
theorem Cv (x y:Int) (w:World) (h:jP (x,y)=true):Calls prog 139 #[.agg #[.int .i64 x,.int .i64 y],.bool false] w (Ret (.tuple #[.agg #[.int .i64 x,.int .i64 y,.bool false],.agg #[.int .i64 x,.int .i64 (y+1),.bool false]]) w):=by
 unfold jP at h;rw[Bool.and_eq_true,decide_eq_true_eq,decide_eq_true_eq]at h;simp only at h;obtain⟨⟨x0,x1⟩,y0,y1⟩:=h;have hA:=(Below.refl w.heap.size w).al (.cells #[.int .i64 x,.int .i64 y] 70);go_enter func139,ntmps139
 have e1:IntKind.i64.wrap (x+1)=x+1:=IntWalk.i64_in _ (by omega);have e2:IntKind.i64.wrap (y+1)=y+1:=IntWalk.i64_in _ (by omega);go_wp2_with fail
 obtain⟨W3,hW⟩:=Oy (((w.alloc (.cells #[.int .i64 x,.int .i64 y] 70)).alloc (.cells #[.int .i64 0,.int .i64 0,.bool false] 60)).alloc (.cells #[.int .i64 0,.int .i64 0,.bool false] 60));have bC:Blk W3 w.heap.size 70 #[.int .i64 x,.int .i64 y]:=by rw[hW];exact((Blk.bK w _ _).alloc _).alloc _
 have b1:Blk W3 (w.heap.size+1) 60 #[.int .i64 0,.int .i64 0,.bool false]:=by rw[hW];exact(Blk.iV _ _ _ _ (by simp)).alloc _
 have b2:Blk W3 (w.heap.size+1+1) 60 #[.int .i64 0,.int .i64 0,.bool false]:=by rw[hW];exact Blk.iV _ _ _ _ (by simp)
 have B3:Below w.heap.size w W3:=by rw[hW];exact(hA.al _).al _
 rw[<-hW];obtain⟨g0,hg0⟩:=Oy w.heap.size;obtain⟨g1,hg1⟩:=Oy (w.heap.size+1);obtain⟨g2,hg2⟩:=Oy (w.heap.size+1+1);rw[<-hg2]at b2⊢;rw[<-hg1]at b1⊢;rw[<-hg0]at bC⊢;have hn1:g0≠g1:=(by omega);have hn2:g0≠g2:=(by omega);have hn3:g1≠g2:=(by omega);have hl1:w.heap.size<=g1:=(by omega);have hl2:w.heap.size<=g2:=(by omega);clear hW hg0 hg1 hg2 hA;have c0:=bC.cell 0;have c1:=bC.cell 1;simp only[getElem?_toArray,getElem?_cons_zero,getElem?_cons_succ]at c0 c1;have B4:Below w.heap.size w W3.drew:=B3.drew;have b1':Blk W3.drew g1 60 #[.int .i64 0,.int .i64 0,.bool false]:=b1;have b2':Blk W3.drew g2 60 #[.int .i64 0,.int .i64 0,.bool false]:=b2;have bC':Blk W3.drew g0 70 #[.int .i64 x,.int .i64 y]:=bC;clear b1 b2 bC B3;refine rB (fun w'=>w'.cell? ⟨g0,0,none⟩=some (.int .i64 x)/\w'.cell? ⟨g0,1,none⟩=some (.int .i64 y)) fun hHeld=>(tW 0)<|(tW 1)<|(tW 2)<|(tW 3)<|(tW 4)<|(tW 5)<|(tW 6)<|(tW 7)<|(tW 8)<|(tW 9)<|(tW 10)<|(tR [11])<|tL fun K hK=>?_
 (first|(refine aJ rfl 60 _ _ rfl g1 #[.int .i64 x,.int .i64 y,.bool false] rfl rfl _ _ b1' (by kernel_rfl) rfl (by simp[oneCell']) ?_;intro wS hbS hgS;have b1':=hbS;have b2':=b2'.grown hgS (by simp;omega);have bC':=bC'.grown hgS (by simp;omega);have B4:=B4.grown hgS B4.size (fun k hk=>by injection hk with hk;omega);have c0:=bC'.cell 0;have c1:=bC'.cell 1;simp only[getElem?_toArray,getElem?_cons_zero,getElem?_cons_succ]at c0 c1)|(refine aJ rfl 60 _ _ rfl g2 #[.int .i64 x,.int .i64 (y+1),.bool false] rfl rfl _ _ b2' (by kernel_rfl) rfl (by simp[oneCell']) ?_;intro wS hbS hgS;have b2':=hbS;have b1':=b1'.grown hgS (by simp;omega);have bC':=bC'.grown hgS (by simp;omega);have B4:=B4.grown hgS B4.size (fun k hk=>by injection hk with hk;omega);have c0:=bC'.cell 0;have c1:=bC'.cell 1;simp only[getElem?_toArray,getElem?_cons_zero,getElem?_cons_succ]at c0 c1))
 refine tK hK fun hHeld=>?_
 clear hK K;refine(tR [12])<|tL fun K hK=>?_
 (first|(refine aJ rfl 60 _ _ rfl g1 #[.int .i64 x,.int .i64 y,.bool false] rfl rfl _ _ b1' (by kernel_rfl) rfl (by simp[oneCell']) ?_;intro wS hbS hgS;have b1':=hbS;have b2':=b2'.grown hgS (by simp;omega);have bC':=bC'.grown hgS (by simp;omega);have B4:=B4.grown hgS B4.size (fun k hk=>by injection hk with hk;omega);have c0:=bC'.cell 0;have c1:=bC'.cell 1;simp only[getElem?_toArray,getElem?_cons_zero,getElem?_cons_succ]at c0 c1)|(refine aJ rfl 60 _ _ rfl g2 #[.int .i64 x,.int .i64 (y+1),.bool false] rfl rfl _ _ b2' (by kernel_rfl) rfl (by simp[oneCell']) ?_;intro wS hbS hgS;have b2':=hbS;have b1':=b1'.grown hgS (by simp;omega);have bC':=bC'.grown hgS (by simp;omega);have B4:=B4.grown hgS B4.size (fun k hk=>by injection hk with hk;omega);have c0:=bC'.cell 0;have c1:=bC'.cell 1;simp only[getElem?_toArray,getElem?_cons_zero,getElem?_cons_succ]at c0 c1))
 refine tK hK fun hHeld=>?_
 clear hK K;refine tD ?_
 all_goals
   obtain⟨u_0,u_1,u_2⟩:=b1'.n3;obtain⟨t_0,t_1,t_2⟩:=b2'.n3;go_wp2_with fail
   refine bodyPost_ret (v:= .tuple #[.agg #[.int .i64 x,.int .i64 y,.bool false],.agg #[.int .i64 x,.int .i64 (y+1),.bool false]]) (by simp[results,Tryz.results139,go_sem,u_0,u_1,u_2,t_0,t_1,t_2]) rfl ⟨rfl,B4⟩
def Df (d:Dm):List Dm->Nat->Int
  |[],_=> -1
  |e::r,k=>if e=d then(k:Int)else Df d r (k+1)
theorem uN (d e:Dm) (r:List Dm) (k:Nat):Df d (e::r) k=if e=d then(k:Int)else Df d r (k+1):=rfl
theorem Cw (d:Dm):∀(l:List Dm) (k:Nat),(l.contains d=true->0<=Df d l k)/\(l.contains d=false->Df d l k= -1)
  |[],k=>by simp[Df]
  | e :: r, k => by
   have:=Cw d r (k+1);unfold Df;by_cases h:e=d
   . subst h;simp
   . rw[if_neg h,List.contains_cons,show(d==e)=false by rw[beq_eq_false_iff_ne];exact fun q=>h q.symm,Bool.false_or];exact this
theorem Gr (v:Value) (l:List Dm) (x y:Int) (d:Bool) (w:World) (h:Rd 3 aU w v l):Calls prog 81 #[v,.agg #[.int .i64 x,.int .i64 y,.bool d]] w (Ret (.int .i64 (Df (x,y,d) l 0)) w):=by
 obtain⟨A,c,rfl,hc,hm⟩:=h.form;have hA:=((Below.refl w.heap.size w).al (.cells #[.int .i64 x,.int .i64 y,.bool d] 60));have hx:=Blk.bK w 60 #[.int .i64 x,.int .i64 y,.bool d];obtain⟨R,hR⟩:=Oy (Df (x,y,d) l 0);rw[<-hR];have HR:=OA hR;clear hR;go_enter Tryz.func81,Tryz.ntmps81
 go_wp2;go_loopw [5] (fun s9 wr=>∃k:Nat,k<=l.length/\s9= .int .i64 k/\Hid (Df (x,y,d) (l.drop k) k=R)/\Below (w.alloc (.cells #[.int .i64 x,.int .i64 y,.bool d] 60)).heap.size (w.alloc (.cells #[.int .i64 x,.int .i64 y,.bool d] 60)) wr) (fun i _=>l.length-(intOf i).toNat)
 case atStart=>exact⟨0,zero_le _,rfl,OA HR.out.symm,Below.refl _ _⟩
 case round=>
  obtain⟨k,hk,rfl,Hg,hbel⟩:=hrel;have z:=hx.bl hbel;obtain⟨z_0,z_1,z_2⟩:=z.n3;have hwl:=z.lt;by_cases hlt:k<l.length
  . obtain⟨b,off,rfl,hb,q1,q2,q3⟩:=((h.Oz hA).Oz hbel).jJ hlt;have hltI:(k:Int)<(l.length:Int):=(by omega);have hg:=Hg.out;rw[drop_eq_getElem_cons hlt]at hg;obtain⟨e,he⟩:=Oy (l[k]);rw[<-he]at q1 q2 q3 hg;obtain⟨ex,ey,ed⟩:=e;simp only at q1 q2 q3;have Hg2:=OA hg;clear hg he;by_cases h1:x=ex
    . obtain rfl:x=ex:=h1;by_cases h2:y=ey
      . obtain rfl:y=ey:=h2;by_cases h3:d=ed
        . obtain rfl:d=ed:=h3;have HG:=OA (show(k:Int)=R by rw[<-Hg2.out,uN,if_pos rfl]);go_wp2_with fail
          go_quiet (fail)
          go_wp2;go_ret;exact⟨Gb HG.out,hA.tr (below_drewN hbel _)⟩
        . have h3' : ¬ ed = d := fun q => h3 q.symm
          have HG:=OA (show Df (x,y,d) (l.drop (k+1)) (k+1)=R by rw[<-Hg2.out,uN,if_neg (by simp[*])]);go_wp2_with fail
          go_quiet (fail)
          go_wp2;go_roundw
          case rel=>exact⟨k+1,by omega,by go_num,HG,below_drewN hbel _⟩
          case measure=>simp[intOf];omega
      . have h2' : ¬ ey = y := fun q => h2 q.symm
        have HG:=OA (show Df (x,y,d) (l.drop (k+1)) (k+1)=R by rw[<-Hg2.out,uN,if_neg (by simp[*])]);go_wp2_with fail
        go_quiet (fail)
        go_wp2;go_roundw
        case rel=>exact⟨k+1,by omega,by go_num,HG,below_drewN hbel _⟩
        case measure=>simp[intOf];omega
    . have h1' : ¬ ex = x := fun q => h1 q.symm
      have HG:=OA (show Df (x,y,d) (l.drop (k+1)) (k+1)=R by rw[<-Hg2.out,uN,if_neg (by simp[*])]);go_wp2_with fail
      go_quiet (fail)
      go_wp2;go_roundw
      case rel=>exact⟨k+1,by omega,by go_num,HG,below_drewN hbel _⟩
      case measure=>simp[intOf];omega
  . obtain rfl : k = l.length := by omega
    have hg:=Hg.out;rw[drop_of_length_le (le_refl _)]at hg;have hg2:(-1:Int)=R:=hg;have HG:=OA hg2;clear hg hg2;go_wp2;go_ret;exact⟨Gb HG.out,hA.tr hbel⟩
theorem nY (v:Value) (l:List Dm) (x y:Int) (d:Bool) (w:World) (h:Rd 3 aU w v l) (hc:l.contains (x,y,d)=true):∃r:Int,0<=r/\Calls prog 81 #[v,.agg #[.int .i64 x,.int .i64 y,.bool d]] w (Ret (.int .i64 r) w):=
 ⟨_,(Cw (x,y,d) l 0).1 hc,Gr v l x y d w h⟩
theorem vC (v:Value) (l:List Dm) (x y:Int) (d:Bool) (w:World) (h:Rd 3 aU w v l) (hc:l.contains (x,y,d)=false):Calls prog 81 #[v,.agg #[.int .i64 x,.int .i64 y,.bool d]] w (Ret (.int .i64 (-1)) w):=by
 have:=Gr v l x y d w h;rw[(Cw (x,y,d) l 0).2 hc]at this;exact this
theorem Ei (v:Value) (l:List Dm) (x y:Int) (w:World) (h:Rd 3 aU w v l):Calls prog 85 #[v,.agg #[.int .i64 x,.int .i64 y]] w (Ret (.int .i64 (kindOf l (x,y):Nat)) w):=by
 obtain⟨A,c,rfl,hc,hm⟩:=h.form;have hA:=(Below.refl w.heap.size w).al (.cells #[.int .i64 x,.int .i64 y] 70);have bC0:=Blk.bK w 70 #[.int .i64 x,.int .i64 y];have hin:=Gg x y;rcases hx:inB x 0 6 with _|_
 . have e : kindOf l (x, y) = 0 := uA (by rw [hin, hx]; rfl);rw[e];have Hx:=OA hx;clear hx hin e;go_enter func85,ntmps85
   go_wp2_with fail
   refine(iI _ _ _ _).mono ?_;rintro e w1 ⟨rfl,rfl⟩;rw[Hx.out];go_wp2;go_ret;exact⟨rfl,hA⟩
 . rcases hy:inB y 0 6 with _|_
   . have e : kindOf l (x, y) = 0 := uA (by rw [hin, hx, hy]; rfl);rw[e];have Hx:=OA hx;have Hy:=OA hy;clear hx hy hin e;go_enter func85,ntmps85
     go_wp2_with fail
     refine(iI _ _ _ _).mono ?_;rintro e w1 ⟨rfl,rfl⟩;rw[Hx.out];go_wp2_with fail
     refine(iI _ _ _ _).mono ?_;rintro e w2 ⟨rfl,rfl⟩;rw[Hy.out];go_wp2;go_ret;exact⟨rfl,hA⟩
   . have hinf : jP (x, y) = true := by rw [hin, hx, hy]; rfl
     have hk:kindOf l (x,y)=if l.contains (x,y,false)&&l.contains (x,y+1,false)then 1 else if l.contains (x,y,true)&&l.contains (x+1,y,true)then 2 else 0:=by
      unfold kindOf eO nQ rJ;rw[hinf,if_pos rfl]
     obtain⟨R,hR⟩:=Oy (kindOf l (x,y));rw[<-hR]at hk⊢;obtain⟨a1,ha1⟩:=Oy (l.contains (x,y,false));obtain⟨a2,ha2⟩:=Oy (l.contains (x,y+1,false));obtain⟨d1,hd1⟩:=Oy (l.contains (x,y,true));obtain⟨d2,hd2⟩:=Oy (l.contains (x+1,y,true));rw[<-ha1,<-ha2,<-hd1,<-hd2]at hk;have Hx:=OA hx;have Hy:=OA hy;have Hinf:=OA hinf;have Ha1:=OA ha1.symm;have Ha2:=OA ha2.symm;have Hd1:=OA hd1.symm;have Hd2:=OA hd2.symm;have Hk:=OA hk;clear hx hy hin hinf ha1 ha2 hd1 hd2 hR hk;go_enter func85,ntmps85
     go_wp2_with fail
     refine(iI _ _ _ _).mono ?_;rintro e w1 ⟨rfl,rfl⟩;rw[Hx.out];go_wp2_with fail
     refine(iI _ _ _ _).mono ?_;rintro e w2 ⟨rfl,rfl⟩;rw[Hy.out];go_wp2;go_loopw [5] (fun s5 wr=>∃kd:Nat,1<=kd/\kd<=3/\s5= .int .i64 kd/\Hid ((2<=kd->(a1&&a2)=false)/\(3<=kd->(d1&&d2)=false))/\Blk wr w.heap.size 70 #[.int .i64 x,.int .i64 y]/\Below w.heap.size w wr) (fun i _=>3-(intOf i).toNat)
     case atStart=>exact⟨1,by omega,by omega,rfl,OA ⟨fun q=>by omega,fun q=>by omega⟩,bC0,hA⟩
     case round=>
      obtain⟨kd,hk1,hk3,rfl,Hg,hC,hbel⟩:=hrel;clear bC0 hA;obtain⟨zc_0,zc_1⟩:=hC.n2;have hcase:kd=1∨kd=2∨kd=3:=(by omega);rcases hcase with rfl|rfl|rfl
      . rw[show((1:Nat):Int)=1 from rfl];go_wp2_with fail
        refine(Cv x y _ Hinf.out).mono ?_;rintro e w3 ⟨rfl,hb3⟩;have B3:=((hbel.tr hb3).al (.cells #[.int .i64 x,.int .i64 y,.bool false] 60)).al (.cells #[.int .i64 x,.int .i64 (y+1),.bool false] 60);have bC:=((hC.bl hb3).alloc (.cells #[.int .i64 x,.int .i64 y,.bool false] 60)).alloc (.cells #[.int .i64 x,.int .i64 (y+1),.bool false] 60);have bd:=(Blk.bK w3 60 #[.int .i64 x,.int .i64 y,.bool false]).alloc (.cells #[.int .i64 x,.int .i64 (y+1),.bool false] 60);have be:=Blk.iV (w3.alloc (.cells #[.int .i64 x,.int .i64 y,.bool false] 60)) 60 #[.int .i64 x,.int .i64 (y+1),.bool false] (w3.heap.size+1) (by simp);clear zc_0 zc_1;obtain⟨d_0,d_1,d_2⟩:=bd.n3;obtain⟨e_0,e_1,e_2⟩:=be.n3;rcases a1 with _|_
        . skip;go_wp2_with fail
          refine(vC _ l x y false _ (h.Oz B3) Ha1.out).mono ?_;rintro e w4 ⟨rfl,hb4⟩;have B4:=B3.tr hb4;clear d_0 d_1 d_2 e_0 e_1 e_2;have bd:=bd.bl hb4;have be:=be.bl hb4;have bC:=bC.bl hb4;obtain⟨d_0,d_1,d_2⟩:=bd.n3;obtain⟨e_0,e_1,e_2⟩:=be.n3;go_wp2;go_roundw
          case rel=>exact⟨2,by omega,by omega,by go_num,OA ⟨fun _=>rfl,fun q=>by omega⟩,bC,B4⟩
          case measure=>simp[intOf]
        . skip;obtain⟨r4,hr4,c4⟩:=nY _ l x y false _ (h.Oz B3) Ha1.out;go_wp2_with fail
          refine(c4).mono ?_;rintro e w4 ⟨rfl,hb4⟩;have B4:=B3.tr hb4;clear d_0 d_1 d_2 e_0 e_1 e_2 c4;have bd:=bd.bl hb4;have be:=be.bl hb4;have bC:=bC.bl hb4;obtain⟨d_0,d_1,d_2⟩:=bd.n3;obtain⟨e_0,e_1,e_2⟩:=be.n3;rcases a2 with _|_
          . skip;go_wp2_with fail
            refine(vC _ l x (y+1) false _ (h.Oz B4) Ha2.out).mono ?_;rintro e w5 ⟨rfl,hb5⟩;have B5:=B4.tr hb5;clear d_0 d_1 d_2 e_0 e_1 e_2;have bd:=bd.bl hb5;have be:=be.bl hb5;have bC:=bC.bl hb5;obtain⟨d_0,d_1,d_2⟩:=bd.n3;obtain⟨e_0,e_1,e_2⟩:=be.n3;go_wp2;go_roundw
            case rel=>exact⟨2,by omega,by omega,by go_num,OA ⟨fun _=>rfl,fun q=>by omega⟩,bC,B5⟩
            case measure=>simp[intOf]
          . skip;obtain⟨r5,hr5,c5⟩:=nY _ l x (y+1) false _ (h.Oz B4) Ha2.out;go_wp2_with fail
            refine(c5).mono ?_;rintro e w5 ⟨rfl,hb5⟩;have B5:=B4.tr hb5;clear d_0 d_1 d_2 e_0 e_1 e_2 c5;have bd:=bd.bl hb5;have be:=be.bl hb5;have bC:=bC.bl hb5;obtain⟨d_0,d_1,d_2⟩:=bd.n3;obtain⟨e_0,e_1,e_2⟩:=be.n3;have HR:Hid ((1:Int)=((R:Nat):Int)):=OA (by rw[Hk.out];rfl);go_wp2;go_ret;exact⟨Gb HR.out,B5⟩
      . rw[show((2:Nat):Int)=2 from rfl];have haa:=Hg.out.1 (by omega);have Haa:=OA haa;clear haa;go_wp2_with fail
        refine(Cu x y _ Hinf.out).mono ?_;rintro e w3 ⟨rfl,hb3⟩;have B3:=((hbel.tr hb3).al (.cells #[.int .i64 x,.int .i64 y,.bool true] 60)).al (.cells #[.int .i64 (x+1),.int .i64 y,.bool true] 60);have bC:=((hC.bl hb3).alloc (.cells #[.int .i64 x,.int .i64 y,.bool true] 60)).alloc (.cells #[.int .i64 (x+1),.int .i64 y,.bool true] 60);have bd:=(Blk.bK w3 60 #[.int .i64 x,.int .i64 y,.bool true]).alloc (.cells #[.int .i64 (x+1),.int .i64 y,.bool true] 60);have be:=Blk.iV (w3.alloc (.cells #[.int .i64 x,.int .i64 y,.bool true] 60)) 60 #[.int .i64 (x+1),.int .i64 y,.bool true] (w3.heap.size+1) (by simp);clear zc_0 zc_1;obtain⟨d_0,d_1,d_2⟩:=bd.n3;obtain⟨e_0,e_1,e_2⟩:=be.n3;rcases d1 with _|_
        . skip;go_wp2_with fail
          refine(vC _ l x y true _ (h.Oz B3) Hd1.out).mono ?_;rintro e w4 ⟨rfl,hb4⟩;have B4:=B3.tr hb4;clear d_0 d_1 d_2 e_0 e_1 e_2;have bd:=bd.bl hb4;have be:=be.bl hb4;have bC:=bC.bl hb4;obtain⟨d_0,d_1,d_2⟩:=bd.n3;obtain⟨e_0,e_1,e_2⟩:=be.n3;go_wp2;go_roundw
          case rel=>exact⟨3,by omega,by omega,by go_num,OA ⟨fun _=>Haa.out,fun q=>rfl⟩,bC,B4⟩
          case measure=>simp[intOf]
        . skip;obtain⟨r4,hr4,c4⟩:=nY _ l x y true _ (h.Oz B3) Hd1.out;go_wp2_with fail
          refine(c4).mono ?_;rintro e w4 ⟨rfl,hb4⟩;have B4:=B3.tr hb4;clear d_0 d_1 d_2 e_0 e_1 e_2 c4;have bd:=bd.bl hb4;have be:=be.bl hb4;have bC:=bC.bl hb4;obtain⟨d_0,d_1,d_2⟩:=bd.n3;obtain⟨e_0,e_1,e_2⟩:=be.n3;rcases d2 with _|_
          . skip;go_wp2_with fail
            refine(vC _ l (x+1) y true _ (h.Oz B4) Hd2.out).mono ?_;rintro e w5 ⟨rfl,hb5⟩;have B5:=B4.tr hb5;clear d_0 d_1 d_2 e_0 e_1 e_2;have bd:=bd.bl hb5;have be:=be.bl hb5;have bC:=bC.bl hb5;obtain⟨d_0,d_1,d_2⟩:=bd.n3;obtain⟨e_0,e_1,e_2⟩:=be.n3;go_wp2;go_roundw
            case rel=>exact⟨3,by omega,by omega,by go_num,OA ⟨fun _=>Haa.out,fun q=>rfl⟩,bC,B5⟩
            case measure=>simp[intOf]
          . skip;obtain⟨r5,hr5,c5⟩:=nY _ l (x+1) y true _ (h.Oz B4) Hd2.out;go_wp2_with fail
            refine(c5).mono ?_;rintro e w5 ⟨rfl,hb5⟩;have B5:=B4.tr hb5;clear d_0 d_1 d_2 e_0 e_1 e_2 c5;have bd:=bd.bl hb5;have be:=be.bl hb5;have bC:=bC.bl hb5;obtain⟨d_0,d_1,d_2⟩:=bd.n3;obtain⟨e_0,e_1,e_2⟩:=be.n3;have HR:Hid ((2:Int)=((R:Nat):Int)):=OA (by rw[Hk.out,Haa.out];rfl);go_wp2;go_ret;exact⟨Gb HR.out,B5⟩
      . rw[show((3:Nat):Int)=3 from rfl];have HR:Hid ((0:Int)=((R:Nat):Int)):=OA (by rw[Hk.out,Hg.out.1 (by omega),Hg.out.2 (by omega)];rfl);go_wp2;go_ret;exact⟨Gb HR.out,hbel⟩
theorem Cx (v:Value) (l:List Dm) (x y:Int) (n:Nat) (w:World) (h:Rd 3 aU w v l) (hn:kindOf l (x,y)=n):Calls prog 85 #[v,.agg #[.int .i64 x,.int .i64 y]] w (Ret (.int .i64 n) w):=by
 have:=Ei v l x y w h;rw[hn]at this;exact this
def Jy (v:Value) (l:List Dm) (g h B:Nat) (w:World):Prop:=aC 60 3 aT B w v l/\v.ownBlock≠some g/\v.ownBlock≠some h
theorem Jy.drewN {v:Value} {l:List Dm} {g h B:Nat} {w:World} (o:Jy v l g h B w) (n:Nat):Jy v l g h B (w.drewN n):=⟨o.1.drewN n,o.2.1,o.2.2⟩
theorem Jy.app {v:Value} {l:List Dm} {g h B:Nat} {w w':World} {cells:Obj} {v':Value} {l':List Dm} {t1 t2:TypeId} {c1 c2:Array Value} (o:Jy v l g h B w) (o':aC 60 3 aT B w' v' l') (_hg:(w.alloc cells).grownBy w' v.ownBlock)
    (hd:v'.ownBlock=v.ownBlock∨v'.ownBlock=some (w.heap.size+1)) (b1:Blk w g t1 c1) (b2:Blk w h t2 c2):Jy v' l' g h B w':=by
 refine⟨o',?_,?_⟩
 . rcases hd with e|e
   . rw[e];exact o.2.1
   . rw[e];intro q;injection q with q;have:=b1.lt;omega
 . rcases hd with e|e
   . rw[e];exact o.2.2
   . rw[e];intro q;injection q with q;have:=b2.lt;omega
set_option maxHeartbeats 8000000 in
theorem oQ (v:Value) (l:List Dm) (x y:Int) (w:World) (h:Rd 3 aU w v l) (hl:Small l.length):Calls prog 156 #[v,.agg #[.int .i64 x,.int .i64 y]] w (iG 60 3 aT (iM l (x,y)).1 (iM l (x,y)).2 w):=by
 obtain⟨A,c,rfl,hc,hm⟩:=h.form;have hA:=(Below.refl w.heap.size w).al (.cells #[.int .i64 x,.int .i64 y] 70);have bC:=Blk.bK w 70 #[.int .i64 x,.int .i64 y];by_cases hk:kindOf l (x,y)=0
 . have e : iM l (x, y) = (l, false) := by unfold iM; rw [if_pos hk]
   rw[e];have Hk:=OA hk;clear hk e;have hs8:(0+l.length)*24<=140737488355328:=by unfold Small at hl;omega
   have hsm:0+l.length<=maxLen:=by have:=hl.max;omega
   have H8:=OA hs8;have HM:=OA hsm;clear hs8 hsm;go_enter func156,ntmps156
   go_wp2_with fail
   refine(Cx _ l x y 0 _ (h.Oz hA) Hk.out).mono ?_;rintro e w1 ⟨rfl,hb1⟩;have B1:=hA.tr hb1;have h1:=(h.Oz B1).Oz ((Below.refl _ _).al (.cells #[] 60));rw[show((0:Nat):Int)=0 from rfl];go_wp2_with (at_builtin;go_must (refine dY (enc:=aT) aI aB aM (B:=w1.heap.size) (by simp) (fB w1) h1 H8.out HM.out rfl _ _ rfl rfl rfl ?_);intro v2 w2 own2 hb2 hv2;obtain⟨A2,c2,rfl⟩:=hv2;simp only[nil_append,length_nil,zero_add]at own2)
   go_wp2;go_ret2
   exact⟨A2,c2,rfl,own2.mono B1.size,B1.tr (((Below.refl _ _).al _).trans hb2)⟩
 . have e : iM l (x, y) = (aS l (x, y), true) := by unfold iM; rw [if_neg hk]
   rw[e];have Hinf:=OA (Gh hk);clear e;have hkk:kindOf l (x,y)=1∨kindOf l (x,y)=2:=by have:=DN l (x,y);omega
   clear hk;rcases hkk with hkv|hkv
   . skip;have hkk:kindOf l (x,y)=1:=hkv;have Hkk:=OA hkk;clear hkk hkv;go_enter func156,ntmps156
     go_wp2_with fail
     refine(Cx _ l x y 1 _ (h.Oz hA) Hkk.out).mono ?_;rintro e w1 ⟨rfl,hb1⟩;have B1:=hA.tr hb1;have bC1:=bC.bl hb1;obtain⟨zc_0,zc_1⟩:=bC1.n2;go_wp2_with fail
     refine(Cv x y _ Hinf.out).mono ?_;rintro e w3 ⟨rfl,hb3⟩;have B3:=((B1.tr hb3).al (.cells #[.int .i64 x,.int .i64 y,.bool false] 60)).al (.cells #[.int .i64 x,.int .i64 (y+1),.bool false] 60);have bC3:=((bC1.bl hb3).alloc (.cells #[.int .i64 x,.int .i64 y,.bool false] 60)).alloc (.cells #[.int .i64 x,.int .i64 (y+1),.bool false] 60);have bd:=(Blk.bK w3 60 #[.int .i64 x,.int .i64 y,.bool false]).alloc (.cells #[.int .i64 x,.int .i64 (y+1),.bool false] 60);have be:=Blk.iV (w3.alloc (.cells #[.int .i64 x,.int .i64 y,.bool false] 60)) 60 #[.int .i64 x,.int .i64 (y+1),.bool false] (w3.heap.size+1) (by simp);clear zc_0 zc_1 bC1;obtain⟨zc_0,zc_1⟩:=bC3.n2;go_wp2_with fail
     refine(Cu x y _ Hinf.out).mono ?_;rintro e w4 ⟨rfl,hb4⟩;have B4:=((B3.tr hb4).al (.cells #[.int .i64 x,.int .i64 y,.bool true] 60)).al (.cells #[.int .i64 (x+1),.int .i64 y,.bool true] 60);have bd4:=((bd.bl hb4).alloc (.cells #[.int .i64 x,.int .i64 y,.bool true] 60)).alloc (.cells #[.int .i64 (x+1),.int .i64 y,.bool true] 60);have be4:=((be.bl hb4).alloc (.cells #[.int .i64 x,.int .i64 y,.bool true] 60)).alloc (.cells #[.int .i64 (x+1),.int .i64 y,.bool true] 60);have bu:=(Blk.bK w4 60 #[.int .i64 x,.int .i64 y,.bool true]).alloc (.cells #[.int .i64 (x+1),.int .i64 y,.bool true] 60);have bv:=Blk.iV (w4.alloc (.cells #[.int .i64 x,.int .i64 y,.bool true] 60)) 60 #[.int .i64 (x+1),.int .i64 y,.bool true] (w4.heap.size+1) (by simp);clear zc_0 zc_1 bC3 bd be;obtain⟨u_0,u_1,u_2⟩:=bu.n3;obtain⟨t_0,t_1,t_2⟩:=bv.n3;go_wp2_with fail
     obtain⟨W5,hW5⟩:=Oy ((w4.alloc (.cells #[.int .i64 x,.int .i64 y,.bool true] 60)).alloc (.cells #[.int .i64 (x+1),.int .i64 y,.bool true] 60));have hs5:W5.heap.size=w4.heap.size+1+1:=by rw[hW5];simp
     rw[<-hW5]at B4 bd4 be4⊢;rw[<-hs5];obtain⟨g8,hg8⟩:=Oy (w3.heap.size+1);obtain⟨g7,hg7⟩:=Oy w3.heap.size;have hg70:w.heap.size<=g7:=by have:=(B1.tr hb3).size;omega
     have hg80:w.heap.size<=g8:=(by omega);rw[<-hg8]at be4⊢;rw[<-hg7]at bd4⊢;obtain⟨gx,hgx⟩:∃n:Int,n=x:=⟨_,rfl⟩;obtain⟨gy,hgy⟩:∃n:Int,n=y:=⟨_,rfl⟩;obtain⟨gb,hgb⟩:∃n:Bool,n=false:=⟨_,rfl⟩;obtain⟨kx,hkx⟩:∃n:Int,n=x:=⟨_,rfl⟩;obtain⟨ky,hky⟩:∃n:Int,n=(y+1):=⟨_,rfl⟩;obtain⟨kb,hkb⟩:∃n:Bool,n=false:=⟨_,rfl⟩;have b7:Blk W5 g7 60 #[.int .i64 gx,.int .i64 gy,.bool gb]:=by rw[hgx,hgy,hgb];exact bd4
     have b8:Blk W5 g8 60 #[.int .i64 kx,.int .i64 ky,.bool kb]:=by rw[hkx,hky,hkb];exact be4
     have HGN:Hid (lT (kindOf l (x,y)) (x,y)=((gx,gy,gb),(kx,ky,kb))/\nJ (kindOf l (x,y)) (x,y)=((x,y,true),((x+1),y,true))):=OA (by rw[Hkk.out,hgx,hgy,hgb,hkx,hky,hkb];exact⟨rfl,rfl⟩);clear hgx hgy hgb hkx hky hkb bd4 be4 bu bv hW5 hs5 hg7 hg8 u_0 u_1 u_2 t_0 t_1 t_2;have own0:aC 60 3 aT w.heap.size (W5.alloc (.cells #[.int .i64 x,.int .i64 y,.bool true,.int .i64 (x+1),.int .i64 y,.bool true] 60)) (.slice (some ⟨W5.heap.size,0,none⟩) 2 2) [((x,y,true):Dm),((x+1),y,true)]:=xO _ (x,y,true) ((x+1),y,true) _ B4.size;have hne7:ownBlock (.slice (some ⟨W5.heap.size,0,none⟩) 2 2)≠some g7:=by have:=b7.lt;simp[ownBlock];omega
     have hne8:ownBlock (.slice (some ⟨W5.heap.size,0,none⟩) 2 2)≠some g8:=by have:=b8.lt;simp[ownBlock];omega
     have b70:=b7.alloc (.cells #[.int .i64 x,.int .i64 y,.bool true,.int .i64 (x+1),.int .i64 y,.bool true] 60);have b80:=b8.alloc (.cells #[.int .i64 x,.int .i64 y,.bool true,.int .i64 (x+1),.int .i64 y,.bool true] 60);have B0:=B4.al (.cells #[.int .i64 x,.int .i64 y,.bool true,.int .i64 (x+1),.int .i64 y,.bool true] 60);go_loopw [11,12] (fun s8 s43 wr=>∃(k:Nat) (out:List Dm) (A8:Option Addr) (c8:Nat),k<=l.length/\out.length<=k+2/\s43= .int .i64 k/\s8= .slice A8 out.length c8/\Hid (out++(l.drop k).filter (keepD ((gx,gy,gb),(kx,ky,kb)))=iF l ((gx,gy,gb),(kx,ky,kb)) ((x,y,true),((x+1),y,true)))/\Jy (.slice A8 out.length c8) out g7 g8 w.heap.size wr/\Blk wr g7 60 #[.int .i64 gx,.int .i64 gy,.bool gb]/\Blk wr g8 60 #[.int .i64 kx,.int .i64 ky,.bool kb]/\Below w.heap.size w wr) (fun _ i _=>l.length-(intOf i).toNat)
     case atStart=>exact⟨0,[((x,y,true):Dm),((x+1),y,true)],_,_,zero_le _,by simp,rfl,rfl,OA rfl,⟨own0,hne7,hne8⟩,b70,b80,B0⟩
     case round=>
      obtain⟨k,out,A8,c8,hk,hol,rfl,rfl,Hg,hown,hb7,hb8,hbel⟩:=hrel;clear own0 b70 b80 B0 hne7 hne8;by_cases hlt:k<l.length
      . have hltI : (k : Int) < (l.length : Int) := by omega
        obtain⟨b,off,rfl,hb,q1,q2,q3⟩:=(h.Oz hbel).jJ hlt;have hg:=Hg.out;rw[drop_eq_getElem_cons hlt,List.filter_cons]at hg;obtain⟨d,hd⟩:=Oy (l[k]);rw[<-hd]at q1 q2 q3 hg;obtain⟨ex,ey,ed⟩:=d;simp only at q1 q2 q3
        have QF : Hid (∀ wX : World, Below w.heap.size w wX -> b < wX.heap.size /\ wX.cell? ⟨b, off + k * 3, none⟩ = some (.int .i64 ex) /\ wX.cell? ⟨b, off + k * 3 + 1, none⟩ = some (.int .i64 ey) /\ wX.cell? ⟨b, off + k * 3 + 2, none⟩ = some (.bool ed)) := OA (fun wX hX => by
         obtain⟨b9,off9,e9,r0,r1,r2,r3⟩:=(h.Oz hX).jJ hlt;injection e9 with e9;injection e9 with e91 e92 _;subst e91;subst e92;rw[<-hd]at r1 r2 r3;exact⟨r0,r1,r2,r3⟩)
        obtain⟨u_0,u_1,u_2⟩:=hb7.n3;obtain⟨t_0,t_1,t_2⟩:=hb8.n3;have H8:Hid ((out.length+1)*24<=140737488355328):=OA (by unfold Small at hl;omega);have HM:Hid (out.length+1<=maxLen):=OA (by unfold Small at hl;unfold maxLen;omega);clear hd;by_cases e1:((ex,ey,ed):Dm)=(gx,gy,gb)
        . rw [if_neg (by rw [e1]; simp [keepD])] at hg;have Hg2:=OA hg;clear hg;simp only[Prod.mk.injEq]at e1;obtain⟨rfl,rfl,rfl⟩:=e1;go_wp2_with fail
          go_quiet (fail)
          go_wp2;go_roundw
          case rel=>exact⟨k+1,out,A8,c8,by omega,by omega,by go_num,rfl,Hg2,hown.drewN _,hb7.drewN _,hb8.drewN _,below_drewN hbel _⟩
          case measure=>simp[intOf];omega
        . by_cases e2:((ex,ey,ed):Dm)=(kx,ky,kb)
          . rw [if_neg (by rw [e2]; simp [keepD])] at hg;have Hg2:=OA hg;clear hg;simp only[Prod.mk.injEq]at e2;obtain⟨rfl,rfl,rfl⟩:=e2;rcases iZ e1 with p|⟨rfl,p⟩|⟨rfl,rfl,p⟩
            . clear e1;go_wp2_with fail
              go_quiet (fail)
              go_wp2;go_roundw
              case rel=>exact⟨k+1,out,A8,c8,by omega,by omega,by go_num,rfl,Hg2,hown.drewN _,hb7.drewN _,hb8.drewN _,below_drewN hbel _⟩
              case measure=>simp[intOf];omega
            . clear e1;go_wp2_with fail
              go_quiet (fail)
              go_wp2;go_roundw
              case rel=>exact⟨k+1,out,A8,c8,by omega,by omega,by go_num,rfl,Hg2,hown.drewN _,hb7.drewN _,hb8.drewN _,below_drewN hbel _⟩
              case measure=>simp[intOf];omega
            . clear e1;go_wp2_with fail
              go_quiet (fail)
              go_wp2;go_roundw
              case rel=>exact⟨k+1,out,A8,c8,by omega,by omega,by go_num,rfl,Hg2,hown.drewN _,hb7.drewN _,hb8.drewN _,below_drewN hbel _⟩
              case measure=>simp[intOf];omega
          . rw [if_pos (by simp only [keepD, decide_eq_false e1, decide_eq_false e2]; rfl), <- List.singleton_append, <- List.append_assoc] at hg;have Hg2:=OA hg;clear hg;rcases iZ e1 with p|⟨rfl,p⟩|⟨rfl,rfl,p⟩<;>rcases iZ e2 with q|⟨rfl,q⟩|⟨rfl,rfl,q⟩
            all_goals
              clear e1 e2;go_wp2_with fail
              go_quiet (fail)
              obtain⟨wd,hwd⟩:=Oy (wr.drewN nq);have own1:=hown.drewN nq;have b71:=hb7.drewN nq;have b81:=hb8.drewN nq;have B1':=below_drewN hbel nq;rw[<-hwd]at own1 b71 b81 B1'⊢;clear hwd hb q1 q2 q3 u_0 u_1 u_2 t_0 t_1 t_2;obtain⟨hb,q1,q2,q3⟩:=QF.out _ B1';go_wp2_with (at_builtin;go_must (first|(refine aG (enc:=aT) aI aB aM B1' own1.1 ((ex,ey,ed):Dm) H8.out HM.out rfl _ _ rfl rfl rfl ?_)|(refine aG (enc:=aT) aI aB aM B1' own1.1 ((ex,gy,ed):Dm) H8.out HM.out rfl _ _ rfl rfl rfl ?_)|(refine aG (enc:=aT) aI aB aM B1' own1.1 ((ex,ky,ed):Dm) H8.out HM.out rfl _ _ rfl rfl rfl ?_)|(refine aG (enc:=aT) aI aB aM B1' own1.1 ((gx,ey,ed):Dm) H8.out HM.out rfl _ _ rfl rfl rfl ?_)|(refine aG (enc:=aT) aI aB aM B1' own1.1 ((gx,gy,ed):Dm) H8.out HM.out rfl _ _ rfl rfl rfl ?_)|(refine aG (enc:=aT) aI aB aM B1' own1.1 ((gx,ky,ed):Dm) H8.out HM.out rfl _ _ rfl rfl rfl ?_)|(refine aG (enc:=aT) aI aB aM B1' own1.1 ((kx,ey,ed):Dm) H8.out HM.out rfl _ _ rfl rfl rfl ?_)|(refine aG (enc:=aT) aI aB aM B1' own1.1 ((kx,gy,ed):Dm) H8.out HM.out rfl _ _ rfl rfl rfl ?_)|(refine aG (enc:=aT) aI aB aM B1' own1.1 ((kx,ky,ed):Dm) H8.out HM.out rfl _ _ rfl rfl rfl ?_));intro v4 w4 own4 hb4 hg4 hd4;obtain⟨A4,c4,rfl,hc4,hm4⟩:=own4.form)
              have ownF4:=own1.app own4 hg4 hd4 b71 b81;have b74:=(b71.alloc _).grown hg4 (fun e=>own1.2.1 e.symm);have b84:=(b81.alloc _).grown hg4 (fun e=>own1.2.2 e.symm);go_roundw
              case rel=>exact⟨k+1,_,A4,c4,by omega,by simp;omega,by go_num,by simp,Hg2,ownF4,b74,b84,hb4⟩
              case measure=>simp[intOf];omega
      . obtain rfl : k = l.length := by omega
        have hg:=Hg.out;rw[drop_of_length_le (le_refl _),List.filter_nil,List.append_nil]at hg;have Hout:=OA hg;clear hg;go_wp2_with fail
        refine(Eh _ out _ (hown.1.rd aB (by decide))).mono ?_;rintro e w70 ⟨A70,c70,rfl,own70,hb70⟩;go_wp2;go_ret2
        have e9:iL out=aS l (x,y):=by rw[Hout.out];unfold aS;rw[HGN.out.1,HGN.out.2]
        rw[e9]at own70⊢;exact⟨A70,c70,rfl,own70.mono hbel.size,hbel.tr hb70⟩
   . skip;have hkk:kindOf l (x,y)=2:=hkv;have Hkk:=OA hkk;clear hkk hkv;go_enter func156,ntmps156
     go_wp2_with fail
     refine(Cx _ l x y 2 _ (h.Oz hA) Hkk.out).mono ?_;rintro e w1 ⟨rfl,hb1⟩;have B1:=hA.tr hb1;have bC1:=bC.bl hb1;obtain⟨zc_0,zc_1⟩:=bC1.n2;go_wp2_with fail
     refine(Cu x y _ Hinf.out).mono ?_;rintro e w3 ⟨rfl,hb3⟩;have B3:=((B1.tr hb3).al (.cells #[.int .i64 x,.int .i64 y,.bool true] 60)).al (.cells #[.int .i64 (x+1),.int .i64 y,.bool true] 60);have bC3:=((bC1.bl hb3).alloc (.cells #[.int .i64 x,.int .i64 y,.bool true] 60)).alloc (.cells #[.int .i64 (x+1),.int .i64 y,.bool true] 60);have bd:=(Blk.bK w3 60 #[.int .i64 x,.int .i64 y,.bool true]).alloc (.cells #[.int .i64 (x+1),.int .i64 y,.bool true] 60);have be:=Blk.iV (w3.alloc (.cells #[.int .i64 x,.int .i64 y,.bool true] 60)) 60 #[.int .i64 (x+1),.int .i64 y,.bool true] (w3.heap.size+1) (by simp);clear zc_0 zc_1 bC1;obtain⟨zc_0,zc_1⟩:=bC3.n2;go_wp2_with fail
     refine(Cv x y _ Hinf.out).mono ?_;rintro e w4 ⟨rfl,hb4⟩;have B4:=((B3.tr hb4).al (.cells #[.int .i64 x,.int .i64 y,.bool false] 60)).al (.cells #[.int .i64 x,.int .i64 (y+1),.bool false] 60);have bd4:=((bd.bl hb4).alloc (.cells #[.int .i64 x,.int .i64 y,.bool false] 60)).alloc (.cells #[.int .i64 x,.int .i64 (y+1),.bool false] 60);have be4:=((be.bl hb4).alloc (.cells #[.int .i64 x,.int .i64 y,.bool false] 60)).alloc (.cells #[.int .i64 x,.int .i64 (y+1),.bool false] 60);have bu:=(Blk.bK w4 60 #[.int .i64 x,.int .i64 y,.bool false]).alloc (.cells #[.int .i64 x,.int .i64 (y+1),.bool false] 60);have bv:=Blk.iV (w4.alloc (.cells #[.int .i64 x,.int .i64 y,.bool false] 60)) 60 #[.int .i64 x,.int .i64 (y+1),.bool false] (w4.heap.size+1) (by simp);clear zc_0 zc_1 bC3 bd be;obtain⟨u_0,u_1,u_2⟩:=bu.n3;obtain⟨t_0,t_1,t_2⟩:=bv.n3;go_wp2_with fail
     obtain⟨W5,hW5⟩:=Oy ((w4.alloc (.cells #[.int .i64 x,.int .i64 y,.bool false] 60)).alloc (.cells #[.int .i64 x,.int .i64 (y+1),.bool false] 60));have hs5:W5.heap.size=w4.heap.size+1+1:=by rw[hW5];simp
     rw[<-hW5]at B4 bd4 be4⊢;rw[<-hs5];obtain⟨g8,hg8⟩:=Oy (w3.heap.size+1);obtain⟨g7,hg7⟩:=Oy w3.heap.size;have hg70:w.heap.size<=g7:=by have:=(B1.tr hb3).size;omega
     have hg80:w.heap.size<=g8:=(by omega);rw[<-hg8]at be4⊢;rw[<-hg7]at bd4⊢;obtain⟨gx,hgx⟩:∃n:Int,n=x:=⟨_,rfl⟩;obtain⟨gy,hgy⟩:∃n:Int,n=y:=⟨_,rfl⟩;obtain⟨gb,hgb⟩:∃n:Bool,n=true:=⟨_,rfl⟩;obtain⟨kx,hkx⟩:∃n:Int,n=(x+1):=⟨_,rfl⟩;obtain⟨ky,hky⟩:∃n:Int,n=y:=⟨_,rfl⟩;obtain⟨kb,hkb⟩:∃n:Bool,n=true:=⟨_,rfl⟩;have b7:Blk W5 g7 60 #[.int .i64 gx,.int .i64 gy,.bool gb]:=by rw[hgx,hgy,hgb];exact bd4
     have b8:Blk W5 g8 60 #[.int .i64 kx,.int .i64 ky,.bool kb]:=by rw[hkx,hky,hkb];exact be4
     have HGN:Hid (lT (kindOf l (x,y)) (x,y)=((gx,gy,gb),(kx,ky,kb))/\nJ (kindOf l (x,y)) (x,y)=((x,y,false),(x,(y+1),false))):=OA (by rw[Hkk.out,hgx,hgy,hgb,hkx,hky,hkb];exact⟨rfl,rfl⟩);clear hgx hgy hgb hkx hky hkb bd4 be4 bu bv hW5 hs5 hg7 hg8 u_0 u_1 u_2 t_0 t_1 t_2;have own0:aC 60 3 aT w.heap.size (W5.alloc (.cells #[.int .i64 x,.int .i64 y,.bool false,.int .i64 x,.int .i64 (y+1),.bool false] 60)) (.slice (some ⟨W5.heap.size,0,none⟩) 2 2) [((x,y,false):Dm),(x,(y+1),false)]:=xO _ (x,y,false) (x,(y+1),false) _ B4.size;have hne7:ownBlock (.slice (some ⟨W5.heap.size,0,none⟩) 2 2)≠some g7:=by have:=b7.lt;simp[ownBlock];omega
     have hne8:ownBlock (.slice (some ⟨W5.heap.size,0,none⟩) 2 2)≠some g8:=by have:=b8.lt;simp[ownBlock];omega
     have b70:=b7.alloc (.cells #[.int .i64 x,.int .i64 y,.bool false,.int .i64 x,.int .i64 (y+1),.bool false] 60);have b80:=b8.alloc (.cells #[.int .i64 x,.int .i64 y,.bool false,.int .i64 x,.int .i64 (y+1),.bool false] 60);have B0:=B4.al (.cells #[.int .i64 x,.int .i64 y,.bool false,.int .i64 x,.int .i64 (y+1),.bool false] 60);go_loopw [11,12] (fun s8 s43 wr=>∃(k:Nat) (out:List Dm) (A8:Option Addr) (c8:Nat),k<=l.length/\out.length<=k+2/\s43= .int .i64 k/\s8= .slice A8 out.length c8/\Hid (out++(l.drop k).filter (keepD ((gx,gy,gb),(kx,ky,kb)))=iF l ((gx,gy,gb),(kx,ky,kb)) ((x,y,false),(x,(y+1),false)))/\Jy (.slice A8 out.length c8) out g7 g8 w.heap.size wr/\Blk wr g7 60 #[.int .i64 gx,.int .i64 gy,.bool gb]/\Blk wr g8 60 #[.int .i64 kx,.int .i64 ky,.bool kb]/\Below w.heap.size w wr) (fun _ i _=>l.length-(intOf i).toNat)
     case atStart=>exact⟨0,[((x,y,false):Dm),(x,(y+1),false)],_,_,zero_le _,by simp,rfl,rfl,OA rfl,⟨own0,hne7,hne8⟩,b70,b80,B0⟩
     case round=>
      obtain⟨k,out,A8,c8,hk,hol,rfl,rfl,Hg,hown,hb7,hb8,hbel⟩:=hrel;clear own0 b70 b80 B0 hne7 hne8;by_cases hlt:k<l.length
      . have hltI : (k : Int) < (l.length : Int) := by omega
        obtain⟨b,off,rfl,hb,q1,q2,q3⟩:=(h.Oz hbel).jJ hlt;have hg:=Hg.out;rw[drop_eq_getElem_cons hlt,List.filter_cons]at hg;obtain⟨d,hd⟩:=Oy (l[k]);rw[<-hd]at q1 q2 q3 hg;obtain⟨ex,ey,ed⟩:=d;simp only at q1 q2 q3
        have QF : Hid (∀ wX : World, Below w.heap.size w wX -> b < wX.heap.size /\ wX.cell? ⟨b, off + k * 3, none⟩ = some (.int .i64 ex) /\ wX.cell? ⟨b, off + k * 3 + 1, none⟩ = some (.int .i64 ey) /\ wX.cell? ⟨b, off + k * 3 + 2, none⟩ = some (.bool ed)) := OA (fun wX hX => by
         obtain⟨b9,off9,e9,r0,r1,r2,r3⟩:=(h.Oz hX).jJ hlt;injection e9 with e9;injection e9 with e91 e92 _;subst e91;subst e92;rw[<-hd]at r1 r2 r3;exact⟨r0,r1,r2,r3⟩)
        obtain⟨u_0,u_1,u_2⟩:=hb7.n3;obtain⟨t_0,t_1,t_2⟩:=hb8.n3;have H8:Hid ((out.length+1)*24<=140737488355328):=OA (by unfold Small at hl;omega);have HM:Hid (out.length+1<=maxLen):=OA (by unfold Small at hl;unfold maxLen;omega);clear hd;by_cases e1:((ex,ey,ed):Dm)=(gx,gy,gb)
        . rw [if_neg (by rw [e1]; simp [keepD])] at hg;have Hg2:=OA hg;clear hg;simp only[Prod.mk.injEq]at e1;obtain⟨rfl,rfl,rfl⟩:=e1;go_wp2_with fail
          go_quiet (fail)
          go_wp2;go_roundw
          case rel=>exact⟨k+1,out,A8,c8,by omega,by omega,by go_num,rfl,Hg2,hown.drewN _,hb7.drewN _,hb8.drewN _,below_drewN hbel _⟩
          case measure=>simp[intOf];omega
        . by_cases e2:((ex,ey,ed):Dm)=(kx,ky,kb)
          . rw [if_neg (by rw [e2]; simp [keepD])] at hg;have Hg2:=OA hg;clear hg;simp only[Prod.mk.injEq]at e2;obtain⟨rfl,rfl,rfl⟩:=e2;rcases iZ e1 with p|⟨rfl,p⟩|⟨rfl,rfl,p⟩
            . clear e1;go_wp2_with fail
              go_quiet (fail)
              go_wp2;go_roundw
              case rel=>exact⟨k+1,out,A8,c8,by omega,by omega,by go_num,rfl,Hg2,hown.drewN _,hb7.drewN _,hb8.drewN _,below_drewN hbel _⟩
              case measure=>simp[intOf];omega
            . clear e1;go_wp2_with fail
              go_quiet (fail)
              go_wp2;go_roundw
              case rel=>exact⟨k+1,out,A8,c8,by omega,by omega,by go_num,rfl,Hg2,hown.drewN _,hb7.drewN _,hb8.drewN _,below_drewN hbel _⟩
              case measure=>simp[intOf];omega
            . clear e1;go_wp2_with fail
              go_quiet (fail)
              go_wp2;go_roundw
              case rel=>exact⟨k+1,out,A8,c8,by omega,by omega,by go_num,rfl,Hg2,hown.drewN _,hb7.drewN _,hb8.drewN _,below_drewN hbel _⟩
              case measure=>simp[intOf];omega
          . rw [if_pos (by simp only [keepD, decide_eq_false e1, decide_eq_false e2]; rfl), <- List.singleton_append, <- List.append_assoc] at hg;have Hg2:=OA hg;clear hg;rcases iZ e1 with p|⟨rfl,p⟩|⟨rfl,rfl,p⟩<;>rcases iZ e2 with q|⟨rfl,q⟩|⟨rfl,rfl,q⟩
            all_goals
              clear e1 e2;go_wp2_with fail
              go_quiet (fail)
              obtain⟨wd,hwd⟩:=Oy (wr.drewN nq);have own1:=hown.drewN nq;have b71:=hb7.drewN nq;have b81:=hb8.drewN nq;have B1':=below_drewN hbel nq;rw[<-hwd]at own1 b71 b81 B1'⊢;clear hwd hb q1 q2 q3 u_0 u_1 u_2 t_0 t_1 t_2;obtain⟨hb,q1,q2,q3⟩:=QF.out _ B1';go_wp2_with (at_builtin;go_must (first|(refine aG (enc:=aT) aI aB aM B1' own1.1 ((ex,ey,ed):Dm) H8.out HM.out rfl _ _ rfl rfl rfl ?_)|(refine aG (enc:=aT) aI aB aM B1' own1.1 ((ex,gy,ed):Dm) H8.out HM.out rfl _ _ rfl rfl rfl ?_)|(refine aG (enc:=aT) aI aB aM B1' own1.1 ((ex,ky,ed):Dm) H8.out HM.out rfl _ _ rfl rfl rfl ?_)|(refine aG (enc:=aT) aI aB aM B1' own1.1 ((gx,ey,ed):Dm) H8.out HM.out rfl _ _ rfl rfl rfl ?_)|(refine aG (enc:=aT) aI aB aM B1' own1.1 ((gx,gy,ed):Dm) H8.out HM.out rfl _ _ rfl rfl rfl ?_)|(refine aG (enc:=aT) aI aB aM B1' own1.1 ((gx,ky,ed):Dm) H8.out HM.out rfl _ _ rfl rfl rfl ?_)|(refine aG (enc:=aT) aI aB aM B1' own1.1 ((kx,ey,ed):Dm) H8.out HM.out rfl _ _ rfl rfl rfl ?_)|(refine aG (enc:=aT) aI aB aM B1' own1.1 ((kx,gy,ed):Dm) H8.out HM.out rfl _ _ rfl rfl rfl ?_)|(refine aG (enc:=aT) aI aB aM B1' own1.1 ((kx,ky,ed):Dm) H8.out HM.out rfl _ _ rfl rfl rfl ?_));intro v4 w4 own4 hb4 hg4 hd4;obtain⟨A4,c4,rfl,hc4,hm4⟩:=own4.form)
              have ownF4:=own1.app own4 hg4 hd4 b71 b81;have b74:=(b71.alloc _).grown hg4 (fun e=>own1.2.1 e.symm);have b84:=(b81.alloc _).grown hg4 (fun e=>own1.2.2 e.symm);go_roundw
              case rel=>exact⟨k+1,_,A4,c4,by omega,by simp;omega,by go_num,by simp,Hg2,ownF4,b74,b84,hb4⟩
              case measure=>simp[intOf];omega
      . obtain rfl : k = l.length := by omega
        have hg:=Hg.out;rw[drop_of_length_le (le_refl _),List.filter_nil,List.append_nil]at hg;have Hout:=OA hg;clear hg;go_wp2_with fail
        refine(Eh _ out _ (hown.1.rd aB (by decide))).mono ?_;rintro e w70 ⟨A70,c70,rfl,own70,hb70⟩;go_wp2;go_ret2
        have e9:iL out=aS l (x,y):=by rw[Hout.out];unfold aS;rw[HGN.out.1,HGN.out.2]
        rw[e9]at own70⊢;exact⟨A70,c70,rfl,own70.mono hbel.size,hbel.tr hb70⟩
theorem Bz (v:Value) (l:List Dm) (x y:Int) (w:World) (h:Rd 3 aU w v l) (hl:Small l.length) (hk:kindOf l (x,y)=0):Calls prog 156 #[v,.agg #[.int .i64 x,.int .i64 y]] w (iG 60 3 aT l false w):=by
 have:=oQ v l x y w h hl;unfold iM at this;rw[if_pos hk]at this;exact this
theorem tJ (v:Value) (l:List Dm) (x y:Int) (w:World) (h:Rd 3 aU w v l) (hl:Small l.length) (hk:¬kindOf l (x,y)=0):Calls prog 156 #[v,.agg #[.int .i64 x,.int .i64 y]] w (iG 60 3 aT (aS l (x,y)) true w):=by
 have:=oQ v l x y w h hl;unfold iM at this;rw[if_neg hk]at this;exact this
theorem EN (v u:Value) (l:List Dm) (cs:List Cl) (w:World) (h:Rd 3 aU w v l) (h2:Rd 2 bT w u cs) (hl:Small l.length):Calls prog 196 #[v,u] w (iG 60 3 aT (dD l cs).1 (dD l cs).2 w):=by
 obtain⟨A,c,rfl,hc,hm⟩:=h.form;obtain⟨A2,c2,rfl,hc2,hm2⟩:=h2.form;have hs8:(0+l.length)*24<=140737488355328:=by unfold Small at hl;omega
 have hsm:0+l.length<=maxLen:=by have:=hl.max;omega
 have H8:=OA hs8;have HM:=OA hsm;clear hs8 hsm;have hR:=Below.refl w.heap.size w;by_cases hgt:cs.length>200
 . have e : dD l cs = (l, false) := by unfold dD; rw [if_pos hgt]
   rw[e];have hgI:(200:Int)<(cs.length:Int):=(by omega);have h0I:(0:Int)<(cs.length:Int):=(by omega);clear e;go_enter func196,ntmps196
   have h1:=(h.Oz hR).Oz ((Below.refl _ _).al (.cells #[] 60));go_wp2_with (at_builtin;go_must (refine dY (enc:=aT) aI aB aM (B:=w.heap.size) (by simp) (fB w) h1 H8.out HM.out rfl _ _ rfl rfl rfl ?_);intro v1 w1 own1 hb1 hv1;obtain⟨A1,c1,rfl⟩:=hv1;simp only[nil_append,length_nil,zero_add]at own1)
   have B1:=hR.tr (((Below.refl _ _).al (.cells #[] 60)).trans hb1);go_wp2;go_loopw [6,7] (fun s6 s7 wr=>s7= .int .i64 0/\s6= .slice A1 l.length c1/\aC 60 3 aT w.heap.size wr (.slice A1 l.length c1) l/\Below w.heap.size w wr) (fun _ _ _=>0)
   case atStart=>exact⟨rfl,rfl,own1,B1⟩
   case round=>
    obtain⟨rfl,rfl,hown,hbel⟩:=hrel;clear own1 B1;obtain⟨b,off,rfl,hb,q1,q2⟩:=(h2.Oz hbel).eZ (k:=0) (by omega);obtain⟨d,hd⟩:=Oy (cs[0]);rw[<-hd]at q1 q2;obtain⟨cx,cy⟩:=d;simp only[Nat.zero_mul,add_zero]at q1 q2;clear hd;by_cases hkd:kindOf l (cx,cy)=0
    . have Hkd:=OA hkd;clear hkd;go_wp2_with fail
      refine(Bz _ l cx cy _ (hown.rd aB (by decide)) hl Hkd.out).mono ?_;rintro e w2 ⟨A3,c3,rfl,own3,hb2⟩;have B2:=hbel.tr hb2;have h5:=(h.Oz B2).Oz ((Below.refl _ _).al (.cells #[] 60));go_wp2_with (at_builtin;go_must (refine dY (enc:=aT) aI aB aM (B:=w2.heap.size) (by simp) (fB w2) h5 H8.out HM.out rfl _ _ rfl rfl rfl ?_);intro v5 w5 own5 hb5 hv5;obtain⟨A5,c5,rfl⟩:=hv5;simp only[nil_append,length_nil,zero_add]at own5)
      have B5:=B2.tr (((Below.refl _ _).al (.cells #[] 60)).trans hb5);go_wp2;go_ret2
      exact⟨A5,c5,rfl,own5.mono B2.size,B5⟩
    . have Hkd:=OA hkd;clear hkd;go_wp2_with fail
      refine(tJ _ l cx cy _ (hown.rd aB (by decide)) hl Hkd.out).mono ?_;rintro e w2 ⟨A3,c3,rfl,own3,hb2⟩;have B2:=hbel.tr hb2;have h5:=(h.Oz B2).Oz ((Below.refl _ _).al (.cells #[] 60));go_wp2_with (at_builtin;go_must (refine dY (enc:=aT) aI aB aM (B:=w2.heap.size) (by simp) (fB w2) h5 H8.out HM.out rfl _ _ rfl rfl rfl ?_);intro v5 w5 own5 hb5 hv5;obtain⟨A5,c5,rfl⟩:=hv5;simp only[nil_append,length_nil,zero_add]at own5)
      have B5:=B2.tr (((Below.refl _ _).al (.cells #[] 60)).trans hb5);go_wp2;go_ret2
      exact⟨A5,c5,rfl,own5.mono B2.size,B5⟩
 . have hgI : (cs.length : Int) <= 200 := by omega
   obtain⟨F1,hF1⟩:=Oy ((dD l cs).1);obtain⟨F2,hF2⟩:=Oy ((dD l cs).2);rw[<-hF1,<-hF2];have HF1:=OA hF1;have HF2:=OA hF2;have Hgt:=OA hgt;clear hF1 hF2 hgt;go_enter func196,ntmps196
   have h1:=(h.Oz hR).Oz ((Below.refl _ _).al (.cells #[] 60));go_wp2_with (at_builtin;go_must (refine dY (enc:=aT) aI aB aM (B:=w.heap.size) (by simp) (fB w) h1 H8.out HM.out rfl _ _ rfl rfl rfl ?_);intro v1 w1 own1 hb1 hv1;obtain⟨A1,c1,rfl⟩:=hv1;simp only[nil_append,length_nil,zero_add]at own1)
   have B1:=hR.tr (((Below.refl _ _).al (.cells #[] 60)).trans hb1);go_wp2;go_loopw [6,7] (fun s6 s20 wr=>∃(k:Nat) (m:List Dm) (A6:Option Addr) (c6:Nat),k<=cs.length/\s20= .int .i64 k/\s6= .slice A6 m.length c6/\Hid (fJ m (cs.drop k)=fJ l cs)/\Hid (Small m.length)/\aC 60 3 aT w.heap.size wr (.slice A6 m.length c6) m/\Below w.heap.size w wr) (fun _ i _=>cs.length-(intOf i).toNat)
   case atStart=>exact⟨0,l,A1,c1,zero_le _,rfl,rfl,OA rfl,OA hl,own1,B1⟩
   case round=>
    obtain⟨k,m,A6,c6,hk,rfl,rfl,Hg,Hs,hown,hbel⟩:=hrel;clear own1 hb1 B1;by_cases hlt:k<cs.length
    . have hltI : (k : Int) < (cs.length : Int) := by omega
      obtain⟨b,off,rfl,hb,q1,q2⟩:=(h2.Oz hbel).eZ hlt;have hg:=Hg.out;rw[drop_eq_getElem_cons hlt,sV]at hg;obtain⟨d,hd⟩:=Oy (cs[k]);rw[<-hd]at q1 q2 hg;obtain⟨cx,cy⟩:=d;simp only at q1 q2;clear hd;by_cases hkd:kindOf m (cx,cy)=0
      . rw[if_pos hkd]at hg;have hfa:=wG Hgt.out hg.symm;have Hkd:=OA hkd;have Hfa:=OA hfa;clear hkd hg hfa;go_wp2_with fail
        refine(Bz _ m cx cy _ (hown.rd aB (by decide)) Hs.out Hkd.out).mono ?_;rintro e w2 ⟨A3,c3,rfl,own3,hb2⟩;have B2:=hbel.tr hb2;have h5:=(h.Oz B2).Oz ((Below.refl _ _).al (.cells #[] 60));go_wp2_with (at_builtin;go_must (refine dY (enc:=aT) aI aB aM (B:=w2.heap.size) (by simp) (fB w2) h5 H8.out HM.out rfl _ _ rfl rfl rfl ?_);intro v5 w5 own5 hb5 hv5;obtain⟨A5,c5,rfl⟩:=hv5;simp only[nil_append,length_nil,zero_add]at own5)
        have B5:=B2.tr (((Below.refl _ _).al (.cells #[] 60)).trans hb5);go_wp2;go_ret2
        have e1:F1=l:=(by rw[HF1.out,Hfa.out]);have e2:F2=false:=(by rw[HF2.out,Hfa.out]);rw[e1,e2];exact⟨A5,c5,rfl,own5.mono B2.size,B5⟩
      . rw[if_neg hkd]at hg;have Hkd:=OA hkd;have Hg2:=OA hg;clear hkd hg;go_wp2_with fail
        refine(tJ _ m cx cy _ (hown.rd aB (by decide)) Hs.out Hkd.out).mono ?_;rintro e w2 ⟨A3,c3,rfl,own3,hb2⟩;go_wp2;go_roundw
        case rel=>exact⟨k+1,aS m (cx,cy),A3,c3,by omega,by go_num,rfl,Hg2,OA (qV _ _),own3.mono hbel.size,hbel.tr hb2⟩
        case measure=>simp[intOf];omega
    . obtain rfl : k = cs.length := by omega
      have hg:=Hg.out;rw[drop_of_length_le (le_refl _)]at hg;have hfa:=wF Hgt.out hg.symm;have Hfa:=OA hfa;clear hg hfa;go_wp2;go_ret2
      have e1:F1=m:=(by rw[HF1.out,Hfa.out]);have e2:F2=true:=(by rw[HF2.out,Hfa.out]);rw[e1,e2];exact⟨A6,c6,rfl,hown,hbel⟩
theorem nG (u v:Value) (l m:List Dm) (w:World) (h:Rd 3 aU w u l) (h':Rd 3 aU w v m):Calls prog 31 #[u,v] w (Ret (.bool (decide (l=m))) w):=by
 obtain⟨A,c,rfl,hc,hm⟩:=h.form;obtain⟨A',c',rfl,hc',hm'⟩:=h'.form;by_cases hlen:l.length=m.length
 . have hne : ((l.length : Int) != (m.length : Int)) = false := by simp [hlen]
   have Hlen:=OA hlen;clear hlen;go_enter func31,ntmps31
   go_wp2;go_loopw [5] (fun i wr=>∃k:Nat,k<=l.length/\i= .int .i64 k/\Hid (decide (l.drop k=m.drop k)=decide (l=m))/\Below w.heap.size w wr) (fun i _=>l.length-(intOf i).toNat)
   case atStart=>exact⟨0,zero_le _,rfl,OA rfl,Below.refl _ _⟩
   case round=>
    obtain⟨k,hk,rfl,Hg,hbel⟩:=hrel;by_cases hlt:k<l.length
    . have hlm : k < m.length := by have := Hlen.out; omega
      obtain⟨b,off,rfl,hb,q1,q2,q3⟩:=(h.Oz hbel).jJ hlt;obtain⟨b',off',rfl,hb',p1,p2,p3⟩:=(h'.Oz hbel).jJ hlm;have hlt':(k:Int)<(m.length:Int):=(by omega);obtain⟨d,hd⟩:=Oy (l[k]);obtain⟨e,he⟩:=Oy (m[k]);rw[<-hd]at q1 q2 q3;rw[<-he]at p1 p2 p3;obtain⟨dx,dy,dd⟩:=d;obtain⟨ex,ey,ed⟩:=e;simp only at q1 q2 q3 p1 p2 p3;by_cases hde:((dx,dy,dd):Dm)=(ex,ey,ed)
      . have Hg2 := Ma Hg hlt hlm (by rw [<- hd, <- he]; exact hde);simp only[Prod.mk.injEq]at hde;obtain⟨rfl,rfl,rfl⟩:=hde;clear hd he;go_wp2_with fail
        go_quiet (fail)
        go_wp2;go_roundw
        case rel=>exact⟨k+1,by omega,by go_num,Hg2,below_drewN hbel _⟩
        case measure=>simp[intOf];omega
      . have HR := OA (Mc Hg hlt hlm (by rw [<- hd, <- he]; exact hde)).symm;clear hd he;rcases iZ hde with p|⟨rfl,p⟩|⟨rfl,rfl,p⟩
        all_goals
          clear hde;go_wp2_with fail
          go_quiet (fail)
          go_wp2;go_ret;exact⟨kN HR.out,below_drewN hbel _⟩
    . go_wp2;go_ret;exact⟨kN (Je Hg (by omega) (by have:=Hlen.out;omega)).symm,hbel⟩
 . have hne : ((l.length : Int) != (m.length : Int)) = true := by simp; omega
   go_enter func31,ntmps31
   go_wp2;go_ret;exact⟨kN (by rw[eq_comm,decide_eq_false_iff_not];exact fun e=>hlen (by rw[e])),Below.refl _ _⟩
theorem rC (vr vf vn vc:Value) (rows:List Int) (f n:List Dm) (cs:List Cl) (w:World) (h1:Rd 1 bH w vr rows) (h2:Rd 3 aU w vf f) (h3:Rd 3 aU w vn n) (h4:Rd 2 bT w vc cs) (hl:Small f.length):
 Calls prog 152 #[.agg #[vr,vf,vn,vc]] w (Ret (.bool (dV rows f n cs)) w):=by
 obtain⟨A1,c1,rfl,hc1,hm1⟩:=h1.form;obtain⟨A2,c2,rfl,hc2,hm2⟩:=h2.form;obtain⟨A3,c3,rfl,hc3,hm3⟩:=h3.form;obtain⟨A4,c4,rfl,hc4,hm4⟩:=h4.form;have hA:=(Below.refl w.heap.size w).al (.cells #[.slice A1 rows.length c1,.slice A2 f.length c2,.slice A3 n.length c3,.slice A4 cs.length c4] 30);have bF:=Blk.bK w 30 #[.slice A1 rows.length c1,.slice A2 f.length c2,.slice A3 n.length c3,.slice A4 cs.length c4];have g1:=h1.Oz hA;have g2:=h2.Oz hA;have g3:=h3.Oz hA;have g4:=h4.Oz hA;clear hc1 hc2 hc3 hc4;rcases ht:dP rows f with _|_
 . have e : dV rows f n cs = false := by unfold dV; rw [ht]; rfl
   rw[e];have Ht:=OA ht;clear ht e;go_enter func152,ntmps152
   go_wp2_with fail
   refine(sQ _ _ rows f _ g1 g2).mono ?_;rintro e w1 ⟨rfl,hb1⟩;rw[Ht.out];go_wp2;go_ret;exact⟨rfl,hA.tr hb1⟩
 . by_cases hn:cs.length<=60
   . have e : dV rows f n cs = ((dD f cs).2 && decide ((dD f cs).1 = n)) := by unfold dV; rw [ht, decide_eq_true hn]; rfl
     have hnI:(cs.length:Int)<=60:=(by omega);obtain⟨M,hM⟩:=Oy ((dD f cs).1);obtain⟨b,hb⟩:=Oy ((dD f cs).2);rw[<-hM,<-hb]at e;rw[e];have Ht:=OA ht;have HM:=OA hM;have Hb:=OA hb;clear ht e hM hb;go_enter func152,ntmps152
     go_wp2_with fail
     refine(sQ _ _ rows f _ g1 g2).mono ?_;rintro e w1 ⟨rfl,hb1⟩;rw[Ht.out];have bF1:=bF.bl hb1;have z1:=bF1.cell 1;have z3:=bF1.cell 3;simp only[getElem?_toArray,getElem?_cons_zero,getElem?_cons_succ]at z1 z3;go_wp2_with fail
     refine(EN _ _ f cs _ (g2.Oz hb1) (g4.Oz hb1) hl).mono ?_;rintro e w2 ⟨Am,cm,rfl,ownm,hb2⟩;rw[<-HM.out]at ownm;rw[<-HM.out,<-Hb.out];have bF2:=bF1.bl hb2;clear z1 z3;have z2:=bF2.cell 2;simp only[getElem?_toArray,getElem?_cons_zero,getElem?_cons_succ]at z2;have B2:=(hA.tr hb1).tr hb2;cases b
     . go_wp2;go_ret;exact⟨rfl,B2⟩
     . go_wp2_with fail
       refine(nG _ _ M n _ (ownm.rd aB (by decide)) ((g3.Oz hb1).Oz hb2)).mono ?_;rintro e w3 ⟨rfl,hb3⟩;obtain⟨R,hR⟩:∃R,R=decide (M=n):=⟨_,rfl⟩;rw[<-hR];have hR2:(true&&decide (M=n))=R:=by rw[hR];rfl
       have HR2:=OA hR2;clear hR hR2;go_wp2;go_ret;exact⟨kN HR2.out.symm,B2.tr hb3⟩
   . have e : dV rows f n cs = false := by unfold dV; rw [ht, decide_eq_false hn]; rfl
     rw[e];have hnI:(60:Int)<(cs.length:Int):=(by omega);have Ht:=OA ht;clear ht e hn;go_enter func152,ntmps152
     go_wp2_with fail
     refine(sQ _ _ rows f _ g1 g2).mono ?_;rintro e w1 ⟨rfl,hb1⟩;rw[Ht.out];have bF1:=bF.bl hb1;have z3:=bF1.cell 3;simp only[getElem?_toArray,getElem?_cons_zero,getElem?_cons_succ]at z3;go_wp2;go_ret;exact⟨rfl,hA.tr hb1⟩
end Go.Proofs.YtljfoohaapckeaaGreatDoor
