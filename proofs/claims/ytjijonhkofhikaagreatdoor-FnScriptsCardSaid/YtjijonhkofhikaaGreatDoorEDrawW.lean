import Derived.Test.YtjijonhkofhikaaGreatDoorEOpenW
import Derived.Test.YtjijonhkofhikaaGreatDoorEG40
set_option linter.unusedVariables false
set_option linter.unusedSimpArgs false
set_option maxHeartbeats 4000000
set_option maxRecDepth 100000
namespace Go.Proofs.YtjijonhkofhikaaGreatDoor
open Go.ChangeShapes Go.WideShapes Go.ChangeAt Go.RowKit
theorem Qw {rows:List Int} {stock:Int} (hr:R12 rows) (hs:30<=stock/\stock<=49) (v:Value) (w:World) (h:Rd 1 bG w v rows):Calls Tryz.prog 71 #[.agg #[v],.int .i64 stock] w (qM (eO rows) (stock-((eO rows).2.2.1.length:Int)) 0 0 true w):=by
 have hl:Small rows.length:=by have:=hr.1.1;unfold Small;omega
 have CS:=Ih v rows stock _ w h hl (fun u1 u2 u3 u4 w k1 k2 k3 k4=>kZ u1 u2 u3 u4 (eO rows,stock-((eO rows).2.2.1.length:Int),0,0) w k1 k2 k3 k4 (mY hl).2.1);rw[Nv hr hs,(yF hr).1,show inB stock 0 20000=true by unfold inB;simp;omega]at CS;exact CS
def Oz (W:World) (g:Nat) (u:Value) (n:Nat) (w:World) (e:Ending) (w':World):Prop:=∃(x:Fl) (s p r:Int) (V1 V2 V3 V4:Value),e= .returned (.agg #[V1,V2,V3,V4,.int .i64 s,.int .i64 p,.int .i64 r])/\aB w.heap.size w' V1 V2 V3 V4 x/\bV (x,s,p,r)=true/\vT 7 s p/\bZ x/\DS W w w' g u n
def KW (W:World) (g:Nat) (u:Value) (n:Nat) (w:World) (e:Ending) (w':World):Prop:=∃(x:Fl) (s p r:Int) (V1 V2 V3 V4:Value),e= .returned (.agg #[V1,V2,V3,V4,.int .i64 s,.int .i64 p,.int .i64 r])/\aB w.heap.size w' V1 V2 V3 V4 x/\bV (x,s,p,r)=true/\bZ x/\DS W w w' g u n
theorem F5 (W : World) (g : Nat) (v : Value) (l : List Int) (w : World) (h : Rd 1 nG W v l) (bL : Hid (nR (fun x => 0 <= x /\ x <= 255) l)) (hg : W.heap.size <= g) (cT : Below W.heap.size W w) (eL : Cur w g v l.length) :
 Calls Tryz.prog 41 #[.pointer (some ⟨g,0,none⟩)] w (Oz W g v l.length w):=by
 have hW:=cT.size;have hX:=Blk.aZ w 32 #[.slice none 0 0,.slice none 0 0,.slice none 0 0,.slice none 0 0,.int .i64 0,.int .i64 0,.int .i64 0];have D:=(DS.refl eL cT).al (.cells #[.slice none 0 0,.slice none 0 0,.slice none 0 0,.slice none 0 0,.int .i64 0,.int .i64 0,.int .i64 0] 32);go_enter Tryz.func41,Tryz.ntmps41
 go_wp2_with fail
 refine(IE W g v l _ h bL hg D.B D.cur).mono ?_;rintro e w1 ⟨rows,A,c,rfl,own,hr,D1⟩;replace hX:=hX.ds D.cur D1.gr (by decide);replace own:=own.mono (B':=w.heap.size) (by simp);replace D:=D.tr D1;have hsm:Small rows.length:=by have:=hr.1.1;unfold Small;omega
 clear D1;go_wp2_with fail
 refine(aQ 20 W g v l _ h bL hg D.B D.cur (by decide)).mono ?_;rintro e w2 ⟨t,rfl,ht,c5,B5,g5⟩;replace hX:=hX.ds D.cur g5 (by decide);replace own:=own.cur D.cur (by decide) g5;replace D:=D.dr c5 B5 g5;have eW:0<=t/\t<=19:=by unfold dQ at ht;omega
 have e5:IntKind.i64.wrap (30+t)=30+t:=IntWalk.i64_in _ (by omega);clear ht c5 B5 g5;go_wp2_with fail
 refine(Qw hr (stock:=30+t) (by omega) _ _ (own.rd aJ (by decide))).mono ?_;have HS:=TY (mY hsm);have HF:=TY (Nv hr (stock:=30+t) (by omega));obtain⟨s0,hs0⟩:=TV (30+t-((eO rows).2.2.1.length:Int));rw[<-hs0]at HF⊢;have HW:=TY (show vT 0 s0 0 from by unfold vT;omega);obtain⟨x0,hx0⟩:=TV (eO rows);rw[<-hx0]at HS HF⊢;clear hx0 hsm hr hs0 eW e5;rintro e w3 ⟨A1,c1,A2,c2,A3,c3,A4,c4,rfl,oF,hb2⟩;replace oF:=oF.mono (B':=w.heap.size) D.gr.size;replace hX:=hX.bl hb2;replace D:=D.bl hb2;clear hb2 own;obtain⟨gX,cR⟩:=TV w.heap.size;have e6:=TY cR;rw[<-cR]at hX;have e7:w.heap.size<=gX:=(by omega);have hne:=(D.cur.ne hX (by decide)).symm;have e8:=hX.lt;have e9:g<w3.heap.size:=by obtain⟨_,_,_,q⟩:=D.cur;exact q.lt
 clear cR;go_upto_region 2 with(refine aA rfl 32 _ _ rfl w3.heap.size #[.slice A1 x0.1.length c1,.slice A2 x0.2.1.length c2,.slice A3 x0.2.2.1.length c3,.slice A4 x0.2.2.2.length c4,.int .i64 s0,.int .i64 0,.int .i64 0] rfl rfl _ _ (Blk.aZ w3 32 #[.slice none 0 0,.slice none 0 0,.slice none 0 0,.slice none 0 0,.int .i64 0,.int .i64 0,.int .i64 0]) (by kernel_rfl) rfl (nP oF.one) ?_;intro w0 bF hg4)
 replace hX:=(hX.alloc (.cells #[.slice none 0 0,.slice none 0 0,.slice none 0 0,.slice none 0 0,.int .i64 0,.int .i64 0,.int .i64 0] 32)).grown hg4 (by simp;omega);replace oF:=aB.alg oF (by decide) (by decide) (by decide) hg4;have bN:w.heap.size<=w3.heap.size:=D.gr.size;replace D:=D.stN hg4 hW;obtain⟨gF,cU⟩:=TV w3.heap.size;rw[<-cU]at bF e9 e8 bN⊢;have gC:gX≠gF:=(by omega);have bO:g≠gF:=(by omega);clear hg4 cU;go_wp2_with fail
 refine(aQ 8 W g v l _ h bL hg D.B D.cur (by decide)).mono ?_;rintro e w4 ⟨n,rfl,hn,c5,B5,g5⟩;replace hX:=hX.ds D.cur g5 (by decide);replace bF:=bF.ds D.cur g5 (by decide);replace oF:=oF.cur D.cur g5;replace D:=D.dr c5 B5 g5;have gD:0<=n/\n<=7:=by unfold dQ at hn;omega
 clear hn c5 B5 g5;go_wp2;go_loopw [6] (fun s6 wr=>∃(k:Nat) (x:Fl) (s p r:Int) (V1 V2 V3 V4:Value),(k:Int)<=n/\s6= .int .i64 k/\Hid (bV (x,s,p,r)=true)/\Hid (vT k s p)/\Hid (bZ x)/\aB w.heap.size wr V1 V2 V3 V4 x/\Blk wr gF 32 #[V1,V2,V3,V4,.int .i64 s,.int .i64 p,.int .i64 r]/\Blk wr gX 32 #[.slice none 0 0,.slice none 0 0,.slice none 0 0,.slice none 0 0,.int .i64 0,.int .i64 0,.int .i64 0]/\DS W w wr g v l.length) (fun i _=>n.toNat-(intOf i).toNat)
 case atStart=>exact⟨0,x0,_,_,_,_,_,_,_,by omega,rfl,HF,HW,HS,oF,bF,hX,D⟩
 case round=>
  obtain⟨k,x,s,p,r,V1,V2,V3,V4,hk,rfl,Hf,Hw,Hs,oW,bW,eI,D1⟩:=hrel;clear oF bF hX D;by_cases fD:(k:Int)<n
  . go_wp2_with fail
    refine(aQ 4 W g v l _ h bL hg D1.B D1.cur (by decide)).mono ?_;rintro e w5 ⟨m,rfl,hm,c5,B5,g5⟩;have cL:=eI.ds D1.cur g5 (by decide);have cF:=bW.ds D1.cur g5 (by decide);have cG:=oW.cur D1.cur g5;have D5:=D1.dr c5 B5 g5;clear eI bW oW D1 c5 B5 g5;have fL:m=0∨m=1∨(m≠0/\m≠1):=(by omega);clear hm;rcases fL with rfl|rfl|⟨e0,e1⟩
    . go_wp2_with fail
      refine(IC W g v l _ h bL hg D5.B D5.cur).mono ?_;rintro e w6 ⟨bl,A7,c7,rfl,oL,eN,hl4,eP,D6⟩;have cH:=cL.ds D5.cur D6.gr (by decide);have cE:=cF.ds D5.cur D6.gr (by decide);have cI:=cG.cur D5.cur D6.gr;have cJ:=oL.mono (B':=w.heap.size) D5.gr.size;replace D6:=D5.tr D6;have eJ:=TY (And.intro eP (And.intro eN hl4));clear cL cF cG oL D5 eN hl4 eP;have Bw:Below w6.heap.size w6 w6.drew:=(Below.refl _ _).drew;obtain⟨cV,cW,cY,dL,dT,eA,eC⟩:=cE.n7;go_upto_region 12 with(fail)
      refine rB (fun _=>True) fun hHeld=>(tW 1)<|(tW 2)<|(tR [0,3])<|tC (fun K hK=>?_) ?_
      go_simp
      refine tK hK fun hHeld=>?_
      clear hK K;refine(tR [3])<|tL fun K hK=>?_
      go_simp
      (first|(go_at_call 42;go_must (refine(aQ 20 W g v l _ h bL hg (D6.bl Bw).B (D6.bl Bw).cur (by decide)).mono ?_;rintro e w7 ⟨y,rfl,hy,cX,BX,a6⟩;have D7:=(D6.bl Bw).dr cX BX a6;have bA:=(cE.bl Bw).ds (D6.bl Bw).cur a6 (by decide);have bJ:=(cH.bl Bw).ds (D6.bl Bw).cur a6 (by decide);have a7:=(cI.below Bw).cur (D6.bl Bw).cur a6;have bR:=(cJ.below Bw).cur (D6.bl Bw).cur (by decide) a6;obtain⟨b5,b6,b7,b8,b9,cA,cB⟩:=bA.n7))|(go_at_call 77;go_must (have CT:=(AO _ _ _ _ _ x s p r bl y _ a7.ra a7.rb a7.rc a7.rd (bR.rd qF (by decide)) Hs.out);have hf:=Jt bl y Hf.out;have hfw:=EZ Hf.out Hw.out eJ.out hy;obtain⟨ss,bX⟩:=TV (Ae (x,s,p,r) bl y);obtain⟨pp,bY⟩:=TV (Ag (x,s,p,r) bl y);rw[<-bX,<-bY]at CT;rw[<-bX,<-bY]at hf hfw;have Hz:=TY hf;have cK:=TY hfw;clear bX bY hf hfw;refine CT.mono ?_;rintro e w8 ⟨E1,e1,E2,e2,E3,e3,E4,e4,rfl,oT,a8⟩;have D9:=D7.bl a8;have bC:=bA.bl a8;have bK:=bJ.bl a8;have bD:=oT.mono (B':=w.heap.size) D7.gr.size)))
      refine tK hK fun hHeld=>?_
      clear hK K;refine(tR [4])<|tL fun K hK=>?_
      go_simp
      (first|(go_at_call 42;go_must (refine(aQ 20 W g v l _ h bL hg (D6.bl Bw).B (D6.bl Bw).cur (by decide)).mono ?_;rintro e w7 ⟨y,rfl,hy,cX,BX,a6⟩;have D7:=(D6.bl Bw).dr cX BX a6;have bA:=(cE.bl Bw).ds (D6.bl Bw).cur a6 (by decide);have bJ:=(cH.bl Bw).ds (D6.bl Bw).cur a6 (by decide);have a7:=(cI.below Bw).cur (D6.bl Bw).cur a6;have bR:=(cJ.below Bw).cur (D6.bl Bw).cur (by decide) a6;obtain⟨b5,b6,b7,b8,b9,cA,cB⟩:=bA.n7))|(go_at_call 77;go_must (have CT:=(AO _ _ _ _ _ x s p r bl y _ a7.ra a7.rb a7.rc a7.rd (bR.rd qF (by decide)) Hs.out);have hf:=Jt bl y Hf.out;have hfw:=EZ Hf.out Hw.out eJ.out hy;obtain⟨ss,bX⟩:=TV (Ae (x,s,p,r) bl y);obtain⟨pp,bY⟩:=TV (Ag (x,s,p,r) bl y);rw[<-bX,<-bY]at CT;rw[<-bX,<-bY]at hf hfw;have Hz:=TY hf;have cK:=TY hfw;clear bX bY hf hfw;refine CT.mono ?_;rintro e w8 ⟨E1,e1,E2,e2,E3,e3,E4,e4,rfl,oT,a8⟩;have D9:=D7.bl a8;have bC:=bA.bl a8;have bK:=bJ.bl a8;have bD:=oT.mono (B':=w.heap.size) D7.gr.size)))
      refine tK hK fun hHeld=>?_
      clear hK K;refine(tW 5)<|(tW 6)<|(tW 7)<|(tR [8])<|tL fun K hK=>?_
      (refine aL rfl 32 _ _ rfl gF #[.slice E1 x.1.length e1,.slice E2 x.2.1.length e2,.slice E3 x.2.2.1.length e3,.slice E4 x.2.2.2.length e4,.int .i64 ss,.int .i64 pp,.int .i64 r] rfl rfl _ _ bC (by kernel_rfl) rfl (nP bD.one) ?_;intro w9 cM bB;have cN:=D9.st bB bN hW bO;have cP:=bK.grown bB (by simp;omega);have cQ:=aB.dD bD bC (by decide) (by decide) (by decide) bB)
      refine tK hK fun hHeld=>?_
      clear hK K;refine tD ?_
      rotate_left 1
      refine tL fun K hK=>?_
      go_simp
      (first|(go_at_call 42;go_must (refine(aQ 20 W g v l _ h bL hg (D6.bl Bw).B (D6.bl Bw).cur (by decide)).mono ?_;rintro e w7 ⟨y,rfl,hy,cX,BX,a6⟩;have D7:=(D6.bl Bw).dr cX BX a6;have bA:=(cE.bl Bw).ds (D6.bl Bw).cur a6 (by decide);have bJ:=(cH.bl Bw).ds (D6.bl Bw).cur a6 (by decide);have a7:=(cI.below Bw).cur (D6.bl Bw).cur a6;have bR:=(cJ.below Bw).cur (D6.bl Bw).cur (by decide) a6;obtain⟨b5,b6,b7,b8,b9,cA,cB⟩:=bA.n7))|(go_at_call 77;go_must (have CT:=(AO _ _ _ _ _ x s p r bl y _ a7.ra a7.rb a7.rc a7.rd (bR.rd qF (by decide)) Hs.out);have hf:=Jt bl y Hf.out;have hfw:=EZ Hf.out Hw.out eJ.out hy;obtain⟨ss,bX⟩:=TV (Ae (x,s,p,r) bl y);obtain⟨pp,bY⟩:=TV (Ag (x,s,p,r) bl y);rw[<-bX,<-bY]at CT;rw[<-bX,<-bY]at hf hfw;have Hz:=TY hf;have cK:=TY hfw;clear bX bY hf hfw;refine CT.mono ?_;rintro e w8 ⟨E1,e1,E2,e2,E3,e3,E4,e4,rfl,oT,a8⟩;have D9:=D7.bl a8;have bC:=bA.bl a8;have bK:=bJ.bl a8;have bD:=oT.mono (B':=w.heap.size) D7.gr.size)))
      refine tK hK fun hHeld=>?_
      clear hK K;refine(tR [0])<|tL fun K hK=>?_
      go_simp
      refine tK hK fun hHeld=>?_
      clear hK K;refine(tR [4])<|tL fun K hK=>?_
      go_simp
      (first|(go_at_call 42;go_must (refine(aQ 20 W g v l _ h bL hg (D6.bl Bw).B (D6.bl Bw).cur (by decide)).mono ?_;rintro e w7 ⟨y,rfl,hy,cX,BX,a6⟩;have D7:=(D6.bl Bw).dr cX BX a6;have bA:=(cE.bl Bw).ds (D6.bl Bw).cur a6 (by decide);have bJ:=(cH.bl Bw).ds (D6.bl Bw).cur a6 (by decide);have a7:=(cI.below Bw).cur (D6.bl Bw).cur a6;have bR:=(cJ.below Bw).cur (D6.bl Bw).cur (by decide) a6;obtain⟨b5,b6,b7,b8,b9,cA,cB⟩:=bA.n7))|(go_at_call 77;go_must (have CT:=(AO _ _ _ _ _ x s p r bl y _ a7.ra a7.rb a7.rc a7.rd (bR.rd qF (by decide)) Hs.out);have hf:=Jt bl y Hf.out;have hfw:=EZ Hf.out Hw.out eJ.out hy;obtain⟨ss,bX⟩:=TV (Ae (x,s,p,r) bl y);obtain⟨pp,bY⟩:=TV (Ag (x,s,p,r) bl y);rw[<-bX,<-bY]at CT;rw[<-bX,<-bY]at hf hfw;have Hz:=TY hf;have cK:=TY hfw;clear bX bY hf hfw;refine CT.mono ?_;rintro e w8 ⟨E1,e1,E2,e2,E3,e3,E4,e4,rfl,oT,a8⟩;have D9:=D7.bl a8;have bC:=bA.bl a8;have bK:=bJ.bl a8;have bD:=oT.mono (B':=w.heap.size) D7.gr.size)))
      refine tK hK fun hHeld=>?_
      clear hK K;refine(tW 5)<|(tW 6)<|(tW 7)<|(tR [8])<|tL fun K hK=>?_
      (refine aL rfl 32 _ _ rfl gF #[.slice E1 x.1.length e1,.slice E2 x.2.1.length e2,.slice E3 x.2.2.1.length e3,.slice E4 x.2.2.2.length e4,.int .i64 ss,.int .i64 pp,.int .i64 r] rfl rfl _ _ bC (by kernel_rfl) rfl (nP bD.one) ?_;intro w9 cM bB;have cN:=D9.st bB bN hW bO;have cP:=bK.grown bB (by simp;omega);have cQ:=aB.dD bD bC (by decide) (by decide) (by decide) bB)
      refine tK hK fun hHeld=>?_
      clear hK K;refine tD ?_
      all_goals
        go_wp2;go_roundw
        case rel=>exact⟨k+1,x,ss,pp,r,_,_,_,_,by omega,by go_num,Hz,cK,Hs,cQ,cM,cP,cN⟩
        case measure=>simp[intOf];omega
    . obtain⟨A9,c9,rfl,_⟩:=cG.rc.form;have cS:Hid (x.2.2.1.length<=1048576):=TY Hs.out.2.2.1;have Bw:Below w5.heap.size w5 w5.drew:=(Below.refl _ _).drew;obtain⟨cV,cW,cY,dL,dT,eA,eC⟩:=cF.n7;go_upto_region 14 with(fail)
      refine rB (fun _=>True) fun hHeld=>(tW 1)<|(tW 2)<|(tW 3)<|(tR [0,4])<|tC (fun K hK=>?_) ?_
      go_simp
      refine tK hK fun hHeld=>?_
      clear hK K;refine(tR [4])<|tL fun K hK=>?_
      go_simp
      refine tK hK fun hHeld=>?_
      clear hK K;refine(tW 5)<|(tW 6)<|(tR [7])<|tL fun K hK=>?_
      go_simp
      (first|(go_at_call 42;go_must (refine(aQ _ W g v l _ h bL hg (D5.bl Bw).B (D5.bl Bw).cur (by have:=cS.out;first|omega|(simp;omega))).mono ?_;rintro e w7 ⟨y,rfl,hy,cX,BX,a6⟩;have D7:=(D5.bl Bw).dr cX BX a6;have bA:=(cF.bl Bw).ds (D5.bl Bw).cur a6 (by decide);have bJ:=(cL.bl Bw).ds (D5.bl Bw).cur a6 (by decide);have a7:=(cG.below Bw).cur (D5.bl Bw).cur a6;obtain⟨b5,b6,b7,b8,b9,cA,cB⟩:=bA.n7))|(go_at_call 78;go_must (have CT:=(uG _ _ _ _ x s p r y _ a7.ra a7.rb a7.rc a7.rd Hs.out);have hf:=Dl y Hf.out;have hfw:=yG (x:=x) (r:=r) y Hw.out;have hsm:=pE (y:=(x,s,p,r)) y Hs.out;obtain⟨⟨z,zs,zp,zr⟩,hz⟩:∃q,q=mD (x,s,p,r) y:=⟨_,rfl⟩;obtain⟨bn,bU⟩:=TV (Ad (x,s,p,r) y);rw[<-hz,<-bU]at CT;rw[<-hz]at hf hsm hfw;have Hz:=TY hf;have Hy:=TY hsm;have cK:=TY hfw;clear hz bU hf hsm hfw;refine CT.mono ?_;rintro e w8 ⟨E1,e1,E2,e2,E3,e3,E4,e4,rfl,oT,a8⟩;have D9:=D7.bl a8;have bC:=bA.bl a8;have bK:=bJ.bl a8;have bD:=oT.mono (B':=w.heap.size) D7.gr.size)))
      refine tK hK fun hHeld=>?_
      clear hK K;refine(tR [8])<|tL fun K hK=>?_
      go_simp
      (first|(go_at_call 42;go_must (refine(aQ _ W g v l _ h bL hg (D5.bl Bw).B (D5.bl Bw).cur (by have:=cS.out;first|omega|(simp;omega))).mono ?_;rintro e w7 ⟨y,rfl,hy,cX,BX,a6⟩;have D7:=(D5.bl Bw).dr cX BX a6;have bA:=(cF.bl Bw).ds (D5.bl Bw).cur a6 (by decide);have bJ:=(cL.bl Bw).ds (D5.bl Bw).cur a6 (by decide);have a7:=(cG.below Bw).cur (D5.bl Bw).cur a6;obtain⟨b5,b6,b7,b8,b9,cA,cB⟩:=bA.n7))|(go_at_call 78;go_must (have CT:=(uG _ _ _ _ x s p r y _ a7.ra a7.rb a7.rc a7.rd Hs.out);have hf:=Dl y Hf.out;have hfw:=yG (x:=x) (r:=r) y Hw.out;have hsm:=pE (y:=(x,s,p,r)) y Hs.out;obtain⟨⟨z,zs,zp,zr⟩,hz⟩:∃q,q=mD (x,s,p,r) y:=⟨_,rfl⟩;obtain⟨bn,bU⟩:=TV (Ad (x,s,p,r) y);rw[<-hz,<-bU]at CT;rw[<-hz]at hf hsm hfw;have Hz:=TY hf;have Hy:=TY hsm;have cK:=TY hfw;clear hz bU hf hsm hfw;refine CT.mono ?_;rintro e w8 ⟨E1,e1,E2,e2,E3,e3,E4,e4,rfl,oT,a8⟩;have D9:=D7.bl a8;have bC:=bA.bl a8;have bK:=bJ.bl a8;have bD:=oT.mono (B':=w.heap.size) D7.gr.size)))
      refine tK hK fun hHeld=>?_
      clear hK K;refine(tW 9)<|(tW 10)<|(tW 11)<|(tR [12])<|tL fun K hK=>?_
      (refine aL rfl 32 _ _ rfl gF #[.slice E1 z.1.length e1,.slice E2 z.2.1.length e2,.slice E3 z.2.2.1.length e3,.slice E4 z.2.2.2.length e4,.int .i64 zs,.int .i64 zp,.int .i64 zr] rfl rfl _ _ bC (by kernel_rfl) rfl (nP bD.one) ?_;intro w9 cM bB;have cN:=D9.st bB bN hW bO;have cP:=bK.grown bB (by simp;omega);have cQ:=aB.dD bD bC (by decide) (by decide) (by decide) bB)
      refine tK hK fun hHeld=>?_
      clear hK K;refine tD ?_
      rotate_left 1
      refine tL fun K hK=>?_
      go_simp
      refine tK hK fun hHeld=>?_
      clear hK K;refine(tW 5)<|(tW 6)<|(tR [0,7])<|tC (fun K hK=>?_) ?_;go_simp
      refine tK hK fun hHeld=>?_
      clear hK K;refine(tR [7])<|tL fun K hK=>?_
      go_simp
      (first|(go_at_call 42;go_must (refine(aQ _ W g v l _ h bL hg (D5.bl Bw).B (D5.bl Bw).cur (by have:=cS.out;first|omega|(simp;omega))).mono ?_;rintro e w7 ⟨y,rfl,hy,cX,BX,a6⟩;have D7:=(D5.bl Bw).dr cX BX a6;have bA:=(cF.bl Bw).ds (D5.bl Bw).cur a6 (by decide);have bJ:=(cL.bl Bw).ds (D5.bl Bw).cur a6 (by decide);have a7:=(cG.below Bw).cur (D5.bl Bw).cur a6;obtain⟨b5,b6,b7,b8,b9,cA,cB⟩:=bA.n7))|(go_at_call 78;go_must (have CT:=(uG _ _ _ _ x s p r y _ a7.ra a7.rb a7.rc a7.rd Hs.out);have hf:=Dl y Hf.out;have hfw:=yG (x:=x) (r:=r) y Hw.out;have hsm:=pE (y:=(x,s,p,r)) y Hs.out;obtain⟨⟨z,zs,zp,zr⟩,hz⟩:∃q,q=mD (x,s,p,r) y:=⟨_,rfl⟩;obtain⟨bn,bU⟩:=TV (Ad (x,s,p,r) y);rw[<-hz,<-bU]at CT;rw[<-hz]at hf hsm hfw;have Hz:=TY hf;have Hy:=TY hsm;have cK:=TY hfw;clear hz bU hf hsm hfw;refine CT.mono ?_;rintro e w8 ⟨E1,e1,E2,e2,E3,e3,E4,e4,rfl,oT,a8⟩;have D9:=D7.bl a8;have bC:=bA.bl a8;have bK:=bJ.bl a8;have bD:=oT.mono (B':=w.heap.size) D7.gr.size)))
      refine tK hK fun hHeld=>?_
      clear hK K;refine(tR [8])<|tL fun K hK=>?_
      go_simp
      (first|(go_at_call 42;go_must (refine(aQ _ W g v l _ h bL hg (D5.bl Bw).B (D5.bl Bw).cur (by have:=cS.out;first|omega|(simp;omega))).mono ?_;rintro e w7 ⟨y,rfl,hy,cX,BX,a6⟩;have D7:=(D5.bl Bw).dr cX BX a6;have bA:=(cF.bl Bw).ds (D5.bl Bw).cur a6 (by decide);have bJ:=(cL.bl Bw).ds (D5.bl Bw).cur a6 (by decide);have a7:=(cG.below Bw).cur (D5.bl Bw).cur a6;obtain⟨b5,b6,b7,b8,b9,cA,cB⟩:=bA.n7))|(go_at_call 78;go_must (have CT:=(uG _ _ _ _ x s p r y _ a7.ra a7.rb a7.rc a7.rd Hs.out);have hf:=Dl y Hf.out;have hfw:=yG (x:=x) (r:=r) y Hw.out;have hsm:=pE (y:=(x,s,p,r)) y Hs.out;obtain⟨⟨z,zs,zp,zr⟩,hz⟩:∃q,q=mD (x,s,p,r) y:=⟨_,rfl⟩;obtain⟨bn,bU⟩:=TV (Ad (x,s,p,r) y);rw[<-hz,<-bU]at CT;rw[<-hz]at hf hsm hfw;have Hz:=TY hf;have Hy:=TY hsm;have cK:=TY hfw;clear hz bU hf hsm hfw;refine CT.mono ?_;rintro e w8 ⟨E1,e1,E2,e2,E3,e3,E4,e4,rfl,oT,a8⟩;have D9:=D7.bl a8;have bC:=bA.bl a8;have bK:=bJ.bl a8;have bD:=oT.mono (B':=w.heap.size) D7.gr.size)))
      refine tK hK fun hHeld=>?_
      clear hK K;refine(tW 9)<|(tW 10)<|(tW 11)<|(tR [12])<|tL fun K hK=>?_
      (refine aL rfl 32 _ _ rfl gF #[.slice E1 z.1.length e1,.slice E2 z.2.1.length e2,.slice E3 z.2.2.1.length e3,.slice E4 z.2.2.2.length e4,.int .i64 zs,.int .i64 zp,.int .i64 zr] rfl rfl _ _ bC (by kernel_rfl) rfl (nP bD.one) ?_;intro w9 cM bB;have cN:=D9.st bB bN hW bO;have cP:=bK.grown bB (by simp;omega);have cQ:=aB.dD bD bC (by decide) (by decide) (by decide) bB)
      refine tK hK fun hHeld=>?_
      clear hK K;refine tD ?_
      rotate_left 1
      refine tL fun K hK=>?_
      go_simp
      (first|(go_at_call 42;go_must (refine(aQ _ W g v l _ h bL hg (D5.bl Bw).B (D5.bl Bw).cur (by have:=cS.out;first|omega|(simp;omega))).mono ?_;rintro e w7 ⟨y,rfl,hy,cX,BX,a6⟩;have D7:=(D5.bl Bw).dr cX BX a6;have bA:=(cF.bl Bw).ds (D5.bl Bw).cur a6 (by decide);have bJ:=(cL.bl Bw).ds (D5.bl Bw).cur a6 (by decide);have a7:=(cG.below Bw).cur (D5.bl Bw).cur a6;obtain⟨b5,b6,b7,b8,b9,cA,cB⟩:=bA.n7))|(go_at_call 78;go_must (have CT:=(uG _ _ _ _ x s p r y _ a7.ra a7.rb a7.rc a7.rd Hs.out);have hf:=Dl y Hf.out;have hfw:=yG (x:=x) (r:=r) y Hw.out;have hsm:=pE (y:=(x,s,p,r)) y Hs.out;obtain⟨⟨z,zs,zp,zr⟩,hz⟩:∃q,q=mD (x,s,p,r) y:=⟨_,rfl⟩;obtain⟨bn,bU⟩:=TV (Ad (x,s,p,r) y);rw[<-hz,<-bU]at CT;rw[<-hz]at hf hsm hfw;have Hz:=TY hf;have Hy:=TY hsm;have cK:=TY hfw;clear hz bU hf hsm hfw;refine CT.mono ?_;rintro e w8 ⟨E1,e1,E2,e2,E3,e3,E4,e4,rfl,oT,a8⟩;have D9:=D7.bl a8;have bC:=bA.bl a8;have bK:=bJ.bl a8;have bD:=oT.mono (B':=w.heap.size) D7.gr.size)))
      refine tK hK fun hHeld=>?_
      clear hK K;refine(tR [0])<|tL fun K hK=>?_
      go_simp
      refine tK hK fun hHeld=>?_
      clear hK K;refine(tR [8])<|tL fun K hK=>?_
      go_simp
      (first|(go_at_call 42;go_must (refine(aQ _ W g v l _ h bL hg (D5.bl Bw).B (D5.bl Bw).cur (by have:=cS.out;first|omega|(simp;omega))).mono ?_;rintro e w7 ⟨y,rfl,hy,cX,BX,a6⟩;have D7:=(D5.bl Bw).dr cX BX a6;have bA:=(cF.bl Bw).ds (D5.bl Bw).cur a6 (by decide);have bJ:=(cL.bl Bw).ds (D5.bl Bw).cur a6 (by decide);have a7:=(cG.below Bw).cur (D5.bl Bw).cur a6;obtain⟨b5,b6,b7,b8,b9,cA,cB⟩:=bA.n7))|(go_at_call 78;go_must (have CT:=(uG _ _ _ _ x s p r y _ a7.ra a7.rb a7.rc a7.rd Hs.out);have hf:=Dl y Hf.out;have hfw:=yG (x:=x) (r:=r) y Hw.out;have hsm:=pE (y:=(x,s,p,r)) y Hs.out;obtain⟨⟨z,zs,zp,zr⟩,hz⟩:∃q,q=mD (x,s,p,r) y:=⟨_,rfl⟩;obtain⟨bn,bU⟩:=TV (Ad (x,s,p,r) y);rw[<-hz,<-bU]at CT;rw[<-hz]at hf hsm hfw;have Hz:=TY hf;have Hy:=TY hsm;have cK:=TY hfw;clear hz bU hf hsm hfw;refine CT.mono ?_;rintro e w8 ⟨E1,e1,E2,e2,E3,e3,E4,e4,rfl,oT,a8⟩;have D9:=D7.bl a8;have bC:=bA.bl a8;have bK:=bJ.bl a8;have bD:=oT.mono (B':=w.heap.size) D7.gr.size)))
      refine tK hK fun hHeld=>?_
      clear hK K;refine(tW 9)<|(tW 10)<|(tW 11)<|(tR [12])<|tL fun K hK=>?_
      (refine aL rfl 32 _ _ rfl gF #[.slice E1 z.1.length e1,.slice E2 z.2.1.length e2,.slice E3 z.2.2.1.length e3,.slice E4 z.2.2.2.length e4,.int .i64 zs,.int .i64 zp,.int .i64 zr] rfl rfl _ _ bC (by kernel_rfl) rfl (nP bD.one) ?_;intro w9 cM bB;have cN:=D9.st bB bN hW bO;have cP:=bK.grown bB (by simp;omega);have cQ:=aB.dD bD bC (by decide) (by decide) (by decide) bB)
      refine tK hK fun hHeld=>?_
      clear hK K;refine tD ?_
      all_goals
        go_wp2;go_roundw
        case rel=>exact⟨k+1,z,zs,zp,zr,_,_,_,_,by omega,by go_num,Hz,cK,Hy,cQ,cM,cP,cN⟩
        case measure=>simp[intOf];omega
    . have f0:(m==0)=false:=beq_false_of_ne e0;have f1:(m==1)=false:=beq_false_of_ne e1;obtain⟨cV,cW,cY,dL,dT,eA,eC⟩:=cF.n7;go_wp2_with fail
      refine(zL _ x.2.2.1 _ cG.rc).mono ?_;rintro e w6 ⟨A7,c7,rfl,oL,eE⟩;have cI:=cG.below eE;have cE:=cF.bl eE;have cH:=cL.bl eE;have D6:=D5.bl eE;have cJ:=oL.mono (B':=w.heap.size) D5.gr.size;have HL:Hid ((fC x.2.2.1).length<=64):=TY (by unfold fC;exact Nat.le_trans (List.length_filter_le _ _) (by simp));obtain⟨L,hL⟩:=TV (fC x.2.2.1);rw[<-hL]at cJ HL⊢;clear cV cW cY dL dT eA eC cG cF cL D5 oL eE hL;by_cases hl0:L.length=0
      . have eM : ¬ 0 < (L.length : Int) := by omega
        go_wp2;go_roundw
        case rel=>exact⟨k+1,x,s,p,r,_,_,_,_,by omega,by go_num,Hf,TY (xD Hw.out (by omega)),Hs,cI,cE,cH,D6⟩
        case measure=>simp[intOf];omega
      . have eM : 0 < (L.length : Int) := by omega
        obtain⟨cV,cW,cY,dL,dT,eA,eC⟩:=cE.n7;have Bw:Below w6.heap.size w6 w6.drew:=(Below.refl _ _).drew;go_upto_region 9 with(fail)
        refine rB (fun _=>True) fun hHeld=>(tW 1)<|(tW 2)<|(tW 3)<|(tW 4)<|(tR [0,5])<|tC (fun K hK=>?_) ?_
        go_simp
        refine tK hK fun hHeld=>?_
        clear hK K;refine(tR [5])<|tL fun K hK=>?_
        go_simp
        (first|(go_at_call 42;go_must (refine(aQ (L.length:Int) W g v l _ h bL hg (D6.bl Bw).B (D6.bl Bw).cur (by have:=HL.out;omega)).mono ?_;rintro e w7 ⟨y,rfl,hy,cX,BX,a6⟩;have D7:=(D6.bl Bw).dr cX BX a6;have bA:=(cE.bl Bw).ds (D6.bl Bw).cur a6 (by decide);have bJ:=(cH.bl Bw).ds (D6.bl Bw).cur a6 (by decide);have a7:=(cI.below Bw).cur (D6.bl Bw).cur a6;obtain⟨b5,b6,b7,b8,b9,cA,cB⟩:=bA.n7;obtain⟨i,hi,rfl⟩:=tV hy hl0;have bR:=(cJ.below Bw).cur (D6.bl Bw).cur (by decide) a6;have eK:(i:Int)<(L.length:Int):=Int.ofNat_lt.2 hi;obtain⟨b,off,rfl,hb,k0,k1⟩:=(bR.rd qF (by decide)).fQ hi;obtain⟨⟨cx,cy⟩,cC⟩:∃q,q=L[i]:=⟨_,rfl⟩;rw[<-cC]at k0 k1;simp only at k0 k1;clear cC))|(go_at_call 80;go_must (have CT:=(sZ _ _ _ _ x s p r cx cy _ a7.ra a7.rb a7.rc a7.rd Hs.out);have hf:=Bi (cx,cy) Hf.out;have hsm:=nX (y:=(x,s,p,r)) (cx,cy) Hs.out;obtain⟨z,hz⟩:=TV (kN (x,s,p,r) (cx,cy));obtain⟨tb,cD⟩:=TV (mH (x,s,p,r) (cx,cy));rw[<-hz,<-cD]at CT;rw[<-hz]at hf hsm;have Hz:=TY hf;have Hy:=TY hsm;clear hz cD hf hsm;refine CT.mono ?_;rintro e w8 ⟨E1,e1,E2,e2,E3,e3,E4,e4,rfl,oT,a8⟩;have D9:=D7.bl a8;have bC:=bA.bl a8;have bK:=bJ.bl a8;have bD:=oT.mono (B':=w.heap.size) D7.gr.size)))
        refine tK hK fun hHeld=>?_
        clear hK K;refine(tW 6)<|(tR [7])<|tL fun K hK=>?_
        go_simp
        refine tK hK fun hHeld=>?_
        clear hK K;refine(tR [8])<|tL fun K hK=>?_
        go_simp
        (first|(go_at_call 42;go_must (refine(aQ (L.length:Int) W g v l _ h bL hg (D6.bl Bw).B (D6.bl Bw).cur (by have:=HL.out;omega)).mono ?_;rintro e w7 ⟨y,rfl,hy,cX,BX,a6⟩;have D7:=(D6.bl Bw).dr cX BX a6;have bA:=(cE.bl Bw).ds (D6.bl Bw).cur a6 (by decide);have bJ:=(cH.bl Bw).ds (D6.bl Bw).cur a6 (by decide);have a7:=(cI.below Bw).cur (D6.bl Bw).cur a6;obtain⟨b5,b6,b7,b8,b9,cA,cB⟩:=bA.n7;obtain⟨i,hi,rfl⟩:=tV hy hl0;have bR:=(cJ.below Bw).cur (D6.bl Bw).cur (by decide) a6;have eK:(i:Int)<(L.length:Int):=Int.ofNat_lt.2 hi;obtain⟨b,off,rfl,hb,k0,k1⟩:=(bR.rd qF (by decide)).fQ hi;obtain⟨⟨cx,cy⟩,cC⟩:∃q,q=L[i]:=⟨_,rfl⟩;rw[<-cC]at k0 k1;simp only at k0 k1;clear cC))|(go_at_call 80;go_must (have CT:=(sZ _ _ _ _ x s p r cx cy _ a7.ra a7.rb a7.rc a7.rd Hs.out);have hf:=Bi (cx,cy) Hf.out;have hsm:=nX (y:=(x,s,p,r)) (cx,cy) Hs.out;obtain⟨z,hz⟩:=TV (kN (x,s,p,r) (cx,cy));obtain⟨tb,cD⟩:=TV (mH (x,s,p,r) (cx,cy));rw[<-hz,<-cD]at CT;rw[<-hz]at hf hsm;have Hz:=TY hf;have Hy:=TY hsm;clear hz cD hf hsm;refine CT.mono ?_;rintro e w8 ⟨E1,e1,E2,e2,E3,e3,E4,e4,rfl,oT,a8⟩;have D9:=D7.bl a8;have bC:=bA.bl a8;have bK:=bJ.bl a8;have bD:=oT.mono (B':=w.heap.size) D7.gr.size)))
        refine tK hK fun hHeld=>?_
        clear hK K;refine(tW 9)<|(tW 10)<|(tW 11)<|(tR [12])<|tL fun K hK=>?_
        (refine aL rfl 32 _ _ rfl gF #[.slice E1 z.1.length e1,.slice E2 z.2.1.length e2,.slice E3 z.2.2.1.length e3,.slice E4 z.2.2.2.length e4,.int .i64 s,.int .i64 p,.int .i64 r] rfl rfl _ _ bC (by kernel_rfl) rfl (nP bD.one) ?_;intro w9 cM bB;have cN:=D9.st bB bN hW bO;have cP:=bK.grown bB (by simp;omega);have cQ:=aB.dD bD bC (by decide) (by decide) (by decide) bB)
        refine tK hK fun hHeld=>?_
        clear hK K;refine tD ?_
        rotate_left 1
        refine tL fun K hK=>?_
        go_simp
        (first|(go_at_call 42;go_must (refine(aQ (L.length:Int) W g v l _ h bL hg (D6.bl Bw).B (D6.bl Bw).cur (by have:=HL.out;omega)).mono ?_;rintro e w7 ⟨y,rfl,hy,cX,BX,a6⟩;have D7:=(D6.bl Bw).dr cX BX a6;have bA:=(cE.bl Bw).ds (D6.bl Bw).cur a6 (by decide);have bJ:=(cH.bl Bw).ds (D6.bl Bw).cur a6 (by decide);have a7:=(cI.below Bw).cur (D6.bl Bw).cur a6;obtain⟨b5,b6,b7,b8,b9,cA,cB⟩:=bA.n7;obtain⟨i,hi,rfl⟩:=tV hy hl0;have bR:=(cJ.below Bw).cur (D6.bl Bw).cur (by decide) a6;have eK:(i:Int)<(L.length:Int):=Int.ofNat_lt.2 hi;obtain⟨b,off,rfl,hb,k0,k1⟩:=(bR.rd qF (by decide)).fQ hi;obtain⟨⟨cx,cy⟩,cC⟩:∃q,q=L[i]:=⟨_,rfl⟩;rw[<-cC]at k0 k1;simp only at k0 k1;clear cC))|(go_at_call 80;go_must (have CT:=(sZ _ _ _ _ x s p r cx cy _ a7.ra a7.rb a7.rc a7.rd Hs.out);have hf:=Bi (cx,cy) Hf.out;have hsm:=nX (y:=(x,s,p,r)) (cx,cy) Hs.out;obtain⟨z,hz⟩:=TV (kN (x,s,p,r) (cx,cy));obtain⟨tb,cD⟩:=TV (mH (x,s,p,r) (cx,cy));rw[<-hz,<-cD]at CT;rw[<-hz]at hf hsm;have Hz:=TY hf;have Hy:=TY hsm;clear hz cD hf hsm;refine CT.mono ?_;rintro e w8 ⟨E1,e1,E2,e2,E3,e3,E4,e4,rfl,oT,a8⟩;have D9:=D7.bl a8;have bC:=bA.bl a8;have bK:=bJ.bl a8;have bD:=oT.mono (B':=w.heap.size) D7.gr.size)))
        refine tK hK fun hHeld=>?_
        clear hK K;refine(tW 6)<|(tR [0,7])<|tC (fun K hK=>?_) ?_;go_simp
        refine tK hK fun hHeld=>?_
        clear hK K;refine(tR [7])<|tL fun K hK=>?_
        go_simp
        refine tK hK fun hHeld=>?_
        clear hK K;refine(tR [8])<|tL fun K hK=>?_
        go_simp
        (first|(go_at_call 42;go_must (refine(aQ (L.length:Int) W g v l _ h bL hg (D6.bl Bw).B (D6.bl Bw).cur (by have:=HL.out;omega)).mono ?_;rintro e w7 ⟨y,rfl,hy,cX,BX,a6⟩;have D7:=(D6.bl Bw).dr cX BX a6;have bA:=(cE.bl Bw).ds (D6.bl Bw).cur a6 (by decide);have bJ:=(cH.bl Bw).ds (D6.bl Bw).cur a6 (by decide);have a7:=(cI.below Bw).cur (D6.bl Bw).cur a6;obtain⟨b5,b6,b7,b8,b9,cA,cB⟩:=bA.n7;obtain⟨i,hi,rfl⟩:=tV hy hl0;have bR:=(cJ.below Bw).cur (D6.bl Bw).cur (by decide) a6;have eK:(i:Int)<(L.length:Int):=Int.ofNat_lt.2 hi;obtain⟨b,off,rfl,hb,k0,k1⟩:=(bR.rd qF (by decide)).fQ hi;obtain⟨⟨cx,cy⟩,cC⟩:∃q,q=L[i]:=⟨_,rfl⟩;rw[<-cC]at k0 k1;simp only at k0 k1;clear cC))|(go_at_call 80;go_must (have CT:=(sZ _ _ _ _ x s p r cx cy _ a7.ra a7.rb a7.rc a7.rd Hs.out);have hf:=Bi (cx,cy) Hf.out;have hsm:=nX (y:=(x,s,p,r)) (cx,cy) Hs.out;obtain⟨z,hz⟩:=TV (kN (x,s,p,r) (cx,cy));obtain⟨tb,cD⟩:=TV (mH (x,s,p,r) (cx,cy));rw[<-hz,<-cD]at CT;rw[<-hz]at hf hsm;have Hz:=TY hf;have Hy:=TY hsm;clear hz cD hf hsm;refine CT.mono ?_;rintro e w8 ⟨E1,e1,E2,e2,E3,e3,E4,e4,rfl,oT,a8⟩;have D9:=D7.bl a8;have bC:=bA.bl a8;have bK:=bJ.bl a8;have bD:=oT.mono (B':=w.heap.size) D7.gr.size)))
        refine tK hK fun hHeld=>?_
        clear hK K;refine(tW 9)<|(tW 10)<|(tW 11)<|(tR [12])<|tL fun K hK=>?_
        (refine aL rfl 32 _ _ rfl gF #[.slice E1 z.1.length e1,.slice E2 z.2.1.length e2,.slice E3 z.2.2.1.length e3,.slice E4 z.2.2.2.length e4,.int .i64 s,.int .i64 p,.int .i64 r] rfl rfl _ _ bC (by kernel_rfl) rfl (nP bD.one) ?_;intro w9 cM bB;have cN:=D9.st bB bN hW bO;have cP:=bK.grown bB (by simp;omega);have cQ:=aB.dD bD bC (by decide) (by decide) (by decide) bB)
        refine tK hK fun hHeld=>?_
        clear hK K;refine tD ?_
        rotate_left 1
        refine tL fun K hK=>?_
        go_simp
        refine tK hK fun hHeld=>?_
        clear hK K;refine(tR [0])<|tL fun K hK=>?_
        go_simp
        refine tK hK fun hHeld=>?_
        clear hK K;refine(tR [8])<|tL fun K hK=>?_
        go_simp
        (first|(go_at_call 42;go_must (refine(aQ (L.length:Int) W g v l _ h bL hg (D6.bl Bw).B (D6.bl Bw).cur (by have:=HL.out;omega)).mono ?_;rintro e w7 ⟨y,rfl,hy,cX,BX,a6⟩;have D7:=(D6.bl Bw).dr cX BX a6;have bA:=(cE.bl Bw).ds (D6.bl Bw).cur a6 (by decide);have bJ:=(cH.bl Bw).ds (D6.bl Bw).cur a6 (by decide);have a7:=(cI.below Bw).cur (D6.bl Bw).cur a6;obtain⟨b5,b6,b7,b8,b9,cA,cB⟩:=bA.n7;obtain⟨i,hi,rfl⟩:=tV hy hl0;have bR:=(cJ.below Bw).cur (D6.bl Bw).cur (by decide) a6;have eK:(i:Int)<(L.length:Int):=Int.ofNat_lt.2 hi;obtain⟨b,off,rfl,hb,k0,k1⟩:=(bR.rd qF (by decide)).fQ hi;obtain⟨⟨cx,cy⟩,cC⟩:∃q,q=L[i]:=⟨_,rfl⟩;rw[<-cC]at k0 k1;simp only at k0 k1;clear cC))|(go_at_call 80;go_must (have CT:=(sZ _ _ _ _ x s p r cx cy _ a7.ra a7.rb a7.rc a7.rd Hs.out);have hf:=Bi (cx,cy) Hf.out;have hsm:=nX (y:=(x,s,p,r)) (cx,cy) Hs.out;obtain⟨z,hz⟩:=TV (kN (x,s,p,r) (cx,cy));obtain⟨tb,cD⟩:=TV (mH (x,s,p,r) (cx,cy));rw[<-hz,<-cD]at CT;rw[<-hz]at hf hsm;have Hz:=TY hf;have Hy:=TY hsm;clear hz cD hf hsm;refine CT.mono ?_;rintro e w8 ⟨E1,e1,E2,e2,E3,e3,E4,e4,rfl,oT,a8⟩;have D9:=D7.bl a8;have bC:=bA.bl a8;have bK:=bJ.bl a8;have bD:=oT.mono (B':=w.heap.size) D7.gr.size)))
        refine tK hK fun hHeld=>?_
        clear hK K;refine(tW 9)<|(tW 10)<|(tW 11)<|(tR [12])<|tL fun K hK=>?_
        (refine aL rfl 32 _ _ rfl gF #[.slice E1 z.1.length e1,.slice E2 z.2.1.length e2,.slice E3 z.2.2.1.length e3,.slice E4 z.2.2.2.length e4,.int .i64 s,.int .i64 p,.int .i64 r] rfl rfl _ _ bC (by kernel_rfl) rfl (nP bD.one) ?_;intro w9 cM bB;have cN:=D9.st bB bN hW bO;have cP:=bK.grown bB (by simp;omega);have cQ:=aB.dD bD bC (by decide) (by decide) (by decide) bB)
        refine tK hK fun hHeld=>?_
        clear hK K;refine tD ?_
        all_goals
          go_wp2;go_roundw
          case rel=>exact⟨k+1,z,s,p,r,_,_,_,_,by omega,by go_num,Hz,TY (xD Hw.out (by omega)),Hy,cQ,cM,cP,cN⟩
          case measure=>simp[intOf];omega
  . have fN:¬(k:Int)<n:=fD;have fO:=xD Hw.out (show k<=7 by omega);obtain⟨cV,cW,cY,dL,dT,eA,eC⟩:=bW.n7;go_wp2_with (rw[<-e6.out];refine aA rfl 32 _ _ rfl gX #[V1,V2,V3,V4,.int .i64 s,.int .i64 p,.int .i64 r] rfl rfl _ _ eI (by kernel_rfl) rfl (nP oW.one) ?_;intro wE bE eR)
    have oE:=aB.dD oW eI (by decide) (by decide) (by decide) eR;obtain⟨fR,fS,fW,fX,fY,gA,gB⟩:=bE.n7;refine bodyPost_ret (v:= .agg #[V1,V2,V3,V4,.int .i64 s,.int .i64 p,.int .i64 r]) (by simp[results,Tryz.results41,go_sem,fR,fS,fW,fX,fY,gA,gB]) rfl ⟨x,s,p,r,V1,V2,V3,V4,rfl,oE,Hf.out,fO,Hs.out,D1.st eR e7 hW hne⟩
theorem II (W : World) (g : Nat) (v : Value) (l : List Int) (w : World) (h : Rd 1 nG W v l) (a8 : Hid (nR (fun x => 0 <= x /\ x <= 255) l)) (hg : W.heap.size <= g) (a6 : Below W.heap.size W w) (a7 : Cur w g v l.length) :
 Calls Tryz.prog 41 #[.pointer (some ⟨g,0,none⟩)] w (KW W g v l.length w):=by
 refine(F5 W g v l w h a8 hg a6 a7).mono ?_;rintro e w' ⟨x,s,p,r,V1,V2,V3,V4,h1,h2,h3,_,h5,h6⟩;exact⟨x,s,p,r,V1,V2,V3,V4,h1,h2,h3,h5,h6⟩
end Go.Proofs.YtjijonhkofhikaaGreatDoor
