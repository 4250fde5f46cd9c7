import Derived.Test.YtjijonhkofhikaaGreatDoorFG37
open _root_.List renaming length_append->Tm
open _root_.Nat renaming le_refl->Tn
open _root_.Go.Value (slice ownBlock oneCell')
open _root_.Go.Proofs.Tryz (prog func38 ntmps38)
open _root_.Go.Proofs.Tryz renaming results35->Tp
set_option linter.unusedVariables false
set_option linter.unusedSimpArgs false
set_option maxHeartbeats 4000000
set_option maxRecDepth 100000
namespace Go.Proofs.YtjijonhkofhikaaGreatDoor
open Go.ChangeShapes Go.WideShapes Go.ChangeAt Go.RowKit
theorem Qj (u1 u2 u3 u4 u5:Value) (x:Fl) (s p r:Int) (l:List Ac) (w:World) (h1:Rd 1 aZ w u1 x.1) (h2:Rd 3 aQ w u2 x.2.1) (h3:Rd 3 aQ w u3 x.2.2.1) (h4:Rd 2 bT w u4 x.2.2.2) (h5:Rd 3 (RE mM) w u5 l) (hs:bQ x):
 Calls prog 35 #[.agg #[u1,u2,u3,u4,.int .i64 s,.int .i64 p,.int .i64 r],u5] w (QI (rQ (x,s,p,r) l) w):=by
 obtain⟨A5,c5,rfl,e6,e7⟩:=h5.form;obtain⟨R,cD⟩:=Ti (rQ (x,s,p,r) l);obtain⟨kk,cE⟩:=Ti (dF (x,s,p,r))
 have hno : kk = false ∨ ¬ l.length <= 40 -> R = ((x, s, p, r), []) := fun h => by
  rw[cD];unfold rQ;rw[<-cE,if_neg];rcases h with h|h
  . rw[h];exact fun e=>absurd e.1 (by decide)
  . exact fun e=>h e.2
 have bS:kk=true->l.length<=40->goR (x,s,p,r) [] l=R:=fun h h'=>by rw[cD];unfold rQ;rw[<-cE,if_pos ⟨h,h'⟩]
 rw[<-cD];have CK:∀w,R4 w u1 u2 u3 u4 x->Calls prog 69 #[.agg #[u1,u2,u3,u4,.int .i64 s,.int .i64 p,.int .i64 r]] w (Ret (.bool kk) w):=fun w h=>by rw[cE];exact fA _ _ _ _ (x,s,p,r) w h.a h.b h.c h.d hs.2.1
 have CC:∀w,R4 w u1 u2 u3 u4 x->Calls prog 68 #[.agg #[u1,u2,u3,u4,.int .i64 s,.int .i64 p,.int .i64 r]] w (Co (fun v=>v) (x,s,p,r) w):=fun w h=>(lI _ _ _ _ x s p r w h.a h.b h.c h.d hs).mono fun _ _=>Jh
 have HN:=Tk hno;have HY:=Tk bS;have hR:R4 w u1 u2 u3 u4 x:=⟨h1,h2,h3,h4⟩;clear cD cE hno bS h1 h2 h3 h4
 have D0:DB w ((w.alloc (.cells #[u1,u2,u3,u4,.int .i64 s,.int .i64 p,.int .i64 r] 32)).alloc (.cells #[.slice none 0 0,.slice none 0 0,.slice none 0 0,.slice none 0 0,.int .i64 0,.int .i64 0,.int .i64 0] 32)) w.heap.size (w.heap.size+1) #[u1,u2,u3,u4,.int .i64 s,.int .i64 p,.int .i64 r] #[.slice none 0 0,.slice none 0 0,.slice none 0 0,.slice none 0 0,.int .i64 0,.int .i64 0,.int .i64 0]:=
  ⟨((Below.refl w.heap.size w).al _).al _,(Blk.aX w _ _).alloc _,Blk.gI (w.alloc _) _ _ (w.heap.size+1) (by simp)⟩
 go_enter Tryz.func35,Tryz.ntmps35
 go_wp2_with fail
 obtain⟨W0,hW0⟩:=Ti ((w.alloc (.cells #[u1,u2,u3,u4,.int .i64 s,.int .i64 p,.int .i64 r] 32)).alloc (.cells #[.slice none 0 0,.slice none 0 0,.slice none 0 0,.slice none 0 0,.int .i64 0,.int .i64 0,.int .i64 0] 32));obtain⟨gP,cI⟩:=Ti w.heap.size;obtain⟨gR,bA⟩:=Ti (w.heap.size+1);rw[<-hW0,<-bA,<-cI]at D0;rw[<-hW0,<-bA,<-cI];have cJ:w.heap.size<=gR:=(by omega);have eA:gP≠gR:=(by omega);clear hW0 cI bA;refine(CC _ (hR.bl D0.B)).mono ?_;rintro e w3 ⟨C1,C2,C3,C4,rfl,oO,hb3⟩;have D3:=D0.bl hb3;have oO:=oO.mono D0.B.size;clear D0 hb3;go_upto_region 2 with(refine aA rfl 32 _ _ rfl w3.heap.size #[C1,C2,C3,C4,.int .i64 s,.int .i64 p,.int .i64 r] rfl rfl _ _ (Blk.aX w3 32 #[.slice none 0 0,.slice none 0 0,.slice none 0 0,.slice none 0 0,.int .i64 0,.int .i64 0,.int .i64 0]) (by kernel_rfl) rfl (mV oO.one) ?_;intro w0 cK hg4;have D0:=D3.alg hg4;have oO:=aB.alg oO (by decide) (by decide) (by decide) hg4)
 obtain⟨gN,bU⟩:=Ti w3.heap.size;have eC:gP≠gN:=by have:=D3.p.lt;omega
 have eE:gR≠gN:=by have:=D3.r.lt;omega
 have eI:w.heap.size<=gN:=by have:=D3.B.size;omega
 rw[<-bU]at cK⊢;clear bU hg4 D3;obtain⟨bB,bC,bD,bF,bJ,bK,bL⟩:=D0.p.n7;have eJ:=D0.p.lt;have cU:=eG w0 (E:=3) (enc:=aW) (size:=1) _ rfl w.heap.size D0.B.size;have cL:∀g,C1.ownBlock=some g->(slice (some ⟨w0.heap.size,0,none⟩) 0 0).ownBlock≠some g:=fun g q e=>by have:=(oO.lt (.inl q)).2;simp[ownBlock]at e;omega
 go_wp2_with fail
 refine(CK _ (hR.bl (D0.B.al _))).mono ?_;rintro e w1 ⟨rfl,hb1⟩;have D1:=(D0.al _).bl hb1;have cF:=(cK.alloc _).bl hb1;have bO:=(oO.alloc _).below hb1;have cG:=cU.below hb1;clear D0 cK oO cU hb1 bB bC bD bF bJ bK bL eJ;cases kk
 . obtain rfl := HN.out (.inl (by first | rfl | trivial));obtain⟨bB,bC,bD,bF,bJ,bK,bL⟩:=cF.n7;go_wp2_with (refine aA rfl 32 _ _ rfl gR #[C1,C2,C3,C4,.int .i64 s,.int .i64 p,.int .i64 r] rfl rfl _ _ D1.r (by kernel_rfl) rfl (mV bO.one) ?_;intro wE bE a8)
   have oE:=aB.cO bO D1.r (by decide) (by decide) (by decide) a8;have oL:=aD.FC cG D1.r (by decide) a8;have BE:=D1.B.grown a8 D1.B.size (fun k hk=>by injection hk with hk;subst hk;exact cJ);obtain⟨bX,bY,b5,b6,b7,b8,b9⟩:=bE.n7;refine bodyPost_ret (v:= .tuple #[.agg #[C1,C2,C3,C4,.int .i64 s,.int .i64 p,.int .i64 r],.slice (some ⟨w0.heap.size,0,none⟩) 0 0]) (by simp[results,Tp,go_sem,bX,bY,b5,b6,b7,b8,b9]) rfl ⟨_,_,_,_,_,_,rfl,oE,oL,cL,BE⟩
 . by_cases cV:l.length<=40
   . have cM : decide ((40 : Int) < (l.length : Int)) = false := decide_eq_false (by omega);have hy:=HY.out (by first|rfl|trivial) cV;have HG:=Tk hy;clear hy;go_wp2;go_loopw [7,8] (fun s7 s8 wr=>∃(k:Nat) (x2:Fl) (s2 p2 r2:Int) (ns:List Int) (A7:Option Addr) (c7:Nat) (V1 V2 V3 V4:Value),k<=l.length/\s8= .int .i64 k/\s7= .slice A7 ns.length c7/\Hid (goR (x2,s2,p2,r2) ns (l.drop k)=R)/\Hid (bQ x2)/\Hid (ns.length=k)/\DB w wr gP gR #[u1,u2,u3,u4,.int .i64 s,.int .i64 p,.int .i64 r] #[.slice none 0 0,.slice none 0 0,.slice none 0 0,.slice none 0 0,.int .i64 0,.int .i64 0,.int .i64 0]/\Blk wr gN 32 #[V1,V2,V3,V4,.int .i64 s2,.int .i64 p2,.int .i64 r2]/\aB w.heap.size wr V1 V2 V3 V4 x2/\aD 3 1 aW w.heap.size wr (.slice A7 ns.length c7) ns/\∀g,V1.ownBlock=some g->(slice A7 ns.length c7).ownBlock≠some g) (fun _ i _=>l.length-(intOf i).toNat)
     case atStart=>exact⟨0,x,s,p,r,[],_,_,_,_,_,_,Nat.zero_le _,rfl,rfl,Tk HG.out,Tk hs,Tk rfl,D1,cF,bO,cG,cL⟩
     case round=>
      obtain⟨k,x2,s2,p2,r2,ns,A7,c7,V1,V2,V3,V4,hk,rfl,rfl,Hg,cW,Hn,D,bN,oW,oS,ap⟩:=hrel;clear D1 cF bO;clear cG;by_cases hlt:k<l.length
      . skip;obtain⟨b,off,rfl,hb,k0,k1,k2⟩:=(h5.Tj D.B).Qn hlt;have hg:=Hg.out;rw[KL hlt]at hg;have hsm:=xP (y:=(x2,s2,p2,r2)) l[k] cW.out;obtain⟨⟨ka,kb,kc⟩,hx⟩:∃x,x=l[k]:=⟨_,rfl⟩;rw[<-hx]at k0 k1 k2 hg hsm;simp only at k0 k1 k2;obtain⟨⟨z,zs,zp,zr⟩,hz⟩:∃z,z=zT (x2,s2,p2,r2) (ka,kb,kc):=⟨_,rfl⟩;obtain⟨m,hm⟩:=Ti (zD (x2,s2,p2,r2) (ka,kb,kc));rw[<-hz,<-hm]at hg;rw[<-hz]at hsm;have eK:=Tk hg;have eL:=Tk hsm;have HZ:=Tk hz;have HM:=Tk hm;have eM:ns.length<40:=by have:=Hn.out;omega
        have H8:Hid ((ns.length+1)*8<=140737488355328):=Tk (by omega);have HX:Hid (ns.length+1<=maxLen):=Tk (by unfold maxLen;omega);clear hg hsm hx hz hm;obtain⟨bB,bC,bD,bF,bJ,bK,bL⟩:=bN.n7;have eN:=bN.lt;have CD:∀w',Below wr.heap.size wr w'->Calls prog 70 #[.agg #[V1,V2,V3,V4,.int .i64 s2,.int .i64 p2,.int .i64 r2],.agg #[.int .i64 ka,.int .i64 kb,.int .i64 kc]] w' (Co (fun v=> .tuple #[v,.int .i64 m]) (z,zs,zp,zr) w'):=fun w' hb=>by rw[HZ.out,HM.out];exact LD _ _ _ _ x2 s2 p2 r2 ka kb kc _ (oW.below hb).ra (oW.below hb).rb (oW.below hb).rc (oW.below hb).rd cW.out
        have e8:(k:Int)<(l.length:Int):=(by omega);have hbl:=hb;have Bw:Below wr.heap.size wr wr.drew:=(Below.refl _ _).drew;have hz:wr.heap.size<=wr.drew.heap.size:=(by simp);go_wp2_with fail
        refine rB (fun w'=>w'.cell? ⟨gN,0,none⟩=some V1/\w'.cell? ⟨gN,1,none⟩=some V2/\w'.cell? ⟨gN,2,none⟩=some V3/\w'.cell? ⟨gN,3,none⟩=some V4/\w'.cell? ⟨gN,4,none⟩=some (.int .i64 s2)/\w'.cell? ⟨gN,5,none⟩=some (.int .i64 p2)/\w'.cell? ⟨gN,6,none⟩=some (.int .i64 r2)/\w'.cell? ⟨b,off+k*3,none⟩=some (.int .i64 ka)/\w'.cell? ⟨b,off+k*3+1,none⟩=some (.int .i64 kb)/\w'.cell? ⟨b,off+k*3+2,none⟩=some (.int .i64 kc)) fun hHeld=>(tW 0)<|(tW 1)<|(tW 2)<|(tW 3)<|(tW 4)<|(tR [5,9])<|tC (fun K hK=>?_) ?_
        go_simp
        (go_at_call 70;go_must (refine(CD _ Bw).mono ?_;rintro e wX ⟨E1,E2,E3,E4,rfl,oT,a6⟩;have oT:=oT.mono hz;(try replace bM:=bM.bl a6);obtain⟨bP,bR,a7⟩:=bkn a6 wr.heap.size hz;have hz:=a7;have Bw:=Bw.tr a6))
        refine tK hK fun hHeld=>?_
        clear hK K;refine(tW 6)<|(tW 7)<|(tW 8)<|(tR [9])<|tL fun K hK=>?_
        (refine kP rfl 32 _ rfl Tryz.zeroValue32 ?_;intro gM wX bM a6 cN cP cQ;have eP:wr.heap.size<=gM:=(by omega);obtain⟨bP,bR,a7⟩:=bkn a6 wr.heap.size hz;replace hz:=a7;replace Bw:=Bw.tr a6;(try replace oT:=oT.below a6))
        refine tK hK fun hHeld=>?_
        clear hK K;refine(tR [10])<|tL fun K hK=>?_
        (refine aK rfl 32 _ _ rfl gM #[E1,E2,E3,E4,.int .i64 zs,.int .i64 zp,.int .i64 zr] rfl rfl _ _ bM (by kernel_rfl) rfl (mV oT.one) ?_;intro wX cX cA;have cB:=aB.cO oT bM (by decide) (by decide) (by decide) cA;replace Bw:=Bw.grown cA hz (fun k hk=>by injection hk with hk;subst hk;omega);obtain⟨bP,bR,a7⟩:=bk Bw;have hz:=a7)
        refine tK hK fun hHeld=>?_
        clear hK K;refine(tW 11)<|tD ?_
        rotate_left 1
        refine tL fun K hK=>?_
        (refine kP rfl 32 _ rfl Tryz.zeroValue32 ?_;intro gM wX bM a6 cN cP cQ;have eP:wr.heap.size<=gM:=(by omega);obtain⟨bP,bR,a7⟩:=bkn a6 wr.heap.size hz;replace hz:=a7;replace Bw:=Bw.tr a6;(try replace oT:=oT.below a6))
        refine tK hK fun hHeld=>?_
        clear hK K;refine(tR [5])<|tL fun K hK=>?_
        go_simp
        (go_at_call 70;go_must (refine(CD _ Bw).mono ?_;rintro e wX ⟨E1,E2,E3,E4,rfl,oT,a6⟩;have oT:=oT.mono hz;(try replace bM:=bM.bl a6);obtain⟨bP,bR,a7⟩:=bkn a6 wr.heap.size hz;have hz:=a7;have Bw:=Bw.tr a6))
        refine tK hK fun hHeld=>?_
        clear hK K;refine(tW 6)<|(tW 7)<|(tW 8)<|(tR [10])<|tL fun K hK=>?_
        (refine aK rfl 32 _ _ rfl gM #[E1,E2,E3,E4,.int .i64 zs,.int .i64 zp,.int .i64 zr] rfl rfl _ _ bM (by kernel_rfl) rfl (mV oT.one) ?_;intro wX cX cA;have cB:=aB.cO oT bM (by decide) (by decide) (by decide) cA;replace Bw:=Bw.grown cA hz (fun k hk=>by injection hk with hk;subst hk;omega);obtain⟨bP,bR,a7⟩:=bk Bw;have hz:=a7)
        refine tK hK fun hHeld=>?_
        clear hK K;refine(tW 11)<|tD ?_
        all_goals
          have cY:=oT.newer oS (Tn _);have cB:=cB.mono D.B.size;have D5:=D.bl Bw;have cR:=bN.bl Bw;have eR:=oS.below Bw;clear bB bC bD bF bJ bK bL k0 k1 k2 hb hbl hHeld bP bR a7 hz Bw D bN oW oS oT eN;obtain⟨bB,bC,bD,bF,bJ,bK,bL⟩:=cX.n7;go_wp2_with (first|(refine aA rfl 32 _ _ rfl gN #[E1,E2,E3,E4,.int .i64 zs,.int .i64 zp,.int .i64 zr] rfl rfl _ _ cR (by kernel_rfl) rfl (mV cB.one) ?_;intro w6 dL cS;have D6:=D5.gr cS eI eC eE;have dT:=aB.cO cB cR (by decide) (by decide) (by decide) cS;have cH:=aD.FC eR cR (by decide) cS)|(at_builtin;go_must (refine aF (enc:=aW) fP aM jS D6.B cH (m:Int) H8.out HX.out rfl _ _ rfl rfl rfl ?_);intro v7 w7 cC eW cT e5;obtain⟨A8,c8,rfl,e9,fD⟩:=cC.form))
          go_roundw
          case rel=>exact⟨k+1,z,zs,zp,zr,ns++[m],A8,c8,E1,E2,E3,E4,by omega,by go_num,by rw[Tm,List.length_singleton],eK,eL,Tk (by rw[Tm,List.length_singleton,Hn.out]),D6.app cH cT eW,(dL.alloc _).grown cT (fun e=>cH.apart dL (by decide) e.symm),dT.Td cH cY cT,cC,QJ dT cY e5 (by omega)⟩
          case measure=>simp[intOf];omega
      . obtain rfl : k = l.length := by omega
        have hg:=Hg.out;rw[M7]at hg;subst hg;obtain⟨bB,bC,bD,bF,bJ,bK,bL⟩:=bN.n7;go_wp2_with (refine aA rfl 32 _ _ rfl gR #[V1,V2,V3,V4,.int .i64 s2,.int .i64 p2,.int .i64 r2] rfl rfl _ _ D.r (by kernel_rfl) rfl (mV oW.one) ?_;intro wE bE a8)
        have oE:=aB.cO oW D.r (by decide) (by decide) (by decide) a8;have oL:=aD.FC oS D.r (by decide) a8;have BE:=D.B.grown a8 D.B.size (fun k hk=>by injection hk with hk;subst hk;exact cJ);obtain⟨bX,bY,b5,b6,b7,b8,b9⟩:=bE.n7;refine bodyPost_ret (v:= .tuple #[.agg #[V1,V2,V3,V4,.int .i64 s2,.int .i64 p2,.int .i64 r2],.slice A7 ns.length c7]) (by simp[results,Tp,go_sem,bX,bY,b5,b6,b7,b8,b9]) rfl ⟨_,_,_,_,_,_,rfl,oE,oL,ap,BE⟩
   . have cM : decide ((40 : Int) < (l.length : Int)) = true := decide_eq_true (by omega);obtain rfl:=HN.out (.inr cV);obtain⟨bB,bC,bD,bF,bJ,bK,bL⟩:=cF.n7;go_wp2_with (refine aA rfl 32 _ _ rfl gR #[C1,C2,C3,C4,.int .i64 s,.int .i64 p,.int .i64 r] rfl rfl _ _ D1.r (by kernel_rfl) rfl (mV bO.one) ?_;intro wE bE a8)
     have oE:=aB.cO bO D1.r (by decide) (by decide) (by decide) a8;have oL:=aD.FC cG D1.r (by decide) a8;have BE:=D1.B.grown a8 D1.B.size (fun k hk=>by injection hk with hk;subst hk;exact cJ);obtain⟨bX,bY,b5,b6,b7,b8,b9⟩:=bE.n7;refine bodyPost_ret (v:= .tuple #[.agg #[C1,C2,C3,C4,.int .i64 s,.int .i64 p,.int .i64 r],.slice (some ⟨w0.heap.size,0,none⟩) 0 0]) (by simp[results,Tp,go_sem,bX,bY,b5,b6,b7,b8,b9]) rfl ⟨_,_,_,_,_,_,rfl,oE,oL,cL,BE⟩
theorem LP (v1 v2 v3 v4:Value) (rows:List Int) (f n:List Dm) (fl:List Cl) (s p r:Int) (w:World) (h1:Rd 1 aZ w v1 rows) (h2:Rd 3 aQ w v2 f) (h3:Rd 3 aQ w v3 n) (h4:Rd 2 bT w v4 fl) (hs:bQ (rows,f,n,fl)):
 Calls prog 38 #[.agg #[v1,v2,v3,v4,.int .i64 s,.int .i64 p,.int .i64 r]] w (fM 9 1 fJ (iI ((rows,f,n,fl),s,p,r)) w):=by
 obtain⟨A1,c1,rfl,_,_⟩:=h1.form;obtain⟨A2,c2,rfl,_,_⟩:=h2.form;obtain⟨A3,c3,rfl,_,_⟩:=h3.form;obtain⟨A4,c4,rfl,_,_⟩:=h4.form;have B0:=(Below.refl w.heap.size w).al (.cells #[.slice A1 rows.length c1,.slice A2 f.length c2,.slice A3 n.length c3,.slice A4 fl.length c4,.int .i64 s,.int .i64 p,.int .i64 r] 32);have bP:=Blk.aX w 32 #[.slice A1 rows.length c1,.slice A2 f.length c2,.slice A3 n.length c3,.slice A4 fl.length c4,.int .i64 s,.int .i64 p,.int .i64 r];rcases bA:dF ((rows,f,n,fl),s,p,r)with _|_
 all_goals have bM:=Tk bA
 . have e : iI ((rows, f, n, fl), s, p, r) = [] := by unfold iI; rw [bA]; rfl
   rw[e];go_enter func38,ntmps38
   go_wp2_with fail
   refine(fA _ _ _ _ ((rows,f,n,fl),s,p,r) _ (h1.Tj B0) (h2.Tj B0) (h3.Tj B0) (h4.Tj B0) hs.2.1).mono ?_;rintro e w1 ⟨rfl,hb1⟩;rw[bM.out];go_wp2;go_ret;exact⟨_,0,rfl,eG w1 w1.heap.size rfl w.heap.size (B0.tr hb1).size,(B0.tr hb1).al _⟩
 . skip;have e:iI ((rows,f,n,fl),s,p,r)=eQ rows n++[wl uK (fl.length:Int),wl uL s,wl uM p,wl Az r]:=by unfold iI;rw[bA];rfl
   rw[e];obtain⟨F,hF⟩:=Ti (eQ rows n);rw[<-hF];have a7:=EK bA;have N1:Hid (0<=(fl.length:Int)/\(fl.length:Int)<=10000):=Tk (by have:=a7.1;simp only at this;omega);have N2:=Tk a7.2.1;have N3:=Tk a7.2.2.1;have N4:=Tk a7.2.2.2;simp only at N2 N3 N4;have b9:rows.length<=8:=sD bA;have b6:F.length<=rows.length:=by rw[hF];exact nJ rows n
   have HF:=Tk hF;clear hF;clear a7 bA e;go_enter func38,ntmps38
   go_wp2_with fail
   refine(fA _ _ _ _ ((rows,f,n,fl),s,p,r) _ (h1.Tj B0) (h2.Tj B0) (h3.Tj B0) (h4.Tj B0) hs.2.1).mono ?_;rintro e w1 ⟨rfl,hb1⟩;rw[bM.out];have B1:=B0.tr hb1;have bE:=bP.bl hb1;have cA:=bE.lt;obtain⟨bN,bO,bR,bS,bU,bX,bY⟩:=bE.n7;go_wp2_with fail
   refine(Cz _ _ rows n _ (h1.Tj B1) (h3.Tj B1)).mono ?_;rintro e w2 ⟨C,c,rfl,bB,hb2⟩;have B2:=B1.tr hb2;have bF:=bE.bl hb2;clear bN bO bR bS bU bX bY;have b7:=bF.lt;obtain⟨bN,bO,bR,bS,bU,bX,bY⟩:=bF.n7;have Bw:Below w2.heap.size w2 w2:=Below.refl _ _;have hz:w2.heap.size<=w2.heap.size:=Tn _;rw[<-HF.out]at bB⊢;have H8:Hid ((F.length+4)*16<=140737488355328):=Tk (by omega);have HM:Hid (F.length+4<=maxLen):=Tk (by unfold maxLen;omega);go_wp2_with fail
   have Bw:Below w2.heap.size w2 w2.drew:=Bw.drew;have hz:w2.heap.size<=w2.drew.heap.size:=Bw.size;have o0:=bB.below Bw;have bC:∀x:Int,0<=x/\x<=10000->(iJ x).size<=21:=fun x q=>tH q.1 (by omega)
   have z1:¬(9223372036854775807<6+(iJ (fl.length:Int)).size):=by have:=bC _ N1.out;omega
   have z2:¬(9223372036854775807<6+(iJ s).size):=by have:=bC _ N2.out;omega
   have z3:¬(9223372036854775807<6+(iJ p).size):=by have:=bC _ N3.out;omega
   have z4:¬(9223372036854775807<8+(iJ r).size):=by have:=bC _ N4.out;omega
   clear bC;refine rB (fun w'=>w'.cell? ⟨w.heap.size,3,none⟩=some (.slice A4 fl.length c4)/\w'.cell? ⟨w.heap.size,4,none⟩=some (.int .i64 s)/\w'.cell? ⟨w.heap.size,5,none⟩=some (.int .i64 p)/\w'.cell? ⟨w.heap.size,6,none⟩=some (.int .i64 r)) fun hHeld=>(tW 0)<|(tW 1)<|(tW 2)<|(tW 3)<|(tW 4)<|(tW 7)<|(tW 8)<|(tW 11)<|(tW 12)<|(tW 15)<|(tW 16)<|(tR [5])<|tL fun K hK=>?_
   (go_simp;go_at_call 37;go_must (refine(nN _ _ (N1.out).1 (by have:=N1.out;omega)).mono ?_;rintro e wX ⟨rfl,a6⟩;have o0:=o0.below a6;obtain⟨bJ,bK,a8⟩:=bkn a6 w2.heap.size hz;have hz:=a8;have Bw:=Bw.tr a6))
   refine tK hK fun hHeld=>?_
   clear hK K;refine(tW 6)<|(tR [9])<|tL fun K hK=>?_
   (go_simp;go_at_call 37;go_must (refine(nN _ _ (N2.out).1 (by have:=N2.out;omega)).mono ?_;rintro e wX ⟨rfl,a6⟩;have o0:=o0.below a6;obtain⟨bJ,bK,a8⟩:=bkn a6 w2.heap.size hz;have hz:=a8;have Bw:=Bw.tr a6))
   refine tK hK fun hHeld=>?_
   clear hK K;refine(tW 10)<|(tR [13])<|tL fun K hK=>?_
   (go_simp;go_at_call 37;go_must (refine(nN _ _ (N3.out).1 (by have:=N3.out;omega)).mono ?_;rintro e wX ⟨rfl,a6⟩;have o0:=o0.below a6;obtain⟨bJ,bK,a8⟩:=bkn a6 w2.heap.size hz;have hz:=a8;have Bw:=Bw.tr a6))
   refine tK hK fun hHeld=>?_
   clear hK K;refine(tW 14)<|(tR [17])<|tL fun K hK=>?_
   (go_simp;go_at_call 37;go_must (refine(nN _ _ (N4.out).1 (by have:=N4.out;omega)).mono ?_;rintro e wX ⟨rfl,a6⟩;have o0:=o0.below a6;obtain⟨bJ,bK,a8⟩:=bkn a6 w2.heap.size hz;have hz:=a8;have Bw:=Bw.tr a6))
   refine tK hK fun hHeld=>?_
   clear hK K;refine(tW 18)<|(tR [19])<|tL fun K hK=>?_
   (go_simp;have oS:=KP (B:=w.heap.size) Bw B2.size (wl uK (fl.length:Int)) (wl uL s) (wl uM p) (wl Az r);(try simp only[KO]at oS);have o0:=o0.alloc (.cells #[.string (wl uK (fl.length:Int)),.string (wl uL s),.string (wl uM p),.string (wl Az r)] 9);have Bw:=Bw.al (.cells #[.string (wl uK (fl.length:Int)),.string (wl uL s),.string (wl uM p),.string (wl Az r)] 9);have hz:=Bw.size)
   refine tK hK fun hHeld=>?_
   clear hK K;refine(tR [20])<|tL fun K hK=>?_
   (refine Cq (enc:=fJ) mW eZ nM (B:=w1.heap.size) (hb2.tr Bw).size o0 oS H8.out HM.out rfl _ _ rfl rfl rfl ?_;intro A5 c5 w5 bL b5;have bD:∀k,(slice C F.length c).ownBlock=some k->w1.heap.size<=k:=(fun k hk=>(World.ownsRow.lt o0 k hk).1);have B5:Below w.heap.size w w5:=(B2.tr Bw).grown b5 (B2.tr Bw).size (fun k hk=>Nat.le_trans B1.size (bD k hk));have b8:=(bF.below Bw b7).grown b5 (fun e=>by have:=bD _ e.symm;omega);obtain⟨cB,cC,cD,cE,cF,cG,cH⟩:=b8.n7)
   refine tK hK fun hHeld=>?_
   clear hK K;refine(tW 21)<|tD ?_
   all_goals
     go_wp2;go_ret;exact⟨A5,c5,by rw[Tm];rfl,by rw[Tm];exact bL.mono B1.size,B5⟩
def QT (rows:List Int):Prop:=rows.length<=9/\∀k (h:k<rows.length),5<=k->rows[k]<=3
theorem Ov {rows:List Int} (h:rows.length<=5):QT rows:=⟨by omega,fun k hk h5=>by omega⟩
def R12 (rows:List Int):Prop:=dX rows/\1<=bG rows/\bG rows<=60/\QT rows
def fU (rows:List Int):Fl:=if bG rows=0 then([],[],[],[])else(rows,dU rows,dU rows,[])
theorem tZ {rows:List Int} (h:Small rows.length):bQ (fU rows):=by
 have:=mK rows;unfold fU;split
 . exact⟨by unfold Small;simp,by unfold Small;simp,by unfold Small;simp,by unfold Small;simp⟩
 . exact⟨h,by unfold Small;simp only;omega,by unfold Small;simp only;omega,by unfold Small;simp⟩
theorem aN {P:Program} {ops:Array Oper} {rest:List Oper} {o:Oper} {a:Act} {w:World} {Q:Exit->Act->World->Prop} (hgd:o.guard=none) (ty:TypeId) (x y:Operand) (ho:o.op= .store ty x y)
    (g:Nat) (cells:Array Value) (hx:a.eval x= .pointer (some ⟨g,0,none⟩)) (hy:a.eval y= .agg cells)
    (t:TypeId) (old:Array Value) (hg:Blk w g t old) (hi:(P.info? ty).map (·.size)=some cells.size) (hold:old.size=cells.size) (h1:cells.all (·.oneCell')=true)
    (h:∀w',Blk w' g t cells->w.grownBy w' (some g)->wpList P ops Q rest (a.put o.dst undef) w'):wpList P ops Q (o::rest) a w:=
 wpList_store_row hgd ty x y ho g cells hx hy t old hg hi hold h1 (h _ (setRow_heap w g old cells t (0,0) hg) (IZ cells))
theorem qF (B:Nat) (w:World):aB B w (.slice none 0 0) (.slice none 0 0) (.slice none 0 0) (.slice none 0 0) ([],[],[],[]):=
 ⟨aD.Di,aD.Di,aD.Di,aD.Di,fun g q=>by simp[ownBlock]at q⟩
theorem Qk (v:Value) (rows:List Int) (w:World) (h:Rd 1 aZ w v rows) (hl:Small rows.length):Calls prog 58 #[.agg #[v]] w (kW (fU rows) (kH rows) w):=by
 obtain⟨A,c,rfl,hc,hm⟩:=h.form;have B0:=((Below.refl w.heap.size w).al (.cells #[.slice A rows.length c] 26)).al (.cells #[.slice none 0 0,.slice none 0 0,.slice none 0 0,.slice none 0 0] 30);have bX:=(Blk.aX w 26 #[.slice A rows.length c]).alloc (.cells #[.slice none 0 0,.slice none 0 0,.slice none 0 0,.slice none 0 0] 30);have bR:=Blk.gI (w.alloc (.cells #[.slice A rows.length c] 26)) 30 #[.slice none 0 0,.slice none 0 0,.slice none 0 0,.slice none 0 0] (w.heap.size+1) (by simp);obtain⟨F,hF⟩:=Ti (dU rows);obtain⟨b,hb⟩:=Ti (kH rows);have b5:F.length<=64:=by rw[hF];exact mK rows
 have bS:Small F.length:=by unfold Small;omega
 have CF:∀(u:Value) (w:World),Rd 1 aZ w u rows->Calls prog 102 #[.agg #[u]] w (OH F b w):=fun u w k1=>by rw[hF,hb];exact JG u rows w k1
 have bB : b = false -> fU rows = ([], [], [], []) := fun q => by
  rw[hb]at q;unfold kH at q;unfold fU;rw[if_pos (by simpa using q)]
 have bC : b = true -> fU rows = (rows, F, F, []) := fun q => by
  rw[hb]at q;unfold kH at q;unfold fU;rw[if_neg (by simpa using q),<-hF]
 obtain⟨y,hy⟩:=Ti (fU rows);rw[<-hy]at bB bC⊢;rw[<-hb];have bU:=Tk bB;have bY:=Tk bC;clear hF hb bB bC hy;go_enter Tryz.func58,Tryz.ntmps58
 go_wp2_with fail
 refine(CF _ _ (h.Tj B0)).mono ?_;rintro e w1 ⟨F1,f1,rfl,oF,hb1⟩;have B1:=B0.tr hb1;have bD:=bX.bl hb1;have a7:=bR.bl hb1;have oF:=oF.mono B0.size;obtain⟨gX,bM⟩:=Ti w.heap.size;obtain⟨gR,a6⟩:=Ti (w.heap.size+1);have bN:w.heap.size<=gR:=(by omega);rw[<-a6]at a7⊢;rw[<-bM]at bD⊢;clear bM a6 hb1 B0 bX bR;cases b
 . obtain rfl:([],[],[],[])=y:=(bU.out rfl).symm;go_wp2_with (refine aN rfl 30 _ _ rfl gR #[.slice none 0 0,.slice none 0 0,.slice none 0 0,.slice none 0 0] rfl rfl _ _ a7 (by kernel_rfl) rfl (by simp[oneCell']) ?_;intro wE bE a8)
   have BE:=B1.grown a8 B1.size (fun k hk=>by injection hk with hk;subst hk;exact bN);obtain⟨bF,bJ,bK,bL⟩:=bE.n4;refine bodyPost_ret (v:= .tuple #[.agg #[.slice none 0 0,.slice none 0 0,.slice none 0 0,.slice none 0 0],.bool false]) (by simp[results,Tryz.results58,go_sem,bF,bJ,bK,bL]) rfl ⟨none,0,none,0,none,0,none,0,rfl,qF _ _,BE⟩
 . obtain rfl:(rows,F,F,[])=y:=(bY.out rfl).symm;have z0:=bD.c1;go_wp2_with fail
   refine(yL _ rows _ (h.Tj B1) hl).mono ?_;rintro e w2 ⟨D1,d1,rfl,o1,hb2⟩;have o1:=o1.mono B1.size;have bA:=oF.below hb2;have B2:=B1.tr hb2;have bO:=a7.bl hb2;go_wp2_with fail
   refine(dH _ F _ (bA.rd aC (by decide)) bS).mono ?_;rintro e w3 ⟨D3,d3,rfl,o3,hb3⟩;have ap:∀g,(slice F1 F.length f1).ownBlock=some g->(slice D3 F.length d3).ownBlock≠some g:=fun g hg=>bA.early o3 (Tn _) hg
   have o3:=o3.mono B2.size;have B3:=(B2.tr hb3).al (.cells #[] 83);have bP:=(bO.bl hb3).alloc (.cells #[] 83);have o4:aD 83 2 dM w.heap.size (w3.alloc (.cells #[] 83)) (.slice (some ⟨w3.heap.size,0,none⟩) 0 0) ([]:List Cl):=(fF w3).mono (B2.tr hb3).size
   have oA:aB w.heap.size (w3.alloc (.cells #[] 83)) (.slice D1 rows.length d1) (.slice F1 F.length f1) (.slice D3 F.length d3) (.slice (some ⟨w3.heap.size,0,none⟩) 0 0) (rows,F,F,[]):=
    ⟨(o1.below hb3).alloc _,(bA.below hb3).alloc _,o3.alloc _,o4,ap⟩
   clear z0 hb2 hb3 o1 oF bA o3 o4 B1 B2 bD a7 bO;go_wp2_with (refine aN rfl 30 _ _ rfl gR #[.slice D1 rows.length d1,.slice F1 F.length f1,.slice D3 F.length d3,.slice (some ⟨w3.heap.size,0,none⟩) 0 0] rfl rfl _ _ bP (by kernel_rfl) rfl (by simp[oneCell']) ?_;intro wE bE a8)
   have oE:=aB.cO oA bP (by decide) (by decide) (by decide) a8;have BE:=B3.grown a8 B3.size (fun k hk=>by injection hk with hk;subst hk;exact bN);obtain⟨bF,bJ,bK,bL⟩:=bE.n4;refine bodyPost_ret (v:= .tuple #[.agg #[.slice D1 rows.length d1,.slice F1 F.length f1,.slice D3 F.length d3,.slice (some ⟨w3.heap.size,0,none⟩) 0 0],.bool true]) (by simp[results,Tryz.results58,go_sem,bF,bJ,bK,bL]) rfl ⟨D1,d1,F1,f1,D3,d3,some ⟨w3.heap.size,0,none⟩,0,rfl,oE,BE⟩
theorem LQ {y:Wk}:dF y=true↔kV y.1=true/\(inB y.2.1 0 10000&&inB y.2.2.1 0 10000&&inB y.2.2.2 0 10000)=true:=by
 unfold dF kV;rw[Bool.and_eq_true]
theorem LU {rows:List Int} (hr:dX rows) (h:QT rows):(eU rows).length<=58:=by
 unfold eU;rw[if_pos (aR.2 hr),yR]
 have hb : ∀ j, 58 <= j -> (setOf rows).testBit j = false := fun j hj => by
  rw[xE hr];by_cases hk:j/8<rows.length
  . have h7 : j / 8 = 7 := by have := hr.1; omega
    have hv:=h.2 _ hk (by omega);have hp:=hr.2 _ (List.getElem_mem hk);rw[List.getD_eq_getElem?_getD,List.getElem?_eq_getElem hk];obtain⟨n,hn⟩:∃n:Nat,n=(rows[j/8]).toNat:=⟨_,rfl⟩;show(rows[j/8]).toNat.testBit (j%8)=false;rw[<-hn];have a6:n<2^2:=(by omega);refine Nat.testBit_lt_two_pow (Nat.lt_of_lt_of_le a6 (Nat.pow_le_pow_right (by omega) (by omega)))
  . rw [List.getD_eq_getElem?_getD, List.getElem?_eq_none (by omega)];simp
 have hle : ∀ f : Nat -> Bool, ∀ k, cntF f k <= k := fun f k => by
  induction k with
  |zero=>exact Tn _
  |succ k ih=>rw[jC];have:=Bool.toNat_le (f k);omega
 show cntF _ (58+1+1+1+1+1+1)<=58;simp only[jC _ (58+1+1+1+1+1),jC _ (58+1+1+1+1),jC _ (58+1+1+1),jC _ (58+1+1),jC _ (58+1),jC _ 58,hb 58 (by omega),hb (58+1) (by omega),hb (58+1+1) (by omega),hb (58+1+1+1) (by omega),hb (58+1+1+1+1) (by omega),hb (58+1+1+1+1+1) (by omega),Bool.toNat_false,Nat.add_zero];exact hle _ _
theorem SA {rows:List Int} (h:dX rows):bG rows=gH (setOf rows):=by unfold bG;rw[if_pos (aR.2 h)]
theorem ER {rows:List Int} (h:R12 rows):kH rows=true/\fU rows=(rows,dU rows,dU rows,[])/\eF rows (dU rows)=true/\(dU rows).length<=29:=by
 obtain⟨h1,h2,h3,h4⟩:=h;have hne:bG rows≠0:=by omega
 have ht:eF rows (dU rows)=true:=by
  unfold dU;rw[if_neg hne];exact Jy h1 (Li (dW h1) (by rw[<-SA h1];exact hne))
 refine⟨by unfold kH;exact decide_eq_true hne,by unfold fU;rw[if_neg hne],ht,?_⟩;have hc:=LU h1 h4;unfold eF at ht;rw[Bool.and_eq_true,decide_eq_true_iff]at ht;omega
theorem SB {rows:List Int} (h:R12 rows):kV (fU rows)=true:=by
 obtain⟨h1,h2,h3,h4⟩:=ER h;rw[h2];exact rG.2 ⟨h3,by simp,by simp[fQ]⟩
end Go.Proofs.YtjijonhkofhikaaGreatDoor
