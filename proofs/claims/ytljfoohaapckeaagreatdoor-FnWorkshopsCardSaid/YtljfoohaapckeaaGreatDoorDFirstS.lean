/- The first tiling, by the reference: the walk. No conditions but sizes. -/
import Derived.Test.YtljfoohaapckeaaGreatDoorDG28
import Derived.Test.YtljfoohaapckeaaGreatDoorDFreeS
open _root_.Go.Proofs.Tryz (prog func189 ntmps189)
namespace Go.Proofs.YtljfoohaapckeaaGreatDoor
open Go.ChangeShapes Go.WideShapes Go.ChangeAt Go.RowKit
set_option linter.unusedVariables false
set_option linter.unusedSimpArgs false
set_option maxHeartbeats 4000000
set_option maxRecDepth 100000
def sliceLen:Value->Nat
  | .slice _ n _=>n
  |_=>0
def Src (w:World) (h0:Value) (r0:List Int) (wr:World) (v:Value) (N:List Int):Prop:=(v=h0/\N=r0)∨aC 3 1 aY w.heap.size wr v N
theorem Src.rd {w wr:World} {h0 v:Value} {r0 N:List Int} (h:Src w h0 r0 wr v N) (h1:Rd 1 bH w h0 r0) (B:Below w.heap.size w wr):Rd 1 bH wr v N:=by
 rcases h with⟨rfl,rfl⟩|h
 . exact h1.Oz B
 . exact h.rd aL (by decide)
theorem Src.bl {w wr w':World} {h0 v:Value} {r0 N:List Int} (h:Src w h0 r0 wr v N) (hb:Below wr.heap.size wr w'):Src w h0 r0 w' v N:=by
 rcases h with h|h
 . exact .inl h
 . exact .inr (h.below hb)
theorem ES {rows:List Int} {s i:Nat} (hok:dJ rows) (hse:setOf rows=s):mV rows (dW i)=0↔wP s i=false:=by
 unfold mV wP;rw[aN.2 hok,hse,Bool.true_and];rcases q:eT s (dW i)with _|_
 . simp
 . simp
theorem JS {s:Nat} {d:Dm} (h:eT s d=true):aH d=true:=by unfold eT at h;rw[Bool.and_eq_true]at h;exact h.1
theorem F8 (v:Value) (rows:List Int) (w:World) (h:Rd 1 bH w v rows):Calls prog 189 #[.agg #[v]] w (Ny (fE rows) (oZ rows) w):=by
 obtain⟨A,c,rfl,hc,hm⟩:=h.form;have hA:=((Below.refl w.heap.size w).al (.cells #[.slice A rows.length c] 26)).al (.cells #[] 60);have bX:=(Blk.bK w 26 #[.slice A rows.length c]).alloc (.cells #[] 60)
 have ownE:aC 60 3 aT w.heap.size ((w.alloc (.cells #[.slice A rows.length c] 26)).alloc (.cells #[] 60)) (.slice (some ⟨w.heap.size+1,0,none⟩) ([]:List Dm).length 0) []:=by
  have:=(fB (w.alloc (.cells #[.slice A rows.length c] 26)) (E:=60) (size:=3) (enc:=aT)).mono (show w.heap.size<=_ from(((Below.refl w.heap.size w).al (.cells #[.slice A rows.length c] 26))).size);simpa using this
 by_cases h0:bG rows=0
 . have e1 : fE rows = [] := by unfold fE; rw [if_pos h0]
   have e2:oZ rows=false:=by unfold oZ;exact decide_eq_false (fun q=>q h0)
   rw[e1,e2];have C:∀(u:Value) (w:World),Rd 1 bH w u rows->Calls prog 217 #[.agg #[u]] w (Ret (.int .i64 0) w):=fun u w k1=>by have:=tH u rows w k1;rw[h0]at this;exact this
   clear h0 e1 e2;go_enter func189,ntmps189
   go_wp2_with fail
   refine(C _ _ (h.Oz hA)).mono ?_;rintro e w1 ⟨rfl,hb1⟩;go_wp2;go_ret2
   exact⟨_,_,rfl,ownE.below hb1,hA.tr hb1⟩
 . have hr:aZ rows=true:=by
    rcases q:aZ rows with _|_
    . exact absurd (show bG rows=0 by unfold bG;rw[q];rfl) h0
    . rfl
   have Hok0:Hid (dJ rows):=OA (aN.1 hr);have hs0:=dX Hok0.out;have e1:fE rows=firstT (setOf rows):=by unfold fE;rw[if_neg h0]
   have e2:oZ rows=true:=by unfold oZ;exact decide_eq_true h0
   rw[e1,e2];have hc0:gU (setOf rows)≠0:=by unfold bG at h0;rw[if_pos hr]at h0;exact h0
   obtain⟨n,hn⟩:=Oy (bG rows);have C:∀(u:Value) (w:World),Rd 1 bH w u rows->Calls prog 217 #[.agg #[u]] w (Ret (.int .i64 n) w):=fun u w k1=>by rw[hn];exact tH u rows w k1
   rw[<-hn]at h0;have hn0:(n==0)=false:=(by simpa using h0);obtain⟨R,hR⟩:=Oy (firstT (setOf rows));have hRl:R.length<=64:=by rw[hR];exact Bl _
   rw[<-hR];have HR0:Hid ([]++firstT (setOf rows)=R):=OA hR.symm;have Hc0:=OA hc0;clear h0 hr e1 e2 hR hc0 hn;go_enter func189,ntmps189
   go_wp2_with fail
   refine(C _ _ (h.Oz hA)).mono ?_;rintro e w1 ⟨rfl,hb1⟩;have B1:=(hA.tr hb1).al (.cells #[.slice A rows.length c] 26);have own1:=(ownE.below hb1).alloc (.cells #[.slice A rows.length c] 26);have bO1:=Blk.bK w1 26 #[.slice A rows.length c];have zx:=(bX.bl hb1).c1;have hgO0:w.heap.size<=w1.heap.size:=(hA.tr hb1).size;obtain⟨gO,hgO'⟩:=Oy w1.heap.size;rw[<-hgO']at bO1 hgO0;have src1:Src w (.slice A rows.length c) rows (w1.alloc (.cells #[.slice A rows.length c] 26)) (.slice A rows.length c) rows:= .inl ⟨rfl,rfl⟩;clear hA bX hb1 ownE;go_wp2_with fail
   rw[<-hgO'];clear hgO' zx;go_loopw [4] (fun s4 wr=>∃(s:Nat) (N:List Int) (out:List Dm) (A1 A2:Option Addr) (c1 c2:Nat),s<U64/\s4= .slice A1 out.length c1/\Hid (dJ N)/\Hid (setOf N=s)/\Blk wr gO 26 #[.slice A2 N.length c2]/\Src w (.slice A rows.length c) rows wr (.slice A2 N.length c2) N/\aC 60 3 aT w.heap.size wr (.slice A1 out.length c1) out/\Below w.heap.size w wr/\Hid (gU s≠0)/\Hid (out++firstT s=R)) (fun s4 _=>R.length-sliceLen s4)
   case atStart=>exact⟨setOf rows,rows,[],_,_,_,_,hs0,rfl,Hok0,OA rfl,bO1,src1,own1,B1,Hc0,HR0⟩
   case round=>
    obtain⟨s,N,out,A1,A2,c1,c2,hs,rfl,HokN,HsN,bO,src,own,B,Hc,HR⟩:=hrel;clear own1 bO1 src1 B1 HR0 Hc0;have hlen:out.length<=64:=by have:=congrArg List.length HR.out;rw[List.length_append]at this;omega
    have hrc:fF N=dU s 64:=by unfold fF;rw[if_pos (aN.2 HokN.out),HsN.out]
    have CN:∀(u:Value) (w:World),Rd 1 bH w u N->Calls prog 47 #[.agg #[u]] w (Ret (.int .i64 (dU s 64).length) w):=fun u w k1=>by have:=rH u N w k1;rw[hrc]at this;exact this
    have CC:∀(u:Value) (w:World),Rd 1 bH w u N->Calls prog 107 #[.agg #[u]] w (jA 70 2 dE (dU s 64) w):=fun u w k1=>by have:=qR u N w k1;rw[hrc]at this;exact this
    have hle:=rF s 64;have rN:=src.rd h B;have zo:=bO.c1;by_cases hz:s=0
    . have hl0:=(sJ hs).2 hz;have ho:out=R:=by have:=HR.out;rw[hz,FN,List.append_nil]at this;exact this
      subst ho;obtain⟨L,hL⟩:=Oy ((dU s 64).length);rw[<-hL]at CN hl0;subst hl0;clear HR Hc hz CC hle hrc hL;go_wp2_with fail
      refine(CN _ _ rN).mono ?_;rintro e w2 ⟨rfl,hb2⟩;go_wp2;go_ret2
      exact⟨_,_,rfl,own.below hb2,B.tr hb2⟩
    . obtain⟨i,hl⟩:=xA hs hz;obtain⟨rest,hrest⟩:=vT hl;obtain⟨x,hx⟩:=Oy (i%8);obtain⟨y,hy⟩:=Oy (i/8);have hi:=hl.1;obtain⟨hfit,hc2',hft⟩:=Ii hs hl Hc.out;have hwl:out.length<R.length:=by have:=congrArg List.length HR.out;rw[List.length_append,hft,List.length_cons]at this;omega
      have hrt:dW i=((x:Int),(y:Int),false):=by unfold dW;rw[<-hx,<-hy]
      have hdn:eY i=((x:Int),(y:Int),true):=by unfold eY;rw[<-hx,<-hy]
      have hix:gI i=((x:Int),(y:Int)):=by unfold gI;rw[hx,hy,show((i:Int)%8)=((i%8:Nat):Int) by omega,show((i:Int)/8)=((i/8:Nat):Int) by omega]
      rw[hix]at hrest;have hgoes:=ES (i:=i) HokN.out HsN.out;rw[hrt]at hgoes;obtain⟨n2,hn2⟩:=Oy (mV N ((x:Int),(y:Int),false));have CW:∀(u:Value) (w:World),Rd 1 bH w u N->Calls prog 218 #[.agg #[u],.agg #[.int .i64 x,.int .i64 y,.bool false]] w (Ret (.int .i64 n2) w):=fun u w k1=>by rw[hn2];exact EL u N x y false w k1
      rw[<-hn2]at hgoes;obtain⟨cs,hcs⟩:=Oy (dU s 64);rw[<-hcs]at CN CC hle hrest;have hcp:0<cs.length:=by rw[hrest];simp
      have hce:cs[0]=((x:Int),(y:Int)):=by subst hrest;rfl
      have hcp2:(0:Int)<cs.length:=(by omega);have Hce:=OA hce;have H8:Hid ((out.length+1)*24<=140737488355328):=OA (by omega);have HM:Hid (out.length+1<=maxLen):=OA (by unfold maxLen;omega);clear hz hl hx hy hrest hix hn2 hcs hce hrc hi;go_wp2_with fail
      refine(CN _ _ rN).mono ?_;rintro e w2 ⟨rfl,hb2⟩;have bO2:=bO.bl hb2;have own2:=own.below hb2;have src2:=src.bl hb2;have B2:=B.tr hb2;clear bO own src B hb2 zo rN;have zo:=bO2.c1;go_wp2_with fail
      refine(CC _ _ (src2.rd h B2)).mono ?_;rintro e w3 ⟨AC,cC,rfl,oC,hb3⟩;obtain⟨gC,rfl,hgC1,hgC2⟩:=oC.split hcp;have q0:=oC.slot dS (by decide) hcp 0 (.int .i64 x) (by rw[Hce.out];rfl);have q1:=oC.slot dS (by decide) hcp 1 (.int .i64 y) (by rw[Hce.out];rfl);rw[Nat.zero_mul,Nat.add_zero]at q0;rw[Nat.zero_mul,Nat.zero_add]at q1;have bO3:=bO2.bl hb3;have own3:=own2.below hb3;have src3:=src2.bl hb3;have B3:=B2.tr hb3;have hap:Value.ownBlock (.slice A1 out.length c1)≠some (w3.heap.size+1):=fun e=>by have:=(World.ownsRow.lt own3 _ e).2;omega
      have hDw:w.heap.size<=w3.heap.size+1:=by have:=B3.size;omega
      have hOl:=bO3.lt;clear bO2 own2 src2 B2 hb3 zo oC;go_upto_region 8 with(fail)
      have bO4:=(bO3.alloc (.cells #[.int .i64 x,.int .i64 y] 70)).alloc (.cells #[.int .i64 x,.int .i64 y,.bool false] 60);have own4:=(own3.alloc (.cells #[.int .i64 x,.int .i64 y] 70)).alloc (.cells #[.int .i64 x,.int .i64 y,.bool false] 60);have src4:=(src3.bl ((Below.refl _ _).al (.cells #[.int .i64 x,.int .i64 y] 70))).bl ((Below.refl _ _).al (.cells #[.int .i64 x,.int .i64 y,.bool false] 60));have B4:=(B3.al (.cells #[.int .i64 x,.int .i64 y] 70)).al (.cells #[.int .i64 x,.int .i64 y,.bool false] 60);have bD4:=Blk.iV (w3.alloc (.cells #[.int .i64 x,.int .i64 y] 70)) 60 #[.int .i64 x,.int .i64 y,.bool false] (w3.heap.size+1) (by simp);obtain⟨W,hW⟩:=Oy ((w3.alloc (.cells #[.int .i64 x,.int .i64 y] 70)).alloc (.cells #[.int .i64 x,.int .i64 y,.bool false] 60));obtain⟨gD,hgD⟩:=Oy (w3.heap.size+1);have hOD:gO≠gD:=(by omega);have hDO:=hOD.symm;rw[<-hW]at bO4 own4 src4 B4 bD4⊢;rw[<-hgD]at bD4 hap hDw⊢;clear hW hgD bO3 own3 src3 B3 q0 q1 hgC1 hgC2;have zo:=bO4.c1;obtain⟨d_0,d_1,d_2⟩:=bD4.n3;go_wp2_with fail
      refine(CW _ _ (src4.rd h B4)).mono ?_;rintro e w5 ⟨rfl,hb5⟩;have bO5:=bO4.bl hb5;have own5:=own4.below hb5;have src5:=src4.bl hb5;have B5:=B4.tr hb5;have bD5:=bD4.bl hb5;clear bO4 own4 src4 B4 bD4 hb5 zo d_0 d_1 d_2;rcases hg:wP s i with _|_
      . have hst : Af s i = ((x : Int), (y : Int), true) := by unfold Af; rw [hg, if_neg (by simp), hdn]
        have hn2z:n2=0:=hgoes.2 hg;have hne:(n2==0)=true:=by rw[hn2z];rfl
        clear hgoes hn2z hg;have fD:=fun j=>bD5.frozen j
        obtain⟨f_0,f_1,f_2⟩:=bD5.n3;have bD5':=bD5.st 2 (.bool true) #[.int .i64 x,.int .i64 y,.bool true] rfl;have own5':=own5.far (a:=⟨gD,2,none⟩) hap (.bool true);have bO5':=bO5.far (p:=⟨gD,2,none⟩) hOD (.bool true);have B5':=B5.st ⟨gD,2,none⟩ (.bool true) hDw
        have src5':Src w (.slice A rows.length c) rows (w5.setCell ⟨gD,2,none⟩ (.bool true)) (.slice A2 N.length c2) N:=by
         rcases src5 with q|q
         . exact .inl q
         . exact .inr (q.far (q.apart bD5 (by decide)) _)
        rw[hst]at hfit hc2' hft;have hdo:=JS hfit;obtain⟨sx,sy,hsec⟩:∃sx sy,sec ((x:Int),(y:Int),true)=(sx,sy):=⟨_,_,rfl⟩;obtain⟨hcI,hcJ⟩:=dC hdo;rw[hsec]at hcJ;simp only at hcI;have hIe:dM ((x:Int),(y:Int),true)=(cO ((x:Int),(y:Int))).toNat:=rfl;have hJe:fU ((x:Int),(y:Int),true)=(cO (sx,sy)).toNat:=by unfold fU;rw[hsec]
        have hwt:=tF hs hdo;obtain⟨S1,hS1⟩:=Oy (gZ s (dM ((x:Int),(y:Int),true)));obtain⟨S2,hS2⟩:=Oy (dN s (aK ((x:Int),(y:Int),true)));rw[<-hS1,<-hS2]at hwt;have hl1:S1<U64:=by rw[hS1];exact eQ hs
        have hl2:S2<U64:=by rw[hS2];exact eQ hs
        have HR2:Hid ((out++[((x:Int),(y:Int),true)])++firstT S2=R):=OA (by rw[<-HR.out,hft,<-hS2,List.append_assoc];rfl);have HC2:Hid (gU S2≠0):=OA (by rw[hS2];exact hc2');have ho2:=kZ S1 8 (Nat.le_refl _)
        have C1 : ∀ (u : Value) (w : World), Rd 1 bH w u N -> Calls prog 219 #[.agg #[u], .agg #[.int .i64 x, .int .i64 y], .bool false] w (nO (rowsOf S1 8) true w) := fun u w k1 => by
         have:=jM u N x y false w k1 (by have:=HokN.out.1;unfold Small;omega);rw[uY HokN.out hcI,HsN.out,<-hIe,<-hS1]at this;exact this
        have C2 : ∀ (u : Value) (w : World), Rd 1 bH w u (rowsOf S1 8) -> Calls prog 219 #[.agg #[u], .agg #[.int .i64 sx, .int .i64 sy], .bool false] w (nO (rowsOf S2 8) true w) := fun u w k1 => by
         have:=jM u (rowsOf S1 8) sx sy false w k1 (by rw[eX];unfold Small;decide);rw[uY ho2 hcJ,kF hl1,<-hJe,hwt]at this;exact this
        have Hsec:=OA hsec;have Hdo:=OA hdo;clear hst hrt hdn hfit hc2' hft hsec hcI hcJ hIe hJe hwt hS1 hS2 ho2 hdo HR Hc;obtain⟨d_0,d_1,d_2⟩:=bD5'.n3;go_wp2_with fail
        refine(iU x y true _ Hdo.out).mono ?_;rintro e w6 ⟨rfl,hb6⟩;rw[Hsec.out];go_upto_region 11 with(fail)
        have bO6:=(((bO5').bl hb6).alloc (.cells #[.int .i64 x,.int .i64 y] 70)).alloc (.cells #[.int .i64 sx,.int .i64 sy] 70);have own6:=(((own5').below hb6).alloc (.cells #[.int .i64 x,.int .i64 y] 70)).alloc (.cells #[.int .i64 sx,.int .i64 sy] 70);have src6:=(((src5').bl hb6).bl ((Below.refl _ _).al (.cells #[.int .i64 x,.int .i64 y] 70))).bl ((Below.refl _ _).al (.cells #[.int .i64 sx,.int .i64 sy] 70));have B6:=(((B5').tr hb6).al (.cells #[.int .i64 x,.int .i64 y] 70)).al (.cells #[.int .i64 sx,.int .i64 sy] 70);have bD6:=(((bD5').bl hb6).alloc (.cells #[.int .i64 x,.int .i64 y] 70)).alloc (.cells #[.int .i64 sx,.int .i64 sy] 70);have bA6:=(Blk.bK w6 70 #[.int .i64 x,.int .i64 y]).alloc (.cells #[.int .i64 sx,.int .i64 sy] 70);have bB6:=Blk.iV (w6.alloc (.cells #[.int .i64 x,.int .i64 y] 70)) 70 #[.int .i64 sx,.int .i64 sy] (w6.heap.size+1) (by simp);have hOl6:=((bO5').bl hb6).lt;obtain⟨U,hU⟩:=Oy ((w6.alloc (.cells #[.int .i64 x,.int .i64 y] 70)).alloc (.cells #[.int .i64 sx,.int .i64 sy] 70));obtain⟨gB,hgB⟩:=Oy (w6.heap.size+1);obtain⟨gA,hgA⟩:=Oy w6.heap.size;rw[<-hU]at bO6 own6 src6 B6 bD6 bA6 bB6⊢;rw[<-hgB]at bB6⊢;rw[<-hgA]at bA6⊢;have hOB:gO≠gB:=(by omega);have hBO:=hOB.symm;clear hU hgB hgA d_0 d_1 d_2;have z_0:=bO6.c1;obtain⟨a_0,a_1⟩:=bA6.n2;go_wp2_with fail
        refine(C1 _ _ (src6.rd h B6)).mono ?_;rintro e w7 ⟨E1,e1,rfl,o7,hb7⟩;rw[eX]at o7⊢;have o7:=(o7.mono B6.size).far (a:=⟨gO,0,none⟩) ((o7.mono B6.size).apart (bO6.bl hb7) (by decide)) (.slice E1 8 e1);have fO:=fun j=>(bO6.bl hb7).frozen j
        have zO:=(bO6.bl hb7).c1;have bO7:=(bO6.bl hb7).set1 (.slice E1 8 e1);have own7:=(own6.below hb7).far (a:=⟨gO,0,none⟩) ((own6.below hb7).apart (bO6.bl hb7) (by decide)) (.slice E1 8 e1);have bD7:=(bD6.bl hb7).far (p:=⟨gO,0,none⟩) hDO (.slice E1 8 e1);have bB7:=(bB6.bl hb7).far (p:=⟨gO,0,none⟩) hBO (.slice E1 8 e1);have B7:=(B6.tr hb7).st ⟨gO,0,none⟩ (.slice E1 8 e1) hgO0;clear z_0 a_0 a_1;have z_0:=bO7.c1;obtain⟨b_0,b_1⟩:=bB7.n2;go_wp2_with fail
        refine(C2 _ _ (o7.rd (l:=rowsOf S1 8) aL (by decide))).mono ?_;rintro e w8 ⟨E2,e2,rfl,o8,hb8⟩;rw[eX]at o8⊢;have o8:=(o8.mono B7.size).far (a:=⟨gO,0,none⟩) ((o8.mono B7.size).apart (bO7.bl hb8) (by decide)) (.slice E2 8 e2);have fO8:=fun j=>(bO7.bl hb8).frozen j
        have zO8:=(bO7.bl hb8).c1;have bO8:=(bO7.bl hb8).set1 (.slice E2 8 e2);have own8:=(own7.below hb8).far (a:=⟨gO,0,none⟩) ((own7.below hb8).apart (bO7.bl hb8) (by decide)) (.slice E2 8 e2);have bD8a:=bD7.bl hb8;have bD8:=bD8a.far (p:=⟨gO,0,none⟩) hDO (.slice E2 8 e2);have B8:=(B7.tr hb8).st ⟨gO,0,none⟩ (.slice E2 8 e2) hgO0;clear z_0 b_0 b_1;obtain⟨d_0,d_1,d_2⟩:=bD8a.n3;obtain⟨e_0,e_1,e_2⟩:=bD8.n3;go_wp2_with (at_builtin;go_must (refine wM (enc:=aT) aI aB aM B8 own8 (((x:Int),(y:Int),true):Dm) H8.out HM.out (by simp) rfl _ _ rfl rfl rfl ?_);intro v9 w9 own9 hb9 hg9 hd9;obtain⟨A9,c9,rfl,hc9,hm9⟩:=own9.form;have bO9:=(bO8.alloc (.cells (aT ((x:Int),(y:Int),true)).toArray 60)).grown hg9 (fun e=>(own8.apart bO8 (by decide)) e.symm);have o9:=aC.kJ (aC.alloc (l:=rowsOf S2 8) o8 (.cells (aT ((x:Int),(y:Int),true)).toArray 60)) (own8.alloc (.cells (aT ((x:Int),(y:Int),true)).toArray 60)) (by decide) hg9)
        go_roundw
        case rel=>exact⟨S2,rowsOf S2 8,_,_,E2,_,e2,hl2,by simp,OA (kZ S2 8 (Nat.le_refl _)),OA (kF hl2),by rw[eX];exact bO9,.inr (by rw[eX];exact o9),own9,hb9,HC2,HR2⟩
        case measure=>simp[sliceLen];omega
      . have hst : Af s i = ((x : Int), (y : Int), false) := by unfold Af; rw [hg, if_pos rfl, hrt]
        have hn2z:n2≠0:=fun e=>by rw[hgoes.1 e]at hg;cases hg
        have hne:(n2==0)=false:=(by simpa using hn2z);clear hgoes hn2z hg;rw[hst]at hfit hc2' hft;have hdo:=JS hfit;obtain⟨sx,sy,hsec⟩:∃sx sy,sec ((x:Int),(y:Int),false)=(sx,sy):=⟨_,_,rfl⟩;obtain⟨hcI,hcJ⟩:=dC hdo;rw[hsec]at hcJ;simp only at hcI;have hIe:dM ((x:Int),(y:Int),false)=(cO ((x:Int),(y:Int))).toNat:=rfl;have hJe:fU ((x:Int),(y:Int),false)=(cO (sx,sy)).toNat:=by unfold fU;rw[hsec]
        have hwt:=tF hs hdo;obtain⟨S1,hS1⟩:=Oy (gZ s (dM ((x:Int),(y:Int),false)));obtain⟨S2,hS2⟩:=Oy (dN s (aK ((x:Int),(y:Int),false)));rw[<-hS1,<-hS2]at hwt;have hl1:S1<U64:=by rw[hS1];exact eQ hs
        have hl2:S2<U64:=by rw[hS2];exact eQ hs
        have HR2:Hid ((out++[((x:Int),(y:Int),false)])++firstT S2=R):=OA (by rw[<-HR.out,hft,<-hS2,List.append_assoc];rfl);have HC2:Hid (gU S2≠0):=OA (by rw[hS2];exact hc2');have ho2:=kZ S1 8 (Nat.le_refl _)
        have C1 : ∀ (u : Value) (w : World), Rd 1 bH w u N -> Calls prog 219 #[.agg #[u], .agg #[.int .i64 x, .int .i64 y], .bool false] w (nO (rowsOf S1 8) true w) := fun u w k1 => by
         have:=jM u N x y false w k1 (by have:=HokN.out.1;unfold Small;omega);rw[uY HokN.out hcI,HsN.out,<-hIe,<-hS1]at this;exact this
        have C2 : ∀ (u : Value) (w : World), Rd 1 bH w u (rowsOf S1 8) -> Calls prog 219 #[.agg #[u], .agg #[.int .i64 sx, .int .i64 sy], .bool false] w (nO (rowsOf S2 8) true w) := fun u w k1 => by
         have:=jM u (rowsOf S1 8) sx sy false w k1 (by rw[eX];unfold Small;decide);rw[uY ho2 hcJ,kF hl1,<-hJe,hwt]at this;exact this
        have Hsec:=OA hsec;have Hdo:=OA hdo;clear hst hrt hdn hfit hc2' hft hsec hcI hcJ hIe hJe hwt hS1 hS2 ho2 hdo HR Hc;obtain⟨d_0,d_1,d_2⟩:=bD5.n3;go_wp2_with fail
        refine(iU x y false _ Hdo.out).mono ?_;rintro e w6 ⟨rfl,hb6⟩;rw[Hsec.out];go_upto_region 11 with(fail)
        have bO6:=(((bO5).bl hb6).alloc (.cells #[.int .i64 x,.int .i64 y] 70)).alloc (.cells #[.int .i64 sx,.int .i64 sy] 70);have own6:=(((own5).below hb6).alloc (.cells #[.int .i64 x,.int .i64 y] 70)).alloc (.cells #[.int .i64 sx,.int .i64 sy] 70);have src6:=(((src5).bl hb6).bl ((Below.refl _ _).al (.cells #[.int .i64 x,.int .i64 y] 70))).bl ((Below.refl _ _).al (.cells #[.int .i64 sx,.int .i64 sy] 70));have B6:=(((B5).tr hb6).al (.cells #[.int .i64 x,.int .i64 y] 70)).al (.cells #[.int .i64 sx,.int .i64 sy] 70);have bD6:=(((bD5).bl hb6).alloc (.cells #[.int .i64 x,.int .i64 y] 70)).alloc (.cells #[.int .i64 sx,.int .i64 sy] 70);have bA6:=(Blk.bK w6 70 #[.int .i64 x,.int .i64 y]).alloc (.cells #[.int .i64 sx,.int .i64 sy] 70);have bB6:=Blk.iV (w6.alloc (.cells #[.int .i64 x,.int .i64 y] 70)) 70 #[.int .i64 sx,.int .i64 sy] (w6.heap.size+1) (by simp);have hOl6:=((bO5).bl hb6).lt;obtain⟨U,hU⟩:=Oy ((w6.alloc (.cells #[.int .i64 x,.int .i64 y] 70)).alloc (.cells #[.int .i64 sx,.int .i64 sy] 70));obtain⟨gB,hgB⟩:=Oy (w6.heap.size+1);obtain⟨gA,hgA⟩:=Oy w6.heap.size;rw[<-hU]at bO6 own6 src6 B6 bD6 bA6 bB6⊢;rw[<-hgB]at bB6⊢;rw[<-hgA]at bA6⊢;have hOB:gO≠gB:=(by omega);have hBO:=hOB.symm;clear hU hgB hgA d_0 d_1 d_2;have z_0:=bO6.c1;obtain⟨a_0,a_1⟩:=bA6.n2;go_wp2_with fail
        refine(C1 _ _ (src6.rd h B6)).mono ?_;rintro e w7 ⟨E1,e1,rfl,o7,hb7⟩;rw[eX]at o7⊢;have o7:=(o7.mono B6.size).far (a:=⟨gO,0,none⟩) ((o7.mono B6.size).apart (bO6.bl hb7) (by decide)) (.slice E1 8 e1);have fO:=fun j=>(bO6.bl hb7).frozen j
        have zO:=(bO6.bl hb7).c1;have bO7:=(bO6.bl hb7).set1 (.slice E1 8 e1);have own7:=(own6.below hb7).far (a:=⟨gO,0,none⟩) ((own6.below hb7).apart (bO6.bl hb7) (by decide)) (.slice E1 8 e1);have bD7:=(bD6.bl hb7).far (p:=⟨gO,0,none⟩) hDO (.slice E1 8 e1);have bB7:=(bB6.bl hb7).far (p:=⟨gO,0,none⟩) hBO (.slice E1 8 e1);have B7:=(B6.tr hb7).st ⟨gO,0,none⟩ (.slice E1 8 e1) hgO0;clear z_0 a_0 a_1;have z_0:=bO7.c1;obtain⟨b_0,b_1⟩:=bB7.n2;go_wp2_with fail
        refine(C2 _ _ (o7.rd (l:=rowsOf S1 8) aL (by decide))).mono ?_;rintro e w8 ⟨E2,e2,rfl,o8,hb8⟩;rw[eX]at o8⊢;have o8:=(o8.mono B7.size).far (a:=⟨gO,0,none⟩) ((o8.mono B7.size).apart (bO7.bl hb8) (by decide)) (.slice E2 8 e2);have fO8:=fun j=>(bO7.bl hb8).frozen j
        have zO8:=(bO7.bl hb8).c1;have bO8:=(bO7.bl hb8).set1 (.slice E2 8 e2);have own8:=(own7.below hb8).far (a:=⟨gO,0,none⟩) ((own7.below hb8).apart (bO7.bl hb8) (by decide)) (.slice E2 8 e2);have bD8a:=bD7.bl hb8;have bD8:=bD8a.far (p:=⟨gO,0,none⟩) hDO (.slice E2 8 e2);have B8:=(B7.tr hb8).st ⟨gO,0,none⟩ (.slice E2 8 e2) hgO0;clear z_0 b_0 b_1;obtain⟨d_0,d_1,d_2⟩:=bD8a.n3;obtain⟨e_0,e_1,e_2⟩:=bD8.n3;go_wp2_with (at_builtin;go_must (refine wM (enc:=aT) aI aB aM B8 own8 (((x:Int),(y:Int),false):Dm) H8.out HM.out (by simp) rfl _ _ rfl rfl rfl ?_);intro v9 w9 own9 hb9 hg9 hd9;obtain⟨A9,c9,rfl,hc9,hm9⟩:=own9.form;have bO9:=(bO8.alloc (.cells (aT ((x:Int),(y:Int),false)).toArray 60)).grown hg9 (fun e=>(own8.apart bO8 (by decide)) e.symm);have o9:=aC.kJ (aC.alloc (l:=rowsOf S2 8) o8 (.cells (aT ((x:Int),(y:Int),false)).toArray 60)) (own8.alloc (.cells (aT ((x:Int),(y:Int),false)).toArray 60)) (by decide) hg9)
        go_roundw
        case rel=>exact⟨S2,rowsOf S2 8,_,_,E2,_,e2,hl2,by simp,OA (kZ S2 8 (Nat.le_refl _)),OA (kF hl2),by rw[eX];exact bO9,.inr (by rw[eX];exact o9),own9,hb9,HC2,HR2⟩
        case measure=>simp[sliceLen];omega
end Go.Proofs.YtljfoohaapckeaaGreatDoor
