import Derived.Test.YtjijonhkofhikaaGreatDoorEG32
import Derived.Test.YtjijonhkofhikaaGreatDoorEPActI
open _root_.List renaming length_append->TZ,length_singleton->T9,getElem_mem->Ua
open _root_.Nat renaming zero_le->Ub,le_refl->Uc,le_trans->Ud
open _root_.Int renaming eq_ofNat_of_zero_le->Ue
open _root_.Go.Value renaming ownBlock->Uf,string->Ug,oneCell'->Uh
open _root_.Go.Proofs.Tryz (prog func8 ntmps8)
open _root_.Go.Proofs.Tryz renaming results9->Ui,results8->Uj,results122->Uk,results43->Ul
set_option linter.unusedVariables false
set_option linter.unusedSimpArgs false
set_option maxHeartbeats 4000000
set_option maxRecDepth 100000
namespace Go.Proofs.YtjijonhkofhikaaGreatDoor
open Go.ChangeShapes Go.WideShapes Go.ChangeAt Go.RowKit
theorem KV (u1 u2 u3 u4 u5:Value) (x:Fl) (s p r:Int) (l:List Ac) (w:World) (h1:Rd 1 bG w u1 x.1) (h2:Rd 3 aU w u2 x.2.1) (h3:Rd 3 aU w u3 x.2.2.1) (h4:Rd 2 cO w u4 x.2.2.2) (h5:Rd 3 (RE pK) w u5 l) (hs:bZ x) (ht:Tab w):
 Calls prog 9 #[.agg #[u1,u2,u3,u4,.int .i64 s,.int .i64 p,.int .i64 r],u5] w (Tp (yE (x,s,p,r) l) w):=by
 have cV:=TY ht;clear ht;obtain⟨A5,c5,rfl,eL,eM⟩:=h5.form;obtain⟨R,b9⟩:=TV (yE (x,s,p,r) l);obtain⟨kk,cA⟩:=TV (bV (x,s,p,r))
 have hno : kk = false ∨ ¬ l.length <= 40 -> R = ((x, s, p, r), []) := fun h => by
  rw[b9];unfold yE;rw[<-cA,if_neg];rcases h with h|h
  . rw[h];exact fun e=>absurd e.1 (by decide)
  . exact fun e=>h e.2
 have bL:kk=true->l.length<=40->goR (x,s,p,r) [] l=R:=fun h h'=>by rw[b9];unfold yE;rw[<-cA,if_pos ⟨h,h'⟩]
 rw[<-b9];have CK:∀w,R4 w u1 u2 u3 u4 x->Calls prog 26 #[.agg #[u1,u2,u3,u4,.int .i64 s,.int .i64 p,.int .i64 r]] w (Ret (.bool kk) w):=fun w h=>by rw[cA];exact iC _ _ _ _ (x,s,p,r) w h.a h.b h.c h.d hs.2.1
 have CC:∀w,R4 w u1 u2 u3 u4 x->Calls prog 25 #[.agg #[u1,u2,u3,u4,.int .i64 s,.int .i64 p,.int .i64 r]] w (LW (fun v=>v) (x,s,p,r) w):=fun w h=>(lC _ _ _ _ x s p r w h.a h.b h.c h.d hs).mono fun _ _=>QT
 have HN:=TY hno;have HY:=TY bL;have hR:R4 w u1 u2 u3 u4 x:=⟨h1,h2,h3,h4⟩;clear b9 cA hno bL h1 h2 h3 h4
 have D0:DB w ((w.alloc (.cells #[u1,u2,u3,u4,.int .i64 s,.int .i64 p,.int .i64 r] 32)).alloc (.cells #[.slice none 0 0,.slice none 0 0,.slice none 0 0,.slice none 0 0,.int .i64 0,.int .i64 0,.int .i64 0] 32)) w.heap.size (w.heap.size+1) #[u1,u2,u3,u4,.int .i64 s,.int .i64 p,.int .i64 r] #[.slice none 0 0,.slice none 0 0,.slice none 0 0,.slice none 0 0,.int .i64 0,.int .i64 0,.int .i64 0]:=
  ⟨((Below.refl w.heap.size w).al _).al _,(Blk.aZ w _ _).alloc _,Blk.gZ (w.alloc _) _ _ (w.heap.size+1) (by simp)⟩
 go_enter Tryz.func9,Tryz.ntmps9
 go_wp2_with fail
 obtain⟨W0,hW0⟩:=TV ((w.alloc (.cells #[u1,u2,u3,u4,.int .i64 s,.int .i64 p,.int .i64 r] 32)).alloc (.cells #[.slice none 0 0,.slice none 0 0,.slice none 0 0,.slice none 0 0,.int .i64 0,.int .i64 0,.int .i64 0] 32));obtain⟨gP,cF⟩:=TV w.heap.size;obtain⟨gR,bJ⟩:=TV (w.heap.size+1);rw[<-hW0,<-bJ,<-cF]at D0;rw[<-hW0,<-bJ,<-cF];have cG:w.heap.size<=gR:=(by omega);have cW:gP≠gR:=(by omega);clear hW0 cF bJ;refine(CC _ (hR.bl D0.B)).mono ?_;rintro e w3 ⟨C1,C2,C3,C4,rfl,oO,hb3⟩;have D3:=D0.bl hb3;have oO:=oO.mono D0.B.size;clear D0 hb3;go_upto_region 2 with(refine aA rfl 32 _ _ rfl w3.heap.size #[C1,C2,C3,C4,.int .i64 s,.int .i64 p,.int .i64 r] rfl rfl _ _ (Blk.aZ w3 32 #[.slice none 0 0,.slice none 0 0,.slice none 0 0,.slice none 0 0,.int .i64 0,.int .i64 0,.int .i64 0]) (by kernel_rfl) rfl (nP oO.one) ?_;intro w0 cH hg4;have D0:=D3.alg hg4;have oO:=aB.alg oO (by decide) (by decide) (by decide) hg4)
 obtain⟨gN,bO⟩:=TV w3.heap.size;have cX:gP≠gN:=by have:=D3.p.lt;omega
 have cY:gR≠gN:=by have:=D3.r.lt;omega
 have dL:w.heap.size<=gN:=by have:=D3.B.size;omega
 rw[<-bO]at cH⊢;clear bO hg4 D3;obtain⟨a7,a8,bA,bB,bC,bD,bF⟩:=D0.p.n7;go_wp2_with fail
 refine(CK _ (hR.bl D0.B)).mono ?_;rintro e w1 ⟨rfl,hb1⟩;have D1:=D0.bl hb1;have cB:=cH.bl hb1;have bK:=oO.below hb1;clear D0 cH oO hb1 a7 a8 bA bB bC bD bF;cases kk
 . obtain rfl := HN.out (.inl (by first | rfl | trivial));obtain⟨a7,a8,bA,bB,bC,bD,bF⟩:=cB.n7;go_wp2_with (refine aA rfl 32 _ _ rfl gR #[C1,C2,C3,C4,.int .i64 s,.int .i64 p,.int .i64 r] rfl rfl _ _ D1.r (by kernel_rfl) rfl (nP bK.one) ?_;intro wE bE a6)
   have oE:=aB.dD bK D1.r (by decide) (by decide) (by decide) a6;have BE:=D1.B.grown a6 D1.B.size (fun k hk=>by injection hk with hk;subst hk;exact cG);obtain⟨bR,bU,bW,bX,bY,b5,b6⟩:=bE.n7;refine bodyPost_ret (v:= .tuple #[.agg #[C1,C2,C3,C4,.int .i64 s,.int .i64 p,.int .i64 r],.slice none 0 0]) (by simp[results,Ui,go_sem,bR,bU,bW,bX,bY,b5,b6]) rfl ⟨_,_,_,_,_,_,rfl,oE,nN _,fun g q e=>by simp[Uf]at e,BE⟩
 . by_cases cM:l.length<=40
   . have cI : decide ((40 : Int) < (l.length : Int)) = false := decide_eq_false (by omega);have hy:=HY.out (by first|rfl|trivial) cM;have HG:=TY hy;clear hy;go_wp2;go_loopw [7,26] (fun s7 dT wr=>∃(k:Nat) (x2:Fl) (s2 p2 r2:Int) (ns:List Int) (A7:Option Addr) (c7:Nat) (V1 V2 V3 V4:Value),k<=l.length/\dT= .int .i64 k/\s7= .slice A7 ns.length c7/\Hid (goR (x2,s2,p2,r2) ns (l.drop k)=R)/\Hid (bZ x2)/\Hid (ns.length=k)/\DB w wr gP gR #[u1,u2,u3,u4,.int .i64 s,.int .i64 p,.int .i64 r] #[.slice none 0 0,.slice none 0 0,.slice none 0 0,.slice none 0 0,.int .i64 0,.int .i64 0,.int .i64 0]/\Blk wr gN 32 #[V1,V2,V3,V4,.int .i64 s2,.int .i64 p2,.int .i64 r2]/\aB w.heap.size wr V1 V2 V3 V4 x2/\aD 3 1 bH w.heap.size wr (.slice A7 ns.length c7) ns/\∀g,V1.ownBlock=some g->(Value.slice A7 ns.length c7).ownBlock≠some g) (fun _ i _=>l.length-(intOf i).toNat)
     case atStart=>exact⟨0,x,s,p,r,[],_,_,_,_,_,_,Ub _,rfl,rfl,TY HG.out,TY hs,TY rfl,D1.al _,cB.alloc _,bK.alloc _,fI w1 _ rfl _ D1.B.size,fun g q e=>by have:=(bK.lt (.inl q)).2;simp[Uf]at e;omega⟩
     case round=>
      obtain⟨k,x2,s2,p2,r2,ns,A7,c7,V1,V2,V3,V4,hk,rfl,rfl,Hg,cN,Hn,D,bN,oW,oS,ap⟩:=hrel;clear D1 cB bK;by_cases hlt:k<l.length
      . skip;obtain⟨b,off,rfl,hb,k0,k1,k2⟩:=(h5.TW D.B).QB hlt;have hg:=Hg.out;rw[P6 hlt]at hg;have hsm:=BK (y:=(x2,s2,p2,r2)) l[k] cN.out;obtain⟨⟨ka,kb,kc⟩,hx⟩:∃x,x=l[k]:=⟨_,rfl⟩;rw[<-hx]at k0 k1 k2 hg hsm;simp only at k0 k1 k2;obtain⟨⟨z,zs,zp,zr⟩,hz⟩:∃z,z=Dt (x2,s2,p2,r2) (ka,kb,kc):=⟨_,rfl⟩;obtain⟨m,hm⟩:=TV (Cy (x2,s2,p2,r2) (ka,kb,kc));rw[<-hz,<-hm]at hg;rw[<-hz]at hsm;have eA:=TY hg;have eC:=TY hsm;have HZ:=TY hz;have HM:=TY hm;have eE:ns.length<40:=by have:=Hn.out;omega
        have H8:Hid ((ns.length+1)*8<=140737488355328):=TY (by omega);have HX:Hid (ns.length+1<=maxLen):=TY (by unfold maxLen;omega);clear hg hsm hx hz hm;obtain⟨a7,a8,bA,bB,bC,bD,bF⟩:=bN.n7;have eI:=bN.lt;go_wp2_with fail
        refine(LX _ _ _ _ x2 s2 p2 r2 ka kb kc _ (oW.alloc _).ra (oW.alloc _).rb (oW.alloc _).rc (oW.alloc _).rd cN.out (cV.out.below (D.B.al _))).mono ?_;rw[<-HZ.out,<-HM.out];rintro e w4 ⟨E1,E2,E3,E4,rfl,oT,hb4⟩;have D4:=(D.al _).bl hb4;have cJ:=(bN.alloc _).bl hb4;have cP:=(oS.alloc _).below hb4;have cQ:=oT.newer (oS.alloc _) (Uc _);have oT:=oT.mono (D.B.al _).size;clear a7 a8 bA bB bC bD bF hb4 D bN oW oS ap k0 k1 k2 hb;have eI:=cJ.lt;go_upto_region 9 with(refine aA rfl 32 _ _ rfl w4.heap.size #[E1,E2,E3,E4,.int .i64 zs,.int .i64 zp,.int .i64 zr] rfl rfl _ _ (Blk.aZ w4 32 #[.slice none 0 0,.slice none 0 0,.slice none 0 0,.slice none 0 0,.int .i64 0,.int .i64 0,.int .i64 0]) (by kernel_rfl) rfl (nP oT.one) ?_;intro w5 cR b7)
        have D5:=D4.alg b7;have cC:=(cJ.alloc _).grown b7 (by simp;omega);have cK:=aB.alg oT (by decide) (by decide) (by decide) b7;have cS:=cP.TE (by decide) b7;clear D4 cJ oT cP b7;obtain⟨a7,a8,bA,bB,bC,bD,bF⟩:=cR.n7;go_upto_region 10 with(refine aA rfl 32 _ _ rfl gN #[E1,E2,E3,E4,.int .i64 zs,.int .i64 zp,.int .i64 zr] rfl rfl _ _ cC (by kernel_rfl) rfl (nP cK.one) ?_;intro w6 cT cD)
        have D6:=D5.gr cD dL cX cY;have cU:=aB.dD cK cC (by decide) (by decide) (by decide) cD;have cE:=aD.yZ cS cC (by decide) cD;clear D5 cC cK cS cD a7 a8 bA bB bC bD bF cR;go_wp2_with (at_builtin;go_must (refine aF (enc:=bH) fE aJ jN D6.B cE (m:Int) H8.out HX.out rfl _ _ rfl rfl rfl ?_);intro v7 w7 b8 eJ cL eK;obtain⟨A8,c8,rfl,eN,eP⟩:=b8.form)
        go_roundw
        case rel=>exact⟨k+1,z,zs,zp,zr,ns++[m],A8,c8,E1,E2,E3,E4,by omega,by go_num,by rw[TZ,T9],eA,eC,TY (by rw[TZ,T9,Hn.out]),D6.app cE cL eJ,(cT.alloc _).grown cL (fun e=>cE.apart cT (by decide) e.symm),cU.TT cE cQ cL,b8,Tq cU cQ eK (by omega)⟩
        case measure=>simp[intOf];omega
      . obtain rfl : k = l.length := by omega
        have hg:=Hg.out;rw[Sc]at hg;subst hg;obtain⟨a7,a8,bA,bB,bC,bD,bF⟩:=bN.n7;go_wp2_with (refine aA rfl 32 _ _ rfl gR #[V1,V2,V3,V4,.int .i64 s2,.int .i64 p2,.int .i64 r2] rfl rfl _ _ D.r (by kernel_rfl) rfl (nP oW.one) ?_;intro wE bE a6)
        have oE:=aB.dD oW D.r (by decide) (by decide) (by decide) a6;have oL:=aD.yZ oS D.r (by decide) a6;have BE:=D.B.grown a6 D.B.size (fun k hk=>by injection hk with hk;subst hk;exact cG);obtain⟨bR,bU,bW,bX,bY,b5,b6⟩:=bE.n7;refine bodyPost_ret (v:= .tuple #[.agg #[V1,V2,V3,V4,.int .i64 s2,.int .i64 p2,.int .i64 r2],.slice A7 ns.length c7]) (by simp[results,Ui,go_sem,bR,bU,bW,bX,bY,b5,b6]) rfl ⟨_,_,_,_,_,_,rfl,oE,oL,ap,BE⟩
   . have cI : decide ((40 : Int) < (l.length : Int)) = true := decide_eq_true (by omega);obtain rfl:=HN.out (.inr cM);obtain⟨a7,a8,bA,bB,bC,bD,bF⟩:=cB.n7;go_wp2_with (refine aA rfl 32 _ _ rfl gR #[C1,C2,C3,C4,.int .i64 s,.int .i64 p,.int .i64 r] rfl rfl _ _ D1.r (by kernel_rfl) rfl (nP bK.one) ?_;intro wE bE a6)
     have oE:=aB.dD bK D1.r (by decide) (by decide) (by decide) a6;have BE:=D1.B.grown a6 D1.B.size (fun k hk=>by injection hk with hk;subst hk;exact cG);obtain⟨bR,bU,bW,bX,bY,b5,b6⟩:=bE.n7;refine bodyPost_ret (v:= .tuple #[.agg #[C1,C2,C3,C4,.int .i64 s,.int .i64 p,.int .i64 r],.slice none 0 0]) (by simp[results,Ui,go_sem,bR,bU,bW,bX,bY,b5,b6]) rfl ⟨_,_,_,_,_,_,rfl,oE,nN _,fun g q e=>by simp[Uf]at e,BE⟩
theorem Ig (n:Int) (w:World) (h0: -9223372036854775808<=n) (h1:n<=9223372036854775807) (ht:Tab w):Calls prog 11 #[.int .i64 n] w (Ret (.string (Bh n)) w):=by
 have C:Calls prog 30 #[.int .i64 n] w (Ret (.string (Bh n)) w):=by
  refine(Tryz.strconv_Itoa n h0 h1 w ht).mono ?_;rintro e w' ⟨rfl,k,os,rfl⟩;exact⟨rfl,DV w k os⟩
 go_enter Tryz.func11,Tryz.ntmps11
 go_wp2_with fail
 refine(C).mono ?_;rintro e w1 ⟨rfl,hb1⟩;go_wp2;go_ret;exact⟨rfl,hb1⟩
def OP (w:World):Prop:=∃m:Int,w.cell? ⟨0,0,none⟩=some (.int .i64 m)
theorem OP.below {w w':World} (h:OP w) (hb:Below w.heap.size w w'):OP w':=by
 obtain⟨m,hm⟩:=h;exact⟨m,(hb.cell (show(⟨0,0,none⟩:Addr).block<w.heap.size from Lib.lt_of_cell hm)).trans hm⟩
theorem Ov {l:List ByteArray} (W:World) (hl:l.length<=100000):aD 9 1 iX W.heap.size (W.alloc (.cells (l.map Ug).toArray 9)) (.slice (some ⟨W.heap.size,0,none⟩) l.length l.length) l:=by
 have hf:l.flatMap iX=l.map Ug:=by
  induction l with
  |nil=>rfl
  |cons x r ih=>rw[List.flatMap_cons,ih (by simp at hl;omega)];rfl
 unfold aD;rw[hf];exact⟨by simp,.inr ⟨W.heap.size,l.length,(l.map Ug).toArray,rfl,Uc _,heap_alloc_new W _,Uc _,by unfold maxLen;omega,by simp,List.take_of_length_le (by simp)⟩⟩
theorem IA (t : ByteArray) (W : World) (h : t.size <= 20000) (hm : OP W) : Calls prog 22 #[.string t, .string (⟨#[10]⟩ : ByteArray)] W (fun e w' => e = .returned (.slice (some ⟨W.heap.size, 0, none⟩) (nE t).length (nE t).length) /\ w' = W.alloc (.cells ((nE t).map Ug).toArray 9)) := by
 obtain⟨m,hm⟩:=hm;have:=Tryz.strings_Split t (⟨#[10]⟩:ByteArray) m W (by omega) hm (by decide);rw[Ai,<-Ia]at this;exact this
theorem Qk (t:ByteArray) (h:t.size<=20000):(nE t).length<=20001:=by
 have:=Lib.countB_le (⟨#[10]⟩:ByteArray) (by decide) t.size t (Uc _);rw[Ia];omega
theorem TR (x:Fl) (s p r:Int) (T:List ByteArray) (hs:bZ x) (hT:T=lM (x,s,p,r)) {u1 u2 u3 u4:Value} {w:World} (h:R4 w u1 u2 u3 u4 x) (ht:Tab w):Calls prog 12 #[.agg #[u1,u2,u3,u4,.int .i64 s,.int .i64 p,.int .i64 r]] w (iH 9 1 iX T w):=by
 rw[hT];obtain⟨rows,fd,nd,fl⟩:=x;exact L6 u1 u2 u3 u4 rows fd nd fl s p r w h.a h.b h.c h.d hs ht
theorem EX {y:Wk} {l:List Ac} (hs:bZ y.1):bZ (yE y l).1.1:=by
 have h:∀(l:List Ac) (y:Wk) (ns:List Int),bZ y.1->bZ (goR y ns l).1.1:=by
  intro l;induction l with
  |nil=>intro y ns hs;exact hs
  |cons a l ih=>intro y ns hs;exact ih _ _ (BK a hs)
 unfold yE;split
 . exact h _ _ _ hs
 . exact hs
set_option maxHeartbeats 8000000 in
theorem J4 (x:Fl) (s:Int) (hk:bV (x,s,0,0)=true) (hs:bZ x) (CW:∀w,Calls prog 10 #[] w (Eu x s 0 0 w)) (t:ByteArray) (w:World) (tab:Tab w) (cX:Syn w) (mx:OP w):
 Calls prog 8 #[.string t] w (gJ 9 1 iX (sJ (x,s,0,0) t).1 (sJ (x,s,0,0) t).2 w):=by
 obtain⟨R,hR⟩:=TV (sJ (x,s,0,0) t);rw[<-hR];have bU:=TY tab;have cY:=TY cX;have e8:=TY mx;have HK:=TY hk;have HS:=TY hs;have e9:=TY CW;clear tab cX mx hk hs CW;by_cases cG:20000<t.size
 . have cH : (20000 : Int) < (t.size : Int) := by omega
   obtain rfl:R=([],false):=by rw[hR];unfold sJ;rw[if_pos cG]
   clear hR;go_enter func8,ntmps8
   go_wp2;refine bodyPost_ret (v:= .tuple #[.slice none 0 0,.bool false]) (by simp[results,Uj,go_sem]) rfl ⟨none,0,rfl,nN _,Below.refl _ _⟩
 . have cH : ¬ (20000 : Int) < (t.size : Int) := by omega
   have cI:=fun W hm=>IA t W (by omega) hm
   have hL2:=Qk t (by omega);have cJ:Hid (dK (nE t)=none->R=([],false)):=TY (fun q=>by rw[hR];exact L8 q);have dL:Hid (∀az,dK (nE t)=some az->40<az.length->R=([],false)):=TY (fun az q q2=>by rw[hR];exact Iy q q2);have dT:Hid (∀az,dK (nE t)=some az->¬40<az.length->R=((yE (x,s,0,0) az).2.map Bh++lM (yE (x,s,0,0) az).1,true)):=TY (fun az q q2=>by rw[hR];exact CJ cG q q2);clear hR;obtain⟨L,hL⟩:=TV (nE t);rw[<-hL]at cI hL2 cJ dL dT;clear hL cG;have bW:=fI w (E:=54) (size:=3) (enc:=pK) w.heap.size rfl w.heap.size (Uc _);have B0:=(Below.refl w.heap.size w).al (.cells #[] 54);go_enter func8,ntmps8
   go_wp2_with fail
   refine(cI _ (e8.out.below B0)).mono ?_;rintro e w1 ⟨rfl,eA⟩;have oL:=(Ov (l:=L) (w.alloc (.cells #[] 54)) (by omega)).mono B0.size;have oA:=bW.alloc (.cells (L.map Ug).toArray 9);have B1:=B0.al (.cells (L.map Ug).toArray 9);rw[<-eA]at oL oA B1;obtain⟨gL,eC⟩:=TV ((w.alloc (.cells #[] 54)).heap.size);rw[<-eC]at oL⊢;clear eA bW B0 eC cI;go_wp2;go_loopw [4,23] (fun s4 fD wr=>∃(k:Nat) (az:List Ac) (A:Option Addr) (c:Nat),k<=L.length/\fD= .int .i64 k/\s4= .slice A az.length c/\az.length<=k/\Hid (dK L=(dK (L.drop k)).map (az++·))/\aD 54 3 pK w.heap.size wr (.slice A az.length c) az/\aD 9 1 iX w.heap.size wr (.slice (some ⟨gL,0,none⟩) L.length L.length) L/\Below w.heap.size w wr) (fun _ i _=>L.length-(intOf i).toNat)
   case atStart=>exact⟨0,[],_,_,Ub _,rfl,rfl,Ub _,TY (by rw[List.drop_zero];rcases dK L with _|q<;>rfl),oA,oL,B1⟩
   case round=>
    obtain⟨k,az,A,c,hk,rfl,rfl,gY,Hg,oA,oL,B⟩:=hrel;by_cases hlt:k<L.length
    . obtain ⟨b, off, hA, hb, k1⟩ := (oL.rd jA (by decide)).OE hlt;injection hA with hA;injection hA with fL fN;subst fL;subst fN;simp only[Nat.zero_add]at k1;have fO:(k:Int)<(L.length:Int):=(by omega);have hsk:=fun q=>Qe hlt Hg q
      have hst:=fun q r=>Qf hlt Hg q r
      have cK:=fun q r=>Ot hlt Hg q r
      obtain⟨s0,hs0⟩:=TV (L[k]);rw[<-hs0]at k1 hsk hst cK;have fR:=TY hsk;have eE:=TY hst;have eI:=TY cK;clear hs0 hsk hst cK;go_wp2_with fail
      refine(uZ s0 _).mono ?_;obtain⟨lo,bR⟩:=TV (fA s0);rintro e w2 ⟨vF,rfl,hF,hb2⟩;rw[<-bR]at hF⊢;have bC:=oA.below hb2;have bY:=oL.below hb2;have B2:=B.tr hb2;clear oA oL k1;rcases lo with _|_
      . have a6 : (fA s0 && decide ((jF s0).length = 0)) = false := by rw [<- bR]; rfl
        obtain⟨pk,bD⟩:=TV ((paX s0).1);obtain⟨pa,bE⟩:=TV ((paX s0).2.1);obtain⟨pb,bF⟩:=TV ((paX s0).2.2);obtain⟨po,bA⟩:=TV (paB s0);have hv:paV s0= .tuple #[.agg #[.int .i64 pk,.int .i64 pa,.int .i64 pb],.bool po]:=by unfold paV;rw[bD,bE,bF,bA]
        have CP:=Nt s0 w2 (bU.out.below B2) (cY.out.below B2);rw[hv]at CP;have Ht:=eE.out a6;have Hf:=eI.out a6;have b5:paX s0=(pk,pa,pb):=(by rw[bD,bE,bF]);rw[b5,<-bA]at Ht;rw[<-bA]at Hf;have b6:=TY Ht;have b7:=TY Hf;clear hv bD bE bF bA b5 Ht Hf a6 hF bR;go_wp2_with fail
        refine CP.mono ?_;rintro e w3 ⟨rfl,hb3⟩;have bJ:=bC.below hb3;have b8:=bY.below hb3;have B3:=B2.tr hb3;have b3:=Blk.aZ w3 54 #[.int .i64 0,.int .i64 0,.int .i64 0];clear CP bC bY hb3;go_upto_region 10 with(refine eH rfl 54 _ _ rfl w3.heap.size #[.int .i64 pk,.int .i64 pa,.int .i64 pb] rfl rfl _ _ b3 (by kernel_rfl) rfl (by simp[Uh]) ?_;intro w4 b4 hg4)
        have bK:aD 54 3 pK w.heap.size w4 (.slice A az.length c) az:=World.ownsRow.kept (bJ.alloc (.cells #[.int .i64 0,.int .i64 0,.int .i64 0] 54)) hg4 (.inr (fun e=>by have:=(World.ownsRow.lt bJ _ e).2;omega));have b9:=aD.yZ (b8.alloc (.cells #[.int .i64 0,.int .i64 0,.int .i64 0] 54)) b3 (by decide) hg4;have B4:=(B3.al (.cells #[.int .i64 0,.int .i64 0,.int .i64 0] 54)).grown hg4 (B3.al _).size (fun k hk=>by injection hk with hk;subst hk;exact B3.size);clear b3 hg4 bJ b8 B3;obtain⟨gP,cA⟩:=TV w3.heap.size;rw[<-cA]at b4⊢;clear cA;rcases po with _|_
        . obtain rfl:=cJ.out (b7.out rfl);go_wp2;refine bodyPost_ret (v:= .tuple #[.slice none 0 0,.bool false]) (by simp[results,Uj,go_sem]) rfl ⟨none,0,rfl,nN _,B4⟩
        . have Hn:=b6.out rfl;obtain⟨cL,cM,cN⟩:=b4.n3;have H8:Hid ((az.length+1)*24<=140737488355328):=TY (by omega);have HM:Hid (az.length+1<=maxLen):=TY (by unfold maxLen;omega);clear b6 b7;go_wp2_with (at_builtin;go_must (refine kW (enc:=pK) Mk CZ Mj (B:=w.heap.size) w4 B4.size bK (pk,pa,pb) rfl H8.out HM.out rfl _ _ rfl rfl rfl ?_);intro v5 w5 bL cB cP;obtain⟨A5,c5,rfl⟩:=cP)
          have B5:=Below.app B4 bK (Uc _) cB;have cQ:=b9.jC (Grown.of cB) (fun g q=>b9.Ep bK (by decide) q);go_roundw
          case rel=>exact⟨k+1,az++[(pk,pa,pb)],A5,c5,by omega,by go_num,by simp,by simp;omega,Hn,by rw[TZ,T9];exact bL,cQ,B5⟩
          case measure=>simp[intOf];omega
      . obtain⟨Af,cf,rfl,_,_⟩:=(hF rfl).form;by_cases hz:(jF s0).length=0
        . have fS : ((jF s0).length : Int) = 0 := by omega
          have a6:(fA s0&&decide ((jF s0).length=0))=true:=by rw[<-bR,decide_eq_true hz];rfl
          have Hn:=fR.out a6;clear a6 hF bR;go_wp2;go_roundw
          case rel=>exact⟨k+1,az,A,c,by omega,by go_num,rfl,by omega,Hn,bC,bY,B2⟩
          case measure=>simp[intOf];omega
        . have fS : ¬ ((jF s0).length : Int) = 0 := by omega
          have a6:(fA s0&&decide ((jF s0).length=0))=false:=(by rw[decide_eq_false hz,Bool.and_false]);obtain⟨pk,bD⟩:=TV ((paX s0).1);obtain⟨pa,bE⟩:=TV ((paX s0).2.1);obtain⟨pb,bF⟩:=TV ((paX s0).2.2);obtain⟨po,bA⟩:=TV (paB s0);have hv:paV s0= .tuple #[.agg #[.int .i64 pk,.int .i64 pa,.int .i64 pb],.bool po]:=by unfold paV;rw[bD,bE,bF,bA]
          have CP:=Nt s0 w2 (bU.out.below B2) (cY.out.below B2);rw[hv]at CP;have Ht:=eE.out a6;have Hf:=eI.out a6;have b5:paX s0=(pk,pa,pb):=(by rw[bD,bE,bF]);rw[b5,<-bA]at Ht;rw[<-bA]at Hf;have b6:=TY Ht;have b7:=TY Hf;clear hv bD bE bF bA b5 Ht Hf a6 hF bR;go_wp2_with fail
          refine CP.mono ?_;rintro e w3 ⟨rfl,hb3⟩;have bJ:=bC.below hb3;have b8:=bY.below hb3;have B3:=B2.tr hb3;have b3:=Blk.aZ w3 54 #[.int .i64 0,.int .i64 0,.int .i64 0];clear CP bC bY hb3;go_upto_region 10 with(refine eH rfl 54 _ _ rfl w3.heap.size #[.int .i64 pk,.int .i64 pa,.int .i64 pb] rfl rfl _ _ b3 (by kernel_rfl) rfl (by simp[Uh]) ?_;intro w4 b4 hg4)
          have bK:aD 54 3 pK w.heap.size w4 (.slice A az.length c) az:=World.ownsRow.kept (bJ.alloc (.cells #[.int .i64 0,.int .i64 0,.int .i64 0] 54)) hg4 (.inr (fun e=>by have:=(World.ownsRow.lt bJ _ e).2;omega));have b9:=aD.yZ (b8.alloc (.cells #[.int .i64 0,.int .i64 0,.int .i64 0] 54)) b3 (by decide) hg4;have B4:=(B3.al (.cells #[.int .i64 0,.int .i64 0,.int .i64 0] 54)).grown hg4 (B3.al _).size (fun k hk=>by injection hk with hk;subst hk;exact B3.size);clear b3 hg4 bJ b8 B3;obtain⟨gP,cA⟩:=TV w3.heap.size;rw[<-cA]at b4⊢;clear cA;rcases po with _|_
          . obtain rfl:=cJ.out (b7.out rfl);go_wp2;refine bodyPost_ret (v:= .tuple #[.slice none 0 0,.bool false]) (by simp[results,Uj,go_sem]) rfl ⟨none,0,rfl,nN _,B4⟩
          . have Hn:=b6.out rfl;obtain⟨cL,cM,cN⟩:=b4.n3;have H8:Hid ((az.length+1)*24<=140737488355328):=TY (by omega);have HM:Hid (az.length+1<=maxLen):=TY (by unfold maxLen;omega);clear b6 b7;go_wp2_with (at_builtin;go_must (refine kW (enc:=pK) Mk CZ Mj (B:=w.heap.size) w4 B4.size bK (pk,pa,pb) rfl H8.out HM.out rfl _ _ rfl rfl rfl ?_);intro v5 w5 bL cB cP;obtain⟨A5,c5,rfl⟩:=cP)
            have B5:=Below.app B4 bK (Uc _) cB;have cQ:=b9.jC (Grown.of cB) (fun g q=>b9.Ep bK (by decide) q);go_roundw
            case rel=>exact⟨k+1,az++[(pk,pa,pb)],A5,c5,by omega,by go_num,by simp,by simp;omega,Hn,by rw[TZ,T9];exact bL,cQ,B5⟩
            case measure=>simp[intOf];omega
    . obtain rfl : k = L.length := by omega
      have hall:=Sg (Uc _) Hg;clear Hg oL;by_cases eJ:40<az.length
      . have cR : (40 : Int) < (az.length : Int) := by omega
        obtain rfl:=dL.out az hall eJ;go_wp2;refine bodyPost_ret (v:= .tuple #[.slice none 0 0,.bool false]) (by simp[results,Uj,go_sem]) rfl ⟨none,0,rfl,nN _,B⟩
      . have cR : ¬ (40 : Int) < (az.length : Int) := by omega
        have cE:=dT.out az hall eJ;have cF:=Np (l:=az) (y:=(x,s,0,0)) HS.out;have hsm:=EX (l:=az) (y:=(x,s,0,0)) HS.out;have CR:=fun(u1 u2 u3 u4:Value) (W:World) (q:R4 W u1 u2 u3 u4 x) (q5:Rd 3 (RE pK) W (.slice A az.length c) az) (q6:Tab W)=>KV u1 u2 u3 u4 (.slice A az.length c) x s 0 0 az W q.a q.b q.c q.d q5 HS.out q6
        obtain⟨⟨⟨X,S,P,Q⟩,N⟩,cS⟩:∃R,R=yE (x,s,0,0) az:=⟨_,rfl⟩;have hE:N.length<=40:=by have:=Nq (y:=(x,s,0,0)) (l:=az);rw[<-cS]at this;exact this
        rw[<-cS]at cE cF hsm CR;simp only at cE cF hsm;have fW:=TY cE;have fX:=TY cF;have fY:=TY hsm;have gA:=TY CR;clear cE cF hsm CR cS hall;go_wp2_with fail
        refine(e9.out _).mono ?_;rintro e w2 ⟨A1,c1,A2,c2,A3,c3,A4,c4,rfl,oW,hb2⟩;have bC:=oA.below hb2;have B2:=B.tr hb2;go_wp2_with fail
        refine(gA.out _ _ _ _ _ oW.r4 (bC.rd CZ (by decide)) (bU.out.below B2)).mono ?_;rintro e w3 ⟨E1,E2,E3,E4,A5,c5,rfl,oX,oN,_,hb3⟩;simp only at oX oN;have B3:=B2.tr hb3;clear oW oA bC hb2 B2;go_upto_region 17 with(refine aA rfl 32 _ _ rfl w3.heap.size #[E1,E2,E3,E4,.int .i64 S,.int .i64 P,.int .i64 Q] rfl rfl _ _ (Blk.aZ w3 32 #[.slice none 0 0,.slice none 0 0,.slice none 0 0,.slice none 0 0,.int .i64 0,.int .i64 0,.int .i64 0]) (by kernel_rfl) rfl (nP oX.one) ?_;intro w4 bX hg4)
        have eK:=aB.alg oX (by decide) (by decide) (by decide) hg4;have eL:=oN.TE (by decide) hg4;have B4:=(B3.al (.cells #[.slice none 0 0,.slice none 0 0,.slice none 0 0,.slice none 0 0,.int .i64 0,.int .i64 0,.int .i64 0] 32)).grown hg4 (B3.al _).size (fun k hk=>by injection hk with hk;subst hk;exact B3.size);have hw3:w.heap.size<=w3.heap.size:=B3.size;clear oX oN hg4 B3 hb3;obtain⟨gX,eM⟩:=TV w3.heap.size;rw[<-eM]at bX⊢;clear eM;have cC:=(fI w4 (E:=9) (size:=1) (enc:=iX) w4.heap.size rfl w.heap.size B4.size);have eN:=bX.alloc (.cells #[] 9);have eP:=eK.alloc (.cells #[] 9);have eR:=eL.alloc (.cells #[] 9);have B5:=B4.al (.cells #[] 9);clear bX eK eL B4;go_wp2;go_loopw [13,62] (fun gB gC wr=>∃(k:Nat) (ts:List ByteArray) (D:Option Addr) (d:Nat),k<=N.length/\gC= .int .i64 k/\gB= .slice D ts.length d/\Hid (ts.length=k)/\Hid (ts=(N.take k).map Bh)/\aD 9 1 iX w.heap.size wr (.slice D ts.length d) ts/\aD 3 1 bH w2.heap.size wr (.slice A5 N.length c5) N/\Blk wr gX 32 #[E1,E2,E3,E4,.int .i64 S,.int .i64 P,.int .i64 Q]/\aB w2.heap.size wr E1 E2 E3 E4 X/\Below w.heap.size w wr) (fun _ i _=>N.length-(intOf i).toNat)
        case atStart=>exact⟨0,[],_,_,Ub _,rfl,rfl,TY rfl,TY rfl,cC,eR,eN,eP,B5⟩
        case round=>
         clear cC eR eN eP B5;obtain⟨k,ts,D,d,hk,rfl,rfl,cD,cT,oS,oN,bX,oX,B⟩:=hrel;by_cases hlt:k<N.length
         . obtain ⟨b, off, hA, hb, k1⟩ := (oN.rd aJ (by decide)).sP hlt;subst hA;have fO:(k:Int)<(N.length:Int):=(by omega);have hn:=fX.out N[k] (Ua hlt);have cU:ts++[Bh N[k]]=(N.take (k+1)).map Bh:=by rw[cT.out,List.take_succ_eq_append_getElem hlt,List.map_append];rfl
           obtain⟨n,eW⟩:=TV (N[k]);rw[<-eW]at k1 hn cU;have gD:=TY cU;have hP:=hn.1;have hZ:=hn.2;clear eW cU hn;go_wp2_with fail
           refine(Ig n _ (by omega) (by omega) (bU.out.below B)).mono ?_;rintro e w6 ⟨rfl,a7⟩;have a8:=oS.below a7;have e5:=oN.below a7;have e6:=bX.bl a7;have bB:=oX.below a7;have B6:=B.tr a7;have H8:Hid ((ts.length+1)*16<=140737488355328):=TY (by have:=cD.out;omega);have HM:Hid (ts.length+1<=maxLen):=TY (by have:=cD.out;unfold maxLen;omega);clear oS oN bX oX B a7 k1 hb;go_wp2_with (at_builtin;go_must (refine kW (enc:=iX) qG jA sF (B:=w.heap.size) w6 B6.size a8 (Bh n) rfl H8.out HM.out rfl _ _ rfl rfl rfl ?_);intro v7 w7 bN bO cV;obtain⟨A7,c7,rfl⟩:=cV)
           have B7:=Below.app B6 a8 (Uc _) bO;have gF:=e5.jC (Grown.of bO) (fun g q=>e5.Ep a8 (by decide) q);have gK:=e6.grown bO (fun e=>a8.apart e6 (by decide) e.symm);have gM:aB w2.heap.size w7 E1 E2 E3 E4 X:=⟨bB.a.jC (Grown.of bO) (fun g q=>bB.a.Ep a8 (by decide) q),bB.b.jC (Grown.of bO) (fun g q=>bB.b.Ep a8 (by decide) q),bB.c.jC (Grown.of bO) (fun g q=>bB.c.Ep a8 (by decide) q),bB.d.jC (Grown.of bO) (fun g q=>bB.d.Ep a8 (by decide) q),bB.ap⟩;go_roundw
           case rel=>exact⟨k+1,ts++[Bh n],A7,c7,by omega,by go_num,by simp,TY (by have:=cD.out;simp;omega),gD,by rw[TZ,T9];exact bN,gF,gK,gM,B7⟩
           case measure=>simp[intOf];omega
         . have gN : k = N.length := by omega
           subst gN;have cW:=cT.out;rw[List.take_length]at cW;have e7:=fW.out;obtain⟨T,hT⟩:=TV (lM (X,S,P,Q));rw[<-hT,<-cW]at e7;have gO:=CE (X,S,P,Q);rw[<-hT]at gO;have CF:=TR X S P Q T fY.out hT oX.r4 (bU.out.below B);obtain⟨cL,cM,cN,gQ,gR,gS,gT⟩:=bX.n7;subst e7;have H8:Hid ((ts.length+T.length)*16<=140737488355328):=TY (by have:=cD.out;omega);have HM:Hid (ts.length+T.length<=maxLen):=TY (by have:=cD.out;unfold maxLen;omega);clear hT cW cT;go_wp2_with fail
           refine CF.mono ?_;rintro e w6 ⟨A6,c6,rfl,oT,a7⟩;have a8:=oS.below a7;have B6:=B.tr a7;clear CF cL cM cN gQ gR gS gT oS B a7;go_wp2_with (at_builtin;go_must (refine dX (enc:=iX) qG jA sF B6.size a8 (oT.rd jA (by decide)) H8.out HM.out rfl _ _ rfl rfl rfl ?_);intro v7 w7 bN gW cV;obtain⟨A7,c7,rfl⟩:=cV)
           refine bodyPost_ret (v:= .tuple #[.slice A7 (ts.length+T.length) c7,.bool true]) (by simp[results,Uj,go_sem]) rfl ⟨A7,c7,by rw[TZ],by rw[TZ];exact bN,B6.trans gW⟩
def kV (w0:World) (g:Nat) (w:World):Prop:=w0.heap.size<=w.heap.size/\∀i,i<w0.heap.size->i≠g->w.heap[i]? =w0.heap[i]?
section
variable {w0 w w' : World} {g : Nat}
theorem kV.refl (w:World) (g:Nat):kV w g w:=⟨Uc _,fun _ _ _=>rfl⟩
theorem kV.gr (h:kV w0 g w) (hg:w.grownBy w' (some g)):kV w0 g w':=
 ⟨Ud h.1 hg.size,fun i hi hne=>(hg.block i (by have:=h.1;omega) (fun e=>hne (by injection e))).trans (h.2 i hi hne)⟩
theorem kV.bl (h:kV w0 g w) (hb:Below w.heap.size w w'):kV w0 g w':=
 ⟨Ud h.1 hb.size,fun i hi hne=>(hb.block i (by have:=h.1;omega)).trans (h.2 i hi hne)⟩
theorem kV.al (h:kV w0 g w) (o:Obj):kV w0 g (w.alloc o):=h.bl ((Below.refl _ _).al o)
theorem kV.drewN (h:kV w0 g w) (n:Nat):kV w0 g (w.drewN n):=h
theorem kV.st (h:kV w0 g w) {p:Addr} (hp:w0.heap.size<=p.block) (u:Value):kV w0 g (w.setCell p u):=
 ⟨by simp[World.setCell];exact h.1,fun i hi hne=>(Below.heap_setCell w p u i (by omega)).trans (h.2 i hi hne)⟩
theorem kV.tr {w1:World} (h:kV w0 g w1) (k:kV w1 g w):kV w0 g w:=⟨Ud h.1 k.1,fun i hi hne=>(k.2 i (by have:=h.1;omega) hne).trans (h.2 i hi hne)⟩
theorem kV.own {α:Type} {E:TypeId} {size:Nat} {enc:α->List Value} {B:Nat} {v:Value} {l:List α} (k:kV w0 g w) (ho:w.os=w0.os) (ht:w.tape=w0.tape) (hu:w.output=w0.output) (h:aD E size enc B w0 v l) (hne:v.ownBlock≠some g):aD E size enc B w v l:=by
 refine World.ownsRow.kept h (row:=some g) ⟨ho,ht,hu,k.1,fun i hi hn=>k.2 i hi (fun e=>hn (by rw[e]))⟩ (.inr hne)
end
def J5 (W:World) (g:Nat) (u:Value) (n:Nat) (w:World) (e:Ending) (w':World):Prop:=∃(rows:List Int) (A:Option Addr) (c:Nat),e= .returned (.agg #[.slice A rows.length c])/\aD 3 1 bH w.heap.size w' (.slice A rows.length c) rows/\1<=rows.length/\rows.length<=5/\(∀r∈rows,0<=r/\r<=255)/\Cur w' g u n/\Below W.heap.size W w'/\kV w g w'
theorem vL (W : World) (g : Nat) (v : Value) (l : List Int) (w : World) (h : Rd 1 nG W v l) (b5 : Hid (nR (fun x => 0 <= x /\ x <= 255) l)) (hg : W.heap.size <= g) (b7 : Below W.heap.size W w) (b8 : Cur w g v l.length) :
 Calls prog 122 #[.pointer (some ⟨g,0,none⟩)] w (J5 W g v l.length w):=by
 have hx0:=Blk.aZ w 26 #[.slice none 0 0];have hW:=b7.size;go_enter Tryz.func122,Tryz.ntmps122
 go_wp2_with fail
 refine(aQ 6 W g v l _ h b5 hg (b7.al _) (b8.alloc _) (by decide)).mono ?_;rintro e w1 ⟨a,rfl,ha,bC,hb1,hg1⟩;have hx1:=hx0.cur (b8.alloc _) (by decide) hg1;have K1:=((kV.refl w g).al (.cells #[.slice none 0 0] 26)).gr hg1;have cX:0<=a/\a<=5:=by unfold dQ at ha;omega
 obtain⟨a,rfl⟩:=Ue cX.1;have eC:a<=5:=(by omega);clear cX ha hx0;go_wp2_with fail
 refine(aQ 5 W g v l _ h b5 hg hb1 bC (by decide)).mono ?_;rintro e w2 ⟨b,rfl,hb,bU,hb2,hg2⟩;have hx2:=hx1.cur bC (by decide) hg2;have K2:=K1.gr hg2;have cY:0<=b/\b<=4:=by unfold dQ at hb;omega
 obtain⟨b,rfl⟩:=Ue cY.1;have bW:b<=4:=(by omega);clear cY hb hx1;go_wp2_with fail
 rw[show(1:Int)+a=((1+a:Nat):Int) by simp,show(1:Int)+b=((1+b:Nat):Int) by simp];obtain⟨a',ha'⟩:∃a',a'=1+a:=⟨_,rfl⟩;obtain⟨b',hb'⟩:∃b',b'=1+b:=⟨_,rfl⟩;rw[<-ha',<-hb'];have ha1:1<=a':=(by omega);have eR:a'<=6:=(by omega);have bK:1<=b':=(by omega);have cL:b'<=5:=(by omega);clear ha' hb' eC bW;refine(xJ a' b' _ ⟨ha1,by omega⟩ ⟨bK,by omega⟩).mono ?_;rintro e w3 ⟨A3,c3,rfl,bA,hb3⟩;have cM:(aP a' b').length=b':=(by simp[aP]);rw[cM]at bA⊢;have hx3:=(hx2.below hb3 hx2.lt).alloc (.cells #[.slice A3 b' c3] 26);have cI:=Blk.aZ w3 26 #[.slice A3 b' c3];have bD:=(bU.bl hb3).alloc (.cells #[.slice A3 b' c3] 26);have B3:=(hb2.tr hb3).al (.cells #[.slice A3 b' c3] 26);have K3:=(K2.bl hb3).al (.cells #[.slice A3 b' c3] 26);have b9:=(bA.mono K2.1).alloc (.cells #[.slice A3 b' c3] 26)
 have bX : ∀ r ∈ aP a' b', 0 <= r /\ r <= 255 := fun r hr => by
  have:=C9 (w:=a') (by omega);unfold aP at hr;rw[(List.mem_replicate.1 hr).2];omega
 have cN:w.heap.size<w3.heap.size:=by have:=hx2.lt;have:=hb3.size;omega
 clear bA bC bU hx2 hb1 hb2 hg1 hg2 hb3;go_wp2_with fail
 refine(aQ 5 W g v l _ h b5 hg B3 bD (by decide)).mono ?_;rintro e w4 ⟨k0,rfl,dL,bY,hb4,hg4⟩;have dT:=hx3.cur bD (by decide) hg4;have K4:=K3.gr hg4;have cP:=cI.cur bD (by decide) hg4;have cA:=b9.cur bD (by decide) hg4;have cB:0<=k0/\k0<=4:=by unfold dQ at dL;omega
 obtain⟨k0,rfl⟩:=Ue cB.1;have cQ:k0<=4:=(by omega);obtain⟨br,hbr⟩:=TV w3.heap.size;rw[<-hbr]at cP cN;clear cB dL hx3 cI bD b9 B3;go_wp2;rw[<-hbr];have eW:=TY hbr;have eE:=TY cM;have cC:=TY bX;clear hbr cM bX hg4;go_loopw [6] (fun s6 wr=>∃(k:Nat) (rows:List Int),k<=4/\s6= .int .i64 k/\Hid (rows.length=b')/\Hid (∀r∈rows,0<=r/\r<=255)/\aD 3 1 bH w.heap.size wr (.slice A3 b' c3) rows/\Blk wr br 26 #[.slice A3 b' c3]/\Blk wr w.heap.size 26 #[.slice none 0 0]/\Cur wr g v l.length/\Below W.heap.size W wr/\kV w g wr) (fun i _=>(intOf i).toNat)
 case atStart=>exact⟨k0,_,cQ,rfl,eE,cC,cA,cP,dT,bY,hb4,K4⟩
 case round=>
  obtain⟨k,rows,hk,rfl,Hl,Hr,hown,hy,hx,hc,cD,kk⟩:=hrel;clear cA cP dT bY hb4;by_cases e5:0<k
  . go_wp2_with fail
    refine(aQ b' W g v l _ h b5 hg cD hc (by omega)).mono ?_;rintro e w5 ⟨y,rfl,cE,a6,bW,bE⟩;have bF:0<=y/\y<b':=by unfold dQ at cE;omega
    obtain⟨y,rfl⟩:=Ue bF.1;have cR:y<b':=(by omega);clear bF cE;have bB:=hown.cur hc (by decide) bE;have b6:=hy.cur hc (by decide) bE;have hx1:=hx.cur hc (by decide) bE;have cJ:=kk.gr bE;go_wp2_with fail
    refine(aQ a' W g v l _ h b5 hg bW a6 (by omega)).mono ?_;rintro e w6 ⟨x,rfl,eA,a8,bL,bJ⟩;have cF:0<=x/\x<a':=by unfold dQ at eA;omega
    obtain⟨x,rfl⟩:=Ue cF.1;have e6:x<a':=(by omega);clear cF eA;have a7:=bB.cur a6 (by decide) bJ;have bN:=b6.cur a6 (by decide) bJ;have hx2:=hx1.cur a6 (by decide) bJ;have cK:=cJ.gr bJ;have bO:y<rows.length:=by rw[Hl.out];exact cR
    obtain⟨r,hr⟩:=TV (rows[y]);have cG:=Hr.out rows[y] (Ua bO);rw[<-hr]at cG;obtain⟨cS,hr1⟩:=cG;obtain⟨g5,rfl,cH,eI⟩:=a7.split bO;have s1:=a7.slot aJ Nat.one_pos bO 0 (.int .i64 r) (by rw[hr];rfl);have s2:=a7.free y;rw[Nat.mul_one,Nat.add_zero]at s1;have q1:=bN.c1;have q2:=bN.lt;have eJ:(y:Int)<b':=(by omega);have hp:=C9 (w:=x) (by omega);have cT:=QG (r:=r) (P:=2^x) (h0:=cS) (hP:=hp.1);have e0:=Ap (r/2^x);have eK:=TY hr;clear hr hown hy hx hc bE bJ bB b6 hx1 a6 bW cD;by_cases ht:(r/2^x)%2=1
    . have cU:=cT ht;have t1:((r/2^x)%2==1)=true:=(by simpa using ht);obtain⟨P,hP⟩:=TV ((2:Int)^x);rw[<-hP]at hp cU;have e1:IntKind.i64.wrap ((2:Int)^x)=P:=by rw[<-hP];exact IntWalk.i64_in _ (by omega)
      have e2:IntKind.i64.wrap (r-P)=r-P:=IntWalk.i64_in _ (by omega);have HP:=TY hP;clear ht cT hP;have hgo:g5≠br:=fun e=>(a7.apart bN (by decide)) (by rw[e];rfl)
      have hgx:g5≠w.heap.size:=fun e=>(a7.apart hx2 (by decide)) (by rw[e];rfl)
      have cV:g5≠g:=fun e=>(a8.apart a7 (by decide)) (by rw[e];rfl)
      have bA:=(a7.iZ aJ (y:=r-P) bO rfl).drewN 1;have cI:=(bN.far (p:=⟨g5,y,none⟩) (fun e=>hgo e.symm) (.int .i64 (r-P))).drewN 1;have hx3:=(hx2.far (p:=⟨g5,y,none⟩) (fun e=>hgx e.symm) (.int .i64 (r-P))).drewN 1;have bR:=(a8.far (p:=⟨g5,y,none⟩) (fun e=>cV e.symm) (.int .i64 (r-P))).drewN 1;have B7:=below_drewN (bL.st ⟨g5,y,none⟩ (.int .i64 (r-P)) (Ud hW cH)) 1;have cW:=(cK.st (p:=⟨g5,y,none⟩) cH (.int .i64 (r-P))).drewN 1;have HL:Hid ((rows.set y (r-P)).length=b'):=TY (by rw[List.length_set];exact Hl.out)
      have HR : Hid (∀ z ∈ rows.set y (r - P), 0 <= z /\ z <= 255) := TY fun z hz => by
       rcases List.mem_or_eq_of_mem_set hz with hz|rfl
       . exact Hr.out z hz
       . omega
      go_wp2_with fail
      go_still_tail 12,(by kernel_rfl)
      change wpList _ _ _ _ _ (World.drew _);clear e0 e1 e2;go_wp2;go_roundw
      case rel=>exact⟨k-1,_,by omega,by go_num,HL,HR,bA,cI,hx3,bR,B7,cW⟩
      case measure=>simp[intOf];omega
    . have t1 : ((r / 2 ^ x) % 2 == 1) = false := by simpa using ht
      clear cT ht;go_wp2;go_roundw
      case rel=>exact⟨k-1,rows,by omega,by go_num,Hl,Hr,a7,bN,hx2,a8,bL,cK⟩
      case measure=>simp[intOf];omega
  . obtain rfl : k = 0 := by omega
    by_cases ha:a'<6
    . have eL : (a' : Int) < 6 := by omega
      go_wp2_with fail
      refine(Aq 3 W g v l _ h b5 hg cD hc (by decide)).mono ?_;rintro e w5 ⟨yes,rfl,a6,bW,bE⟩;have bB:=hown.cur hc (by decide) bE;have b6:=hy.cur hc (by decide) bE;have hx1:=hx.cur hc (by decide) bE;have cJ:=kk.gr bE;rcases yes with _|_
      . skip;have z1:=b6.c1;have z2:=b6.lt;have z3:=hx1.frozen 0;have z4:=hx1.lt;have z6:=hx1.c1;have z5:=(hx1.Dq 0 (.slice A3 b' c3)).cell 0;simp at z5;go_wp2;refine bodyPost_ret (v:= .agg #[.slice A3 b' c3]) (by simp[results,Uk,go_sem,z5]) rfl ⟨rows,A3,c3,by rw[Hl.out],?_,by rw[Hl.out];exact bK,by rw[Hl.out];exact cL,Hr.out,a6.far (fun e=>a6.ne hx1 (by decide) e.symm) _,bW.st _ _ hW,cJ.st (p:=⟨w.heap.size,0,none⟩) (Uc _) _⟩;rw[Hl.out];exact bB.far (fun e=>bB.apart hx1 (by decide) e) _
      . go_wp2_with fail
        refine(aQ b' W g v l _ h b5 hg bW a6 (by omega)).mono ?_;rintro e w6 ⟨y,rfl,cE,a8,bL,bJ⟩;have bF:0<=y/\y<b':=by unfold dQ at cE;omega
        obtain⟨y,rfl⟩:=Ue bF.1;have cR:y<b':=(by omega);clear bF cE;have a7:=bB.cur a6 (by decide) bJ;have bN:=b6.cur a6 (by decide) bJ;have hx2:=hx1.cur a6 (by decide) bJ;have cK:=cJ.gr bJ;have bO:y<rows.length:=by rw[Hl.out];exact cR
        obtain⟨r,hr⟩:=TV (rows[y]);have cG:=Hr.out rows[y] (Ua bO);rw[<-hr]at cG;obtain⟨cS,hr1⟩:=cG;obtain⟨V,e1,eM,hV1⟩:=O7 cS hr1 ha;obtain⟨g5,rfl,cH,eI⟩:=a7.split bO;have s1:=a7.slot aJ Nat.one_pos bO 0 (.int .i64 r) (by rw[hr];rfl);have s2:=a7.free y;rw[Nat.mul_one,Nat.add_zero]at s1;have q1:=bN.c1;have q2:=bN.lt;have eJ:(y:Int)<b':=(by omega);have eK:=TY hr;clear hr hown hy hx hc bE bJ bB b6 hx1 a6 bW cD;have hgo:g5≠br:=fun e=>(a7.apart bN (by decide)) (by rw[e];rfl)
        have hgx:g5≠w.heap.size:=fun e=>(a7.apart hx2 (by decide)) (by rw[e];rfl)
        have cV:g5≠g:=fun e=>(a8.apart a7 (by decide)) (by rw[e];rfl)
        have bA:=a7.iZ aJ (y:=V) bO rfl;have hx3:=hx2.far (p:=⟨g5,y,none⟩) (fun e=>hgx e.symm) (.int .i64 V);have bR:=a8.far (p:=⟨g5,y,none⟩) (fun e=>cV e.symm) (.int .i64 V);have B7:=bL.st ⟨g5,y,none⟩ (.int .i64 V) (Ud hW cH);have cW:=cK.st (p:=⟨g5,y,none⟩) cH (.int .i64 V);have HL:Hid ((rows.set y V).length=b'):=TY (by rw[List.length_set];exact Hl.out)
        have HR : Hid (∀ z ∈ rows.set y V, 0 <= z /\ z <= 255) := TY fun z hz => by
         rcases List.mem_or_eq_of_mem_set hz with hz|rfl
         . exact Hr.out z hz
         . exact⟨eM,hV1⟩
        have eN:=hgo.symm;have eP:=hgx.symm;have z3:=hx2.frozen 0;have z4:=hx2.lt;have z6:=hx2.c1;have z5:=(hx3.Dq 0 (.slice (some ⟨g5,0,none⟩) b' c3)).cell 0;simp at z5;go_wp2_with fail
        go_still_tail 12,(by kernel_rfl)
        change wpList _ _ _ _ _ (World.drew _);clear e1;go_wp2;refine bodyPost_ret (v:= .agg #[.slice (some ⟨g5,0,none⟩) b' c3]) (by simp[results,Uk,go_sem,z5]) rfl ⟨rows.set y V,some ⟨g5,0,none⟩,c3,by rw[HL.out],?_,by rw[HL.out];exact bK,by rw[HL.out];exact cL,HR.out,(bR.far (fun e=>bR.ne hx3 (by decide) e.symm) _).drewN 1,below_drewN (B7.st _ _ hW) 1,(cW.st (p:=⟨w.heap.size,0,none⟩) (Uc _) _).drewN 1⟩;rw[HL.out];exact(bA.far (fun e=>bA.apart hx3 (by decide) e) _).drewN 1
    . have eL : ¬ (a' : Int) < 6 := by omega
      have z1:=hy.c1;have z2:=hy.lt;have z3:=hx.frozen 0;have z4:=hx.lt;have z6:=hx.c1;have z5:=(hx.Dq 0 (.slice A3 b' c3)).cell 0;simp at z5;go_wp2;refine bodyPost_ret (v:= .agg #[.slice A3 b' c3]) (by simp[results,Uk,go_sem,z5]) rfl ⟨rows,A3,c3,by rw[Hl.out],?_,by rw[Hl.out];exact bK,by rw[Hl.out];exact cL,Hr.out,hc.far (fun e=>hc.ne hx (by decide) e.symm) _,cD.st _ _ hW,kk.st (p:=⟨w.heap.size,0,none⟩) (Uc _) _⟩;rw[Hl.out];exact hown.far (fun e=>hown.apart hx (by decide) e) _
section
variable {W w0 w w' : World} {g : Nat} {v : Value} {n : Nat}
theorem TA {w1 w2:World} {r:Option Nat} {b:Nat} (h:w.grownBy w1 r) (k:w1.grownBy w2 (some b)) (hb:w.heap.size<=b):w.grownBy w2 r:=
 ⟨k.os.trans h.os,k.tape.trans h.tape,k.output.trans h.output,Ud h.size k.size,fun i hi hne=>(k.block i (Nat.lt_of_lt_of_le hi h.size) (fun e=>by injection e with e;omega)).trans (h.block i hi hne)⟩
theorem Q5 {w1 w2:World} {r:Option Nat} (h:w.grownBy w1 r) (k:Below w1.heap.size w1 w2):w.grownBy w2 r:=
 ⟨k.os.trans h.os,k.tape.trans h.tape,k.output.trans h.output,Ud h.size k.size,fun i hi hne=>(k.block i (Nat.lt_of_lt_of_le hi h.size)).trans (h.block i hi hne)⟩
structure DS (W w0 w:World) (g:Nat) (v:Value) (n:Nat):Prop where
  cur:Cur w g v n
  B:Below W.heap.size W w
  gr:w0.grownBy w (some g)
theorem DS.refl (hc:Cur w g v n) (hB:Below W.heap.size W w):DS W w w g v n:=⟨hc,hB,World.grownBy.refl _ _⟩
theorem DS.bl (h:DS W w0 w g v n) (hb:Below w.heap.size w w'):DS W w0 w' g v n:=⟨h.cur.bl hb,h.B.tr hb,Q5 h.gr hb⟩
theorem DS.al (h:DS W w0 w g v n) (o:Obj):DS W w0 (w.alloc o) g v n:=h.bl ((Below.refl _ _).al o)
theorem DS.dr (h:DS W w0 w g v n) (hc:Cur w' g v n) (hB:Below W.heap.size W w') (hg:w.grownBy w' (some g)):DS W w0 w' g v n:=⟨hc,hB,wY h.gr hg⟩
theorem DS.tr {w1:World} (h:DS W w0 w1 g v n) (k:DS W w1 w g v n):DS W w0 w g v n:=⟨k.cur,k.B,wY h.gr k.gr⟩
theorem DS.st {b:Nat} (h:DS W w0 w g v n) (hg:w.grownBy w' (some b)) (hb:w0.heap.size<=b) (hW:W.heap.size<=w0.heap.size) (hne:g≠b):DS W w0 w' g v n:=by
 obtain⟨i,x,hi,hk⟩:=h.cur;exact⟨⟨i,x,hi,hk.grown hg (by simp;exact hne)⟩,h.B.grown hg h.B.size (fun k hk=>by injection hk with hk;omega),TA h.gr hg hb⟩
theorem DS.stN {o:Obj} (h:DS W w0 w g v n) (hg:(w.alloc o).grownBy w' (some w.heap.size)) (hW:W.heap.size<=w0.heap.size):DS W w0 w' g v n:=by
 obtain⟨i,x,hi,hk⟩:=h.cur;exact(h.al o).st hg h.gr.size hW (Nat.ne_of_lt hk.lt)
theorem DS.app {α:Type} {E:TypeId} {size B:Nat} {enc:α->List Value} {u:Value} {l:List α} (h:DS W w0 w g v n) (own:aD E size enc B w u l) (ht:E≠68) (hB:w0.heap.size<=B) (hW:W.heap.size<=w0.heap.size) (hg:w.grownBy w' u.ownBlock):DS W w0 w' g v n:=by
 have hne:=h.cur.apart own ht;obtain⟨i,x,hi,hk⟩:=h.cur;refine⟨⟨i,x,hi,hk.grown hg (fun e=>hne e.symm)⟩,Below.app h.B own (Ud hW hB) hg,⟨hg.os.trans h.gr.os,hg.tape.trans h.gr.tape,hg.output.trans h.gr.output,Ud h.gr.size hg.size,fun i hi hn=>(hg.block i (Nat.lt_of_lt_of_le hi h.gr.size) (fun e=> ?_)).trans (h.gr.block i hi hn)⟩⟩;have:=(World.ownsRow.lt own i e.symm).1;omega
theorem Blk.ds {b:Nat} {t:TypeId} {cs:Array Value} (hb:Blk w b t cs) (hc:Cur w g v n) (hg:w.grownBy w' (some g)) (ht:t≠68):Blk w' b t cs:=hb.cur hc ht hg
theorem aB.cur {B:Nat} {u1 u2 u3 u4:Value} {x:Fl} (h:aB B w u1 u2 u3 u4 x) (hc:Cur w g v n) (hg:w.grownBy w' (some g)):aB B w' u1 u2 u3 u4 x:=by
 obtain⟨_,_,_,b⟩:=hc;exact aB.dD h b (by decide) (by decide) (by decide) hg
end
def Sk (W:World) (g:Nat) (u:Value) (n:Nat) (w:World) (e:Ending) (w':World):Prop:=∃k a b:Int,e= .returned (.agg #[.int .i64 k,.int .i64 a,.int .i64 b])/\iP k a b=true/\DS W w w' g u n
theorem J6 (W : World) (g : Nat) (v : Value) (l : List Int) (w : World) (h : Rd 1 nG W v l) (bB : Hid (nR (fun x => 0 <= x /\ x <= 255) l)) (hg : W.heap.size <= g) (bC : Below W.heap.size W w) (bJ : Cur w g v l.length) :
 Calls prog 43 #[.pointer (some ⟨g,0,none⟩)] w (Sk W g v l.length w):=by
 have bX:=Blk.aZ w 54 #[.int .i64 0,.int .i64 0,.int .i64 0];have D:=(DS.refl bJ bC).al (.cells #[.int .i64 0,.int .i64 0,.int .i64 0] 54);have hne:=(D.cur.ne bX (by decide)).symm;have hW:=bC.size;go_enter Tryz.func43,Tryz.ntmps43
 go_wp2_with fail
 refine(aQ 9 W g v l _ h bB hg D.B D.cur (by decide)).mono ?_;rintro e w1 ⟨x,rfl,hx,c1,B1,g1⟩;have bX:=bX.ds D.cur g1 (by decide);have D:=D.dr c1 B1 g1;obtain⟨gX,bD⟩:=TV w.heap.size;rw[<-bD]at bX hne⊢;have bF:w.heap.size<=gX:=(by omega);have bK:x=0∨x=1∨x=2∨x=3∨(x≠0/\x≠1/\x≠2/\x≠3):=(by omega);clear hx c1 B1 g1 bD;rcases bK with rfl|rfl|rfl|rfl|⟨e0,e1,e2,e3⟩
 . go_wp2_with fail
   refine(aQ 8 W g v l _ h bB hg D.B D.cur (by decide)).mono ?_;rintro e w2 ⟨y,rfl,hy,c1,B1,g1⟩;have bX:=bX.ds D.cur g1 (by decide);have D:=D.dr c1 B1 g1;go_wp2_with (refine aA rfl 54 _ _ rfl gX #[.int .i64 2,.int .i64 y,.int .i64 0] rfl rfl _ _ bX (by kernel_rfl) rfl (by simp[Uh]) ?_;intro wE bE a6)
   obtain⟨a7,a8,bA⟩:=bE.n3;refine bodyPost_ret (v:= .agg #[.int .i64 2,.int .i64 y,.int .i64 0]) (by simp[results,Ul,go_sem,a7,a8,bA]) rfl ⟨_,_,_,rfl,(by unfold dQ at hy;unfold iP inB;simp;omega),D.st a6 bF hW hne⟩
 . go_wp2_with fail
   refine(aQ 20 W g v l _ h bB hg D.B D.cur (by decide)).mono ?_;rintro e w2 ⟨y,rfl,hy,c1,B1,g1⟩;have bX:=bX.ds D.cur g1 (by decide);have D:=D.dr c1 B1 g1;have bL:0<=y/\y<=19:=by unfold dQ at hy;omega
   have bN:IntKind.i64.wrap (1+y)=1+y:=IntWalk.i64_in _ (by omega);go_wp2_with (refine aA rfl 54 _ _ rfl gX #[.int .i64 3,.int .i64 (1+y),.int .i64 0] rfl rfl _ _ bX (by kernel_rfl) rfl (by simp[Uh]) ?_;intro wE bE a6)
   obtain⟨a7,a8,bA⟩:=bE.n3;refine bodyPost_ret (v:= .agg #[.int .i64 3,.int .i64 (1+y),.int .i64 0]) (by simp[results,Ul,go_sem,a7,a8,bA]) rfl ⟨_,_,_,rfl,(by unfold iP inB;simp;omega),D.st a6 bF hW hne⟩
 . skip;go_wp2_with (refine aA rfl 54 _ _ rfl gX #[.int .i64 4,.int .i64 0,.int .i64 0] rfl rfl _ _ bX (by kernel_rfl) rfl (by simp[Uh]) ?_;intro wE bE a6)
   obtain⟨a7,a8,bA⟩:=bE.n3;refine bodyPost_ret (v:= .agg #[.int .i64 4,.int .i64 0,.int .i64 0]) (by simp[results,Ul,go_sem,a7,a8,bA]) rfl ⟨_,_,_,rfl,(by decide),D.st a6 bF hW hne⟩
 . skip;go_wp2_with (refine aA rfl 54 _ _ rfl gX #[.int .i64 5,.int .i64 0,.int .i64 0] rfl rfl _ _ bX (by kernel_rfl) rfl (by simp[Uh]) ?_;intro wE bE a6)
   obtain⟨a7,a8,bA⟩:=bE.n3;refine bodyPost_ret (v:= .agg #[.int .i64 5,.int .i64 0,.int .i64 0]) (by simp[results,Ul,go_sem,a7,a8,bA]) rfl ⟨_,_,_,rfl,(by decide),D.st a6 bF hW hne⟩
 . have f0:(x==0)=false:=beq_false_of_ne e0;have f1:(x==1)=false:=beq_false_of_ne e1;have f2:(x==2)=false:=beq_false_of_ne e2;have f3:(x==3)=false:=beq_false_of_ne e3;go_wp2_with fail
   refine(aQ 3 W g v l _ h bB hg D.B D.cur (by decide)).mono ?_;rintro e w2 ⟨y,rfl,hy,c1,B1,g1⟩;have bX:=bX.ds D.cur g1 (by decide);have D:=D.dr c1 B1 g1;clear c1 B1 g1;go_wp2_with fail
   refine(aQ 3 W g v l _ h bB hg D.B D.cur (by decide)).mono ?_;rintro e w3 ⟨z,rfl,hz,c1,B1,g1⟩;have bX:=bX.ds D.cur g1 (by decide);have D:=D.dr c1 B1 g1;go_wp2_with (refine aA rfl 54 _ _ rfl gX #[.int .i64 1,.int .i64 y,.int .i64 z] rfl rfl _ _ bX (by kernel_rfl) rfl (by simp[Uh]) ?_;intro wE bE a6)
   obtain⟨a7,a8,bA⟩:=bE.n3;refine bodyPost_ret (v:= .agg #[.int .i64 1,.int .i64 y,.int .i64 z]) (by simp[results,Ul,go_sem,a7,a8,bA]) rfl ⟨_,_,_,rfl,(by unfold dQ at hy hz;unfold iP inB;simp;omega),D.st a6 bF hW hne⟩
def Ql (W:World) (g:Nat) (u:Value) (n:Nat) (w:World) (e:Ending) (w':World):Prop:=∃(l:List (Int×Int×Int)) (A:Option Addr) (c:Nat),e= .returned (.slice A l.length c)/\aD 54 3 pK w.heap.size w' (.slice A l.length c) l/\l.length<=17/\(∀a∈l,iP a.1 a.2.1 a.2.2=true)/\DS W w w' g u n
theorem IB (W : World) (g : Nat) (v : Value) (l : List Int) (w : World) (h : Rd 1 nG W v l) (bE : Hid (nR (fun x => 0 <= x /\ x <= 255) l)) (hg : W.heap.size <= g) (a7 : Below W.heap.size W w) (bC : Cur w g v l.length) :
 Calls prog 20 #[.pointer (some ⟨g,0,none⟩)] w (Ql W g v l.length w):=by
 have hW:=a7.size;have D:=(DS.refl bC a7).al (.cells #[] 54);have a8:=fI w (E:=54) (size:=3) (enc:=pK) w.heap.size rfl w.heap.size (Uc _);go_enter Tryz.func20,Tryz.ntmps20
 go_wp2_with fail
 refine(aQ 18 W g v l _ h bE hg D.B D.cur (by decide)).mono ?_;rintro e w1 ⟨n,rfl,hn,c1,B1,g1⟩;have bB:=a8.cur D.cur (by decide) g1;have D1:=D.dr c1 B1 g1;have bJ:0<=n/\n<=17:=by unfold dQ at hn;omega
 clear a8 D c1 B1 g1 hn;go_wp2;go_loopw [3,5] (fun s3 s5 wr=>∃(ac:List (Int×Int×Int)) (A:Option Addr) (c:Nat),(ac.length:Int)<=n/\s5= .int .i64 ac.length/\s3= .slice A ac.length c/\Hid (∀a∈ac,iP a.1 a.2.1 a.2.2=true)/\aD 54 3 pK w.heap.size wr (.slice A ac.length c) ac/\DS W w wr g v l.length) (fun _ i _=>n.toNat-(intOf i).toNat)
 case atStart=>exact⟨[],_,_,by simp;omega,rfl,rfl,TY (fun x hx=>by cases hx),bB,D1⟩
 case round=>
  obtain⟨ac,A,c,hk,rfl,rfl,Ha,hown,D⟩:=hrel;clear bB D1;by_cases hlt:(ac.length:Int)<n
  . go_wp2_with fail
    refine(J6 W g v l _ h bE hg D.B D.cur).mono ?_;rintro e w2 ⟨x,y,z,rfl,bF,D2⟩;have a6:=(hown.cur D.cur (by decide) D2.gr).alloc (.cells #[.int .i64 x,.int .i64 y,.int .i64 z] 54);have D2:=(D.tr D2).al (.cells #[.int .i64 x,.int .i64 y,.int .i64 z] 54);have H8:Hid ((ac.length+1)*24<=140737488355328):=TY (by omega);have HM:Hid (ac.length+1<=maxLen):=TY (by unfold maxLen;omega);obtain⟨W2,hW2⟩:=TV (w2.alloc (.cells #[.int .i64 x,.int .i64 y,.int .i64 z] 54));have bA:=Blk.aZ w2 54 #[.int .i64 x,.int .i64 y,.int .i64 z];go_upto_region 7 with(fail)
    rw[<-hW2]at a6 D2 bA⊢;clear hW2;obtain⟨bK,bL,bN⟩:=bA.n3;go_wp2_with (at_builtin;go_must (refine kW (enc:=pK) Mk CZ Mj (B:=w.heap.size) W2 (Ud D2.gr.size (Uc _)) a6 (x,y,z) rfl H8.out HM.out rfl _ _ rfl rfl rfl ?_);intro v4 w4 bD hg4 hv4;obtain⟨A4,c4,rfl⟩:=hv4)
    have D4:=D2.app a6 (by decide) (Uc _) hW hg4;go_roundw
    case rel=>exact⟨ac++[(x,y,z)],A4,c4,by simp;omega,by simp,by simp,TY (fun q hq=>(List.mem_append.1 hq).elim (Ha.out q) (fun hq=>by rw[List.mem_singleton.1 hq];exact bF)),by rw[TZ,T9];exact bD,D4⟩
    case measure=>simp[intOf];omega
  . go_wp2;go_ret;exact⟨ac,A,c,rfl,hown,by omega,Ha.out,D⟩
def L9 (W:World) (g:Nat) (u:Value) (n:Nat) (w:World) (e:Ending) (w':World):Prop:=∃(l:List (Int×Int)) (A:Option Addr) (c:Nat),e= .returned (.slice A l.length c)/\aD 134 2 dH w.heap.size w' (.slice A l.length c) l/\1<=l.length/\l.length<=4/\(∀x∈l,lV x)/\DS W w w' g u n
theorem IC (W : World) (g : Nat) (v : Value) (l : List Int) (w : World) (h : Rd 1 nG W v l) (bB : Hid (nR (fun x => 0 <= x /\ x <= 255) l)) (hg : W.heap.size <= g) (a6 : Below W.heap.size W w) (bC : Cur w g v l.length) :
 Calls prog 76 #[.pointer (some ⟨g,0,none⟩)] w (L9 W g v l.length w):=by
 have hW:=a6.size;have D:=(DS.refl bC a6).al (.cells #[] 134);have a7:=fI w (E:=134) (size:=2) (enc:=dH) w.heap.size rfl w.heap.size (Uc _);go_enter Tryz.func76,Tryz.ntmps76
 go_wp2_with fail
 refine(aQ 4 W g v l _ h bB hg D.B D.cur (by decide)).mono ?_;rintro e w1 ⟨n,rfl,hn,c1,B1,g1⟩;have a8:=a7.cur D.cur (by decide) g1;have D1:=D.dr c1 B1 g1;have bF:0<=n/\n<=3:=by unfold dQ at hn;omega
 clear a7 D c1 B1 g1 hn;go_wp2;go_loopw [3,5] (fun s3 s5 wr=>∃(bs:List (Int×Int)) (A:Option Addr) (c:Nat),(bs.length:Int)<=1+n/\s5= .int .i64 bs.length/\s3= .slice A bs.length c/\Hid (∀x∈bs,lV x)/\aD 134 2 dH w.heap.size wr (.slice A bs.length c) bs/\DS W w wr g v l.length) (fun _ i _=>(1+n).toNat-(intOf i).toNat)
 case atStart=>exact⟨[],_,_,by simp;omega,rfl,rfl,TY (fun x hx=>by cases hx),a8,D1⟩
 case round=>
  obtain⟨bs,A,c,hk,rfl,rfl,Hb,hown,D⟩:=hrel;clear a8 D1;by_cases hlt:(bs.length:Int)<1+n
  . go_wp2_with fail
    refine(aQ 12 W g v l _ h bB hg D.B D.cur (by decide)).mono ?_;rintro e w2 ⟨s,rfl,hs,c2,B2,g2⟩;have bD:=hown.cur D.cur (by decide) g2;have D2:=D.dr c2 B2 g2;have bJ:0<=s/\s<=11:=by unfold dQ at hs;omega
    clear hs c2 B2 g2;go_wp2_with fail
    refine(aQ 9 W g v l _ h bB hg D2.B D2.cur (by decide)).mono ?_;rintro e w3 ⟨t,rfl,ht,c3,B3,g3⟩;have bA:=bD.cur D2.cur (by decide) g3;have D3:=D2.dr c3 B3 g3;have bK:0<=t/\t<=8:=by unfold dQ at ht;omega
    clear ht c3 B3 g3;have H8:Hid ((bs.length+1)*16<=140737488355328):=TY (by omega);have HM:Hid (bs.length+1<=maxLen):=TY (by unfold maxLen;omega);go_wp2_with (at_builtin;go_must (refine kW (enc:=dH) Mi qF SF (B:=w.heap.size) w3 (Ud D3.gr.size (Uc _)) bA (1+s,1+s+1+t) rfl H8.out HM.out rfl _ _ rfl rfl rfl ?_);intro v4 w4 bE hg4 hv4;obtain⟨A4,c4,rfl⟩:=hv4)
    have D4:=D3.app bA (by decide) (Uc _) hW hg4;go_roundw
    case rel=>exact⟨bs++[(1+s,1+s+1+t)],A4,c4,by simp;omega,by simp,by simp,TY (fun x hx=>(List.mem_append.1 hx).elim (Hb.out x) (fun hx=>by rw[List.mem_singleton.1 hx];unfold lV;simp only;omega)),by rw[TZ,T9];exact bE,D4⟩
    case measure=>simp[intOf];omega
  . go_wp2;go_ret;exact⟨bs,A,c,rfl,hown,by omega,by omega,Hb.out,D⟩
end Go.Proofs.YtjijonhkofhikaaGreatDoor
