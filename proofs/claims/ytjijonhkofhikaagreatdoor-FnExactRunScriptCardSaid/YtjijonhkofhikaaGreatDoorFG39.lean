import Derived.Test.YtjijonhkofhikaaGreatDoorFG37
import Derived.Test.YtjijonhkofhikaaGreatDoorFPActI
open _root_.List renaming length_append->Tm,length_singleton->Tn,map_append->Tp,length_cons->Tq,length_map->Tt,length_take->Tu
open _root_.Nat renaming zero_le->Tv,le_refl->Tw
open _root_.Go.Lib renaming joinTail->Tx,join_cons->Ty
open _root_.ByteArray renaming data_append->Tz
open _root_.Go.Value renaming ownBlock->TA,string->TB,oneCell'->TC
open _root_.Go.Proofs.Tryz (prog func8 ntmps8 func33 ntmps33 func66 func34)
open _root_.Go.Proofs.Tryz renaming results9->TD,results8->TE,results33->TF,ntmps66->TG,ntmps34->TH,results34->TI
set_option linter.unusedVariables false
set_option linter.unusedSimpArgs false
set_option maxHeartbeats 4000000
set_option maxRecDepth 100000
namespace Go.Proofs.YtjijonhkofhikaaGreatDoor
open Go.ChangeShapes Go.WideShapes Go.ChangeAt Go.RowKit
theorem Qf (u1 u2 u3 u4 u5:Value) (x:Fl) (s p r:Int) (l:List Ac) (w:World) (h1:Rd 1 aZ w u1 x.1) (h2:Rd 3 aQ w u2 x.2.1) (h3:Rd 3 aQ w u3 x.2.2.1) (h4:Rd 2 bT w u4 x.2.2.2) (h5:Rd 3 (RE mM) w u5 l) (hs:bQ x) (ht:Tab w):
 Calls prog 9 #[.agg #[u1,u2,u3,u4,.int .i64 s,.int .i64 p,.int .i64 r],u5] w (QI (rQ (x,s,p,r) l) w):=by
 have cT:=Tk ht;clear ht;obtain⟨A5,c5,rfl,eJ,eK⟩:=h5.form;obtain⟨R,b7⟩:=Ti (rQ (x,s,p,r) l);obtain⟨kk,b8⟩:=Ti (dF (x,s,p,r))
 have hno : kk = false ∨ ¬ l.length <= 40 -> R = ((x, s, p, r), []) := fun h => by
  rw[b7];unfold rQ;rw[<-b8,if_neg];rcases h with h|h
  . rw[h];exact fun e=>absurd e.1 (by decide)
  . exact fun e=>h e.2
 have bL:kk=true->l.length<=40->goR (x,s,p,r) [] l=R:=fun h h'=>by rw[b7];unfold rQ;rw[<-b8,if_pos ⟨h,h'⟩]
 rw[<-b7];have CK:∀w,R4 w u1 u2 u3 u4 x->Calls prog 26 #[.agg #[u1,u2,u3,u4,.int .i64 s,.int .i64 p,.int .i64 r]] w (Ret (.bool kk) w):=fun w h=>by rw[b8];exact iM _ _ _ _ (x,s,p,r) w h.a h.b h.c h.d hs.2.1
 have CC:∀w,R4 w u1 u2 u3 u4 x->Calls prog 25 #[.agg #[u1,u2,u3,u4,.int .i64 s,.int .i64 p,.int .i64 r]] w (Co (fun v=>v) (x,s,p,r) w):=fun w h=>(lH _ _ _ _ x s p r w h.a h.b h.c h.d hs).mono fun _ _=>Jh
 have HN:=Tk hno;have HY:=Tk bL;have hR:R4 w u1 u2 u3 u4 x:=⟨h1,h2,h3,h4⟩;clear b7 b8 hno bL h1 h2 h3 h4
 have D0:DB w ((w.alloc (.cells #[u1,u2,u3,u4,.int .i64 s,.int .i64 p,.int .i64 r] 32)).alloc (.cells #[.slice none 0 0,.slice none 0 0,.slice none 0 0,.slice none 0 0,.int .i64 0,.int .i64 0,.int .i64 0] 32)) w.heap.size (w.heap.size+1) #[u1,u2,u3,u4,.int .i64 s,.int .i64 p,.int .i64 r] #[.slice none 0 0,.slice none 0 0,.slice none 0 0,.slice none 0 0,.int .i64 0,.int .i64 0,.int .i64 0]:=
  ⟨((Below.refl w.heap.size w).al _).al _,(Blk.aX w _ _).alloc _,Blk.gI (w.alloc _) _ _ (w.heap.size+1) (by simp)⟩
 go_enter Tryz.func9,Tryz.ntmps9
 go_wp2_with fail
 obtain⟨W0,hW0⟩:=Ti ((w.alloc (.cells #[u1,u2,u3,u4,.int .i64 s,.int .i64 p,.int .i64 r] 32)).alloc (.cells #[.slice none 0 0,.slice none 0 0,.slice none 0 0,.slice none 0 0,.int .i64 0,.int .i64 0,.int .i64 0] 32));obtain⟨gP,cD⟩:=Ti w.heap.size;obtain⟨gR,bJ⟩:=Ti (w.heap.size+1);rw[<-hW0,<-bJ,<-cD]at D0;rw[<-hW0,<-bJ,<-cD];have cE:w.heap.size<=gR:=(by omega);have cU:gP≠gR:=(by omega);clear hW0 cD bJ;refine(CC _ (hR.bl D0.B)).mono ?_;rintro e w3 ⟨C1,C2,C3,C4,rfl,oO,hb3⟩;have D3:=D0.bl hb3;have oO:=oO.mono D0.B.size;clear D0 hb3;go_upto_region 2 with(refine aA rfl 32 _ _ rfl w3.heap.size #[C1,C2,C3,C4,.int .i64 s,.int .i64 p,.int .i64 r] rfl rfl _ _ (Blk.aX w3 32 #[.slice none 0 0,.slice none 0 0,.slice none 0 0,.slice none 0 0,.int .i64 0,.int .i64 0,.int .i64 0]) (by kernel_rfl) rfl (mV oO.one) ?_;intro w0 cF hg4;have D0:=D3.alg hg4;have oO:=aB.alg oO (by decide) (by decide) (by decide) hg4)
 obtain⟨gN,bM⟩:=Ti w3.heap.size;have cV:gP≠gN:=by have:=D3.p.lt;omega
 have cW:gR≠gN:=by have:=D3.r.lt;omega
 have cX:w.heap.size<=gN:=by have:=D3.B.size;omega
 rw[<-bM]at cF⊢;clear bM hg4 D3;obtain⟨a7,a8,bA,bB,bC,bD,bF⟩:=D0.p.n7;go_wp2_with fail
 refine(CK _ (hR.bl D0.B)).mono ?_;rintro e w1 ⟨rfl,hb1⟩;have D1:=D0.bl hb1;have b9:=cF.bl hb1;have bK:=oO.below hb1;clear D0 cF oO hb1 a7 a8 bA bB bC bD bF;cases kk
 . obtain rfl := HN.out (.inl (by first | rfl | trivial));obtain⟨a7,a8,bA,bB,bC,bD,bF⟩:=b9.n7;go_wp2_with (refine aA rfl 32 _ _ rfl gR #[C1,C2,C3,C4,.int .i64 s,.int .i64 p,.int .i64 r] rfl rfl _ _ D1.r (by kernel_rfl) rfl (mV bK.one) ?_;intro wE bE a6)
   have oE:=aB.cO bK D1.r (by decide) (by decide) (by decide) a6;have BE:=D1.B.grown a6 D1.B.size (fun k hk=>by injection hk with hk;subst hk;exact cE);obtain⟨bO,bP,bR,bS,bU,bX,bY⟩:=bE.n7;refine bodyPost_ret (v:= .tuple #[.agg #[C1,C2,C3,C4,.int .i64 s,.int .i64 p,.int .i64 r],.slice none 0 0]) (by simp[results,TD,go_sem,bO,bP,bR,bS,bU,bX,bY]) rfl ⟨_,_,_,_,_,_,rfl,oE,nS _,fun g q e=>by simp[TA]at e,BE⟩
 . by_cases cK:l.length<=40
   . have cG : decide ((40 : Int) < (l.length : Int)) = false := decide_eq_false (by omega);have hy:=HY.out (by first|rfl|trivial) cK;have HG:=Tk hy;clear hy;go_wp2;go_loopw [7,26] (fun s7 cY wr=>∃(k:Nat) (x2:Fl) (s2 p2 r2:Int) (ns:List Int) (A7:Option Addr) (c7:Nat) (V1 V2 V3 V4:Value),k<=l.length/\cY= .int .i64 k/\s7= .slice A7 ns.length c7/\Hid (goR (x2,s2,p2,r2) ns (l.drop k)=R)/\Hid (bQ x2)/\Hid (ns.length=k)/\DB w wr gP gR #[u1,u2,u3,u4,.int .i64 s,.int .i64 p,.int .i64 r] #[.slice none 0 0,.slice none 0 0,.slice none 0 0,.slice none 0 0,.int .i64 0,.int .i64 0,.int .i64 0]/\Blk wr gN 32 #[V1,V2,V3,V4,.int .i64 s2,.int .i64 p2,.int .i64 r2]/\aB w.heap.size wr V1 V2 V3 V4 x2/\aD 3 1 aW w.heap.size wr (.slice A7 ns.length c7) ns/\∀g,V1.ownBlock=some g->(Value.slice A7 ns.length c7).ownBlock≠some g) (fun _ i _=>l.length-(intOf i).toNat)
     case atStart=>exact⟨0,x,s,p,r,[],_,_,_,_,_,_,Tv _,rfl,rfl,Tk HG.out,Tk hs,Tk rfl,D1.al _,b9.alloc _,bK.alloc _,eG w1 _ rfl _ D1.B.size,fun g q e=>by have:=(bK.lt (.inl q)).2;simp[TA]at e;omega⟩
     case round=>
      obtain⟨k,x2,s2,p2,r2,ns,A7,c7,V1,V2,V3,V4,hk,rfl,rfl,Hg,cL,Hn,D,bN,oW,oS,ap⟩:=hrel;clear D1 b9 bK;by_cases hlt:k<l.length
      . skip;obtain⟨b,off,rfl,hb,k0,k1,k2⟩:=(h5.Tj D.B).Qn hlt;have hg:=Hg.out;rw[KL hlt]at hg;have hsm:=xP (y:=(x2,s2,p2,r2)) l[k] cL.out;obtain⟨⟨ka,kb,kc⟩,hx⟩:∃x,x=l[k]:=⟨_,rfl⟩;rw[<-hx]at k0 k1 k2 hg hsm;simp only at k0 k1 k2;obtain⟨⟨z,zs,zp,zr⟩,hz⟩:∃z,z=zT (x2,s2,p2,r2) (ka,kb,kc):=⟨_,rfl⟩;obtain⟨m,hm⟩:=Ti (zD (x2,s2,p2,r2) (ka,kb,kc));rw[<-hz,<-hm]at hg;rw[<-hz]at hsm;have dL:=Tk hg;have dT:=Tk hsm;have HZ:=Tk hz;have HM:=Tk hm;have eA:ns.length<40:=by have:=Hn.out;omega
        have H8:Hid ((ns.length+1)*8<=140737488355328):=Tk (by omega);have HX:Hid (ns.length+1<=maxLen):=Tk (by unfold maxLen;omega);clear hg hsm hx hz hm;obtain⟨a7,a8,bA,bB,bC,bD,bF⟩:=bN.n7;have eC:=bN.lt;go_wp2_with fail
        refine(LC _ _ _ _ x2 s2 p2 r2 ka kb kc _ (oW.alloc _).ra (oW.alloc _).rb (oW.alloc _).rc (oW.alloc _).rd cL.out (cT.out.below (D.B.al _))).mono ?_;rw[<-HZ.out,<-HM.out];rintro e w4 ⟨E1,E2,E3,E4,rfl,oT,hb4⟩;have D4:=(D.al _).bl hb4;have cH:=(bN.alloc _).bl hb4;have cM:=(oS.alloc _).below hb4;have cN:=oT.newer (oS.alloc _) (Tw _);have oT:=oT.mono (D.B.al _).size;clear a7 a8 bA bB bC bD bF hb4 D bN oW oS ap k0 k1 k2 hb;have eC:=cH.lt;go_upto_region 9 with(refine aA rfl 32 _ _ rfl w4.heap.size #[E1,E2,E3,E4,.int .i64 zs,.int .i64 zp,.int .i64 zr] rfl rfl _ _ (Blk.aX w4 32 #[.slice none 0 0,.slice none 0 0,.slice none 0 0,.slice none 0 0,.int .i64 0,.int .i64 0,.int .i64 0]) (by kernel_rfl) rfl (mV oT.one) ?_;intro w5 cP b5)
        have D5:=D4.alg b5;have cA:=(cH.alloc _).grown b5 (by simp;omega);have cI:=aB.alg oT (by decide) (by decide) (by decide) b5;have cQ:=cM.SH (by decide) b5;clear D4 cH oT cM b5;obtain⟨a7,a8,bA,bB,bC,bD,bF⟩:=cP.n7;go_upto_region 10 with(refine aA rfl 32 _ _ rfl gN #[E1,E2,E3,E4,.int .i64 zs,.int .i64 zp,.int .i64 zr] rfl rfl _ _ cA (by kernel_rfl) rfl (mV cI.one) ?_;intro w6 cR cB)
        have D6:=D5.gr cB cX cV cW;have cS:=aB.cO cI cA (by decide) (by decide) (by decide) cB;have cC:=aD.FC cQ cA (by decide) cB;clear D5 cA cI cQ cB a7 a8 bA bB bC bD bF cP;go_wp2_with (at_builtin;go_must (refine aF (enc:=aW) fP aM jS D6.B cC (m:Int) H8.out HX.out rfl _ _ rfl rfl rfl ?_);intro v7 w7 b6 eE cJ eI;obtain⟨A8,c8,rfl,eL,eM⟩:=b6.form)
        go_roundw
        case rel=>exact⟨k+1,z,zs,zp,zr,ns++[m],A8,c8,E1,E2,E3,E4,by omega,by go_num,by rw[Tm,Tn],dL,dT,Tk (by rw[Tm,Tn,Hn.out]),D6.app cC cJ eE,(cR.alloc _).grown cJ (fun e=>cC.apart cR (by decide) e.symm),cS.Td cC cN cJ,b6,QJ cS cN eI (by omega)⟩
        case measure=>simp[intOf];omega
      . obtain rfl : k = l.length := by omega
        have hg:=Hg.out;rw[M7]at hg;subst hg;obtain⟨a7,a8,bA,bB,bC,bD,bF⟩:=bN.n7;go_wp2_with (refine aA rfl 32 _ _ rfl gR #[V1,V2,V3,V4,.int .i64 s2,.int .i64 p2,.int .i64 r2] rfl rfl _ _ D.r (by kernel_rfl) rfl (mV oW.one) ?_;intro wE bE a6)
        have oE:=aB.cO oW D.r (by decide) (by decide) (by decide) a6;have oL:=aD.FC oS D.r (by decide) a6;have BE:=D.B.grown a6 D.B.size (fun k hk=>by injection hk with hk;subst hk;exact cE);obtain⟨bO,bP,bR,bS,bU,bX,bY⟩:=bE.n7;refine bodyPost_ret (v:= .tuple #[.agg #[V1,V2,V3,V4,.int .i64 s2,.int .i64 p2,.int .i64 r2],.slice A7 ns.length c7]) (by simp[results,TD,go_sem,bO,bP,bR,bS,bU,bX,bY]) rfl ⟨_,_,_,_,_,_,rfl,oE,oL,ap,BE⟩
   . have cG : decide ((40 : Int) < (l.length : Int)) = true := decide_eq_true (by omega);obtain rfl:=HN.out (.inr cK);obtain⟨a7,a8,bA,bB,bC,bD,bF⟩:=b9.n7;go_wp2_with (refine aA rfl 32 _ _ rfl gR #[C1,C2,C3,C4,.int .i64 s,.int .i64 p,.int .i64 r] rfl rfl _ _ D1.r (by kernel_rfl) rfl (mV bK.one) ?_;intro wE bE a6)
     have oE:=aB.cO bK D1.r (by decide) (by decide) (by decide) a6;have BE:=D1.B.grown a6 D1.B.size (fun k hk=>by injection hk with hk;subst hk;exact cE);obtain⟨bO,bP,bR,bS,bU,bX,bY⟩:=bE.n7;refine bodyPost_ret (v:= .tuple #[.agg #[C1,C2,C3,C4,.int .i64 s,.int .i64 p,.int .i64 r],.slice none 0 0]) (by simp[results,TD,go_sem,bO,bP,bR,bS,bU,bX,bY]) rfl ⟨_,_,_,_,_,_,rfl,oE,nS _,fun g q e=>by simp[TA]at e,BE⟩
theorem Ol (n:Int) (w:World) (h0: -9223372036854775808<=n) (h1:n<=9223372036854775807) (ht:Tab w):Calls prog 11 #[.int .i64 n] w (Ret (.string (xD n)) w):=by
 have C:Calls prog 30 #[.int .i64 n] w (Ret (.string (xD n)) w):=by
  refine(Tryz.strconv_Itoa n h0 h1 w ht).mono ?_;rintro e w' ⟨rfl,k,os,rfl⟩;exact⟨rfl,Dr w k os⟩
 go_enter Tryz.func11,Tryz.ntmps11
 go_wp2_with fail
 refine(C).mono ?_;rintro e w1 ⟨rfl,hb1⟩;go_wp2;go_ret;exact⟨rfl,hb1⟩
def OL (w:World):Prop:=∃m:Int,w.cell? ⟨0,0,none⟩=some (.int .i64 m)
theorem OL.below {w w':World} (h:OL w) (hb:Below w.heap.size w w'):OL w':=by
 obtain⟨m,hm⟩:=h;exact⟨m,(hb.cell (show(⟨0,0,none⟩:Addr).block<w.heap.size from Lib.lt_of_cell hm)).trans hm⟩
theorem Om {l:List ByteArray} (W:World) (hl:l.length<=100000):aD 9 1 fJ W.heap.size (W.alloc (.cells (l.map TB).toArray 9)) (.slice (some ⟨W.heap.size,0,none⟩) l.length l.length) l:=by
 have hf:l.flatMap fJ=l.map TB:=by
  induction l with
  |nil=>rfl
  |cons x r ih=>rw[List.flatMap_cons,ih (by simp at hl;omega)];rfl
 unfold aD;rw[hf];exact⟨by simp,.inr ⟨W.heap.size,l.length,(l.map TB).toArray,rfl,Tw _,heap_alloc_new W _,Tw _,by unfold maxLen;omega,by simp,List.take_of_length_le (by simp)⟩⟩
theorem Ie (t : ByteArray) (W : World) (h : t.size <= 20000) (hm : OL W) : Calls prog 22 #[.string t, .string (⟨#[10]⟩ : ByteArray)] W (fun e w' => e = .returned (.slice (some ⟨W.heap.size, 0, none⟩) (jV t).length (jV t).length) /\ w' = W.alloc (.cells ((jV t).map TB).toArray 9)) := by
 obtain⟨m,hm⟩:=hm;have:=Tryz.strings_Split t (⟨#[10]⟩:ByteArray) m W (by omega) hm (by decide);rw[zX,<-GY]at this;exact this
theorem Qg (t:ByteArray) (h:t.size<=20000):(jV t).length<=20001:=by
 have:=Lib.countB_le (⟨#[10]⟩:ByteArray) (by decide) t.size t (Tw _);rw[GY];omega
theorem Tf (x:Fl) (s p r:Int) (T:List ByteArray) (hs:bQ x) (hT:T=iI (x,s,p,r)) {u1 u2 u3 u4:Value} {w:World} (h:R4 w u1 u2 u3 u4 x) (ht:Tab w):Calls prog 12 #[.agg #[u1,u2,u3,u4,.int .i64 s,.int .i64 p,.int .i64 r]] w (fM 9 1 fJ T w):=by
 rw[hT];obtain⟨rows,fd,nd,fl⟩:=x;exact LJ u1 u2 u3 u4 rows fd nd fl s p r w h.a h.b h.c h.d hs ht
theorem EO {y:Wk} {l:List Ac} (hs:bQ y.1):bQ (rQ y l).1.1:=by
 have h:∀(l:List Ac) (y:Wk) (ns:List Int),bQ y.1->bQ (goR y ns l).1.1:=by
  intro l;induction l with
  |nil=>intro y ns hs;exact hs
  |cons a l ih=>intro y ns hs;exact ih _ _ (xP a hs)
 unfold rQ;split
 . exact h _ _ _ hs
 . exact hs
set_option maxHeartbeats 8000000 in
theorem JQ (x:Fl) (s:Int) (hk:dF (x,s,0,0)=true) (hs:bQ x) (CW:∀w,Calls prog 10 #[] w (Cx x s 0 0 w)) (t:ByteArray) (w:World) (tab:Tab w) (cV:Syn w) (mx:OL w):
 Calls prog 8 #[.string t] w (fZ 9 1 fJ (lY (x,s,0,0) t).1 (lY (x,s,0,0) t).2 w):=by
 obtain⟨R,hR⟩:=Ti (lY (x,s,0,0) t);rw[<-hR];have bP:=Tk tab;have cW:=Tk cV;have e6:=Tk mx;have HK:=Tk hk;have HS:=Tk hs;have e7:=Tk CW;clear tab cV mx hk hs CW;by_cases cE:20000<t.size
 . have cF : (20000 : Int) < (t.size : Int) := by omega
   obtain rfl:R=([],false):=by rw[hR];unfold lY;rw[if_pos cE]
   clear hR;go_enter func8,ntmps8
   go_wp2;refine bodyPost_ret (v:= .tuple #[.slice none 0 0,.bool false]) (by simp[results,TE,go_sem]) rfl ⟨none,0,rfl,nS _,Below.refl _ _⟩
 . have cF : ¬ (20000 : Int) < (t.size : Int) := by omega
   have cG:=fun W hm=>Ie t W (by omega) hm
   have hL2:=Qg t (by omega);have cH:Hid (cZ (jV t)=none->R=([],false)):=Tk (fun q=>by rw[hR];exact EL q);have cX:Hid (∀az,cZ (jV t)=some az->40<az.length->R=([],false)):=Tk (fun az q q2=>by rw[hR];exact zY q q2);have cY:Hid (∀az,cZ (jV t)=some az->¬40<az.length->R=((rQ (x,s,0,0) az).2.map xD++iI (rQ (x,s,0,0) az).1,true)):=Tk (fun az q q2=>by rw[hR];exact Ct cE q q2);clear hR;obtain⟨L,hL⟩:=Ti (jV t);rw[<-hL]at cG hL2 cH cX cY;clear hL cE;have bR:=eG w (E:=54) (size:=3) (enc:=mM) w.heap.size rfl w.heap.size (Tw _);have B0:=(Below.refl w.heap.size w).al (.cells #[] 54);go_enter func8,ntmps8
   go_wp2_with fail
   refine(cG _ (e6.out.below B0)).mono ?_;rintro e w1 ⟨rfl,dL⟩;have oL:=(Om (l:=L) (w.alloc (.cells #[] 54)) (by omega)).mono B0.size;have oA:=bR.alloc (.cells (L.map TB).toArray 9);have B1:=B0.al (.cells (L.map TB).toArray 9);rw[<-dL]at oL oA B1;obtain⟨gL,dT⟩:=Ti ((w.alloc (.cells #[] 54)).heap.size);rw[<-dT]at oL⊢;clear dL bR B0 dT cG;go_wp2;go_loopw [4,23] (fun s4 e8 wr=>∃(k:Nat) (az:List Ac) (A:Option Addr) (c:Nat),k<=L.length/\e8= .int .i64 k/\s4= .slice A az.length c/\az.length<=k/\Hid (cZ L=(cZ (L.drop k)).map (az++·))/\aD 54 3 mM w.heap.size wr (.slice A az.length c) az/\aD 9 1 fJ w.heap.size wr (.slice (some ⟨gL,0,none⟩) L.length L.length) L/\Below w.heap.size w wr) (fun _ i _=>L.length-(intOf i).toNat)
   case atStart=>exact⟨0,[],_,_,Tv _,rfl,rfl,Tv _,Tk (by rw[List.drop_zero];rcases cZ L with _|q<;>rfl),oA,oL,B1⟩
   case round=>
    obtain⟨k,az,A,c,hk,rfl,rfl,gT,Hg,oA,oL,B⟩:=hrel;by_cases hlt:k<L.length
    . obtain ⟨b, off, hA, hb, k1⟩ := (oL.rd eZ (by decide)).KS hlt;injection hA with hA;injection hA with e9 fD;subst e9;subst fD;simp only[Nat.zero_add]at k1;have fL:(k:Int)<(L.length:Int):=(by omega);have hsk:=fun q=>P7 hlt Hg q
      have hst:=fun q r=>P8 hlt Hg q r
      have cI:=fun q r=>Oi hlt Hg q r
      obtain⟨s0,hs0⟩:=Ti (L[k]);rw[<-hs0]at k1 hsk hst cI;have fN:=Tk hsk;have eA:=Tk hst;have eC:=Tk cI;clear hs0 hsk hst cI;go_wp2_with fail
      refine(vD s0 _).mono ?_;obtain⟨lo,bO⟩:=Ti (dK s0);rintro e w2 ⟨vF,rfl,hF,hb2⟩;rw[<-bO]at hF⊢;have bC:=oA.below hb2;have bS:=oL.below hb2;have B2:=B.tr hb2;clear oA oL k1;rcases lo with _|_
      . have a6 : (dK s0 && decide ((eH s0).length = 0)) = false := by rw [<- bO]; rfl
        obtain⟨pk,bD⟩:=Ti ((paX s0).1);obtain⟨pa,bE⟩:=Ti ((paX s0).2.1);obtain⟨pb,bF⟩:=Ti ((paX s0).2.2);obtain⟨po,bA⟩:=Ti (paB s0);have hv:paV s0= .tuple #[.agg #[.int .i64 pk,.int .i64 pa,.int .i64 pb],.bool po]:=by unfold paV;rw[bD,bE,bF,bA]
        have CP:=Ng s0 w2 (bP.out.below B2) (cW.out.below B2);rw[hv]at CP;have Ht:=eA.out a6;have Hf:=eC.out a6;have bU:paX s0=(pk,pa,pb):=(by rw[bD,bE,bF]);rw[bU,<-bA]at Ht;rw[<-bA]at Hf;have bY:=Tk Ht;have b5:=Tk Hf;clear hv bD bE bF bA bU Ht Hf a6 hF bO;go_wp2_with fail
        refine CP.mono ?_;rintro e w3 ⟨rfl,hb3⟩;have bJ:=bC.below hb3;have b6:=bS.below hb3;have B3:=B2.tr hb3;have b3:=Blk.aX w3 54 #[.int .i64 0,.int .i64 0,.int .i64 0];clear CP bC bS hb3;go_upto_region 10 with(refine aY rfl 54 _ _ rfl w3.heap.size #[.int .i64 pk,.int .i64 pa,.int .i64 pb] rfl rfl _ _ b3 (by kernel_rfl) rfl (by simp[TC]) ?_;intro w4 b4 hg4)
        have bK:aD 54 3 mM w.heap.size w4 (.slice A az.length c) az:=World.ownsRow.kept (bJ.alloc (.cells #[.int .i64 0,.int .i64 0,.int .i64 0] 54)) hg4 (.inr (fun e=>by have:=(World.ownsRow.lt bJ _ e).2;omega));have b7:=aD.FC (b6.alloc (.cells #[.int .i64 0,.int .i64 0,.int .i64 0] 54)) b3 (by decide) hg4;have B4:=(B3.al (.cells #[.int .i64 0,.int .i64 0,.int .i64 0] 54)).grown hg4 (B3.al _).size (fun k hk=>by injection hk with hk;subst hk;exact B3.size);clear b3 hg4 bJ b6 B3;obtain⟨gP,b8⟩:=Ti w3.heap.size;rw[<-b8]at b4⊢;clear b8;rcases po with _|_
        . obtain rfl:=cH.out (b5.out rfl);go_wp2;refine bodyPost_ret (v:= .tuple #[.slice none 0 0,.bool false]) (by simp[results,TE,go_sem]) rfl ⟨none,0,rfl,nS _,B4⟩
        . have Hn:=bY.out rfl;obtain⟨cJ,cK,cL⟩:=b4.n3;have H8:Hid ((az.length+1)*24<=140737488355328):=Tk (by omega);have HM:Hid (az.length+1<=maxLen):=Tk (by unfold maxLen;omega);clear bY b5;go_wp2_with (at_builtin;go_must (refine jN (enc:=mM) CG xS CE (B:=w.heap.size) w4 B4.size bK (pk,pa,pb) rfl H8.out HM.out rfl _ _ rfl rfl rfl ?_);intro v5 w5 bL b9 cM;obtain⟨A5,c5,rfl⟩:=cM)
          have B5:=Below.app B4 bK (Tw _) b9;have cN:=b7.fH (Grown.of b9) (fun g q=>b7.vO bK (by decide) q);go_roundw
          case rel=>exact⟨k+1,az++[(pk,pa,pb)],A5,c5,by omega,by go_num,by simp,by simp;omega,Hn,by rw[Tm,Tn];exact bL,cN,B5⟩
          case measure=>simp[intOf];omega
      . obtain⟨Af,cf,rfl,_,_⟩:=(hF rfl).form;by_cases hz:(eH s0).length=0
        . have fO : ((eH s0).length : Int) = 0 := by omega
          have a6:(dK s0&&decide ((eH s0).length=0))=true:=by rw[<-bO,decide_eq_true hz];rfl
          have Hn:=fN.out a6;clear a6 hF bO;go_wp2;go_roundw
          case rel=>exact⟨k+1,az,A,c,by omega,by go_num,rfl,by omega,Hn,bC,bS,B2⟩
          case measure=>simp[intOf];omega
        . have fO : ¬ ((eH s0).length : Int) = 0 := by omega
          have a6:(dK s0&&decide ((eH s0).length=0))=false:=(by rw[decide_eq_false hz,Bool.and_false]);obtain⟨pk,bD⟩:=Ti ((paX s0).1);obtain⟨pa,bE⟩:=Ti ((paX s0).2.1);obtain⟨pb,bF⟩:=Ti ((paX s0).2.2);obtain⟨po,bA⟩:=Ti (paB s0);have hv:paV s0= .tuple #[.agg #[.int .i64 pk,.int .i64 pa,.int .i64 pb],.bool po]:=by unfold paV;rw[bD,bE,bF,bA]
          have CP:=Ng s0 w2 (bP.out.below B2) (cW.out.below B2);rw[hv]at CP;have Ht:=eA.out a6;have Hf:=eC.out a6;have bU:paX s0=(pk,pa,pb):=(by rw[bD,bE,bF]);rw[bU,<-bA]at Ht;rw[<-bA]at Hf;have bY:=Tk Ht;have b5:=Tk Hf;clear hv bD bE bF bA bU Ht Hf a6 hF bO;go_wp2_with fail
          refine CP.mono ?_;rintro e w3 ⟨rfl,hb3⟩;have bJ:=bC.below hb3;have b6:=bS.below hb3;have B3:=B2.tr hb3;have b3:=Blk.aX w3 54 #[.int .i64 0,.int .i64 0,.int .i64 0];clear CP bC bS hb3;go_upto_region 10 with(refine aY rfl 54 _ _ rfl w3.heap.size #[.int .i64 pk,.int .i64 pa,.int .i64 pb] rfl rfl _ _ b3 (by kernel_rfl) rfl (by simp[TC]) ?_;intro w4 b4 hg4)
          have bK:aD 54 3 mM w.heap.size w4 (.slice A az.length c) az:=World.ownsRow.kept (bJ.alloc (.cells #[.int .i64 0,.int .i64 0,.int .i64 0] 54)) hg4 (.inr (fun e=>by have:=(World.ownsRow.lt bJ _ e).2;omega));have b7:=aD.FC (b6.alloc (.cells #[.int .i64 0,.int .i64 0,.int .i64 0] 54)) b3 (by decide) hg4;have B4:=(B3.al (.cells #[.int .i64 0,.int .i64 0,.int .i64 0] 54)).grown hg4 (B3.al _).size (fun k hk=>by injection hk with hk;subst hk;exact B3.size);clear b3 hg4 bJ b6 B3;obtain⟨gP,b8⟩:=Ti w3.heap.size;rw[<-b8]at b4⊢;clear b8;rcases po with _|_
          . obtain rfl:=cH.out (b5.out rfl);go_wp2;refine bodyPost_ret (v:= .tuple #[.slice none 0 0,.bool false]) (by simp[results,TE,go_sem]) rfl ⟨none,0,rfl,nS _,B4⟩
          . have Hn:=bY.out rfl;obtain⟨cJ,cK,cL⟩:=b4.n3;have H8:Hid ((az.length+1)*24<=140737488355328):=Tk (by omega);have HM:Hid (az.length+1<=maxLen):=Tk (by unfold maxLen;omega);clear bY b5;go_wp2_with (at_builtin;go_must (refine jN (enc:=mM) CG xS CE (B:=w.heap.size) w4 B4.size bK (pk,pa,pb) rfl H8.out HM.out rfl _ _ rfl rfl rfl ?_);intro v5 w5 bL b9 cM;obtain⟨A5,c5,rfl⟩:=cM)
            have B5:=Below.app B4 bK (Tw _) b9;have cN:=b7.fH (Grown.of b9) (fun g q=>b7.vO bK (by decide) q);go_roundw
            case rel=>exact⟨k+1,az++[(pk,pa,pb)],A5,c5,by omega,by go_num,by simp,by simp;omega,Hn,by rw[Tm,Tn];exact bL,cN,B5⟩
            case measure=>simp[intOf];omega
    . obtain rfl : k = L.length := by omega
      have hall:=RL (Tw _) Hg;clear Hg oL;by_cases eE:40<az.length
      . have cP : (40 : Int) < (az.length : Int) := by omega
        obtain rfl:=cX.out az hall eE;go_wp2;refine bodyPost_ret (v:= .tuple #[.slice none 0 0,.bool false]) (by simp[results,TE,go_sem]) rfl ⟨none,0,rfl,nS _,B⟩
      . have cP : ¬ (40 : Int) < (az.length : Int) := by omega
        have cC:=cY.out az hall eE;have cD:=Na (l:=az) (y:=(x,s,0,0)) HS.out;have hsm:=EO (l:=az) (y:=(x,s,0,0)) HS.out;have CR:=fun(u1 u2 u3 u4:Value) (W:World) (q:R4 W u1 u2 u3 u4 x) (q5:Rd 3 (RE mM) W (.slice A az.length c) az) (q6:Tab W)=>Qf u1 u2 u3 u4 (.slice A az.length c) x s 0 0 az W q.a q.b q.c q.d q5 HS.out q6
        obtain⟨⟨⟨X,S,P,Q⟩,N⟩,cQ⟩:∃R,R=rQ (x,s,0,0) az:=⟨_,rfl⟩;have gW:N.length<=40:=by have:=IJ (y:=(x,s,0,0)) (l:=az);rw[<-cQ]at this;exact this
        rw[<-cQ]at cC cD hsm CR;simp only at cC cD hsm;have fR:=Tk cC;have fS:=Tk cD;have fW:=Tk hsm;have fX:=Tk CR;clear cC cD hsm CR cQ hall;go_wp2_with fail
        refine(e7.out _).mono ?_;rintro e w2 ⟨A1,c1,A2,c2,A3,c3,A4,c4,rfl,oW,hb2⟩;have bC:=oA.below hb2;have B2:=B.tr hb2;go_wp2_with fail
        refine(fX.out _ _ _ _ _ oW.r4 (bC.rd xS (by decide)) (bP.out.below B2)).mono ?_;rintro e w3 ⟨E1,E2,E3,E4,A5,c5,rfl,oX,oN,_,hb3⟩;simp only at oX oN;have B3:=B2.tr hb3;clear oW oA bC hb2 B2;go_upto_region 17 with(refine aA rfl 32 _ _ rfl w3.heap.size #[E1,E2,E3,E4,.int .i64 S,.int .i64 P,.int .i64 Q] rfl rfl _ _ (Blk.aX w3 32 #[.slice none 0 0,.slice none 0 0,.slice none 0 0,.slice none 0 0,.int .i64 0,.int .i64 0,.int .i64 0]) (by kernel_rfl) rfl (mV oX.one) ?_;intro w4 bX hg4)
        have eI:=aB.alg oX (by decide) (by decide) (by decide) hg4;have eJ:=oN.SH (by decide) hg4;have B4:=(B3.al (.cells #[.slice none 0 0,.slice none 0 0,.slice none 0 0,.slice none 0 0,.int .i64 0,.int .i64 0,.int .i64 0] 32)).grown hg4 (B3.al _).size (fun k hk=>by injection hk with hk;subst hk;exact B3.size);have hw3:w.heap.size<=w3.heap.size:=B3.size;clear oX oN hg4 B3 hb3;obtain⟨gX,eK⟩:=Ti w3.heap.size;rw[<-eK]at bX⊢;clear eK;have cA:=(eG w4 (E:=9) (size:=1) (enc:=fJ) w4.heap.size rfl w.heap.size B4.size);have eL:=bX.alloc (.cells #[] 9);have eM:=eI.alloc (.cells #[] 9);have eN:=eJ.alloc (.cells #[] 9);have B5:=B4.al (.cells #[] 9);clear bX eI eJ B4;go_wp2;go_loopw [13,62] (fun fY gA wr=>∃(k:Nat) (ts:List ByteArray) (D:Option Addr) (d:Nat),k<=N.length/\gA= .int .i64 k/\fY= .slice D ts.length d/\Hid (ts.length=k)/\Hid (ts=(N.take k).map xD)/\aD 9 1 fJ w.heap.size wr (.slice D ts.length d) ts/\aD 3 1 aW w2.heap.size wr (.slice A5 N.length c5) N/\Blk wr gX 32 #[E1,E2,E3,E4,.int .i64 S,.int .i64 P,.int .i64 Q]/\aB w2.heap.size wr E1 E2 E3 E4 X/\Below w.heap.size w wr) (fun _ i _=>N.length-(intOf i).toNat)
        case atStart=>exact⟨0,[],_,_,Tv _,rfl,rfl,Tk rfl,Tk rfl,cA,eN,eL,eM,B5⟩
        case round=>
         clear cA eN eL eM B5;obtain⟨k,ts,D,d,hk,rfl,rfl,cB,cR,oS,oN,bX,oX,B⟩:=hrel;by_cases hlt:k<N.length
         . obtain ⟨b, off, hA, hb, k1⟩ := (oN.rd aM (by decide)).uX hlt;subst hA;have fL:(k:Int)<(N.length:Int):=(by omega);have hn:=fS.out N[k] (List.getElem_mem hlt);have cS:ts++[xD N[k]]=(N.take (k+1)).map xD:=by rw[cR.out,List.take_succ_eq_append_getElem hlt,Tp];rfl
           obtain⟨n,eP⟩:=Ti (N[k]);rw[<-eP]at k1 hn cS;have gB:=Tk cS;have gY:=hn.1;have hE:=hn.2;clear eP cS hn;go_wp2_with fail
           refine(Ol n _ (by omega) (by omega) (bP.out.below B)).mono ?_;rintro e w6 ⟨rfl,a7⟩;have a8:=oS.below a7;have eR:=oN.below a7;have eW:=bX.bl a7;have bB:=oX.below a7;have B6:=B.tr a7;have H8:Hid ((ts.length+1)*16<=140737488355328):=Tk (by have:=cB.out;omega);have HM:Hid (ts.length+1<=maxLen):=Tk (by have:=cB.out;unfold maxLen;omega);clear oS oN bX oX B a7 k1 hb;go_wp2_with (at_builtin;go_must (refine jN (enc:=fJ) mW eZ nM (B:=w.heap.size) w6 B6.size a8 (xD n) rfl H8.out HM.out rfl _ _ rfl rfl rfl ?_);intro v7 w7 bM bN cT;obtain⟨A7,c7,rfl⟩:=cT)
           have B7:=Below.app B6 a8 (Tw _) bN;have gC:=eR.fH (Grown.of bN) (fun g q=>eR.vO a8 (by decide) q);have gD:=eW.grown bN (fun e=>a8.apart eW (by decide) e.symm);have gF:aB w2.heap.size w7 E1 E2 E3 E4 X:=⟨bB.a.fH (Grown.of bN) (fun g q=>bB.a.vO a8 (by decide) q),bB.b.fH (Grown.of bN) (fun g q=>bB.b.vO a8 (by decide) q),bB.c.fH (Grown.of bN) (fun g q=>bB.c.vO a8 (by decide) q),bB.d.fH (Grown.of bN) (fun g q=>bB.d.vO a8 (by decide) q),bB.ap⟩;go_roundw
           case rel=>exact⟨k+1,ts++[xD n],A7,c7,by omega,by go_num,by simp,Tk (by have:=cB.out;simp;omega),gB,by rw[Tm,Tn];exact bM,gC,gD,gF,B7⟩
           case measure=>simp[intOf];omega
         . have gK : k = N.length := by omega
           subst gK;have cU:=cR.out;rw[List.take_length]at cU;have e5:=fR.out;obtain⟨T,hT⟩:=Ti (iI (X,S,P,Q));rw[<-hT,<-cU]at e5;have gM:=Cr (X,S,P,Q);rw[<-hT]at gM;have CF:=Tf X S P Q T fW.out hT oX.r4 (bP.out.below B);obtain⟨cJ,cK,cL,gN,gO,gQ,gR⟩:=bX.n7;subst e5;have H8:Hid ((ts.length+T.length)*16<=140737488355328):=Tk (by have:=cB.out;omega);have HM:Hid (ts.length+T.length<=maxLen):=Tk (by have:=cB.out;unfold maxLen;omega);clear hT cU cR;go_wp2_with fail
           refine CF.mono ?_;rintro e w6 ⟨A6,c6,rfl,oT,a7⟩;have a8:=oS.below a7;have B6:=B.tr a7;clear CF cJ cK cL gN gO gQ gR oS B a7;go_wp2_with (at_builtin;go_must (refine dN (enc:=fJ) mW eZ nM B6.size a8 (oT.rd eZ (by decide)) H8.out HM.out rfl _ _ rfl rfl rfl ?_);intro v7 w7 bM gS cT;obtain⟨A7,c7,rfl⟩:=cT)
           refine bodyPost_ret (v:= .tuple #[.slice A7 (ts.length+T.length) c7,.bool true]) (by simp[results,TE,go_sem]) rfl ⟨A7,c7,by rw[Tm],by rw[Tm];exact bM,B6.trans gS⟩
theorem rC (s:ByteArray) (w:World):Calls prog 33 #[.string s] w (IX s w):=by
 have bB:=eG w (E:=9) (size:=1) (enc:=fJ) w.heap.size rfl w.heap.size (Tw _);by_cases h6:s.size<=600
 . have n6 : ¬ ((600 : Int) < (s.size : Int)) := by omega
   go_enter func33,ntmps33
   go_wp2;go_loopw [4,5,6] (fun s4 s5 s6 wr=>∃(k b:Nat) (out:List ByteArray) (D:Option Addr) (d:Nat),s6= .int .i64 k/\s5= .int .i64 b/\s4= .slice D out.length d/\aD 9 1 fJ w.heap.size wr (.slice D out.length d) out/\Hid ((k<=s.size/\SpS s k b out/\(s.data.toList.take k).all okb=true)∨(k=s.size+1/\out=eH s/\(s.data.toList.take s.size).all okb=true))/\Below w.heap.size w wr) (fun _ _ i _=>s.size+1-(intOf i).toNat)
   case atStart=>exact⟨0,0,[],_,_,rfl,rfl,rfl,bB,Tk (.inl ⟨Tv _,J3 s,rfl⟩),(Below.refl _ _).al _⟩
   case round=>
    obtain⟨k,b,out,D,d,rfl,rfl,rfl,hown,Hg,a6⟩:=hrel;clear bB;rcases Hg.out with⟨hk,hsp,hall⟩|⟨rfl,rfl,hall⟩
    . have bP : out.length <= 600 := by have := hsp.2.2; omega
      have bR:=hsp.2.1;have H8:Hid ((out.length+1)*16<=140737488355328):=Tk (by omega);have HM:Hid (out.length+1<=maxLen):=Tk (by unfold maxLen;omega);have bC:=Tk hsp;have a8:=Tk hall;clear hsp hall;have bE:(k:Int)<=(s.size:Int):=(by omega);have hmx:(k:Int)+1<=9223372036854775807:=(by omega);by_cases hlt:k<s.size
      . have bF : (k : Int) < (s.size : Int) := by omega
        by_cases bJ:s[k].toNat<32
        . have i1 : ((s[k].toNat : Nat) : Int) < 32 := by omega
          have Hn:=Tk (Aj hlt (.inl bJ));go_wp2;refine bodyPost_ret (v:= .tuple #[.slice (some ⟨wr.heap.size,0,none⟩) 0 0,.bool false]) (by simp[results,TF,go_sem]) rfl (vT Hn.out (a6.al _))
        . have i1 : ¬ (((s[k].toNat : Nat) : Int) < 32) := by omega
          by_cases bK:126<s[k].toNat
          . have i2 : (126 : Int) < ((s[k].toNat : Nat) : Int) := by omega
            have Hn:=Tk (Aj hlt (.inr bK));go_wp2;refine bodyPost_ret (v:= .tuple #[.slice (some ⟨wr.heap.size,0,none⟩) 0 0,.bool false]) (by simp[results,TF,go_sem]) rfl (vT Hn.out (a6.al _))
          . have i2 : ¬ ((126 : Int) < ((s[k].toNat : Nat) : Int)) := by omega
            have Ha:=Tk (BI hlt ⟨by omega,by omega⟩ a8.out);by_cases hsp:s[k].toNat=32
            . have i3 : ((s[k].toNat : Nat) : Int) = 32 := by omega
              by_cases hb:b<k
              . have bA : (b : Int) < (k : Int) := by omega
                have hb0:(0:Int)<=(b:Int):=(by omega);have bL:(b:Int)<=(k:Int):=(by omega);have Hs:=Tk (Qv hlt hsp hb bC.out);go_wp2_with (at_builtin;go_must (refine aF (enc:=fJ) mW eZ nM a6 hown (s.extract b k) H8.out HM.out rfl _ _ rfl rfl rfl ?_);intro v4 w4 a7 hb4 hg4 bM;obtain⟨A4,c4,rfl,bN,bO⟩:=a7.form)
                go_roundw
                case rel=>exact⟨k+1,k+1,out++[s.extract b k],A4,c4,by go_num,by go_num,by simp,a7,Tk (.inl ⟨by omega,Hs.out,Ha.out⟩),hb4⟩
                case measure=>simp[intOf];omega
              . have bA : ¬ ((b : Int) < (k : Int)) := by omega
                have Hs:=Tk (Mo hlt hsp (by omega) bC.out);go_wp2;go_roundw
                case rel=>exact⟨k+1,k+1,out,D,d,by go_num,by go_num,rfl,hown,Tk (.inl ⟨by omega,Hs.out,Ha.out⟩),a6⟩
                case measure=>simp[intOf];omega
            . have i3 : (((s[k].toNat : Nat) : Int) != 32) = true := by simp; omega
              have Hs:=Tk (Mm hlt hsp bC.out);go_wp2;go_roundw
              case rel=>exact⟨k+1,b,out,D,d,by go_num,rfl,rfl,hown,Tk (.inl ⟨by omega,Hs.out,Ha.out⟩),a6⟩
              case measure=>simp[intOf];omega
      . obtain rfl : k = s.size := by omega
        by_cases hb:b<s.size
        . have bA : (b : Int) < (s.size : Int) := by omega
          have hb0:(0:Int)<=(b:Int):=(by omega);have bL:(b:Int)<=(s.size:Int):=(by omega);have Hs:=Tk (Mq hb bC.out);go_wp2_with (at_builtin;go_must (refine aF (enc:=fJ) mW eZ nM a6 hown (s.extract b s.size) H8.out HM.out rfl _ _ rfl rfl rfl ?_);rw[Hs.out];intro v4 w4 a7 hb4 hg4 bM;obtain⟨A4,c4,rfl,bN,bO⟩:=a7.form)
          go_roundw
          case rel=>exact⟨s.size+1,s.size+1,eH s,A4,c4,by go_num,by go_num,rfl,a7,Tk (.inr ⟨rfl,rfl,a8.out⟩),hb4⟩
          case measure=>simp[intOf]
        . have bA : ¬ ((b : Int) < (s.size : Int)) := by omega
          have hs:=Mr (by omega) bC.out;subst hs;go_wp2;go_roundw
          case rel=>exact⟨s.size+1,s.size+1,eH s,D,d,by go_num,by go_num,rfl,hown,Tk (.inr ⟨rfl,rfl,a8.out⟩),a6⟩
          case measure=>simp[intOf]
    . have He:=Tk (J5 h6 hall);clear hall;have bE:¬(((s.size+1:Nat):Int)<=(s.size:Int)):=(by omega);by_cases bD:(eH s).length<=24
      . have j1 : ¬ ((24 : Int) < ((eH s).length : Int)) := by omega
        have Hy:Hid (dK s=true):=Tk (by rw[He.out,decide_eq_true bD]);go_wp2;refine bodyPost_ret (v:= .tuple #[.slice D (eH s).length d,.bool true]) (by simp[results,TF,go_sem]) rfl (Io Hy.out hown a6)
      . have j1 : (24 : Int) < ((eH s).length : Int) := by omega
        have Hn:Hid (dK s=false):=Tk (by rw[He.out,decide_eq_false bD]);go_wp2;refine bodyPost_ret (v:= .tuple #[.slice (some ⟨wr.heap.size,0,none⟩) 0 0,.bool false]) (by simp[results,TF,go_sem]) rfl (vT Hn.out (a6.al _))
 . have n6 : (600 : Int) < (s.size : Int) := by omega
   have Hn:=Tk (FZ (s:=s) (by omega));go_enter func33,ntmps33
   go_wp2;refine bodyPost_ret (v:= .tuple #[.slice (some ⟨w.heap.size,0,none⟩) 0 0,.bool false]) (by simp[results,TF,go_sem]) rfl (vT Hn.out ((Below.refl _ _).al _))
theorem Qh (s:ByteArray) (w:World):Calls prog 66 #[.string s] w (Ret (.int .i64 (l40 s)) w):=by
 by_cases h1:1<s.size
 . have a6 : (1 : Int) < (s.size : Int) := by omega
   have h0:0<s.size:=(by omega);by_cases h2:s[0].toNat=45
   . have a7 : ((s[0].toNat : Nat) : Int) = 45 := by omega
     have e:l40 s= -puN (s.extract 1 s.size):=by unfold l40;rw[dif_pos h1,if_pos h2]
     rw[e];clear e h2;obtain⟨m,hm⟩:=Ti (puN (s.extract 1 s.size));have hp:=SK (s.extract 1 s.size);rw[<-hm]at hp⊢;have CP:∀W:World,Calls prog 110 #[.string (s.extract 1 s.size)] W (Ret (.tuple #[.int .i64 m,.bool (puB (s.extract 1 s.size))]) W):=fun W=>by rw[hm];exact Il _ W
     have HC:=Tk CP;clear CP hm;go_enter func66,TG
     go_wp2_with fail
     refine(HC.out _).mono ?_;rintro e w1 ⟨rfl,hb1⟩;go_wp2;go_ret;exact⟨rfl,hb1⟩
   . have a7 : ¬ (((s[0].toNat : Nat) : Int) = 45) := by omega
     have e:l40 s=puN s:=by unfold l40;rw[dif_pos h1,if_neg h2]
     rw[e];clear e h2;go_enter func66,TG
     go_wp2_with fail
     refine(Il s _).mono ?_;rintro e w1 ⟨rfl,hb1⟩;go_wp2;go_ret;exact⟨rfl,hb1⟩
 . have a6 : ¬ ((1 : Int) < (s.size : Int)) := by omega
   have e:l40 s=puN s:=by unfold l40;rw[dif_neg h1]
   rw[e];clear e;go_enter func66,TG
   go_wp2_with fail
   refine(Il s _).mono ?_;rintro e w1 ⟨rfl,hb1⟩;go_wp2;go_ret;exact⟨rfl,hb1⟩
theorem zZ {N:Nat}:∀(xs:List Bs),(∀x∈xs,x.length<=N)->(Tx [32] xs).length<=(N+1)*xs.length
  |[],_=>by simp[Tx]
  | x :: xs, h => by
   have e:Tx [32] (x::xs)=32::(x++Tx [32] xs):=(by simp[Tx]);have h1:=zZ xs (fun y hy=>h y (List.mem_cons_of_mem _ hy));have h2:=h x List.mem_cons_self;rw[e,Tq,Tm,Tq,Nat.mul_succ];omega
theorem yG:∀(xs:List Bs) (y:Bs),Tx [32] (xs++[y])=Tx [32] xs++32::y
  |[],y=>by simp[Tx]
  | x :: xs, y => by
   have e:∀zs,Tx [32] (x::zs)=32::(x++Tx [32] zs):=fun zs=>by simp[Tx]
   rw[List.cons_append,e,e,yG xs y];simp
theorem Oo {xs:List Bs} (h:xs≠[]) (y:Bs):Lib.join (xs++[y]) [32]=Lib.join xs [32]++32::y:=by
 cases xs with
 |nil=>exact absurd rfl h
 |cons x xs=>rw[List.cons_append,Ty,Ty,yG,List.append_assoc]
theorem LK {F:List ByteArray} {j:Nat} (h:j+1<F.length):rT (F.take (j+1))++(⟨#[32]⟩:ByteArray)++nth F (j+1)=rT (F.take (j+1+1)):=by
 apply ByteArray.ext;apply Array.toList_inj.1;rw[Tz,Tz,Array.toList_append,Array.toList_append];unfold rT
 rw [rD, rD, List.take_succ_eq_append_getElem h, Tp, List.map_cons, List.map_nil, Oo (by
  intro q;have:=congrArg List.length q;rw[Tt,Tu,List.length_nil]at this;omega),qE h,List.append_assoc]
 rfl
theorem Oq {F:List ByteArray} (h:0<F.length):rT (F.take (0+1))=nth F 0:=by
 rw[qE h,List.take_succ_eq_append_getElem h];unfold rT;rw[List.take_zero,List.nil_append,List.map_cons,List.map_nil,Lib.join_one];exact Ai _
theorem Jj:∀(l cur:Bs),∀x∈fg cur l,x.length<=cur.length+l.length
  | [], cur, x, hx => by
   rw[fg]at hx;split at hx
   . cases hx
   . rw[List.mem_singleton.1 hx];simp
  | c :: r, cur, x, hx => by
   rw[fg]at hx;rw[Tq];split at hx
   . split at hx
     . have:=Jj r [] x hx;simp at this;omega
     . rcases List.mem_cons.1 hx with rfl|hx
       . omega
       . have:=Jj r [] x hx;simp at this;omega
   . have:=Jj r (cur++[c]) x hx;rw[Tm]at this;simp at this;omega
theorem Ot {s : ByteArray} (hs : s.size <= 600) : ∀ x ∈ (eH s).map (fun x => x.data.toList), x.length <= 600 := by
 have e : (eH s).map (fun x => x.data.toList) = fg [] s.data.toList := by
  unfold eH;rw[List.map_map];conv=>rhs;rw[<-List.map_id (fg [] s.data.toList)]
  exact List.map_congr_left fun x _=>rD x
 rw[e];intro x hx;have:=Jj _ _ x hx;have h2:s.data.toList.length=s.size:=Array.length_toList;simp only[List.length_nil]at this;omega
theorem LM {F : List ByteArray} (h : ∀ x ∈ F.map (fun x => x.data.toList), x.length <= 600) (k : Nat) (hk : k <= 3) : (rT (F.take k)).size <= 2000 := by
 unfold rT;have e:∀l:Bs,(toB l).size=l.length:=fun l=>rfl
 rw[e]
 have h2 : ∀ x ∈ (F.take k).map (fun x => x.data.toList), x.length <= 600 := fun x hx => by
  rw[List.map_take]at hx;exact h x (List.mem_of_mem_take hx)
 have hl:((F.take k).map (fun x=>x.data.toList)).length<=3:=by rw[Tt,Tu];omega
 generalize (F.take k).map (fun x=>x.data.toList)=xs at h2 hl
 cases xs with
 |nil=>exact Tv _
 |cons x xs=>
  rw[Ty,Tm];have h3:=zZ xs (fun y hy=>h2 y (List.mem_cons_of_mem _ hy));have h4:=h2 x List.mem_cons_self;rw[Tq]at hl;have h5:(600+1)*xs.length<=601*2:=Nat.mul_le_mul_left _ (by omega);omega
theorem Qi {F : List ByteArray} (h : ∀ x ∈ F.map (fun x => x.data.toList), x.length <= 600) {i : Nat} (hi : i < F.length) : (nth F i).size <= 600 := by
 rw[qE hi];exact h _ (List.mem_map_of_mem (List.getElem_mem hi))
noncomputable def nums (F:List ByteArray) (j:Nat):List Int:=((F.drop 1).take j).map l40
theorem AA {F:List ByteArray} {j:Nat} (h:j+1<=F.length):(nums F j).length=j:=by unfold nums;rw[Tt,Tu,List.length_drop];omega
theorem Ou {F:List ByteArray} {j:Nat} (h:j+1<F.length):nums F j++[l40 (nth F (j+1))]=nums F (j+1):=by
 unfold nums;rw[List.take_succ_eq_append_getElem (by rw[List.length_drop];omega),Tp,qE h];simp[Nat.add_comm]
theorem RP {F:List ByteArray} (hl:1<=F.length/\F.length<=3):(nums F (F.length-1)++[0,0])[0]? =some (l40 (nth F 1))/\(nums F (F.length-1)++[0,0])[1]? =some (l40 (nth F 2)):=by
 have hz:=pI;rcases F with _|⟨a,_|⟨b,_|⟨c,_|⟨d,r⟩⟩⟩⟩
 . simp at hl
 . exact⟨by simp[nums,nth,hz],by simp[nums,nth,hz]⟩
 . exact⟨by simp[nums,nth,hz],by simp[nums,nth,hz]⟩
 . exact⟨by simp[nums,nth,hz],by simp[nums,nth,hz]⟩
 . simp at hl
theorem KR {l:List Int} {B g n c k:Nat} {w:World} {x:Int} (h:aD 3 1 aW B w (.slice (some ⟨g,0,none⟩) n c) l) (hx:l[k]? =some x):w.cell? ⟨g,k,none⟩=some (.int .i64 x):=by
 obtain⟨hk,e⟩:=List.getElem?_eq_some_iff.1 hx;have:=h.slot aM (by decide) hk 0 _ rfl;rw[e]at this;simpa using this
theorem RQ {s:ByteArray} {k a b:Int} (hl:dK s=true) (hi:inB ((eH s).length:Int) 1 3=true) (h1:jW k a b=true) (h2:iZ k a b=rT (eH s)):paX s=(k,a,b)/\paB s=true:=by
 have h3:(eH s).length<=3:=by simp[inB]at hi;omega
 refine Qw hl h3 ⟨h1,?_⟩;unfold iZ at h2;rw[if_pos h1]at h2;exact h2
theorem RS {s : ByteArray} {a b : Int} (ha : a = l40 (nth (eH s) 1)) (hb : b = l40 (nth (eH s) 2)) (h : ∀ k : Int, 1 <= k -> k < 6 -> ¬ (jW k a b = true /\ iZ k a b = rT (eH s))) : paX s = (0, 0, 0) /\ paB s = false := IY fun q => by
 obtain⟨_,_,x,hx⟩:=q;have hd:=Ip (xW s) hx;obtain⟨x1,x2,x3⟩:=x;obtain rfl:a=x2:=by rw[ha];exact hd.ha
 obtain rfl:b=x3:=by rw[hb];exact hd.hb
 have h1:=hx.1;have h2:=hx.2;simp only at h1 h2;refine h x1 hd.in1.1 (by have:=hd.in1.2;simp only at this;omega) ⟨h1,?_⟩;unfold iZ;rw[if_pos h1];exact h2
theorem EP (s:ByteArray) (w:World):Calls prog 34 #[.string s] w (Ret (paV s) w):=by
 have B0:=(Below.refl w.heap.size w).al (.cells #[.int .i64 0,.int .i64 0,.int .i64 0] 54);have bR:=Blk.aX w 54 #[.int .i64 0,.int .i64 0,.int .i64 0];obtain⟨gR,bM⟩:=Ti w.heap.size;have bX:w.heap.size<=gR:=(by omega);have b5:=Tk bM;clear bM;rcases a8:dK s with _|_
 . have Hn := Tk (IY (s := s) (fun q => by rw [a8] at q; cases q.1));have bB:=Tk a8;clear a8;go_enter func34,TH
   go_wp2_with fail
   refine(rC s _).mono ?_;rintro e w1 ⟨v,rfl,hO,hb1⟩;rw[bB.out];have bA:=bR.bl hb1;have B1:=B0.tr hb1;rw[<-b5.out]at bA⊢;clear hO;go_wp2_with (refine aY rfl 54 _ _ rfl gR #[.int .i64 0,.int .i64 0,.int .i64 0] rfl rfl _ _ bA (by kernel_rfl) rfl (by simp[TC]) ?_;intro wE bE bD)
   have BE:=B1.grown bD B1.size (fun k hk=>by injection hk with hk;subst hk;exact bX);obtain⟨bF,bJ,bK⟩:=bE.n3;refine bodyPost_ret (v:= .tuple #[.agg #[.int .i64 0,.int .i64 0,.int .i64 0],.bool false]) (by simp[results,TI,go_sem,bF,bJ,bK]) rfl ⟨by unfold paV;rw[Hn.out.1,Hn.out.2],BE⟩
 . rcases hi:inB ((eH s).length:Int) 1 3 with _|_
   . have Hn:=Tk (QM hi);have bB:=Tk a8;clear a8;go_enter func34,TH
     go_wp2_with fail
     refine(rC s _).mono ?_;rintro e w1 ⟨v,rfl,hO,hb1⟩;rw[bB.out];have hO:=hO bB.out;obtain⟨A,c,rfl,_,_⟩:=hO.form;have bA:=bR.bl hb1;have B1:=B0.tr hb1;go_wp2_with fail
     refine(iY ((eH s).length:Int) 1 3 _).mono ?_;rintro e w2 ⟨rfl,rfl⟩;rw[hi];rw[<-b5.out]at bA⊢;clear hO;go_wp2_with (refine aY rfl 54 _ _ rfl gR #[.int .i64 0,.int .i64 0,.int .i64 0] rfl rfl _ _ bA (by kernel_rfl) rfl (by simp[TC]) ?_;intro wE bE bD)
     have BE:=B1.grown bD B1.size (fun k hk=>by injection hk with hk;subst hk;exact bX);obtain⟨bF,bJ,bK⟩:=bE.n3;refine bodyPost_ret (v:= .tuple #[.agg #[.int .i64 0,.int .i64 0,.int .i64 0],.bool false]) (by simp[results,TI,go_sem,bF,bJ,bK]) rfl ⟨by unfold paV;rw[Hn.out.1,Hn.out.2],BE⟩
   . have bB:=Tk a8;clear a8;have cY:=Tk hi;go_enter func34,TH
     go_wp2_with fail
     refine(rC s _).mono ?_;rintro e w1 ⟨v,rfl,hO,hb1⟩;rw[bB.out];have hO:=(hO bB.out).mono B0.size;obtain⟨F,hF⟩:=Ti (eH s);have hl:1<=F.length/\F.length<=3:=by rw[hF];simp[inB]at hi;omega
     rw[<-hF]at hO hi;have b6:=Ot (Cu bB.out);rw[<-hF]at b6;have HF:=Tk hF;have cF:=Tk b6;obtain⟨A,c,rfl,_,_⟩:=hO.form;obtain⟨gF,rfl,fL,dL⟩:=hO.split (k:=0) (by omega);have bA:=bR.bl hb1;have B1:=B0.tr hb1;clear hF b6;go_wp2_with fail
     refine(iY (F.length:Int) 1 3 _).mono ?_;rintro e w2 ⟨rfl,rfl⟩;rw[hi];clear hi;rw[<-b5.out]at bA⊢;have fN:=bA.lt;have h0:0<F.length:=by omega
     have c2:w1.cell? ⟨gF,0,none⟩=some (.string (nth F 0)):=by
      have:=hO.slot eZ (by decide) h0 0 _ rfl;rw[qE h0];simpa using this
     have bO:=eG w1 (E:=3) (size:=1) (enc:=aW) w1.heap.size rfl w1.heap.size (Tw _);have HO:=Tk hO;have HB:=Tk bA;have dT:=Tk B1;have cG:=Oq h0;have eA:=Tk cG;clear hO bA B1 bR B0 cG hb1;go_wp2;go_loopw [6,7,8] (fun s6 s7 s8 wr=>∃(j:Nat) (D:Option Addr) (d:Nat),j+1<=F.length/\s8= .int .i64 ((j+1:Nat):Int)/\s6= .string (rT (F.take (j+1)))/\s7= .slice D j d/\aD 3 1 aW w1.heap.size wr (.slice D j d) (nums F j)/\Below w1.heap.size w1 wr) (fun _ _ i _=>F.length-(intOf i).toNat)
     case atStart=>exact⟨0,_,_,hl.1,rfl,by rw[eA.out],rfl,bO,(Below.refl _ _).al _⟩
     case round=>
      obtain⟨j,D,d,hj,rfl,rfl,rfl,hown,a6⟩:=hrel;clear bO c2;by_cases hlt:j+1<F.length
      . obtain⟨x,hx⟩:=Ti (nth F (j+1));have oF:=HO.out.below a6
        have c1:wr.cell? ⟨gF,j+1,none⟩=some (.string x):=by
         have:=oF.slot eZ (by decide) hlt 0 _ rfl;rw[hx,qE hlt];simpa using this
        have z1:=LM cF.out (j+1) (by omega);have z2:x.size<=600:=by rw[hx];exact Qi cF.out hlt
        have b7:=LK hlt;have b8:=Ou hlt;rw[<-hx]at b7 b8;have bC:=AA hj;have eC:=Tk b7;have eE:=Tk b8;have cH:=Tk bC;have eI:((j+1:Nat):Int)<(F.length:Int):=(by omega);have H8:Hid (((nums F j).length+1)*8<=140737488355328):=Tk (by rw[bC];omega);have HM:Hid ((nums F j).length+1<=maxLen):=Tk (by rw[bC];unfold maxLen;omega);clear hx b7 b8 bC oF;go_wp2_with fail
        refine(Qh x _).mono ?_;rintro e w3 ⟨rfl,hb2⟩;have b9:=hown.below hb2;have B2:=a6.tr hb2;go_wp2_with (at_builtin;go_must (refine aF (enc:=aW) fP aM jS B2 b9 (l40 x) H8.out HM.out rfl _ _ rfl rfl rfl ?_);intro v4 w4 a7 hb4 hg4 fO;rw[eE.out]at a7;obtain⟨A4,c4,rfl,fR,fS⟩:=a7.form)
        go_roundw
        case rel=>exact⟨j+1,A4,c4,by omega,by go_num,by rw[eC.out],by rw[AA (by omega)],by have:=a7;rw[AA (by omega)]at this;exact this,hb4⟩
        case measure=>simp[intOf];omega
      . obtain⟨n,hn⟩:=Ti F.length;obtain rfl:j=F.length-1:=by omega
        obtain⟨na,nb⟩:=RP hl;obtain⟨N,hN⟩:=Ti (nums F (F.length-1)++[0,0]);obtain⟨a,ha⟩:=Ti (l40 (nth F 1));obtain⟨b,hb⟩:=Ti (l40 (nth F 2));obtain⟨S,hS⟩:=Ti (rT F);have cI:F.take (F.length-1+1)=F:=List.take_of_length_le (by omega);rw[cI,<-hS];have eI:¬(((F.length-1+1:Nat):Int)<(F.length:Int)):=(by omega);have bC:=AA (F:=F) hj;have H8:Hid (((nums F (F.length-1)).length+([0,0]:List Int).length)*8<=140737488355328):=Tk (by rw[bC];show(F.length-1+2)*8<=_;omega);have HM:Hid ((nums F (F.length-1)).length+([0,0]:List Int).length<=maxLen):=Tk (by rw[bC];show F.length-1+2<=_;unfold maxLen;omega);have cJ:Rd 1 (RE aW) (wr.alloc (.cells #[.int .i64 0,.int .i64 0] 3)) (.slice (some ⟨wr.heap.size,0,none⟩) 2 2) [0,0]:=(Ad (E:=3) (enc:=aW) wr 0 0 rfl rfl).rd aM (by decide);have bP:=hown.alloc (.cells #[.int .i64 0,.int .i64 0] 3);have BA:=a6.al (.cells #[.int .i64 0,.int .i64 0] 3);rw[<-hN,<-ha]at na;rw[<-hN,<-hb]at nb;have cK:=Tk hN;have HA:=Tk ha;have eJ:=Tk hb;have HS:=Tk hS;have cL:=Tk na;have eK:=Tk nb;have cH:=Tk bC;clear hN ha hb hS cI na nb bC hn;go_wp2_with (at_builtin;go_must (refine dN (enc:=aW) fP aM jS (B:=w1.heap.size) BA.size bP (A:=some ⟨wr.heap.size,0,none⟩) (c:=2) (m:=[0,0]) cJ H8.out HM.out rfl _ _ rfl rfl rfl ?_);intro v4 w4 a7 hb4 hv4;rw[<-cK.out]at a7;obtain⟨A4,c4,rfl⟩:=hv4)
        have eL:0<N.length:=(List.getElem?_eq_some_iff.1 cL.out).1;obtain⟨L,hL⟩:=Ti ((nums F (F.length-1)).length+([0,0]:List Int).length);have cA:N.length=L:=(by rw[cK.out,hL,Tm]);have bS:aD 3 1 aW w1.heap.size w4 (.slice A4 N.length c4) N:=by rw[cA,hL];exact a7
        obtain⟨gN,rfl,fW,bU⟩:=bS.split (k:=0) eL;have e2:(nums F (F.length-1)).length+2=L:=hL.symm;have hL2:1<L:=by rw[hL,cH.out];show 1<F.length-1+2;omega
        have B4:=BA.trans hb4;have eM:=HB.out.bl B4;have eN:=dT.out.tr B4;(try rw[<-hL])
        (try rw[e2])
        have eP:=Tk cA;have l0:0<L:=(by omega);have l1:(1:Int)<(L:Int):=(by omega);clear hL cA e2 a7 hb4 BA bP cJ hown a6;go_loopw [9,10,11,12] (fun s9 eR eW s12 wr=>∃(k:Nat) (cM cN z12:Value),eR=cM/\eW=cN/\s12=z12/\1<=k/\k<=6/\s9= .int .i64 k/\Hid (∀i:Int,1<=i->i<k->¬(jW i a b=true/\iZ i a b=S))/\Below w4.heap.size w4 wr) (fun i _ _ _ _=>6-(intOf i).toNat)
        case atStart=>exact⟨1,_,_,_,rfl,rfl,rfl,by decide,by decide,rfl,Tk (fun i h1 h2=>by omega),Below.refl _ _⟩
        case round=>
         obtain⟨k,cM,cN,z12,rfl,rfl,rfl,fX,fY,rfl,Hg,a6⟩:=hrel;have bY:=eM.bl a6;have B5:=eN.tr a6;by_cases hlt:k<6
         . have gA : (k : Int) <= 5 := by omega
           have oN:=bS.below a6;have n0:=KR oN cL.out;have n1:=KR oN eK.out;have cB:gN<wr.heap.size:=Nat.lt_of_lt_of_le bU a6.size;obtain⟨W,hW⟩:=Ti wr;rw[<-hW]at a6 bY B5 oN n0 n1 cB⊢;clear hW oN;have Bw:Below W.heap.size W W.drew:=(Below.refl _ _).drew;have hz:W.heap.size<=W.drew.heap.size:=(by simp);go_wp2_with fail
           refine rB (fun w'=>w'.cell? ⟨gN,0,none⟩=some (.int .i64 a)/\w'.cell? ⟨gN,1,none⟩=some (.int .i64 b)) fun hHeld=>(tW 0)<|(tW 1)<|(tW 2)<|(tW 3)<|(tW 4)<|(tW 5)<|(tW 6)<|(tW 7)<|(tR [8])<|tL fun K hK=>?_
           (refine kP rfl 54 _ rfl Tryz.zeroValue54 ?_;intro gX wX bN cP e5 bU e6;have cQ:W.heap.size<=gX:=(by omega);obtain⟨cR,cS,cC⟩:=bkn cP W.heap.size hz;replace hz:=cC;replace Bw:=Bw.tr cP)
           refine tK hK fun hHeld=>?_
           clear hK K;refine(tR [9])<|tL fun K hK=>?_
           (refine aK rfl 54 _ _ rfl gX #[.int .i64 k,.int .i64 a,.int .i64 b] rfl rfl _ _ bN (by kernel_rfl) rfl (by simp[TC]) ?_;intro wX cT cQ;replace Bw:=Bw.grown cQ hz (fun k hk=>by injection hk with hk;subst hk;omega);obtain⟨cR,cS,cC⟩:=bk Bw)
           refine tK hK fun hHeld=>?_
           clear hK K;refine tD ?_
           all_goals
             clear cR cS;have e7:=bY.bl Bw;have B6:=B5.tr Bw;have cU:=a6.tr Bw;clear Bw hz cC bN bY B5 a6;obtain⟨cV,cW,cX⟩:=cT.n3;rcases a8:jW k a b with _|_
             . have cD : Hid (∀ i : Int, 1 <= i -> i < ((k + 1 : Nat) : Int) -> ¬ (jW i a b = true /\ iZ i a b = S)) := Tk (fun i h1 h2 q => by
                rcases(by omega:i<k∨i=k)with h3|h3
                . exact Hg.out i h1 h3 q
                . rw[h3,a8]at q;cases q.1)
               go_wp2_with fail
               refine(BC k a b _).mono ?_;rintro e w7 ⟨rfl,bL⟩;rw[a8];clear a8;have cE:=cU.tr bL;go_wp2;go_roundw
               case rel=>exact⟨k+1,_,_,_,rfl,rfl,rfl,by omega,by omega,by go_num,cD,cE⟩
               case measure=>simp[intOf];omega
             . go_wp2_with fail
               refine(BC k a b _).mono ?_;rintro e w7 ⟨rfl,bL⟩;rw[a8];have e8:=Tk a8;clear a8;have cE:=cU.tr bL;by_cases he:iZ k a b=S
               . have Hy := Tk (RQ (s := s) bB.out cY.out e8.out (by rw [he, HS.out, <- HF.out]));have beq:=wV he;clear he cV cW cX;have e9:=e7.bl bL;have fD:=cT.bl bL;have B8:=B6.tr bL;obtain⟨cV,cW,cX⟩:=fD.n3;go_wp2_with (refine aY rfl 54 _ _ rfl gR #[.int .i64 k,.int .i64 a,.int .i64 b] rfl rfl _ _ e9 (by kernel_rfl) rfl (by simp[TC]) ?_;intro wE bE bD)
                 have BE:=B8.grown bD B8.size (fun k hk=>by injection hk with hk;subst hk;exact bX);obtain⟨bF,bJ,bK⟩:=bE.n3;refine bodyPost_ret (v:= .tuple #[.agg #[.int .i64 k,.int .i64 a,.int .i64 b],.bool true]) (by simp[results,TI,go_sem,bF,bJ,bK]) rfl ⟨by unfold paV;rw[Hy.out.1,Hy.out.2],BE⟩
               . have cD : Hid (∀ i : Int, 1 <= i -> i < ((k + 1 : Nat) : Int) -> ¬ (jW i a b = true /\ iZ i a b = S)) := Tk (fun i h1 h2 q => by
                  rcases(by omega:i<k∨i=k)with h3|h3
                  . exact Hg.out i h1 h3 q
                  . rw[h3]at q;exact he q.2)
                 have beq:=wW he;clear he;go_wp2;go_roundw
                 case rel=>exact⟨k+1,_,_,_,rfl,rfl,rfl,by omega,by omega,by go_num,cD,cE⟩
                 case measure=>simp[intOf];omega
         . obtain rfl : k = 6 := by omega
           have Hn:=Tk (RS (s:=s) (a:=a) (b:=b) (by rw[HA.out,HF.out]) (by rw[eJ.out,HF.out]) (fun i h1 h2=>by rw[<-HF.out,<-HS.out];exact Hg.out i h1 (by omega)));go_wp2_with (refine aY rfl 54 _ _ rfl gR #[.int .i64 0,.int .i64 0,.int .i64 0] rfl rfl _ _ bY (by kernel_rfl) rfl (by simp[TC]) ?_;intro wE bE bD)
           have BE:=B5.grown bD B5.size (fun k hk=>by injection hk with hk;subst hk;exact bX);obtain⟨bF,bJ,bK⟩:=bE.n3;refine bodyPost_ret (v:= .tuple #[.agg #[.int .i64 0,.int .i64 0,.int .i64 0],.bool false]) (by simp[results,TI,go_sem,bF,bJ,bK]) rfl ⟨by unfold paV;rw[Hn.out.1,Hn.out.2],BE⟩
end Go.Proofs.YtjijonhkofhikaaGreatDoor
