/- The list of tilings, by the reference: the walk. Condition: at most 300 of them. -/
import Derived.Test.YtljfoohaapckeaaGreatDoorDListS0
open _root_.List (length length_append append_nil getElem?_toArray getElem?_cons_zero getElem?_cons_succ)
open _root_.Nat (zero_add le_refl zero_mul)
open _root_.Go.Proofs.Tryz (prog func221 ntmps221 func198 ntmps198)
namespace Go.Proofs.YtljfoohaapckeaaGreatDoor
open Go.ChangeShapes Go.WideShapes Go.ChangeAt Go.RowKit
set_option linter.unusedVariables false
set_option linter.unusedSimpArgs false
set_option maxHeartbeats 4000000
set_option maxRecDepth 100000
def Fx (rows:List Int) (j:Nat):Prop:=∀(head:List Dm) (most:Int) (v u:Value) (w:World),Rd 1 bH w v rows->Rd 3 aU w u head->(∀k,k<j->(lW rows head).testBit k=false)->head.length<=j->((gV (lW rows head)).length:Int)<=most->1<=most->most<=300->
  Calls prog 221 #[.agg #[v],u,.int .i64 most] w (Bo (dO (lW rows head) head) w)
theorem Gn {s:Nat} {d:Dm} (h:aH d=false):eT s d=false:=by unfold eT;rw[h];rfl
def Gp (s:Nat) (head:List Dm) (d:Dm):List (List Dm):=if eT s d then dO (dN s (aK d)) (head++[d])else[]
theorem uZ {s:Nat} {head:List Dm} {d:Dm} (h:eT s d=false):Gp s head d=[]:=by unfold Gp;rw[h];rfl
theorem Gq {s:Nat} {head:List Dm} {d:Dm} (h:eT s d=true):Gp s head d=dO (dN s (aK d)) (head++[d]):=by unfold Gp;rw[if_pos h]
theorem Kk {s i:Nat} (hs:s<U64) (hl:pI s i) (head:List Dm):dO s head=Gp s head (dW i)++Gp s head (eY i):=Ee hs hl head
theorem nL {α:Type} {E:TypeId} {size:Nat} {enc:α->List Value} {B:Nat} {w:World} {us:List Value} {ls:List (List α)} (h2:us.length=ls.length) (h3:∀(k:Nat) (u:Value) (x:List α),us[k]? =some u->ls[k]? =some x->aC E size enc B w u x):∀u∈us,u.oneCell'=true:=by
 intro u hu;obtain⟨k,hk,rfl⟩:=List.getElem_of_mem hu;obtain⟨A,c,e,_⟩:=(h3 k us[k] ls[k] (List.getElem?_eq_getElem hk) (List.getElem?_eq_getElem (by omega))).form;rw[e];rfl
theorem Bt {rows:List Int} {j:Nat} (hr:dJ rows) (hj:j<=64) (IH:∀j',j<j'->j'<=64->Fx rows j'):Fx rows j:=by
 intro head most v u w h hu hlow hh hT hm1 hm2;have hs:=Ef hr head;have hun:=MR hr head;obtain⟨s,hse⟩:=Oy (lW rows head);rw[<-hse]at hlow hT hs hun⊢;obtain⟨cs,hcs⟩:=Oy (dU s 64);rw[<-hcs]at hun;have CU:∀(a b:Value) (w:World),Rd 1 bH w a rows->Rd 3 aU w b head->Calls prog 238 #[.agg #[a],b] w (jA 70 2 dE cs w):=fun a b w k1 k2=>by rw[<-hun];exact Ki a b rows head w k1 k2
 have hcl:cs.length<=64:=by rw[hcs];exact rF _ _
 have hh64:head.length<=64:=(by omega);clear hun;obtain⟨A,c,rfl,hc,hm⟩:=h.form;obtain⟨Ah,ch,rfl,hch,hmh⟩:=hu.form;have B0:=((Below.refl w.heap.size w).al (.cells #[.slice A rows.length c] 26)).al (.cells #[] 27);have bX:=(Blk.bK w 26 #[.slice A rows.length c]).alloc (.cells #[] 27)
 have oO:aC 27 1 eV w.heap.size ((w.alloc (.cells #[.slice A rows.length c] 26)).alloc (.cells #[] 27)) (.slice (some ⟨w.heap.size+1,0,none⟩) ([]:List Value).length 0) []:=by
  have:=(fB (w.alloc (.cells #[.slice A rows.length c] 26)) (E:=27) (size:=1) (enc:=eV)).mono (show w.heap.size<=_ from((Below.refl w.heap.size w).al (.cells #[.slice A rows.length c] 26)).size);simpa using this
 by_cases h0:s=0
 . have hc0 : cs.length = 0 := by rw [hcs]; exact (sJ hs).2 h0
   have hcz:((cs.length:Int)==0)=true:=by rw[hc0];rfl
   have ht:dO s head=[head]:=(by rw[h0,Ed]);rw[ht];have H8:Hid ((([]:List Dm).length+head.length)*24<=140737488355328):=OA (by simp;omega);have HM:Hid ((([]:List Dm).length+head.length)<=maxLen):=OA (by unfold maxLen;simp;omega);clear hT hlow IH ht hc0 h0 hse hcs;go_enter func221,ntmps221
   go_wp2_with fail
   refine(CU _ _ _ (h.Oz B0) (hu.Oz B0)).mono ?_;rintro e w1 ⟨AC,cC,rfl,oC,hb1⟩;have B1:=B0.tr hb1;have oO1:=oO.below hb1;have rh:=(hu.Oz B1).Oz ((Below.refl w1.heap.size w1).al (.cells #[] 60));have B2:=B1.al (.cells #[] 60);have hsz1:w.heap.size<=w1.heap.size:=B1.size;have hszo:w.heap.size+1<w1.heap.size:=(World.ownsRow.lt oO1 _ rfl).2;have oO2:=oO1.alloc (.cells #[] 60);clear B0 bX oO B1 oO1 hb1 oC
   go_wp2_with (at_builtin; go_must (first
     |(refine dY (enc:=aT) aI aB aM (B:=w1.heap.size) (by simp) (fB w1) rh H8.out HM.out rfl _ _ rfl rfl rfl ?_;intro v4 w4 own4 hb4 hv4;obtain⟨A4,c4,rfl⟩:=hv4;simp only[List.nil_append,List.length_nil,zero_add]at own4⊢;have hb4':Below w.heap.size w w4:=⟨hb4.os.trans B2.os,hb4.tape.trans B2.tape,hb4.output.trans B2.output,Nat.le_trans B2.size hb4.size,fun k hk=>(hb4.block k (by omega)).trans (B2.block k hk)⟩;have oO4:aC 27 1 eV w.heap.size w4 (.slice (some ⟨w.heap.size+1,0,none⟩) ([]:List Value).length 0) []:=World.ownsRow.kept oO2 (row:=some w1.heap.size) ⟨hb4.os,hb4.tape,hb4.output,hb4.size,fun k hk hne=>hb4.block k (by simp at hk hne;omega)⟩ (.inr (by simp[Value.ownBlock];omega)))
     |(refine mJ (enc:=eV) mW zG w4 hb4'.size oO4 (.slice A4 head.length c4) (by simp[eV,Value.oneCell']) rfl (by decide) (by decide) rfl _ _ rfl rfl rfl ?_;intro A5 c5 w5 o5 g5 d5)))
   go_ret;exact⟨A5,c5,rfl,dF.snoc (by decide) oO4 (ls:=[]) rfl (fun k u x hx=>by simp at hx) (own4.mono hsz1) o5 g5,Below.app hb4' oO4 (le_refl _) g5⟩
 . obtain⟨i,hl⟩:=xA hs h0;have hji:=Mj hl hlow;have hi:=hl.1;obtain⟨rest,hrest⟩:=vT hl;obtain⟨x,hx⟩:=Oy (i%8);obtain⟨y,hy⟩:=Oy (i/8);have hix:gI i=((x:Int),(y:Int)):=by unfold gI;rw[hx,hy,show((i:Int)%8)=((i%8:Nat):Int) by omega,show((i:Int)/8)=((i/8:Nat):Int) by omega]
   rw[hix,<-hcs]at hrest;have hcp:0<cs.length:=by rw[hrest];simp
   have hce:cs[0]=((x:Int),(y:Int)):=by subst hrest;rfl
   have hcp2:(0:Int)<cs.length:=(by omega);have hcz:((cs.length:Int)==0)=false:=by rw[beq_eq_false_iff_ne];omega
   have hrt:dW i=((x:Int),(y:Int),false):=by unfold dW;rw[<-hx,<-hy]
   have hdn:eY i=((x:Int),(y:Int),true):=by unfold eY;rw[<-hx,<-hy]
   have hft:=Kk hs hl head;rw[hrt,hdn]at hft
   have hfl:(Gp s head ((x:Int),(y:Int),false)).length+(Gp s head ((x:Int),(y:Int),true)).length=(gV s).length:=by
    have:=congrArg length hft;rw[qG,length_append]at this;omega
   have hI1:aH ((x:Int),(y:Int),false)=true->dM ((x:Int),(y:Int),false)=i:=fun q=>by rw[<-hrt]at q⊢;exact Jp q hi
   have hI2:aH ((x:Int),(y:Int),true)=true->dM ((x:Int),(y:Int),true)=i:=fun q=>by rw[<-hdn]at q⊢;exact Jq q hi
   have Hse:=OA hse;have Hrr:=OA hr;have Hl:=OA hl;have HI1:=OA hI1;have HI2:=OA hI2;have HIH:=OA IH;have Hce:=OA hce;obtain⟨R1,hR1⟩:=Oy (Gp s head ((x:Int),(y:Int),false));obtain⟨R2,hR2⟩:=Oy (Gp s head ((x:Int),(y:Int),true));rw[<-hR1,<-hR2]at hft hfl;rw[hft];have HR1:=OA hR1;have HR2:=OA hR2;have Hfl:=OA hfl;have HT:=OA hT;clear h0 hlow hl hx hy hix hrt hdn hft hfl hI1 hI2 IH hR1 hR2 hse hcs hrest hce hT hr;go_enter func221,ntmps221
   go_wp2_with fail
   refine(CU _ _ _ (h.Oz B0) (hu.Oz B0)).mono ?_;rintro e w1 ⟨AC,cC,rfl,oC,hb1⟩;obtain⟨gC,rfl,hgC1,hgC2⟩:=oC.split hcp;have B1:=B0.tr hb1;have oL1:dF 27 60 3 aT w.heap.size w1 (.slice (some ⟨w.heap.size+1,0,none⟩) ([]:List (List Dm)).length 0) []:=⟨[],oO.below hb1,rfl,fun k u x h=>by simp at h⟩;have bX1:=bX.bl hb1;have oC1:=oC.mono B0.size;clear B0 bX oO oC hb1 hgC1 hgC2;go_wp2_with fail
   go_loopw [7,9] (fun s7 s9 wr=>∃(J:Int) (ls1:List (List Dm)) (A7:Option Addr) (c7:Nat),s9= .int .i64 J/\s7= .slice A7 ls1.length c7/\dF 27 60 3 aT w.heap.size wr (.slice A7 ls1.length c7) ls1/\aC 70 2 dE w.heap.size wr (.slice (some ⟨gC,0,none⟩) cs.length cC) cs/\Below w.heap.size w wr/\Blk wr w.heap.size 26 #[.slice A rows.length c]/\Hid ((J=0/\ls1=[])∨(J=1/\ls1=R1)∨(J=2/\ls1=R1++R2))) (fun _ i _=>2-(intOf i).toNat)
   case atStart=>exact⟨0,[],_,_,rfl,rfl,oL1,oC1,B1,bX1,OA (.inl ⟨rfl,rfl⟩)⟩
   case round=>
    obtain⟨J,ls1,A7,c7,rfl,rfl,oL2,oC2,B2,bX2,HJ⟩:=hrel;clear oL1 oC1 B1 bX1;rcases HJ.out with⟨rfl,ho⟩|⟨rfl,ho⟩|⟨rfl,ho⟩
    . have Ho : Hid (ls1 ++ R1 = R1) := OA (by rw [ho]; rfl);have HLs:Hid ((ls1.length:Int)+R1.length<=most):=OA (by rw[ho];have:=Hfl.out;have:=HT.out;simp;omega);have hlm:(ls1.length:Int)<most:=by rw[ho];simp;omega
      have hltB:decide ((ls1.length:Int)<most)=true:=decide_eq_true hlm;clear HJ ho;obtain⟨W,hW⟩:=Oy wr;rw[<-hW]at oL2 oC2 B2 bX2⊢;clear hW;have q1:=oC2.slot dS (by decide) hcp 0 (.int .i64 x) (by rw[Hce.out];rfl);have q2:=oC2.slot dS (by decide) hcp 1 (.int .i64 y) (by rw[Hce.out];rfl);rw[zero_mul,Nat.add_zero]at q1;rw[zero_mul,zero_add]at q2;have hgC2:=oC2.at_.2.2;have Bw:Below W.heap.size W W.drew:=(Below.refl _ _).drew;have hz:W.heap.size<=W.drew.heap.size:=(by simp);obtain⟨sx,sy,hsec⟩:∃sx sy,sec ((x:Int),(y:Int),false)=(sx,sy):=⟨_,_,rfl⟩;have Hsec:=OA hsec;clear hsec;go_wp2_with fail
      refine rB (fun w'=>w'.cell? ⟨gC,0,none⟩=some (.int .i64 x)/\w'.cell? ⟨gC,1,none⟩=some (.int .i64 y)) fun hHeld=>(tW 0)<|(tW 1)<|(tW 2)<|(tW 3)<|(tW 4)<|(tW 5)<|(tW 6)<|(tW 7)<|(tW 8)<|(tW 9)<|(tW 10)<|(tR [11])<|tL fun K hK=>?_
      (refine lU rfl 60 _ rfl Tryz.zeroValue60 ?_;intro gN wX bN hbX hgN1 hgN2 hgN3;have hgN:W.heap.size<=gN:=(by omega);obtain⟨hcX,hfX,hzX⟩:=bkn hbX W.heap.size hz;replace hz:=hzX;replace Bw:=Bw.tr hbX)
      refine tK hK fun hHeld=>?_
      clear hK K;refine(tR [12])<|tL fun K hK=>?_
      (refine aJ rfl 60 _ _ rfl gN #[.int .i64 x,.int .i64 y,.bool false] rfl rfl _ _ bN (by kernel_rfl) rfl (by simp[Value.oneCell']) ?_;intro wX bNX hgX;replace Bw:=Bw.grown hgX hz (fun k hk=>by injection hk with hk;subst hk;omega);obtain⟨hcX,hfX,hzX⟩:=bk Bw)
      refine tK hK fun hHeld=>?_
      clear hK K;refine tD ?_;clear hcX hfX;obtain⟨V,hV⟩:=Oy wX;rw[<-hV]at Bw bNX⊢;clear hV hz;have oL3:=oL2.below Bw;have oC3:=oC2.below Bw;have B3:=B2.tr Bw;have bX3:=bX2.bl Bw;clear oL2 oC2 B2 bX2 q1 q2 Bw hgX hHeld;obtain⟨d_0,d_1,d_2⟩:=bNX.n3;go_wp2_with fail
      refine(vJ x y false sx sy Hsec _).mono ?_;rintro e w2 ⟨rfl,hb2⟩;have oL4:=(oL3.below hb2).alloc (.cells #[.int .i64 sx,.int .i64 sy] 70);have oC4:=(oC3.below hb2).alloc (.cells #[.int .i64 sx,.int .i64 sy] 70);have B4:=(B3.tr hb2).al (.cells #[.int .i64 sx,.int .i64 sy] 70);have bX4:=(bX3.bl hb2).alloc (.cells #[.int .i64 sx,.int .i64 sy] 70);have bN4:=(bNX.bl hb2).alloc (.cells #[.int .i64 sx,.int .i64 sy] 70);have bY4:=Blk.bK w2 70 #[.int .i64 sx,.int .i64 sy];have hNl:=(bNX.bl hb2).lt;have hXl:=(bX3.bl hb2).lt;clear oL3 oC3 B3 bX3 d_0 d_1 d_2;obtain⟨d_0,d_1,d_2⟩:=(bNX.bl hb2).n3;go_upto_region 10 with(fail)
      obtain⟨W4,hW4⟩:=Oy (w2.alloc (.cells #[.int .i64 sx,.int .i64 sy] 70));obtain⟨gY,hgY⟩:=Oy w2.heap.size;rw[<-hW4]at oL4 oC4 B4 bX4 bN4 bY4⊢;rw[<-hgY]at bY4⊢;clear hW4 hgY bNX hb2 d_0 d_1 d_2 hNl hXl;obtain⟨d_0,d_1,d_2⟩:=bN4.n3;rcases hok:aH ((x:Int),(y:Int),false)with _|_
      . have hR : R1 = [] := by rw [HR1.out]; exact uZ (Gn hok)
        have CD:∀w,Calls prog 158 #[.agg #[.int .i64 x,.int .i64 y,.bool false]] w (Ret (.bool false) w):=fun w=>by have:=bM x y false w;rw[hok]at this;exact this
        clear hok;go_wp2_with fail
        refine(CD _).mono ?_;rintro e w3 ⟨rfl,hb3⟩;subst hR;go_wp2;go_roundw
        case rel=>exact⟨_,ls1,_,_,by go_num,rfl,oL4.below hb3,oC4.below hb3,B4.tr hb3,bX4.bl hb3,OA (by first|exact .inr (.inl ⟨rfl,by have:=Ho.out;rwa [append_nil]at this⟩)|exact .inr (.inr ⟨rfl,by have:=Ho.out;rwa [append_nil]at this⟩))⟩
        case measure=>simp[intOf]
      . have CD : ∀ w, Calls prog 158 #[.agg #[.int .i64 x, .int .i64 y, .bool false]] w (Ret (.bool true) w) := fun w => by have := bM x y false w; rw [hok] at this; exact this
        have hI:=HI1.out hok;have hcs2:=(dC hok).2;rw[Hsec.out]at hcs2;have hbI:(lW rows head).testBit (dM ((x:Int),(y:Int),false))=true:=by rw[<-Hse.out,hI];exact Hl.out.2.1
        have hfit:=zL Hrr.out head hok hbI;rw[<-Hse.out,Hsec.out]at hfit;obtain⟨q,hq⟩:=Oy (jF rows (sx,sy));obtain⟨D,hD⟩:=Oy (pO head (sx,sy));have CH:∀(w':World),Below w.heap.size w w'->Calls prog 161 #[.agg #[.slice A rows.length c],.agg #[.int .i64 sx,.int .i64 sy]] w' (Ret (.bool q) w'):=fun w' hb=>by rw[hq];exact nE _ rows sx sy w' (h.Oz hb) hcs2
        have CA:∀(w':World),Below w.heap.size w w'->Calls prog 213 #[.slice Ah head.length ch,.agg #[.int .i64 sx,.int .i64 sy]] w' (Ret (.int .i64 D) w'):=fun w' hb=>by rw[hD];exact vM _ head sx sy w' (hu.Oz hb)
        rw[<-hq,<-hD]at hfit;have Hok:=OA hok;have Hfit:=OA hfit;have HIx:=OA hI;clear hok hI hcs2 hbI hfit hq hD;go_wp2_with fail
        refine(CD _).mono ?_;rintro e w3 ⟨rfl,hb3⟩;have oL5:=oL4.below hb3;have oC5:=oC4.below hb3;have B5:=B4.tr hb3;have bX5:=bX4.bl hb3;have bN5:=bN4.bl hb3;have bY5:=bY4.bl hb3;clear oL4 oC4 B4 bX4 bN4 bY4 hb3 d_0 d_1 d_2;have z_0:=bX5.c1;obtain⟨y_0,y_1⟩:=bY5.n2;go_wp2_with fail
        refine(CH _ B5).mono ?_;rintro e w4 ⟨rfl,hb4⟩;have oL6:=oL5.below hb4;have oC6:=oC5.below hb4;have B6:=B5.tr hb4;have bX6:=bX5.bl hb4;have bN6:=bN5.bl hb4;have bY6:=bY5.bl hb4;clear oL5 oC5 B5 bX5 bN5 bY5 hb4 z_0 y_0 y_1;cases q
        . have hR : R1 = [] := by rw [HR1.out]; exact uZ (by rw [Hfit.out]; rfl)
          subst hR;go_wp2;go_roundw
          case rel=>exact⟨_,ls1,_,_,by go_num,rfl,oL6,oC6,B6,bX6,OA (by first|exact .inr (.inl ⟨rfl,by have:=Ho.out;rwa [append_nil]at this⟩)|exact .inr (.inr ⟨rfl,by have:=Ho.out;rwa [append_nil]at this⟩))⟩
          case measure=>simp[intOf]
        . skip;obtain⟨y_0,y_1⟩:=bY6.n2;go_wp2_with fail
          refine(CA _ B6).mono ?_;rintro e w5 ⟨rfl,hb5⟩;have oL7:=oL6.below hb5;have oC7:=oC6.below hb5;have B7:=B6.tr hb5;have bX7:=bX6.bl hb5;have bN7:=bN6.bl hb5;clear oL6 oC6 B6 bX6 bN6 bY6 hb5 y_0 y_1;by_cases hneg:D<0
          . have hge : decide ((0 : Int) <= D) = false := decide_eq_false (by omega);have hge2:¬(0:Int)<=D:=(by omega);have hft:eT s ((x:Int),(y:Int),false)=true:=by rw[Hfit.out,decide_eq_true hneg];rfl
            have hR:R1=dO (dN s (aK ((x:Int),(y:Int),false))) (head++[((x:Int),(y:Int),false)]):=(by rw[HR1.out,Gq hft]);have hfs:=zH Hrr.out head Hok.out;rw[<-Hse.out]at hfs;rw[<-hfs]at hR;have hlow2:=xB (j:=j) hs Hl.out Hok.out HIx.out;rw[<-hfs]at hlow2;have hRl:=congrArg length hR;rw[qG]at hRl;have hwr:IntKind.i64.wrap (most-(ls1.length:Int))=most-(ls1.length:Int):=IntWalk.i64_in _ (by omega);have IHn:=fun(v u:Value) (w:World) (k1:Rd 1 bH w v rows) (k2:Rd 3 aU w u (head++[((x:Int),(y:Int),false)]))=>HIH.out (i+1) (by omega) (by omega) (head++[((x:Int),(y:Int),false)]) (most-(ls1.length:Int)) v u w k1 k2 hlow2 (by rw[length_append,List.length_singleton];omega) (by have:=HLs.out;omega) (by omega) (by omega)
            rw[<-hR]at IHn;have HIn:=OA IHn;have H8:Hid (head.length*24<=140737488355328):=OA (by omega);have HM:Hid (head.length<=maxLen):=OA (by unfold maxLen;omega);have H8b:Hid ((head.length+1)*24<=140737488355328):=OA (by omega);have HMb:Hid (head.length+1<=maxLen):=OA (by unfold maxLen;omega);have H300:Hid (ls1.length+R1.length<=300):=OA (by have:=HLs.out;omega);clear hft hR hfs hlow2 hRl IHn;go_upto_region 11 with(fail)
            obtain⟨W5,hW5⟩:=Oy w5;rw[<-hW5]at oL7 oC7 B7 bX7 bN7⊢;clear hW5;have z_0:=bX7.c1;obtain⟨d_0,d_1,d_2⟩:=bN7.n3;have hNl:=bN7.lt;have hXl:=bX7.lt;obtain⟨us,u1,u2,u3⟩:=oL7;have Bw:Below W5.heap.size W5 W5.drew:=(Below.refl _ _).drew;have hz:W5.heap.size<=W5.drew.heap.size:=(by simp);refine rB (fun w'=>w'.cell? ⟨w.heap.size,0,none⟩=some (.slice A rows.length c)/\w'.cell? ⟨gN,0,none⟩=some (.int .i64 x)/\w'.cell? ⟨gN,1,none⟩=some (.int .i64 y)/\w'.cell? ⟨gN,2,none⟩=some (.bool false)) fun hHeld=>(tW 0)<|(tW 1)<|(tW 3)<|(tW 5)<|(tW 8)<|(tW 9)<|(tW 10)<|(tW 11)<|(tR [2,6])<|tC (fun K hK=>?_) ?_
            (refine fV aI rfl rfl ?_;intro g5 wX b5 hbX hg5a hg5b hgz;have hg5:W5.heap.size<=g5:=(by omega);(try replace b9:=b9.bl hbX);obtain⟨hcX,hfX,hzX⟩:=bkn hbX W5.heap.size hz;have hz:=hzX;have Bw:=Bw.tr hbX)
            refine tK hK fun hHeld=>?_
            clear hK K;refine(tR [4,6])<|tC (fun K hK=>?_) ?_;(refine iC aI aB aM b5 hg5 (hu.Oz (B7.tr Bw)) H8.out HM.out rfl _ _ rfl rfl rfl ?_;intro A6 c6 wX own6 hbX hown6 hgz;(try replace b9:=b9.bl hbX);obtain⟨hcX,hfX,hzX⟩:=bkn hbX W5.heap.size hz;have hz:=hzX;have Bw:=Bw.tr hbX)
            refine tK hK fun hHeld=>?_
            clear hK K;refine(tR [6])<|tL fun K hK=>?_
            (go_simp;obtain⟨wX,g9,hwX,hg9,b9,hbX⟩:=Fw Bw 60 #[.int .i64 x,.int .i64 y,.bool false];(first|(rw[<-hwX,<-hg9])|(have hwY:(W5.alloc (.cells #[.int .i64 x,.int .i64 y,.bool false] 60)).drew=wX:=hwX.symm;have hgY:W5.heap.size=g9:=hg9.symm;rw[hwY,hgY];clear hwY hgY));clear hwX hg9;(try replace b5:=b5.bl hbX);(try replace own6:=own6.below hbX);obtain⟨hcX,hfX,hzX⟩:=bkn hbX W5.heap.size hz;have hz:=hzX;have Bw:=Bw.tr hbX)
            refine tK hK fun hHeld=>?_
            clear hK K;refine(tR [7])<|tL fun K hK=>?_
            (refine jK aI aB hz own6 (((x:Int),(y:Int),false):Dm) (aM _) b9 H8b.out HMb.out rfl _ _ rfl rfl rfl ?_;intro A10 c10 wX own10 hg10;have Bw:=Bw.grown hg10 hz (fun k hk=>(World.ownsRow.lt own6 k hk).1);obtain⟨hcX,hfX,hzX⟩:=bk Bw;have hz:=hzX)
            refine tK hK fun hHeld=>?_
            clear hK K;refine(tR [12])<|tL fun K hK=>?_
            (go_simp;go_at_call 221;go_must (refine(HIn.out _ _ _ (h.Oz (B7.tr Bw)) (own10.rd aB (by decide))).mono ?_;rintro e wX ⟨A12,c12,rfl,oR,hbX⟩;obtain⟨us2,p1,p2,p3⟩:=oR;have hB12:=(B7.tr Bw).size;rw[<-p2]at p1⊢;obtain⟨hcX,hfX,hzX⟩:=bkn hbX W5.heap.size hz;have hz:=hzX;have Bw:=Bw.tr hbX))
            refine tK hK fun hHeld=>?_
            clear hK K;refine(tR [13])<|tL fun K hK=>?_
            (refine nK mW (B7.tr Bw).size (u1.below Bw) (p1.rd zG (by decide)) (nL p2 p3) (by rw[u2,p2];have:=H300.out;omega) (by rw[u2,p2];unfold maxLen;have:=H300.out;omega) rfl _ _ rfl rfl rfl ?_;intro A13 c13 wX o13 hg13;have oF:=dF.app (by decide) (u1.below Bw) u2 (fun k u x a b=>(u3 k u x a b).below Bw) p2 (fun k u x a b=>(p3 k u x a b).mono hB12) o13 hg13;have BF:=Below.app (B7.tr Bw) (u1.below Bw) (le_refl _) hg13;have bXF:=(bX7.bl Bw).grown hg13 (fun e=>(u1.below Bw).apart (bX7.bl Bw) (by decide) e.symm);have bNF:=(bN7.bl Bw).grown hg13 (fun e=>(u1.below Bw).apart (bN7.bl Bw) (by decide) e.symm);have oCF:=aC.kJ (oC7.below Bw) (u1.below Bw) (by decide) hg13;have zF:=bXF.c1;have e_0:=bNF.cell 0;have e_1:=bNF.cell 1;have e_2:=bNF.cell 2;simp only[getElem?_toArray,getElem?_cons_zero,getElem?_cons_succ]at e_0 e_1 e_2;rw[u2,p2]at oF⊢)
            refine tK hK fun hHeld=>?_
            clear hK K;refine(tW 14)<|tD ?_
            rotate_left 1
            refine tL fun K hK=>?_
            (go_simp;obtain⟨wX,g9,hwX,hg9,b9,hbX⟩:=Fw Bw 60 #[.int .i64 x,.int .i64 y,.bool false];(first|(rw[<-hwX,<-hg9])|(have hwY:(W5.alloc (.cells #[.int .i64 x,.int .i64 y,.bool false] 60)).drew=wX:=hwX.symm;have hgY:W5.heap.size=g9:=hg9.symm;rw[hwY,hgY];clear hwY hgY));clear hwX hg9;(try replace b5:=b5.bl hbX);(try replace own6:=own6.below hbX);obtain⟨hcX,hfX,hzX⟩:=bkn hbX W5.heap.size hz;have hz:=hzX;have Bw:=Bw.tr hbX)
            refine tK hK fun hHeld=>?_
            clear hK K;refine(tR [4])<|tL fun K hK=>?_
            (refine iC aI aB aM b5 hg5 (hu.Oz (B7.tr Bw)) H8.out HM.out rfl _ _ rfl rfl rfl ?_;intro A6 c6 wX own6 hbX hown6 hgz;(try replace b9:=b9.bl hbX);obtain⟨hcX,hfX,hzX⟩:=bkn hbX W5.heap.size hz;have hz:=hzX;have Bw:=Bw.tr hbX)
            refine tK hK fun hHeld=>?_
            clear hK K;refine(tR [7])<|tL fun K hK=>?_
            (refine jK aI aB hz own6 (((x:Int),(y:Int),false):Dm) (aM _) b9 H8b.out HMb.out rfl _ _ rfl rfl rfl ?_;intro A10 c10 wX own10 hg10;have Bw:=Bw.grown hg10 hz (fun k hk=>(World.ownsRow.lt own6 k hk).1);obtain⟨hcX,hfX,hzX⟩:=bk Bw;have hz:=hzX)
            refine tK hK fun hHeld=>?_
            clear hK K;refine(tR [12])<|tL fun K hK=>?_
            (go_simp;go_at_call 221;go_must (refine(HIn.out _ _ _ (h.Oz (B7.tr Bw)) (own10.rd aB (by decide))).mono ?_;rintro e wX ⟨A12,c12,rfl,oR,hbX⟩;obtain⟨us2,p1,p2,p3⟩:=oR;have hB12:=(B7.tr Bw).size;rw[<-p2]at p1⊢;obtain⟨hcX,hfX,hzX⟩:=bkn hbX W5.heap.size hz;have hz:=hzX;have Bw:=Bw.tr hbX))
            refine tK hK fun hHeld=>?_
            clear hK K;refine(tR [13])<|tL fun K hK=>?_
            (refine nK mW (B7.tr Bw).size (u1.below Bw) (p1.rd zG (by decide)) (nL p2 p3) (by rw[u2,p2];have:=H300.out;omega) (by rw[u2,p2];unfold maxLen;have:=H300.out;omega) rfl _ _ rfl rfl rfl ?_;intro A13 c13 wX o13 hg13;have oF:=dF.app (by decide) (u1.below Bw) u2 (fun k u x a b=>(u3 k u x a b).below Bw) p2 (fun k u x a b=>(p3 k u x a b).mono hB12) o13 hg13;have BF:=Below.app (B7.tr Bw) (u1.below Bw) (le_refl _) hg13;have bXF:=(bX7.bl Bw).grown hg13 (fun e=>(u1.below Bw).apart (bX7.bl Bw) (by decide) e.symm);have bNF:=(bN7.bl Bw).grown hg13 (fun e=>(u1.below Bw).apart (bN7.bl Bw) (by decide) e.symm);have oCF:=aC.kJ (oC7.below Bw) (u1.below Bw) (by decide) hg13;have zF:=bXF.c1;have e_0:=bNF.cell 0;have e_1:=bNF.cell 1;have e_2:=bNF.cell 2;simp only[getElem?_toArray,getElem?_cons_zero,getElem?_cons_succ]at e_0 e_1 e_2;rw[u2,p2]at oF⊢)
            refine tK hK fun hHeld=>?_
            clear hK K;refine(tW 14)<|tD ?_
            rotate_left 1
            refine tL fun K hK=>?_
            (go_simp;obtain⟨wX,g9,hwX,hg9,b9,hbX⟩:=Fw Bw 60 #[.int .i64 x,.int .i64 y,.bool false];(first|(rw[<-hwX,<-hg9])|(have hwY:(W5.alloc (.cells #[.int .i64 x,.int .i64 y,.bool false] 60)).drew=wX:=hwX.symm;have hgY:W5.heap.size=g9:=hg9.symm;rw[hwY,hgY];clear hwY hgY));clear hwX hg9;(try replace b5:=b5.bl hbX);(try replace own6:=own6.below hbX);obtain⟨hcX,hfX,hzX⟩:=bkn hbX W5.heap.size hz;have hz:=hzX;have Bw:=Bw.tr hbX)
            refine tK hK fun hHeld=>?_
            clear hK K;refine(tR [2])<|tL fun K hK=>?_
            (refine fV aI rfl rfl ?_;intro g5 wX b5 hbX hg5a hg5b hgz;have hg5:W5.heap.size<=g5:=(by omega);(try replace b9:=b9.bl hbX);obtain⟨hcX,hfX,hzX⟩:=bkn hbX W5.heap.size hz;have hz:=hzX;have Bw:=Bw.tr hbX)
            refine tK hK fun hHeld=>?_
            clear hK K;refine(tR [4])<|tL fun K hK=>?_
            (refine iC aI aB aM b5 hg5 (hu.Oz (B7.tr Bw)) H8.out HM.out rfl _ _ rfl rfl rfl ?_;intro A6 c6 wX own6 hbX hown6 hgz;(try replace b9:=b9.bl hbX);obtain⟨hcX,hfX,hzX⟩:=bkn hbX W5.heap.size hz;have hz:=hzX;have Bw:=Bw.tr hbX)
            refine tK hK fun hHeld=>?_
            clear hK K;refine(tR [7])<|tL fun K hK=>?_
            (refine jK aI aB hz own6 (((x:Int),(y:Int),false):Dm) (aM _) b9 H8b.out HMb.out rfl _ _ rfl rfl rfl ?_;intro A10 c10 wX own10 hg10;have Bw:=Bw.grown hg10 hz (fun k hk=>(World.ownsRow.lt own6 k hk).1);obtain⟨hcX,hfX,hzX⟩:=bk Bw;have hz:=hzX)
            refine tK hK fun hHeld=>?_
            clear hK K;refine(tR [12])<|tL fun K hK=>?_
            (go_simp;go_at_call 221;go_must (refine(HIn.out _ _ _ (h.Oz (B7.tr Bw)) (own10.rd aB (by decide))).mono ?_;rintro e wX ⟨A12,c12,rfl,oR,hbX⟩;obtain⟨us2,p1,p2,p3⟩:=oR;have hB12:=(B7.tr Bw).size;rw[<-p2]at p1⊢;obtain⟨hcX,hfX,hzX⟩:=bkn hbX W5.heap.size hz;have hz:=hzX;have Bw:=Bw.tr hbX))
            refine tK hK fun hHeld=>?_
            clear hK K;refine(tR [13])<|tL fun K hK=>?_
            (refine nK mW (B7.tr Bw).size (u1.below Bw) (p1.rd zG (by decide)) (nL p2 p3) (by rw[u2,p2];have:=H300.out;omega) (by rw[u2,p2];unfold maxLen;have:=H300.out;omega) rfl _ _ rfl rfl rfl ?_;intro A13 c13 wX o13 hg13;have oF:=dF.app (by decide) (u1.below Bw) u2 (fun k u x a b=>(u3 k u x a b).below Bw) p2 (fun k u x a b=>(p3 k u x a b).mono hB12) o13 hg13;have BF:=Below.app (B7.tr Bw) (u1.below Bw) (le_refl _) hg13;have bXF:=(bX7.bl Bw).grown hg13 (fun e=>(u1.below Bw).apart (bX7.bl Bw) (by decide) e.symm);have bNF:=(bN7.bl Bw).grown hg13 (fun e=>(u1.below Bw).apart (bN7.bl Bw) (by decide) e.symm);have oCF:=aC.kJ (oC7.below Bw) (u1.below Bw) (by decide) hg13;have zF:=bXF.c1;have e_0:=bNF.cell 0;have e_1:=bNF.cell 1;have e_2:=bNF.cell 2;simp only[getElem?_toArray,getElem?_cons_zero,getElem?_cons_succ]at e_0 e_1 e_2;rw[u2,p2]at oF⊢)
            refine tK hK fun hHeld=>?_
            clear hK K;refine(tW 14)<|tD ?_
            all_goals
              go_wp2;go_roundw
              case rel=>exact⟨_,ls1++R1,A13,c13,by go_num,by rw[length_append],by rw[length_append];exact oF,oCF,BF,bXF,OA (by first|exact .inr (.inl ⟨rfl,Ho.out⟩)|exact .inr (.inr ⟨rfl,Ho.out⟩))⟩
              case measure=>simp[intOf]
          . have hge : decide ((0 : Int) <= D) = true := decide_eq_true (by omega);have hge2:(0:Int)<=D:=(by omega);have hR:R1=[]:=by rw[HR1.out];exact uZ (by rw[Hfit.out,decide_eq_false hneg];rfl)
            subst hR;go_wp2;go_roundw
            case rel=>exact⟨_,ls1,_,_,by go_num,rfl,oL7,oC7,B7,bX7,OA (by first|exact .inr (.inl ⟨rfl,by have:=Ho.out;rwa [append_nil]at this⟩)|exact .inr (.inr ⟨rfl,by have:=Ho.out;rwa [append_nil]at this⟩))⟩
            case measure=>simp[intOf]
    . have Ho : Hid (ls1 ++ R2 = R1 ++ R2) := OA (by rw [ho]);have HLs:Hid ((ls1.length:Int)+R2.length<=most):=OA (by rw[ho];have:=Hfl.out;have:=HT.out;omega);by_cases hlm:(ls1.length:Int)<most
      . have hltB:decide ((ls1.length:Int)<most)=true:=decide_eq_true hlm;clear HJ ho;obtain⟨W,hW⟩:=Oy wr;rw[<-hW]at oL2 oC2 B2 bX2⊢;clear hW;have q1:=oC2.slot dS (by decide) hcp 0 (.int .i64 x) (by rw[Hce.out];rfl);have q2:=oC2.slot dS (by decide) hcp 1 (.int .i64 y) (by rw[Hce.out];rfl);rw[zero_mul,Nat.add_zero]at q1;rw[zero_mul,zero_add]at q2;have hgC2:=oC2.at_.2.2;have Bw:Below W.heap.size W W.drew:=(Below.refl _ _).drew;have hz:W.heap.size<=W.drew.heap.size:=(by simp);obtain⟨sx,sy,hsec⟩:∃sx sy,sec ((x:Int),(y:Int),true)=(sx,sy):=⟨_,_,rfl⟩;have Hsec:=OA hsec;clear hsec;go_wp2_with fail
        refine rB (fun w'=>w'.cell? ⟨gC,0,none⟩=some (.int .i64 x)/\w'.cell? ⟨gC,1,none⟩=some (.int .i64 y)) fun hHeld=>(tW 0)<|(tW 1)<|(tW 2)<|(tW 3)<|(tW 4)<|(tW 5)<|(tW 6)<|(tW 7)<|(tW 8)<|(tW 9)<|(tW 10)<|(tR [11])<|tL fun K hK=>?_
        (refine lU rfl 60 _ rfl Tryz.zeroValue60 ?_;intro gN wX bN hbX hgN1 hgN2 hgN3;have hgN:W.heap.size<=gN:=(by omega);obtain⟨hcX,hfX,hzX⟩:=bkn hbX W.heap.size hz;replace hz:=hzX;replace Bw:=Bw.tr hbX)
        refine tK hK fun hHeld=>?_
        clear hK K;refine(tR [12])<|tL fun K hK=>?_
        (refine aJ rfl 60 _ _ rfl gN #[.int .i64 x,.int .i64 y,.bool true] rfl rfl _ _ bN (by kernel_rfl) rfl (by simp[Value.oneCell']) ?_;intro wX bNX hgX;replace Bw:=Bw.grown hgX hz (fun k hk=>by injection hk with hk;subst hk;omega);obtain⟨hcX,hfX,hzX⟩:=bk Bw)
        refine tK hK fun hHeld=>?_
        clear hK K;refine tD ?_;clear hcX hfX;obtain⟨V,hV⟩:=Oy wX;rw[<-hV]at Bw bNX⊢;clear hV hz;have oL3:=oL2.below Bw;have oC3:=oC2.below Bw;have B3:=B2.tr Bw;have bX3:=bX2.bl Bw;clear oL2 oC2 B2 bX2 q1 q2 Bw hgX hHeld;obtain⟨d_0,d_1,d_2⟩:=bNX.n3;go_wp2_with fail
        refine(vJ x y true sx sy Hsec _).mono ?_;rintro e w2 ⟨rfl,hb2⟩;have oL4:=(oL3.below hb2).alloc (.cells #[.int .i64 sx,.int .i64 sy] 70);have oC4:=(oC3.below hb2).alloc (.cells #[.int .i64 sx,.int .i64 sy] 70);have B4:=(B3.tr hb2).al (.cells #[.int .i64 sx,.int .i64 sy] 70);have bX4:=(bX3.bl hb2).alloc (.cells #[.int .i64 sx,.int .i64 sy] 70);have bN4:=(bNX.bl hb2).alloc (.cells #[.int .i64 sx,.int .i64 sy] 70);have bY4:=Blk.bK w2 70 #[.int .i64 sx,.int .i64 sy];have hNl:=(bNX.bl hb2).lt;have hXl:=(bX3.bl hb2).lt;clear oL3 oC3 B3 bX3 d_0 d_1 d_2;obtain⟨d_0,d_1,d_2⟩:=(bNX.bl hb2).n3;go_upto_region 10 with(fail)
        obtain⟨W4,hW4⟩:=Oy (w2.alloc (.cells #[.int .i64 sx,.int .i64 sy] 70));obtain⟨gY,hgY⟩:=Oy w2.heap.size;rw[<-hW4]at oL4 oC4 B4 bX4 bN4 bY4⊢;rw[<-hgY]at bY4⊢;clear hW4 hgY bNX hb2 d_0 d_1 d_2 hNl hXl;obtain⟨d_0,d_1,d_2⟩:=bN4.n3;rcases hok:aH ((x:Int),(y:Int),true)with _|_
        . have hR : R2 = [] := by rw [HR2.out]; exact uZ (Gn hok)
          have CD:∀w,Calls prog 158 #[.agg #[.int .i64 x,.int .i64 y,.bool true]] w (Ret (.bool false) w):=fun w=>by have:=bM x y true w;rw[hok]at this;exact this
          clear hok;go_wp2_with fail
          refine(CD _).mono ?_;rintro e w3 ⟨rfl,hb3⟩;subst hR;go_wp2;go_roundw
          case rel=>exact⟨_,ls1,_,_,by go_num,rfl,oL4.below hb3,oC4.below hb3,B4.tr hb3,bX4.bl hb3,OA (by first|exact .inr (.inl ⟨rfl,by have:=Ho.out;rwa [append_nil]at this⟩)|exact .inr (.inr ⟨rfl,by have:=Ho.out;rwa [append_nil]at this⟩))⟩
          case measure=>simp[intOf]
        . have CD : ∀ w, Calls prog 158 #[.agg #[.int .i64 x, .int .i64 y, .bool true]] w (Ret (.bool true) w) := fun w => by have := bM x y true w; rw [hok] at this; exact this
          have hI:=HI2.out hok;have hcs2:=(dC hok).2;rw[Hsec.out]at hcs2;have hbI:(lW rows head).testBit (dM ((x:Int),(y:Int),true))=true:=by rw[<-Hse.out,hI];exact Hl.out.2.1
          have hfit:=zL Hrr.out head hok hbI;rw[<-Hse.out,Hsec.out]at hfit;obtain⟨q,hq⟩:=Oy (jF rows (sx,sy));obtain⟨D,hD⟩:=Oy (pO head (sx,sy));have CH:∀(w':World),Below w.heap.size w w'->Calls prog 161 #[.agg #[.slice A rows.length c],.agg #[.int .i64 sx,.int .i64 sy]] w' (Ret (.bool q) w'):=fun w' hb=>by rw[hq];exact nE _ rows sx sy w' (h.Oz hb) hcs2
          have CA:∀(w':World),Below w.heap.size w w'->Calls prog 213 #[.slice Ah head.length ch,.agg #[.int .i64 sx,.int .i64 sy]] w' (Ret (.int .i64 D) w'):=fun w' hb=>by rw[hD];exact vM _ head sx sy w' (hu.Oz hb)
          rw[<-hq,<-hD]at hfit;have Hok:=OA hok;have Hfit:=OA hfit;have HIx:=OA hI;clear hok hI hcs2 hbI hfit hq hD;go_wp2_with fail
          refine(CD _).mono ?_;rintro e w3 ⟨rfl,hb3⟩;have oL5:=oL4.below hb3;have oC5:=oC4.below hb3;have B5:=B4.tr hb3;have bX5:=bX4.bl hb3;have bN5:=bN4.bl hb3;have bY5:=bY4.bl hb3;clear oL4 oC4 B4 bX4 bN4 bY4 hb3 d_0 d_1 d_2;have z_0:=bX5.c1;obtain⟨y_0,y_1⟩:=bY5.n2;go_wp2_with fail
          refine(CH _ B5).mono ?_;rintro e w4 ⟨rfl,hb4⟩;have oL6:=oL5.below hb4;have oC6:=oC5.below hb4;have B6:=B5.tr hb4;have bX6:=bX5.bl hb4;have bN6:=bN5.bl hb4;have bY6:=bY5.bl hb4;clear oL5 oC5 B5 bX5 bN5 bY5 hb4 z_0 y_0 y_1;cases q
          . have hR : R2 = [] := by rw [HR2.out]; exact uZ (by rw [Hfit.out]; rfl)
            subst hR;go_wp2;go_roundw
            case rel=>exact⟨_,ls1,_,_,by go_num,rfl,oL6,oC6,B6,bX6,OA (by first|exact .inr (.inl ⟨rfl,by have:=Ho.out;rwa [append_nil]at this⟩)|exact .inr (.inr ⟨rfl,by have:=Ho.out;rwa [append_nil]at this⟩))⟩
            case measure=>simp[intOf]
          . skip;obtain⟨y_0,y_1⟩:=bY6.n2;go_wp2_with fail
            refine(CA _ B6).mono ?_;rintro e w5 ⟨rfl,hb5⟩;have oL7:=oL6.below hb5;have oC7:=oC6.below hb5;have B7:=B6.tr hb5;have bX7:=bX6.bl hb5;have bN7:=bN6.bl hb5;clear oL6 oC6 B6 bX6 bN6 bY6 hb5 y_0 y_1;by_cases hneg:D<0
            . have hge : decide ((0 : Int) <= D) = false := decide_eq_false (by omega);have hge2:¬(0:Int)<=D:=(by omega);have hft:eT s ((x:Int),(y:Int),true)=true:=by rw[Hfit.out,decide_eq_true hneg];rfl
              have hR:R2=dO (dN s (aK ((x:Int),(y:Int),true))) (head++[((x:Int),(y:Int),true)]):=(by rw[HR2.out,Gq hft]);have hfs:=zH Hrr.out head Hok.out;rw[<-Hse.out]at hfs;rw[<-hfs]at hR;have hlow2:=xB (j:=j) hs Hl.out Hok.out HIx.out;rw[<-hfs]at hlow2;have hRl:=congrArg length hR;rw[qG]at hRl;have hwr:IntKind.i64.wrap (most-(ls1.length:Int))=most-(ls1.length:Int):=IntWalk.i64_in _ (by omega);have IHn:=fun(v u:Value) (w:World) (k1:Rd 1 bH w v rows) (k2:Rd 3 aU w u (head++[((x:Int),(y:Int),true)]))=>HIH.out (i+1) (by omega) (by omega) (head++[((x:Int),(y:Int),true)]) (most-(ls1.length:Int)) v u w k1 k2 hlow2 (by rw[length_append,List.length_singleton];omega) (by have:=HLs.out;omega) (by omega) (by omega)
              rw[<-hR]at IHn;have HIn:=OA IHn;have H8:Hid (head.length*24<=140737488355328):=OA (by omega);have HM:Hid (head.length<=maxLen):=OA (by unfold maxLen;omega);have H8b:Hid ((head.length+1)*24<=140737488355328):=OA (by omega);have HMb:Hid (head.length+1<=maxLen):=OA (by unfold maxLen;omega);have H300:Hid (ls1.length+R2.length<=300):=OA (by have:=HLs.out;omega);clear hft hR hfs hlow2 hRl IHn;go_upto_region 11 with(fail)
              obtain⟨W5,hW5⟩:=Oy w5;rw[<-hW5]at oL7 oC7 B7 bX7 bN7⊢;clear hW5;have z_0:=bX7.c1;obtain⟨d_0,d_1,d_2⟩:=bN7.n3;have hNl:=bN7.lt;have hXl:=bX7.lt;obtain⟨us,u1,u2,u3⟩:=oL7;have Bw:Below W5.heap.size W5 W5.drew:=(Below.refl _ _).drew;have hz:W5.heap.size<=W5.drew.heap.size:=(by simp);refine rB (fun w'=>w'.cell? ⟨w.heap.size,0,none⟩=some (.slice A rows.length c)/\w'.cell? ⟨gN,0,none⟩=some (.int .i64 x)/\w'.cell? ⟨gN,1,none⟩=some (.int .i64 y)/\w'.cell? ⟨gN,2,none⟩=some (.bool true)) fun hHeld=>(tW 0)<|(tW 1)<|(tW 3)<|(tW 5)<|(tW 8)<|(tW 9)<|(tW 10)<|(tW 11)<|(tR [2,6])<|tC (fun K hK=>?_) ?_
              (refine fV aI rfl rfl ?_;intro g5 wX b5 hbX hg5a hg5b hgz;have hg5:W5.heap.size<=g5:=(by omega);(try replace b9:=b9.bl hbX);obtain⟨hcX,hfX,hzX⟩:=bkn hbX W5.heap.size hz;have hz:=hzX;have Bw:=Bw.tr hbX)
              refine tK hK fun hHeld=>?_
              clear hK K;refine(tR [4,6])<|tC (fun K hK=>?_) ?_;(refine iC aI aB aM b5 hg5 (hu.Oz (B7.tr Bw)) H8.out HM.out rfl _ _ rfl rfl rfl ?_;intro A6 c6 wX own6 hbX hown6 hgz;(try replace b9:=b9.bl hbX);obtain⟨hcX,hfX,hzX⟩:=bkn hbX W5.heap.size hz;have hz:=hzX;have Bw:=Bw.tr hbX)
              refine tK hK fun hHeld=>?_
              clear hK K;refine(tR [6])<|tL fun K hK=>?_
              (go_simp;obtain⟨wX,g9,hwX,hg9,b9,hbX⟩:=Fw Bw 60 #[.int .i64 x,.int .i64 y,.bool true];(first|(rw[<-hwX,<-hg9])|(have hwY:(W5.alloc (.cells #[.int .i64 x,.int .i64 y,.bool true] 60)).drew=wX:=hwX.symm;have hgY:W5.heap.size=g9:=hg9.symm;rw[hwY,hgY];clear hwY hgY));clear hwX hg9;(try replace b5:=b5.bl hbX);(try replace own6:=own6.below hbX);obtain⟨hcX,hfX,hzX⟩:=bkn hbX W5.heap.size hz;have hz:=hzX;have Bw:=Bw.tr hbX)
              refine tK hK fun hHeld=>?_
              clear hK K;refine(tR [7])<|tL fun K hK=>?_
              (refine jK aI aB hz own6 (((x:Int),(y:Int),true):Dm) (aM _) b9 H8b.out HMb.out rfl _ _ rfl rfl rfl ?_;intro A10 c10 wX own10 hg10;have Bw:=Bw.grown hg10 hz (fun k hk=>(World.ownsRow.lt own6 k hk).1);obtain⟨hcX,hfX,hzX⟩:=bk Bw;have hz:=hzX)
              refine tK hK fun hHeld=>?_
              clear hK K;refine(tR [12])<|tL fun K hK=>?_
              (go_simp;go_at_call 221;go_must (refine(HIn.out _ _ _ (h.Oz (B7.tr Bw)) (own10.rd aB (by decide))).mono ?_;rintro e wX ⟨A12,c12,rfl,oR,hbX⟩;obtain⟨us2,p1,p2,p3⟩:=oR;have hB12:=(B7.tr Bw).size;rw[<-p2]at p1⊢;obtain⟨hcX,hfX,hzX⟩:=bkn hbX W5.heap.size hz;have hz:=hzX;have Bw:=Bw.tr hbX))
              refine tK hK fun hHeld=>?_
              clear hK K;refine(tR [13])<|tL fun K hK=>?_
              (refine nK mW (B7.tr Bw).size (u1.below Bw) (p1.rd zG (by decide)) (nL p2 p3) (by rw[u2,p2];have:=H300.out;omega) (by rw[u2,p2];unfold maxLen;have:=H300.out;omega) rfl _ _ rfl rfl rfl ?_;intro A13 c13 wX o13 hg13;have oF:=dF.app (by decide) (u1.below Bw) u2 (fun k u x a b=>(u3 k u x a b).below Bw) p2 (fun k u x a b=>(p3 k u x a b).mono hB12) o13 hg13;have BF:=Below.app (B7.tr Bw) (u1.below Bw) (le_refl _) hg13;have bXF:=(bX7.bl Bw).grown hg13 (fun e=>(u1.below Bw).apart (bX7.bl Bw) (by decide) e.symm);have bNF:=(bN7.bl Bw).grown hg13 (fun e=>(u1.below Bw).apart (bN7.bl Bw) (by decide) e.symm);have oCF:=aC.kJ (oC7.below Bw) (u1.below Bw) (by decide) hg13;have zF:=bXF.c1;have e_0:=bNF.cell 0;have e_1:=bNF.cell 1;have e_2:=bNF.cell 2;simp only[getElem?_toArray,getElem?_cons_zero,getElem?_cons_succ]at e_0 e_1 e_2;rw[u2,p2]at oF⊢)
              refine tK hK fun hHeld=>?_
              clear hK K;refine(tW 14)<|tD ?_
              rotate_left 1
              refine tL fun K hK=>?_
              (go_simp;obtain⟨wX,g9,hwX,hg9,b9,hbX⟩:=Fw Bw 60 #[.int .i64 x,.int .i64 y,.bool true];(first|(rw[<-hwX,<-hg9])|(have hwY:(W5.alloc (.cells #[.int .i64 x,.int .i64 y,.bool true] 60)).drew=wX:=hwX.symm;have hgY:W5.heap.size=g9:=hg9.symm;rw[hwY,hgY];clear hwY hgY));clear hwX hg9;(try replace b5:=b5.bl hbX);(try replace own6:=own6.below hbX);obtain⟨hcX,hfX,hzX⟩:=bkn hbX W5.heap.size hz;have hz:=hzX;have Bw:=Bw.tr hbX)
              refine tK hK fun hHeld=>?_
              clear hK K;refine(tR [4])<|tL fun K hK=>?_
              (refine iC aI aB aM b5 hg5 (hu.Oz (B7.tr Bw)) H8.out HM.out rfl _ _ rfl rfl rfl ?_;intro A6 c6 wX own6 hbX hown6 hgz;(try replace b9:=b9.bl hbX);obtain⟨hcX,hfX,hzX⟩:=bkn hbX W5.heap.size hz;have hz:=hzX;have Bw:=Bw.tr hbX)
              refine tK hK fun hHeld=>?_
              clear hK K;refine(tR [7])<|tL fun K hK=>?_
              (refine jK aI aB hz own6 (((x:Int),(y:Int),true):Dm) (aM _) b9 H8b.out HMb.out rfl _ _ rfl rfl rfl ?_;intro A10 c10 wX own10 hg10;have Bw:=Bw.grown hg10 hz (fun k hk=>(World.ownsRow.lt own6 k hk).1);obtain⟨hcX,hfX,hzX⟩:=bk Bw;have hz:=hzX)
              refine tK hK fun hHeld=>?_
              clear hK K;refine(tR [12])<|tL fun K hK=>?_
              (go_simp;go_at_call 221;go_must (refine(HIn.out _ _ _ (h.Oz (B7.tr Bw)) (own10.rd aB (by decide))).mono ?_;rintro e wX ⟨A12,c12,rfl,oR,hbX⟩;obtain⟨us2,p1,p2,p3⟩:=oR;have hB12:=(B7.tr Bw).size;rw[<-p2]at p1⊢;obtain⟨hcX,hfX,hzX⟩:=bkn hbX W5.heap.size hz;have hz:=hzX;have Bw:=Bw.tr hbX))
              refine tK hK fun hHeld=>?_
              clear hK K;refine(tR [13])<|tL fun K hK=>?_
              (refine nK mW (B7.tr Bw).size (u1.below Bw) (p1.rd zG (by decide)) (nL p2 p3) (by rw[u2,p2];have:=H300.out;omega) (by rw[u2,p2];unfold maxLen;have:=H300.out;omega) rfl _ _ rfl rfl rfl ?_;intro A13 c13 wX o13 hg13;have oF:=dF.app (by decide) (u1.below Bw) u2 (fun k u x a b=>(u3 k u x a b).below Bw) p2 (fun k u x a b=>(p3 k u x a b).mono hB12) o13 hg13;have BF:=Below.app (B7.tr Bw) (u1.below Bw) (le_refl _) hg13;have bXF:=(bX7.bl Bw).grown hg13 (fun e=>(u1.below Bw).apart (bX7.bl Bw) (by decide) e.symm);have bNF:=(bN7.bl Bw).grown hg13 (fun e=>(u1.below Bw).apart (bN7.bl Bw) (by decide) e.symm);have oCF:=aC.kJ (oC7.below Bw) (u1.below Bw) (by decide) hg13;have zF:=bXF.c1;have e_0:=bNF.cell 0;have e_1:=bNF.cell 1;have e_2:=bNF.cell 2;simp only[getElem?_toArray,getElem?_cons_zero,getElem?_cons_succ]at e_0 e_1 e_2;rw[u2,p2]at oF⊢)
              refine tK hK fun hHeld=>?_
              clear hK K;refine(tW 14)<|tD ?_
              rotate_left 1
              refine tL fun K hK=>?_
              (go_simp;obtain⟨wX,g9,hwX,hg9,b9,hbX⟩:=Fw Bw 60 #[.int .i64 x,.int .i64 y,.bool true];(first|(rw[<-hwX,<-hg9])|(have hwY:(W5.alloc (.cells #[.int .i64 x,.int .i64 y,.bool true] 60)).drew=wX:=hwX.symm;have hgY:W5.heap.size=g9:=hg9.symm;rw[hwY,hgY];clear hwY hgY));clear hwX hg9;(try replace b5:=b5.bl hbX);(try replace own6:=own6.below hbX);obtain⟨hcX,hfX,hzX⟩:=bkn hbX W5.heap.size hz;have hz:=hzX;have Bw:=Bw.tr hbX)
              refine tK hK fun hHeld=>?_
              clear hK K;refine(tR [2])<|tL fun K hK=>?_
              (refine fV aI rfl rfl ?_;intro g5 wX b5 hbX hg5a hg5b hgz;have hg5:W5.heap.size<=g5:=(by omega);(try replace b9:=b9.bl hbX);obtain⟨hcX,hfX,hzX⟩:=bkn hbX W5.heap.size hz;have hz:=hzX;have Bw:=Bw.tr hbX)
              refine tK hK fun hHeld=>?_
              clear hK K;refine(tR [4])<|tL fun K hK=>?_
              (refine iC aI aB aM b5 hg5 (hu.Oz (B7.tr Bw)) H8.out HM.out rfl _ _ rfl rfl rfl ?_;intro A6 c6 wX own6 hbX hown6 hgz;(try replace b9:=b9.bl hbX);obtain⟨hcX,hfX,hzX⟩:=bkn hbX W5.heap.size hz;have hz:=hzX;have Bw:=Bw.tr hbX)
              refine tK hK fun hHeld=>?_
              clear hK K;refine(tR [7])<|tL fun K hK=>?_
              (refine jK aI aB hz own6 (((x:Int),(y:Int),true):Dm) (aM _) b9 H8b.out HMb.out rfl _ _ rfl rfl rfl ?_;intro A10 c10 wX own10 hg10;have Bw:=Bw.grown hg10 hz (fun k hk=>(World.ownsRow.lt own6 k hk).1);obtain⟨hcX,hfX,hzX⟩:=bk Bw;have hz:=hzX)
              refine tK hK fun hHeld=>?_
              clear hK K;refine(tR [12])<|tL fun K hK=>?_
              (go_simp;go_at_call 221;go_must (refine(HIn.out _ _ _ (h.Oz (B7.tr Bw)) (own10.rd aB (by decide))).mono ?_;rintro e wX ⟨A12,c12,rfl,oR,hbX⟩;obtain⟨us2,p1,p2,p3⟩:=oR;have hB12:=(B7.tr Bw).size;rw[<-p2]at p1⊢;obtain⟨hcX,hfX,hzX⟩:=bkn hbX W5.heap.size hz;have hz:=hzX;have Bw:=Bw.tr hbX))
              refine tK hK fun hHeld=>?_
              clear hK K;refine(tR [13])<|tL fun K hK=>?_
              (refine nK mW (B7.tr Bw).size (u1.below Bw) (p1.rd zG (by decide)) (nL p2 p3) (by rw[u2,p2];have:=H300.out;omega) (by rw[u2,p2];unfold maxLen;have:=H300.out;omega) rfl _ _ rfl rfl rfl ?_;intro A13 c13 wX o13 hg13;have oF:=dF.app (by decide) (u1.below Bw) u2 (fun k u x a b=>(u3 k u x a b).below Bw) p2 (fun k u x a b=>(p3 k u x a b).mono hB12) o13 hg13;have BF:=Below.app (B7.tr Bw) (u1.below Bw) (le_refl _) hg13;have bXF:=(bX7.bl Bw).grown hg13 (fun e=>(u1.below Bw).apart (bX7.bl Bw) (by decide) e.symm);have bNF:=(bN7.bl Bw).grown hg13 (fun e=>(u1.below Bw).apart (bN7.bl Bw) (by decide) e.symm);have oCF:=aC.kJ (oC7.below Bw) (u1.below Bw) (by decide) hg13;have zF:=bXF.c1;have e_0:=bNF.cell 0;have e_1:=bNF.cell 1;have e_2:=bNF.cell 2;simp only[getElem?_toArray,getElem?_cons_zero,getElem?_cons_succ]at e_0 e_1 e_2;rw[u2,p2]at oF⊢)
              refine tK hK fun hHeld=>?_
              clear hK K;refine(tW 14)<|tD ?_
              all_goals
                go_wp2;go_roundw
                case rel=>exact⟨_,ls1++R2,A13,c13,by go_num,by rw[length_append],by rw[length_append];exact oF,oCF,BF,bXF,OA (by first|exact .inr (.inl ⟨rfl,Ho.out⟩)|exact .inr (.inr ⟨rfl,Ho.out⟩))⟩
                case measure=>simp[intOf]
            . have hge : decide ((0 : Int) <= D) = true := decide_eq_true (by omega);have hge2:(0:Int)<=D:=(by omega);have hR:R2=[]:=by rw[HR2.out];exact uZ (by rw[Hfit.out,decide_eq_false hneg];rfl)
              subst hR;go_wp2;go_roundw
              case rel=>exact⟨_,ls1,_,_,by go_num,rfl,oL7,oC7,B7,bX7,OA (by first|exact .inr (.inl ⟨rfl,by have:=Ho.out;rwa [append_nil]at this⟩)|exact .inr (.inr ⟨rfl,by have:=Ho.out;rwa [append_nil]at this⟩))⟩
              case measure=>simp[intOf]
      . have hltB:decide ((ls1.length:Int)<most)=false:=decide_eq_false hlm;have hR:R2=[]:=List.eq_nil_of_length_eq_zero (by have:=HLs.out;omega);obtain rfl:ls1=R1:=ho;subst hR;clear HJ Ho;go_wp2;go_ret;first|exact⟨A7,c7,rfl,oL2,B2⟩|exact⟨A7,c7,by rw[append_nil],by rw[append_nil];exact oL2,B2⟩
    . obtain rfl:ls1=R1++R2:=ho;clear HJ;go_wp2;go_ret;exact⟨A7,c7,rfl,oL2,B2⟩
theorem Im {rows:List Int} (hr:dJ rows):∀j,j<=64->Fx rows j:=by
 have key:∀n j,j<=64->64-j<=n->Fx rows j:=by
  intro n;induction n with
  |zero=>intro j h1 h2;exact Bt hr h1 (fun j' a b=>by omega)
  |succ n ih=>intro j h1 h2;exact Bt hr h1 (fun j' a b=>ih j' b (by omega))
 exact fun j hj=>key (64-j) j hj (le_refl _)
theorem rA (v:Value) (rows:List Int) (w:World) (h:Rd 1 bH w v rows):Calls prog 198 #[.agg #[v]] w (Bo (aF rows) w):=by
 obtain⟨A,c,rfl,hc,hm⟩:=h.form;have hA:=(Below.refl w.heap.size w).al (.cells #[.slice A rows.length c] 26);have bX:=Blk.bK w 26 #[.slice A rows.length c];have hlen:=xC rows;obtain⟨R,hR⟩:=Oy (aF rows);rw[<-hR]at hlen⊢;unfold aF at hR;obtain⟨n,hn⟩:=Oy (bG rows);have C:∀(u:Value) (w:World),Rd 1 bH w u rows->Calls prog 217 #[.agg #[u]] w (Ret (.int .i64 n) w):=fun u w k1=>by rw[hn];exact tH u rows w k1
 obtain⟨i,hi⟩:=Oy (inB n 1 300);have CI:∀(w:World),Calls prog 73 #[.int .i64 n,.int .i64 1,.int .i64 300] w (Pure (.bool i) w):=fun w=>by rw[hi];exact iI n 1 300 w
 rw[<-hn,<-hi]at hR;cases i
 . obtain rfl : R = [] := by rw [hR]; rfl
   clear hR hi hn hlen;go_enter func198,ntmps198
   go_wp2_with fail
   refine(C _ _ (h.Oz hA)).mono ?_;rintro e w1 ⟨rfl,hb1⟩;go_wp2_with (go_at_call 73;(with_reducible refine(CI _).mono ?_);rintro e w' ⟨rfl,rfl⟩)
   go_ret;exact⟨_,_,rfl,⟨[],(fB w1 (E:=27) (size:=1) (enc:=eV)).mono (hA.tr hb1).size,rfl,fun k u x hx=>by simp at hx⟩,(hA.tr hb1).al _⟩
 . obtain rfl : R = gV (setOf rows) := by rw [hR]; rfl
   have hr:aZ rows=true:=by
    rcases q:aZ rows with _|_
    . have h1 : 1 <= n /\ n <= 300 := by simpa [inB] using hi.symm
      exact absurd (show bG rows=0 by unfold bG;rw[q];rfl) (by omega)
    . rfl
   have hok:=aN.1 hr;have h1:1<=n/\n<=300:=(by simpa[inB]using hi.symm);have CL:=fun(a b:Value) (w:World) (k1:Rd 1 bH w a rows) (k2:Rd 3 aU w b [])=>Im hok 0 (by decide) [] 300 a b w k1 k2 (fun k hk=>absurd hk (Nat.not_lt_zero k)) (by simp) (by rw[Bn hok];omega) (by decide) (by decide)
   rw[Bn hok,Gl]at CL;obtain⟨T,hT⟩:=Oy (gV (setOf rows));rw[<-hT]at CL⊢;clear hR hi hn hr hT hlen hok h1;go_enter func198,ntmps198
   go_wp2_with fail
   refine(C _ _ (h.Oz hA)).mono ?_;rintro e w1 ⟨rfl,hb1⟩;have B1:=(hA.tr hb1).al (.cells #[] 60);have z0:=(bX.bl hb1).c1;have hl:=(bX.bl hb1).lt;have rE:=(fB w1 (E:=60) (size:=3) (enc:=aT)).rd aB (by decide);go_wp2_with (first|(go_at_call 73;(with_reducible refine(CI _).mono ?_);rintro e w' ⟨rfl,rfl⟩)|(go_at_call 221;go_must (refine(CL _ _ _ (h.Oz B1) rE).mono ?_;rintro e w3 ⟨A3,c3,rfl,oL,hb3⟩)))
   go_ret;have hw:=B1.size;obtain⟨us,p1,p2,p3⟩:=oL;exact⟨A3,c3,rfl,⟨us,p1.mono hw,p2,fun k u x a b=>(p3 k u x a b).mono hw⟩,B1.tr hb3⟩
end Go.Proofs.YtljfoohaapckeaaGreatDoor
