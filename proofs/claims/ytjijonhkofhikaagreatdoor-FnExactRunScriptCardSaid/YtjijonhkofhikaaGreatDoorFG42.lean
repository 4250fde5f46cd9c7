import Derived.Test.YtjijonhkofhikaaGreatDoorFG40
import Derived.Test.YtjijonhkofhikaaGreatDoorFFirstS
set_option linter.unusedVariables false
set_option linter.unusedSimpArgs false
set_option maxHeartbeats 4000000
set_option maxRecDepth 100000
namespace Go.Proofs.YtjijonhkofhikaaGreatDoor
open Go.ChangeShapes Go.WideShapes Go.ChangeAt Go.RowKit
theorem Ql (v:Value) (rows:List Int) (w:World) (h:Rd 1 aZ w v rows) (hl:Small rows.length):Calls Tryz.prog 118 #[.agg #[v]] w (kW (fU rows) (kH rows) w):=by
 obtain⟨A,c,rfl,hc,hm⟩:=h.form;have B0:=((Below.refl w.heap.size w).al (.cells #[.slice A rows.length c] 26)).al (.cells #[.slice none 0 0,.slice none 0 0,.slice none 0 0,.slice none 0 0] 30);have bX:=(Blk.aX w 26 #[.slice A rows.length c]).alloc (.cells #[.slice none 0 0,.slice none 0 0,.slice none 0 0,.slice none 0 0] 30);have bR:=Blk.gI (w.alloc (.cells #[.slice A rows.length c] 26)) 30 #[.slice none 0 0,.slice none 0 0,.slice none 0 0,.slice none 0 0] (w.heap.size+1) (by simp);obtain⟨F,hF⟩:=Ti (dU rows);obtain⟨b,hb⟩:=Ti (kH rows);have bY:F.length<=64:=by rw[hF];exact mK rows
 have bL:Small F.length:=by unfold Small;omega
 have bP:bQ (rows,F,F,[]):=⟨hl,bL,bL,by unfold Small;simp⟩;have CF:∀(u:Value) (w:World),Rd 1 aZ w u rows->Calls Tryz.prog 171 #[.agg #[u]] w (OH F b w):=fun u w k1=>by rw[hF,hb];exact JR u rows w k1
 have bA : b = false -> fU rows = ([], [], [], []) := fun q => by
  rw[hb]at q;unfold kH at q;unfold fU;rw[if_pos (by simpa using q)]
 have bB : b = true -> fU rows = (rows, F, F, []) := fun q => by
  rw[hb]at q;unfold kH at q;unfold fU;rw[if_neg (by simpa using q),<-hF]
 obtain⟨y,hy⟩:=Ti (fU rows);rw[<-hy]at bA bB⊢;rw[<-hb];have bS:=Tk bA;have bU:=Tk bB;clear hF hb bA bB hy;have H0:∀w:World,Rd 2 bT w (.slice none 0 0) ([]:List Cl):=fun w=>(aD.Di (E:=83) (size:=2) (enc:=dM) (B:=0) (w:=w)).rd eB (by decide)
 go_enter Tryz.func118,Tryz.ntmps118
 go_wp2_with fail
 refine(CF _ _ (h.Tj B0)).mono ?_;rintro e w1 ⟨F1,f1,rfl,oF,hb1⟩;have B1:=B0.tr hb1;have bC:=bX.bl hb1;have a7:=bR.bl hb1;have oF:=oF.mono B0.size;obtain⟨gX,bM⟩:=Ti w.heap.size;obtain⟨gR,a6⟩:=Ti (w.heap.size+1);have bN:w.heap.size<=gR:=(by omega);rw[<-a6]at a7⊢;rw[<-bM]at bC⊢;clear bM a6 hb1 B0 bX bR;cases b
 . obtain rfl:([],[],[],[])=y:=(bS.out rfl).symm;go_wp2_with (refine aN rfl 30 _ _ rfl gR #[.slice none 0 0,.slice none 0 0,.slice none 0 0,.slice none 0 0] rfl rfl _ _ a7 (by kernel_rfl) rfl (by simp[Value.oneCell']) ?_;intro wE bE a8)
   have BE:=B1.grown a8 B1.size (fun k hk=>by injection hk with hk;subst hk;exact bN);obtain⟨bD,bF,bJ,bK⟩:=bE.n4;refine bodyPost_ret (v:= .tuple #[.agg #[.slice none 0 0,.slice none 0 0,.slice none 0 0,.slice none 0 0],.bool false]) (by simp[results,Tryz.results118,go_sem,bD,bF,bJ,bK]) rfl ⟨none,0,none,0,none,0,none,0,rfl,qF _ _,BE⟩
 . obtain rfl:(rows,F,F,[])=y:=(bU.out rfl).symm;have z0:=bC.c1;go_wp2_with fail
   refine(lG _ _ _ _ (rows,F,F,[]) _ (h.Tj B1) (oF.rd aC (by decide)) (oF.rd aC (by decide)) (H0 _) bP).mono ?_;rintro e w2 ⟨A1,e1,A2,e2,A3,e3,A4,e4,rfl,oA,hb2⟩;have oA:=oA.mono B1.size;have B2:=B1.tr hb2;have bO:=a7.bl hb2;clear z0 hb2 oF B1 bC a7;go_wp2_with (refine aN rfl 30 _ _ rfl gR #[.slice A1 rows.length e1,.slice A2 F.length e2,.slice A3 F.length e3,.slice A4 0 e4] rfl rfl _ _ bO (by kernel_rfl) rfl (by simp[Value.oneCell']) ?_;intro wE bE a8)
   have oE:=aB.cO oA bO (by decide) (by decide) (by decide) a8;have BE:=B2.grown a8 B2.size (fun k hk=>by injection hk with hk;subst hk;exact bN);obtain⟨bD,bF,bJ,bK⟩:=bE.n4;refine bodyPost_ret (v:= .tuple #[.agg #[.slice A1 rows.length e1,.slice A2 F.length e2,.slice A3 F.length e3,.slice A4 0 e4],.bool true]) (by simp[results,Tryz.results118,go_sem,bD,bF,bJ,bK]) rfl ⟨A1,e1,A2,e2,A3,e3,A4,e4,rfl,oE,BE⟩
end Go.Proofs.YtjijonhkofhikaaGreatDoor
