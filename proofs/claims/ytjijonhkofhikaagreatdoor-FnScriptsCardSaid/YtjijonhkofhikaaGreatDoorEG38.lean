import Derived.Test.YtjijonhkofhikaaGreatDoorEG36
import Derived.Test.YtjijonhkofhikaaGreatDoorEFirstS
set_option linter.unusedVariables false
set_option linter.unusedSimpArgs false
set_option maxHeartbeats 4000000
set_option maxRecDepth 100000
namespace Go.Proofs.YtjijonhkofhikaaGreatDoor
open Go.ChangeShapes Go.WideShapes Go.ChangeAt Go.RowKit
theorem Qs (v:Value) (rows:List Int) (w:World) (h:Rd 1 bG w v rows) (hl:Small rows.length):Calls Tryz.prog 118 #[.agg #[v]] w (nD (eO rows) (jW rows) w):=by
 obtain⟨A,c,rfl,hc,hm⟩:=h.form;have B0:=((Below.refl w.heap.size w).al (.cells #[.slice A rows.length c] 26)).al (.cells #[.slice none 0 0,.slice none 0 0,.slice none 0 0,.slice none 0 0] 30);have bX:=(Blk.aZ w 26 #[.slice A rows.length c]).alloc (.cells #[.slice none 0 0,.slice none 0 0,.slice none 0 0,.slice none 0 0] 30);have bR:=Blk.gZ (w.alloc (.cells #[.slice A rows.length c] 26)) 30 #[.slice none 0 0,.slice none 0 0,.slice none 0 0,.slice none 0 0] (w.heap.size+1) (by simp);obtain⟨F,hF⟩:=TV (dV rows);obtain⟨b,hb⟩:=TV (jW rows);have b6:F.length<=64:=by rw[hF];exact mI rows
 have bL:Small F.length:=by unfold Small;omega
 have bW:bZ (rows,F,F,[]):=⟨hl,bL,bL,by unfold Small;simp⟩;have CF:∀(u:Value) (w:World),Rd 1 bG w u rows->Calls Tryz.prog 171 #[.agg #[u]] w (OJ F b w):=fun u w k1=>by rw[hF,hb];exact J8 u rows w k1
 have bA : b = false -> eO rows = ([], [], [], []) := fun q => by
  rw[hb]at q;unfold jW at q;unfold eO;rw[if_pos (by simpa using q)]
 have bB : b = true -> eO rows = (rows, F, F, []) := fun q => by
  rw[hb]at q;unfold jW at q;unfold eO;rw[if_neg (by simpa using q),<-hF]
 obtain⟨y,hy⟩:=TV (eO rows);rw[<-hy]at bA bB⊢;rw[<-hb];have bY:=TY bA;have b5:=TY bB;clear hF hb bA bB hy;have H0:∀w:World,Rd 2 cO w (.slice none 0 0) ([]:List Cl):=fun w=>(aD.DF (E:=83) (size:=2) (enc:=dH) (B:=0) (w:=w)).rd eG (by decide)
 go_enter Tryz.func118,Tryz.ntmps118
 go_wp2_with fail
 refine(CF _ _ (h.TW B0)).mono ?_;rintro e w1 ⟨F1,f1,rfl,oF,hb1⟩;have B1:=B0.tr hb1;have bC:=bX.bl hb1;have a7:=bR.bl hb1;have oF:=oF.mono B0.size;obtain⟨gX,bN⟩:=TV w.heap.size;obtain⟨gR,a6⟩:=TV (w.heap.size+1);have bO:w.heap.size<=gR:=(by omega);rw[<-a6]at a7⊢;rw[<-bN]at bC⊢;clear bN a6 hb1 B0 bX bR;cases b
 . obtain rfl:([],[],[],[])=y:=(bY.out rfl).symm;go_wp2_with (refine aO rfl 30 _ _ rfl gR #[.slice none 0 0,.slice none 0 0,.slice none 0 0,.slice none 0 0] rfl rfl _ _ a7 (by kernel_rfl) rfl (by simp[Value.oneCell']) ?_;intro wE bE a8)
   have BE:=B1.grown a8 B1.size (fun k hk=>by injection hk with hk;subst hk;exact bO);obtain⟨bD,bF,bJ,bK⟩:=bE.n4;refine bodyPost_ret (v:= .tuple #[.agg #[.slice none 0 0,.slice none 0 0,.slice none 0 0,.slice none 0 0],.bool false]) (by simp[results,Tryz.results118,go_sem,bD,bF,bJ,bK]) rfl ⟨none,0,none,0,none,0,none,0,rfl,qB _ _,BE⟩
 . obtain rfl:(rows,F,F,[])=y:=(b5.out rfl).symm;have z0:=bC.c1;go_wp2_with fail
   refine(rY _ _ _ _ (rows,F,F,[]) _ (h.TW B1) (oF.rd aC (by decide)) (oF.rd aC (by decide)) (H0 _) bW).mono ?_;rintro e w2 ⟨A1,e1,A2,e2,A3,e3,A4,e4,rfl,oA,hb2⟩;have oA:=oA.mono B1.size;have B2:=B1.tr hb2;have bU:=a7.bl hb2;clear z0 hb2 oF B1 bC a7;go_wp2_with (refine aO rfl 30 _ _ rfl gR #[.slice A1 rows.length e1,.slice A2 F.length e2,.slice A3 F.length e3,.slice A4 0 e4] rfl rfl _ _ bU (by kernel_rfl) rfl (by simp[Value.oneCell']) ?_;intro wE bE a8)
   have oE:=aB.dD oA bU (by decide) (by decide) (by decide) a8;have BE:=B2.grown a8 B2.size (fun k hk=>by injection hk with hk;subst hk;exact bO);obtain⟨bD,bF,bJ,bK⟩:=bE.n4;refine bodyPost_ret (v:= .tuple #[.agg #[.slice A1 rows.length e1,.slice A2 F.length e2,.slice A3 F.length e3,.slice A4 0 e4],.bool true]) (by simp[results,Tryz.results118,go_sem,bD,bF,bJ,bK]) rfl ⟨A1,e1,A2,e2,A3,e3,A4,e4,rfl,oE,BE⟩
theorem tV {n:Nat} {y:Int} (h:dQ n y) (hn:¬n=0):∃i:Nat,i<n/\y=(i:Int):=by
 unfold dQ at h;exact⟨y.toNat,by omega,by omega⟩
end Go.Proofs.YtjijonhkofhikaaGreatDoor
