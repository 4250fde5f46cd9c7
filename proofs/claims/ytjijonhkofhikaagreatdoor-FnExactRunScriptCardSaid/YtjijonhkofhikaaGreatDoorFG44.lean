import Derived.Test.YtjijonhkofhikaaGreatDoorFOpenW
open _root_.Go.Value renaming oneCell'->Tm
open _root_.Go.Proofs.Tryz (prog)
set_option linter.unusedVariables false
set_option linter.unusedSimpArgs false
set_option maxHeartbeats 4000000
set_option maxRecDepth 100000
namespace Go.Proofs.YtjijonhkofhikaaGreatDoor
open Go.ChangeShapes Go.WideShapes Go.ChangeAt Go.RowKit
theorem Oy (z:Fl) (st:Int) (b:Bool) (w:World)
    (CO:∀(u:Value) (w:World),Rd 1 aZ w u (bZ 4 4)->Calls prog 28 #[.agg #[u],.int .i64 12] w (sI z st 0 0 b w)):
    Calls prog 10 #[] w (Cx z st 0 0 w):=by
 have CR:∀(w:World),Calls prog 29 #[.int .i64 4,.int .i64 4] w (CJ (bZ 4 4) w):=fun w=>Nt 4 4 w ⟨by decide,by decide⟩ ⟨by decide,by decide⟩
 obtain⟨y1,y2,y3,y4⟩:=z;obtain⟨rr,a7⟩:=Ti (bZ 4 4);rw[<-a7]at CO CR;clear a7;have B0:=(Below.refl w.heap.size w).al (.cells #[.slice none 0 0,.slice none 0 0,.slice none 0 0,.slice none 0 0,.int .i64 0,.int .i64 0,.int .i64 0] 32);have bR:=Blk.aX w 32 #[.slice none 0 0,.slice none 0 0,.slice none 0 0,.slice none 0 0,.int .i64 0,.int .i64 0,.int .i64 0];go_enter Tryz.func10,Tryz.ntmps10
 go_wp2_with fail
 refine(CR _).mono ?_;rintro e w1 ⟨P,q,rfl,oP,hb1⟩;go_wp2_with fail
 refine(CO _ _ (oP.rd aM (by decide))).mono ?_;rintro e w2 ⟨A1,c1,A2,c2,A3,c3,A4,c4,rfl,oY,hb2⟩;have oY:=(oY.mono (B0.tr hb1).size).alloc (.cells #[.slice none 0 0,.slice none 0 0,.slice none 0 0,.slice none 0 0,.int .i64 0,.int .i64 0,.int .i64 0] 32);have B1:=((B0.tr hb1).tr hb2).al (.cells #[.slice none 0 0,.slice none 0 0,.slice none 0 0,.slice none 0 0,.int .i64 0,.int .i64 0,.int .i64 0] 32);have bB:=((bR.bl hb1).bl hb2).alloc (.cells #[.slice none 0 0,.slice none 0 0,.slice none 0 0,.slice none 0 0,.int .i64 0,.int .i64 0,.int .i64 0] 32);have bO:=Blk.aX w2 32 #[.slice none 0 0,.slice none 0 0,.slice none 0 0,.slice none 0 0,.int .i64 0,.int .i64 0,.int .i64 0];have bC:w.heap.size<=w2.heap.size:=((B0.tr hb1).tr hb2).size;have bU:=((bR.bl hb1).bl hb2).lt;have bD:w.heap.size<=w.heap.size:=Nat.le_refl _;clear hb1 hb2 B0 bR;go_wp2_with (first|(refine aN rfl 32 _ _ rfl w2.heap.size #[.slice A1 y1.length c1,.slice A2 y2.length c2,.slice A3 y3.length c3,.slice A4 y4.length c4,.int .i64 st,.int .i64 0,.int .i64 0] rfl rfl _ _ bO (by kernel_rfl) rfl (by simp[Tm]) ?_;intro wS bS a6;have oS:=aB.cO oY bO (by decide) (by decide) (by decide) a6;have a8:=bB.grown a6 (by simp;omega);have BS:=B1.grown a6 B1.size (fun k hk=>by injection hk with hk;subst hk;exact bC);obtain⟨bX,bY,b5,b6,b7,b8,b9⟩:=bS.n7)|(refine aN rfl 32 _ _ rfl w.heap.size #[.slice A1 y1.length c1,.slice A2 y2.length c2,.slice A3 y3.length c3,.slice A4 y4.length c4,.int .i64 st,.int .i64 0,.int .i64 0] rfl rfl _ _ a8 (by kernel_rfl) rfl (by simp[Tm]) ?_;intro wE bE bA))
 have oE:aB w.heap.size wE _ _ _ _ _:=aB.cO (oS) a8 (by decide) (by decide) (by decide) bA;have BE:=BS.grown bA BS.size (fun k hk=>by injection hk with hk;subst hk;exact bD);obtain⟨bF,bJ,bK,bL,bM,bN,bP⟩:=bE.n7;refine bodyPost_ret (v:= .agg #[.slice A1 y1.length c1,.slice A2 y2.length c2,.slice A3 y3.length c3,.slice A4 y4.length c4,.int .i64 st,.int .i64 0,.int .i64 0]) (by simp[results,Tryz.results10,go_sem,bF,bJ,bK,bL,bM,bN,bP]) rfl ⟨A1,c1,A2,c2,A3,c3,A4,c4,rfl,oE,BE⟩
theorem Oz (z:Fl) (st:Int) (b:Bool) (w:World)
    (CO:∀(u:Value) (w:World),Rd 1 aZ w u (bZ 4 4)->Calls prog 71 #[.agg #[u],.int .i64 12] w (sI z st 0 0 b w)):
    Calls prog 36 #[] w (Cx z st 0 0 w):=by
 have CR:∀(w:World),Calls prog 72 #[.int .i64 4,.int .i64 4] w (CJ (bZ 4 4) w):=fun w=>Nu 4 4 w ⟨by decide,by decide⟩ ⟨by decide,by decide⟩
 obtain⟨y1,y2,y3,y4⟩:=z;obtain⟨rr,a7⟩:=Ti (bZ 4 4);rw[<-a7]at CO CR;clear a7;have B0:=(Below.refl w.heap.size w).al (.cells #[.slice none 0 0,.slice none 0 0,.slice none 0 0,.slice none 0 0,.int .i64 0,.int .i64 0,.int .i64 0] 32);have bR:=Blk.aX w 32 #[.slice none 0 0,.slice none 0 0,.slice none 0 0,.slice none 0 0,.int .i64 0,.int .i64 0,.int .i64 0];go_enter Tryz.func36,Tryz.ntmps36
 go_wp2_with fail
 refine(CR _).mono ?_;rintro e w1 ⟨P,q,rfl,oP,hb1⟩;go_wp2_with fail
 refine(CO _ _ (oP.rd aM (by decide))).mono ?_;rintro e w2 ⟨A1,c1,A2,c2,A3,c3,A4,c4,rfl,oY,hb2⟩;have oY:=(oY.mono (B0.tr hb1).size).alloc (.cells #[.slice none 0 0,.slice none 0 0,.slice none 0 0,.slice none 0 0,.int .i64 0,.int .i64 0,.int .i64 0] 32);have B1:=((B0.tr hb1).tr hb2).al (.cells #[.slice none 0 0,.slice none 0 0,.slice none 0 0,.slice none 0 0,.int .i64 0,.int .i64 0,.int .i64 0] 32);have bB:=((bR.bl hb1).bl hb2).alloc (.cells #[.slice none 0 0,.slice none 0 0,.slice none 0 0,.slice none 0 0,.int .i64 0,.int .i64 0,.int .i64 0] 32);have bO:=Blk.aX w2 32 #[.slice none 0 0,.slice none 0 0,.slice none 0 0,.slice none 0 0,.int .i64 0,.int .i64 0,.int .i64 0];have bC:w.heap.size<=w2.heap.size:=((B0.tr hb1).tr hb2).size;have bU:=((bR.bl hb1).bl hb2).lt;have bD:w.heap.size<=w.heap.size:=Nat.le_refl _;clear hb1 hb2 B0 bR;go_wp2_with (first|(refine aN rfl 32 _ _ rfl w2.heap.size #[.slice A1 y1.length c1,.slice A2 y2.length c2,.slice A3 y3.length c3,.slice A4 y4.length c4,.int .i64 st,.int .i64 0,.int .i64 0] rfl rfl _ _ bO (by kernel_rfl) rfl (by simp[Tm]) ?_;intro wS bS a6;have oS:=aB.cO oY bO (by decide) (by decide) (by decide) a6;have a8:=bB.grown a6 (by simp;omega);have BS:=B1.grown a6 B1.size (fun k hk=>by injection hk with hk;subst hk;exact bC);obtain⟨bX,bY,b5,b6,b7,b8,b9⟩:=bS.n7)|(refine aN rfl 32 _ _ rfl w.heap.size #[.slice A1 y1.length c1,.slice A2 y2.length c2,.slice A3 y3.length c3,.slice A4 y4.length c4,.int .i64 st,.int .i64 0,.int .i64 0] rfl rfl _ _ a8 (by kernel_rfl) rfl (by simp[Tm]) ?_;intro wE bE bA))
 have oE:aB w.heap.size wE _ _ _ _ _:=aB.cO (oS) a8 (by decide) (by decide) (by decide) bA;have BE:=BS.grown bA BS.size (fun k hk=>by injection hk with hk;subst hk;exact bD);obtain⟨bF,bJ,bK,bL,bM,bN,bP⟩:=bE.n7;refine bodyPost_ret (v:= .agg #[.slice A1 y1.length c1,.slice A2 y2.length c2,.slice A3 y3.length c3,.slice A4 y4.length c4,.int .i64 st,.int .i64 0,.int .i64 0]) (by simp[results,Tryz.results36,go_sem,bF,bJ,bK,bL,bM,bN,bP]) rfl ⟨A1,c1,A2,c2,A3,c3,A4,c4,rfl,oE,BE⟩
theorem SC:R12 (bZ 4 4):=by
 have hr:dX (bZ 4 4):=by
  refine⟨by simp[bZ],fun r hr=> ?_⟩;unfold bZ at hr;rw[(List.mem_replicate.1 hr).2];omega
 have h:1<=(jZ (setOf (bZ 4 4))).length/\(jZ (setOf (bZ 4 4))).length<=60:=by decide+kernel
 have e:bG (bZ 4 4)=((jZ (setOf (bZ 4 4))).length:Nat):=by
  unfold bG;rw[if_pos (aR.2 hr),xL (dW hr)]
 exact⟨hr,by omega,by omega,Ov (by decide)⟩
theorem L9 {rows:List Int} (hr:R12 rows) (hc:(eU rows).length=16):dF (fU rows,12-((fU rows).2.2.1.length:Int),0,0)=true:=by
 have hf:=SB hr;obtain⟨h1,h2,h3,h4⟩:=ER hr;refine LQ.2 ⟨hf,?_⟩;unfold eF at h3;rw[Bool.and_eq_true,decide_eq_true_iff,hc]at h3;have h5:=h3.2;rw[h2];unfold inB;simp;omega
theorem LV {rows:List Int} (hr:R12 rows) (hc:(eU rows).length=16) (v:Value) (w:World) (h:Rd 1 aZ w v rows):Calls prog 71 #[.agg #[v],.int .i64 12] w (sI (fU rows) (12-((fU rows).2.2.1.length:Int)) 0 0 true w):=by
 have hl:Small rows.length:=by have:=hr.1.1;unfold Small;omega
 have CS:=Ox v rows 12 _ w h hl (fun u1 u2 u3 u4 w k1 k2 k3 k4=>fA u1 u2 u3 u4 (fU rows,12-((fU rows).2.2.1.length:Int),0,0) w k1 k2 k3 k4 (tZ hl).2.1);rw[L9 hr hc,(ER hr).1,show inB 12 0 20000=true from rfl]at CS;exact CS
theorem JS {rows:List Int} (hr:R12 rows) (hc:(eU rows).length=16) (v:Value) (w:World) (h:Rd 1 aZ w v rows):Calls prog 28 #[.agg #[v],.int .i64 12] w (sI (fU rows) (12-((fU rows).2.2.1.length:Int)) 0 0 true w):=by
 have hl:Small rows.length:=by have:=hr.1.1;unfold Small;omega
 have CS:=Ow v rows 12 _ w h hl (fun u1 u2 u3 u4 w k1 k2 k3 k4=>iM u1 u2 u3 u4 (fU rows,12-((fU rows).2.2.1.length:Int),0,0) w k1 k2 k3 k4 (tZ hl).2.1);rw[L9 hr hc,(ER hr).1,show inB 12 0 20000=true from rfl]at CS;exact CS
end Go.Proofs.YtjijonhkofhikaaGreatDoor
