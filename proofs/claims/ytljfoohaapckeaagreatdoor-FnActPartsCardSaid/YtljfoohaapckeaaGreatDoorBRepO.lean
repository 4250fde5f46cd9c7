/- RepairOf and RepairCost, of both sides: the walks. Condition: the list is not empty (the program's own). -/
import Derived.Test.YtljfoohaapckeaaGreatDoorBG29
import Derived.WalkSpells
namespace Go.Proofs.YtljfoohaapckeaaGreatDoor
open Go.ChangeShapes Go.WideShapes Go.ChangeAt Go.RowKit
set_option linter.unusedVariables false
set_option linter.unusedSimpArgs false
set_option maxHeartbeats 4000000
set_option maxRecDepth 100000
theorem KQ {rows:List Int} {l:List Dm} {d:Dm} (h:¬l∈aH rows):Bh rows l d=[]/\yQ rows l d=false:=by
 unfold Bh yQ;rw[if_neg h,decide_eq_false h];exact⟨rfl,rfl⟩
theorem IU {rows:List Int} {l:List Dm} {d:Dm} (h:l∈aH rows) (e:fJ (aH rows) l d=none):Bh rows l d=[]/\yQ rows l d=false:=by
 unfold Bh yQ;rw[if_pos h,decide_eq_true h,e];exact⟨rfl,rfl⟩
theorem Dx {rows:List Int} {l m:List Dm} {d:Dm} (h:l∈aH rows) (e:fJ (aH rows) l d=some m):Bh rows l d=m/\yQ rows l d=true:=by
 unfold Bh yQ;rw[if_pos h,decide_eq_true h,e];exact⟨rfl,rfl⟩
theorem FZ {rows:List Int} {l:List Dm} {d:Dm} (h:yQ rows l d=true):l∈aH rows/\Bh rows l d∈aH rows:=by
 unfold yQ at h;rw[Bool.and_eq_true,decide_eq_true_iff,Option.isSome_iff_exists]at h;obtain⟨h1,m,h2⟩:=h;rw[(Dx h1 h2).1];rcases Io _ _ _ h2 with h3|h3
 . cases h3
 . exact⟨h1,h3⟩
theorem M6 (v u:Value) (rows:List Int) (l:List Dm) (x y:Int) (s:Bool) (w:World) (h:Rd 1 bH w v rows) (h':Rd 3 aT w u l):Calls Tryz.prog 154 #[.agg #[v],u,.agg #[.int .i64 x,.int .i64 y,.bool s]] w (gV 60 3 aV (Bh rows l (x,y,s)) (yQ rows l (x,y,s)) w):=by
 obtain⟨Al,cl,rfl,_,_⟩:=h'.form;have B0:=((Below.refl w.heap.size w).al (.cells #[v] 26)).al (.cells #[.int .i64 x,.int .i64 y,.bool s] 60);have bR:=(Blk.aZ w 26 #[v]).alloc (.cells #[.int .i64 x,.int .i64 y,.bool s] 60);have bX:=Blk.iC (w.alloc (.cells #[v] 26)) 60 #[.int .i64 x,.int .i64 y,.bool s] (w.heap.size+1) (by simp);have hsm:=yA rows;have hnot:= @KQ rows l (x,y,s);have hnone:= @IU rows l (x,y,s);have hsome:=fun m=> @Dx rows l m (x,y,s)
 obtain⟨T,hT⟩:=Qi (aH rows);have cL:∀(W:World),Rd 1 bH W v rows->Calls Tryz.prog 198 #[.agg #[v]] W (Ci T W):=fun W hW=>by rw[hT];exact sO v rows W hW
 have cI:∀(u:Value) (m:List Dm) (W:World),Rd 1 bH W v rows->Rd 3 aT W u m->Calls Tryz.prog 197 #[.agg #[v],u] W (Ret (.int .i64 (mX T m)) W):=fun u m W h1 h2=>by rw[hT];exact Cy v u rows m W h1 h2
 have hlm:∀m:List Dm,m∈aH rows->m.length<=1000:=fun m hm=>by have:=jT hm;omega
 rw[<-hT]at hsm hnot hnone hsome hlm;have HCL:=Qk cL;have HCI:=Qk cI;have HN1:=Qk hnot;have HN2:=Qk hnone;have HN3:=Qk hsome;clear hT cL cI hnot hnone hsome;go_enter Tryz.func154,Tryz.ntmps154
 have z0:=bR.c1;obtain⟨q_0,q_1,q_2⟩:=bX.n3;go_wp2_with fail
 refine(HCI.out _ l _ (h.Qj B0) (h'.Qj B0)).mono ?_;rintro e w1 ⟨rfl,hb1⟩;have B1:=B0.tr hb1;have bR1:=bR.bl hb1;have bX1:=bX.bl hb1;clear z0 q_0 q_1 q_2;by_cases hm:l∈T
 . have hll:=hlm l hm;rw[nC hm];obtain⟨hia,hia2⟩:=mW hm;obtain⟨i,hi⟩:=Qi (ix T l);rw[<-hi]at hia⊢;clear hi hia2;have Hm:=Qk hm;clear hm;have z0:=bR1.c1;go_wp2_with fail
   refine(HCL.out _ (h.Qj B1)).mono ?_;rintro e w2 ⟨A,c,rfl,oT,hb2⟩;have B2:=B1.tr hb2;clear z0;have bX2:=bX1.bl hb2;obtain⟨q_0,q_1,q_2⟩:=bX2.n3;go_wp2_with fail
   refine(LQ _ _ T l x y s _ oT (h'.Qj B2) hll hsm).mono ?_;rintro e w3 ⟨q,rfl,hq,hb3⟩;have B3:=B2.tr hb3;clear q_0 q_1 q_2;rcases hq with⟨e0,rfl⟩|⟨j,hj,e0,rfl⟩
   . obtain⟨r1,r2⟩:=HN2.out Hm.out e0;clear e0;go_wp2;go_ret2
     rw[r1,r2];exact⟨_,_,rfl,fK w3 (E:=60) (size:=3) (enc:=aV) w3.heap.size (by simp) w.heap.size (by have:=B3.size;simpa using this),B3.al _⟩
   . obtain⟨g,D,d,rfl,hg1,hg2,c1,ownk⟩:=(oT.below hb3).pick hj;obtain⟨r1,r2⟩:=HN3.out _ Hm.out e0;clear e0;obtain⟨t,ht⟩:=Qi (T[j]);rw[<-ht]at c1 ownk r1;clear ht;have hj2:(j:Int)<(T.length:Int):=(by omega);go_wp2;go_ret2
     rw[r1,r2];exact⟨_,_,rfl,ownk.mono B1.size,B3⟩
 . rw[rV hm];obtain⟨r1,r2⟩:=HN1.out hm;clear hm;go_wp2;go_ret2
   rw[r1,r2];exact⟨_,_,rfl,fK w1 (E:=60) (size:=3) (enc:=aV) w1.heap.size (by simp) w.heap.size (by have:=B1.size;simpa using this),B1.al _⟩
theorem IV (v u:Value) (rows:List Int) (l:List Dm) (x y:Int) (s:Bool) (w:World) (h:Rd 1 bH w v rows) (h':Rd 3 aT w u l) (hne:l≠[]):Calls Tryz.prog 77 #[.agg #[v],u,.agg #[.int .i64 x,.int .i64 y,.bool s]] w (gV 60 3 aV (Bh rows l (x,y,s)) (yQ rows l (x,y,s)) w):=by
 obtain⟨Al,cl,rfl,_,_⟩:=h'.form;have B0:=((Below.refl w.heap.size w).al (.cells #[v] 26)).al (.cells #[.int .i64 x,.int .i64 y,.bool s] 60);have bR:=(Blk.aZ w 26 #[v]).alloc (.cells #[.int .i64 x,.int .i64 y,.bool s] 60);have bX:=Blk.iC (w.alloc (.cells #[v] 26)) 60 #[.int .i64 x,.int .i64 y,.bool s] (w.heap.size+1) (by simp);have hsm:=yA rows;have hnot:= @KQ rows l (x,y,s);have hnone:= @IU rows l (x,y,s);have hsome:=fun m=> @Dx rows l m (x,y,s)
 have hall:l∈aH rows->∀t∈aH rows,t≠[]:=fun h1 t h2=>OA h1 h2 hne
 obtain⟨T,hT⟩:=Qi (aH rows);have cL:∀(W:World),Rd 1 bH W v rows->Calls Tryz.prog 130 #[.agg #[v]] W (Ci T W):=fun W hW=>by rw[hT];exact EZ v rows W hW
 have hlm:∀m:List Dm,m∈aH rows->m.length<=1000:=fun m hm=>by have:=jT hm;omega
 rw[<-hT]at hsm hnot hnone hsome hlm hall;have HCL:=Qk cL;have HN1:=Qk hnot;have HN2:=Qk hnone;have HN3:=Qk hsome;have HALL:=Qk hall;clear hT cL hnot hnone hsome hall hne;have hnil:=fun(w:World) (a:Option Addr) (n c:Nat)=>run_neq_slice_nil_any (P:=Tryz.prog) w 27 60 a n c 0 0 Tryz.underlying27
 go_enter Tryz.func77,Tryz.ntmps77
 have z0:=bR.c1;obtain⟨q_0,q_1,q_2⟩:=bX.n3;go_wp2_with fail
 refine(HCL.out _ (h.Qj B0)).mono ?_;rintro e w1 ⟨A,c,rfl,oT,hb1⟩;have B1:=B0.tr hb1;have bX1:=bX.bl hb1;clear z0 q_0 q_1 q_2;go_wp2_with fail
 refine(tF _ _ T l _ oT (h'.Qj B1)).mono ?_;rintro e w2 ⟨rfl,hb2⟩;have B2:=B1.tr hb2;have oT2:=oT.below hb2;have bX2:=bX1.bl hb2;by_cases hm:l∈T
 . have hll:=hlm l hm;rw[nC hm];obtain⟨hia,hia2⟩:=mW hm;obtain⟨i,hi⟩:=Qi (ix T l);rw[<-hi]at hia⊢;clear hi hia2;have Hm:=Qk hm;clear hm;obtain⟨q_0,q_1,q_2⟩:=bX2.n3;go_wp2_with fail
   refine(GR _ _ T l x y s _ oT2 (h'.Qj B2) hll hsm (HALL.out Hm.out)).mono ?_;rintro e w3 ⟨bv,rfl,hq,hb3⟩;have B3:=B2.tr hb3;clear q_0 q_1 q_2;rcases hq with⟨e0,rfl⟩|⟨m,g,d,e0,hmT,rfl,om⟩
   . obtain⟨r1,r2⟩:=HN2.out Hm.out e0;clear e0;go_wp2;go_ret2
     rw[r1,r2];exact⟨_,_,rfl,aD.DD,B3⟩
   . obtain⟨r1,r2⟩:=HN3.out _ Hm.out e0;clear e0;go_wp2;go_ret2
     rw[r1,r2];exact⟨_,_,rfl,om.mono B0.size,B3⟩
 . rw[rV hm];obtain⟨r1,r2⟩:=HN1.out hm;clear hm;go_wp2;go_ret2
   rw[r1,r2];exact⟨_,_,rfl,aD.DD,B2⟩
def KR (rows:List Int) (l:List Dm) (d:Dm):Int:=if yQ rows l d=true then((chg l (Bh rows l d):Nat):Int)else-1
theorem GU (v u:Value) (rows:List Int) (l:List Dm) (x y:Int) (s:Bool) (w:World) (h:Rd 1 bH w v rows) (h':Rd 3 aT w u l) (hne:l≠[]):Calls Tryz.prog 79 #[.agg #[v],u,.agg #[.int .i64 x,.int .i64 y,.bool s]] w (Ret (.int .i64 (KR rows l (x,y,s))) w):=by
 obtain⟨Al,cl,rfl,_,_⟩:=h'.form;have B0:=((Below.refl w.heap.size w).al (.cells #[v] 26)).al (.cells #[.int .i64 x,.int .i64 y,.bool s] 60);have bR:=(Blk.aZ w 26 #[v]).alloc (.cells #[.int .i64 x,.int .i64 y,.bool s] 60);have bX:=Blk.iC (w.alloc (.cells #[v] 26)) 60 #[.int .i64 x,.int .i64 y,.bool s] (w.heap.size+1) (by simp);have hlm:yQ rows l (x,y,s)=true->l.length<=1000:=fun hb=>by have:=jT (FZ hb).1;omega
 have cR:=fun(W:World) (h1:Rd 1 bH W v rows) (h2:Rd 3 aT W (.slice Al l.length cl) l)=>IV v _ rows l x y s W h1 h2 hne
 have hN:KR rows l (x,y,s)=if yQ rows l (x,y,s)=true then((chg l (Bh rows l (x,y,s)):Nat):Int)else-1:=rfl
 obtain⟨b,hb⟩:=Qi (yQ rows l (x,y,s));obtain⟨m,hm⟩:=Qi (Bh rows l (x,y,s));obtain⟨N,hN2⟩:=Qi (KR rows l (x,y,s));rw[<-hN2]at hN⊢;rw[<-hb,<-hm]at hN;rw[<-hb]at hlm;simp only[<-hb,<-hm]at cR;have HR:=Qk cR;have HN:=Qk hN;clear cR hN hb hm hne hN2;go_enter Tryz.func79,Tryz.ntmps79
 have z0:=bR.c1;obtain⟨q_0,q_1,q_2⟩:=bX.n3;go_wp2_with fail
 refine(HR.out _ (h.Qj B0) (h'.Qj B0)).mono ?_;rintro e w1 ⟨A,c,rfl,om,hb1⟩;have B1:=B0.tr hb1;clear z0 q_0 q_1 q_2;cases b
 . go_wp2;go_ret;exact⟨by rw[HN.out];rfl,B1⟩
 . have hll:=hlm rfl;go_wp2_with fail
   refine(Dw _ _ l m _ (h'.Qj B1) (om.rd aB (by decide)) hll).mono ?_;rintro e w2 ⟨rfl,hb2⟩;go_wp2;go_ret;exact⟨by rw[HN.out];rfl,B1.tr hb2⟩
end Go.Proofs.YtljfoohaapckeaaGreatDoor
