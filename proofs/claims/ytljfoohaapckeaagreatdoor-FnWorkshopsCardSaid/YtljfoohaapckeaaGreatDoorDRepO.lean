/- RepairOf and RepairCost, of both sides: the walks. Condition: the list is not empty (the program's own). -/
import Derived.Test.YtljfoohaapckeaaGreatDoorDRepW
import Derived.WalkSpells
namespace Go.Proofs.YtljfoohaapckeaaGreatDoor
open Go.ChangeShapes Go.WideShapes Go.ChangeAt Go.RowKit
set_option linter.unusedVariables false
set_option linter.unusedSimpArgs false
set_option maxHeartbeats 4000000
set_option maxRecDepth 100000
theorem JP {rows:List Int} {l:List Dm} {d:Dm} (h:¬l∈aF rows):zS rows l d=[]/\wK rows l d=false:=by
 unfold zS wK;rw[if_neg h,decide_eq_false h];exact⟨rfl,rfl⟩
theorem GX {rows:List Int} {l:List Dm} {d:Dm} (h:l∈aF rows) (e:fH (aF rows) l d=none):zS rows l d=[]/\wK rows l d=false:=by
 unfold zS wK;rw[if_pos h,decide_eq_true h,e];exact⟨rfl,rfl⟩
theorem CG {rows:List Int} {l m:List Dm} {d:Dm} (h:l∈aF rows) (e:fH (aF rows) l d=some m):zS rows l d=m/\wK rows l d=true:=by
 unfold zS wK;rw[if_pos h,decide_eq_true h,e];exact⟨rfl,rfl⟩
theorem BR {rows:List Int} {l:List Dm} {d:Dm} (h:wK rows l d=true):l∈aF rows/\zS rows l d∈aF rows:=by
 unfold wK at h;rw[Bool.and_eq_true,decide_eq_true_iff,Option.isSome_iff_exists]at h;obtain⟨h1,m,h2⟩:=h;rw[(CG h1 h2).1];rcases Gz _ _ _ h2 with h3|h3
 . cases h3
 . exact⟨h1,h3⟩
theorem LQ (v u:Value) (rows:List Int) (l:List Dm) (x y:Int) (s:Bool) (w:World) (h:Rd 1 bH w v rows) (h':Rd 3 aU w u l):Calls Tryz.prog 154 #[.agg #[v],u,.agg #[.int .i64 x,.int .i64 y,.bool s]] w (iG 60 3 aT (zS rows l (x,y,s)) (wK rows l (x,y,s)) w):=by
 obtain⟨Al,cl,rfl,_,_⟩:=h'.form;have B0:=((Below.refl w.heap.size w).al (.cells #[v] 26)).al (.cells #[.int .i64 x,.int .i64 y,.bool s] 60);have bR:=(Blk.bK w 26 #[v]).alloc (.cells #[.int .i64 x,.int .i64 y,.bool s] 60);have bX:=Blk.iV (w.alloc (.cells #[v] 26)) 60 #[.int .i64 x,.int .i64 y,.bool s] (w.heap.size+1) (by simp);have hsm:=xC rows;have hnot:= @JP rows l (x,y,s);have hnone:= @GX rows l (x,y,s);have hsome:=fun m=> @CG rows l m (x,y,s)
 obtain⟨T,hT⟩:=Oy (aF rows);have cL:∀(W:World),Rd 1 bH W v rows->Calls Tryz.prog 198 #[.agg #[v]] W (Bo T W):=fun W hW=>by rw[hT];exact rA v rows W hW
 have cI:∀(u:Value) (m:List Dm) (W:World),Rd 1 bH W v rows->Rd 3 aU W u m->Calls Tryz.prog 197 #[.agg #[v],u] W (Ret (.int .i64 (lY T m)) W):=fun u m W h1 h2=>by rw[hT];exact BL v u rows m W h1 h2
 have hlm:∀m:List Dm,m∈aF rows->m.length<=1000:=fun m hm=>by have:=jI hm;omega
 rw[<-hT]at hsm hnot hnone hsome hlm;have HCL:=OA cL;have HCI:=OA cI;have HN1:=OA hnot;have HN2:=OA hnone;have HN3:=OA hsome;clear hT cL cI hnot hnone hsome;go_enter Tryz.func154,Tryz.ntmps154
 have z0:=bR.c1;obtain⟨q_0,q_1,q_2⟩:=bX.n3;go_wp2_with fail
 refine(HCI.out _ l _ (h.Oz B0) (h'.Oz B0)).mono ?_;rintro e w1 ⟨rfl,hb1⟩;have B1:=B0.tr hb1;have bR1:=bR.bl hb1;have bX1:=bX.bl hb1;clear z0 q_0 q_1 q_2;by_cases hm:l∈T
 . have hll:=hlm l hm;rw[mF hm];obtain⟨hia,hia2⟩:=lX hm;obtain⟨i,hi⟩:=Oy (ix T l);rw[<-hi]at hia⊢;clear hi hia2;have Hm:=OA hm;clear hm;have z0:=bR1.c1;go_wp2_with fail
   refine(HCL.out _ (h.Oz B1)).mono ?_;rintro e w2 ⟨A,c,rfl,oT,hb2⟩;have B2:=B1.tr hb2;clear z0;have bX2:=bX1.bl hb2;obtain⟨q_0,q_1,q_2⟩:=bX2.n3;go_wp2_with fail
   refine(Kz _ _ T l x y s _ oT (h'.Oz B2) hll hsm).mono ?_;rintro e w3 ⟨q,rfl,hq,hb3⟩;have B3:=B2.tr hb3;clear q_0 q_1 q_2;rcases hq with⟨e0,rfl⟩|⟨j,hj,e0,rfl⟩
   . obtain⟨r1,r2⟩:=HN2.out Hm.out e0;clear e0;go_wp2;go_ret2
     rw[r1,r2];exact⟨_,_,rfl,iK w3 (E:=60) (size:=3) (enc:=aT) w3.heap.size (by simp) w.heap.size (by have:=B3.size;simpa using this),B3.al _⟩
   . obtain⟨g,D,d,rfl,hg1,hg2,c1,ownk⟩:=(oT.below hb3).pick hj;obtain⟨r1,r2⟩:=HN3.out _ Hm.out e0;clear e0;obtain⟨t,ht⟩:=Oy (T[j]);rw[<-ht]at c1 ownk r1;clear ht;have hj2:(j:Int)<(T.length:Int):=(by omega);go_wp2;go_ret2
     rw[r1,r2];exact⟨_,_,rfl,ownk.mono B1.size,B3⟩
 . rw[qK hm];obtain⟨r1,r2⟩:=HN1.out hm;clear hm;go_wp2;go_ret2
   rw[r1,r2];exact⟨_,_,rfl,iK w1 (E:=60) (size:=3) (enc:=aT) w1.heap.size (by simp) w.heap.size (by have:=B1.size;simpa using this),B1.al _⟩
theorem GY (v u:Value) (rows:List Int) (l:List Dm) (x y:Int) (s:Bool) (w:World) (h:Rd 1 bH w v rows) (h':Rd 3 aU w u l) (hne:l≠[]):Calls Tryz.prog 77 #[.agg #[v],u,.agg #[.int .i64 x,.int .i64 y,.bool s]] w (iG 60 3 aT (zS rows l (x,y,s)) (wK rows l (x,y,s)) w):=by
 obtain⟨Al,cl,rfl,_,_⟩:=h'.form;have B0:=((Below.refl w.heap.size w).al (.cells #[v] 26)).al (.cells #[.int .i64 x,.int .i64 y,.bool s] 60);have bR:=(Blk.bK w 26 #[v]).alloc (.cells #[.int .i64 x,.int .i64 y,.bool s] 60);have bX:=Blk.iV (w.alloc (.cells #[v] 26)) 60 #[.int .i64 x,.int .i64 y,.bool s] (w.heap.size+1) (by simp);have hsm:=xC rows;have hnot:= @JP rows l (x,y,s);have hnone:= @GX rows l (x,y,s);have hsome:=fun m=> @CG rows l m (x,y,s)
 have hall:l∈aF rows->∀t∈aF rows,t≠[]:=fun h1 t h2=>M0 h1 h2 hne
 obtain⟨T,hT⟩:=Oy (aF rows);have cL:∀(W:World),Rd 1 bH W v rows->Calls Tryz.prog 130 #[.agg #[v]] W (Bo T W):=fun W hW=>by rw[hT];exact Ew v rows W hW
 have hlm:∀m:List Dm,m∈aF rows->m.length<=1000:=fun m hm=>by have:=jI hm;omega
 rw[<-hT]at hsm hnot hnone hsome hlm hall;have HCL:=OA cL;have HN1:=OA hnot;have HN2:=OA hnone;have HN3:=OA hsome;have HALL:=OA hall;clear hT cL hnot hnone hsome hall hne;have hnil:=fun(w:World) (a:Option Addr) (n c:Nat)=>run_neq_slice_nil_any (P:=Tryz.prog) w 27 60 a n c 0 0 Tryz.underlying27
 go_enter Tryz.func77,Tryz.ntmps77
 have z0:=bR.c1;obtain⟨q_0,q_1,q_2⟩:=bX.n3;go_wp2_with fail
 refine(HCL.out _ (h.Oz B0)).mono ?_;rintro e w1 ⟨A,c,rfl,oT,hb1⟩;have B1:=B0.tr hb1;have bX1:=bX.bl hb1;clear z0 q_0 q_1 q_2;go_wp2_with fail
 refine(rQ _ _ T l _ oT (h'.Oz B1)).mono ?_;rintro e w2 ⟨rfl,hb2⟩;have B2:=B1.tr hb2;have oT2:=oT.below hb2;have bX2:=bX1.bl hb2;by_cases hm:l∈T
 . have hll:=hlm l hm;rw[mF hm];obtain⟨hia,hia2⟩:=lX hm;obtain⟨i,hi⟩:=Oy (ix T l);rw[<-hi]at hia⊢;clear hi hia2;have Hm:=OA hm;clear hm;obtain⟨q_0,q_1,q_2⟩:=bX2.n3;go_wp2_with fail
   refine(FX _ _ T l x y s _ oT2 (h'.Oz B2) hll hsm (HALL.out Hm.out)).mono ?_;rintro e w3 ⟨bv,rfl,hq,hb3⟩;have B3:=B2.tr hb3;clear q_0 q_1 q_2;rcases hq with⟨e0,rfl⟩|⟨m,g,d,e0,hmT,rfl,om⟩
   . obtain⟨r1,r2⟩:=HN2.out Hm.out e0;clear e0;go_wp2;go_ret2
     rw[r1,r2];exact⟨_,_,rfl,aC.CV,B3⟩
   . obtain⟨r1,r2⟩:=HN3.out _ Hm.out e0;clear e0;go_wp2;go_ret2
     rw[r1,r2];exact⟨_,_,rfl,om.mono B0.size,B3⟩
 . rw[qK hm];obtain⟨r1,r2⟩:=HN1.out hm;clear hm;go_wp2;go_ret2
   rw[r1,r2];exact⟨_,_,rfl,aC.CV,B2⟩
def GZ (rows:List Int) (l:List Dm) (d:Dm):Int:=if wK rows l d=true then((chg l (zS rows l d):Nat):Int)else-1
theorem FY (v u:Value) (rows:List Int) (l:List Dm) (x y:Int) (s:Bool) (w:World) (h:Rd 1 bH w v rows) (h':Rd 3 aU w u l) (hne:l≠[]):Calls Tryz.prog 79 #[.agg #[v],u,.agg #[.int .i64 x,.int .i64 y,.bool s]] w (Ret (.int .i64 (GZ rows l (x,y,s))) w):=by
 obtain⟨Al,cl,rfl,_,_⟩:=h'.form;have B0:=((Below.refl w.heap.size w).al (.cells #[v] 26)).al (.cells #[.int .i64 x,.int .i64 y,.bool s] 60);have bR:=(Blk.bK w 26 #[v]).alloc (.cells #[.int .i64 x,.int .i64 y,.bool s] 60);have bX:=Blk.iV (w.alloc (.cells #[v] 26)) 60 #[.int .i64 x,.int .i64 y,.bool s] (w.heap.size+1) (by simp);have hlm:wK rows l (x,y,s)=true->l.length<=1000:=fun hb=>by have:=jI (BR hb).1;omega
 have cR:=fun(W:World) (h1:Rd 1 bH W v rows) (h2:Rd 3 aU W (.slice Al l.length cl) l)=>GY v _ rows l x y s W h1 h2 hne
 have hN:GZ rows l (x,y,s)=if wK rows l (x,y,s)=true then((chg l (zS rows l (x,y,s)):Nat):Int)else-1:=rfl
 obtain⟨b,hb⟩:=Oy (wK rows l (x,y,s));obtain⟨m,hm⟩:=Oy (zS rows l (x,y,s));obtain⟨N,hN2⟩:=Oy (GZ rows l (x,y,s));rw[<-hN2]at hN⊢;rw[<-hb,<-hm]at hN;rw[<-hb]at hlm;simp only[<-hb,<-hm]at cR;have HR:=OA cR;have HN:=OA hN;clear cR hN hb hm hne hN2;go_enter Tryz.func79,Tryz.ntmps79
 have z0:=bR.c1;obtain⟨q_0,q_1,q_2⟩:=bX.n3;go_wp2_with fail
 refine(HR.out _ (h.Oz B0) (h'.Oz B0)).mono ?_;rintro e w1 ⟨A,c,rfl,om,hb1⟩;have B1:=B0.tr hb1;clear z0 q_0 q_1 q_2;cases b
 . go_wp2;go_ret;exact⟨by rw[HN.out];rfl,B1⟩
 . have hll:=hlm rfl;go_wp2_with fail
   refine(CE _ _ l m _ (h'.Oz B1) (om.rd aB (by decide)) hll).mono ?_;rintro e w2 ⟨rfl,hb2⟩;go_wp2;go_ret;exact⟨by rw[HN.out];rfl,B1.tr hb2⟩
end Go.Proofs.YtljfoohaapckeaaGreatDoor
