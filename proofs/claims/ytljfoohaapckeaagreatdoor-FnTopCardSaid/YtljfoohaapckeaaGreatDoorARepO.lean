/- RepairOf and RepairCost, of both sides: the walks. Condition: the list is not empty (the program's own). -/
import Derived.Test.YtljfoohaapckeaaGreatDoorAG29
import Derived.WalkSpells
namespace Go.Proofs.YtljfoohaapckeaaGreatDoor
open Go.ChangeShapes Go.WideShapes Go.ChangeAt Go.RowKit
set_option linter.unusedVariables false
set_option linter.unusedSimpArgs false
set_option maxHeartbeats 4000000
set_option maxRecDepth 100000
theorem Ka {rows:List Int} {l:List Dm} {d:Dm} (h:¬l∈aG rows):Au rows l d=[]/\wW rows l d=false:=by
 unfold Au wW;rw[if_neg h,decide_eq_false h];exact⟨rfl,rfl⟩
theorem H6 {rows:List Int} {l:List Dm} {d:Dm} (h:l∈aG rows) (e:fT (aG rows) l d=none):Au rows l d=[]/\wW rows l d=false:=by
 unfold Au wW;rw[if_pos h,decide_eq_true h,e];exact⟨rfl,rfl⟩
theorem CP {rows:List Int} {l m:List Dm} {d:Dm} (h:l∈aG rows) (e:fT (aG rows) l d=some m):Au rows l d=m/\wW rows l d=true:=by
 unfold Au wW;rw[if_pos h,decide_eq_true h,e];exact⟨rfl,rfl⟩
theorem Fp {rows:List Int} {l:List Dm} {d:Dm} (h:wW rows l d=true):l∈aG rows/\Au rows l d∈aG rows:=by
 unfold wW at h;rw[Bool.and_eq_true,decide_eq_true_iff,Option.isSome_iff_exists]at h;obtain⟨h1,m,h2⟩:=h;rw[(CP h1 h2).1];rcases GJ _ _ _ h2 with h3|h3
 . cases h3
 . exact⟨h1,h3⟩
theorem Md (v u:Value) (rows:List Int) (l:List Dm) (x y:Int) (s:Bool) (w:World) (h:Rd 1 aX w v rows) (h':Rd 3 aQ w u l):Calls Tryz.prog 154 #[.agg #[v],u,.agg #[.int .i64 x,.int .i64 y,.bool s]] w (gG 60 3 aU (Au rows l (x,y,s)) (wW rows l (x,y,s)) w):=by
 obtain⟨Al,cl,rfl,_,_⟩:=h'.form;have B0:=((Below.refl w.heap.size w).al (.cells #[v] 26)).al (.cells #[.int .i64 x,.int .i64 y,.bool s] 60);have bR:=(Blk.aW w 26 #[v]).alloc (.cells #[.int .i64 x,.int .i64 y,.bool s] 60);have bX:=Blk.gJ (w.alloc (.cells #[v] 26)) 60 #[.int .i64 x,.int .i64 y,.bool s] (w.heap.size+1) (by simp);have hsm:=xP rows;have hnot:= @Ka rows l (x,y,s);have hnone:= @H6 rows l (x,y,s);have hsome:=fun m=> @CP rows l m (x,y,s)
 obtain⟨T,hT⟩:=Pj (aG rows);have cL:∀(W:World),Rd 1 aX W v rows->Calls Tryz.prog 198 #[.agg #[v]] W (BD T W):=fun W hW=>by rw[hT];exact rX v rows W hW
 have cI:∀(u:Value) (m:List Dm) (W:World),Rd 1 aX W v rows->Rd 3 aQ W u m->Calls Tryz.prog 197 #[.agg #[v],u] W (Ret (.int .i64 (mU T m)) W):=fun u m W h1 h2=>by rw[hT];exact BZ v u rows m W h1 h2
 have hlm:∀m:List Dm,m∈aG rows->m.length<=1000:=fun m hm=>by have:=jS hm;omega
 rw[<-hT]at hsm hnot hnone hsome hlm;have HCL:=Pm cL;have HCI:=Pm cI;have HN1:=Pm hnot;have HN2:=Pm hnone;have HN3:=Pm hsome;clear hT cL cI hnot hnone hsome;go_enter Tryz.func154,Tryz.ntmps154
 have z0:=bR.c1;obtain⟨q_0,q_1,q_2⟩:=bX.n3;go_wp2_with fail
 refine(HCI.out _ l _ (h.Pk B0) (h'.Pk B0)).mono ?_;rintro e w1 ⟨rfl,hb1⟩;have B1:=B0.tr hb1;have bR1:=bR.bl hb1;have bX1:=bX.bl hb1;clear z0 q_0 q_1 q_2;by_cases hm:l∈T
 . have hll:=hlm l hm;rw[mX hm];obtain⟨hia,hia2⟩:=mR hm;obtain⟨i,hi⟩:=Pj (ix T l);rw[<-hi]at hia⊢;clear hi hia2;have Hm:=Pm hm;clear hm;have z0:=bR1.c1;go_wp2_with fail
   refine(HCL.out _ (h.Pk B1)).mono ?_;rintro e w2 ⟨A,c,rfl,oT,hb2⟩;have B2:=B1.tr hb2;clear z0;have bX2:=bX1.bl hb2;obtain⟨q_0,q_1,q_2⟩:=bX2.n3;go_wp2_with fail
   refine(KV _ _ T l x y s _ oT (h'.Pk B2) hll hsm).mono ?_;rintro e w3 ⟨q,rfl,hq,hb3⟩;have B3:=B2.tr hb3;clear q_0 q_1 q_2;rcases hq with⟨e0,rfl⟩|⟨j,hj,e0,rfl⟩
   . obtain⟨r1,r2⟩:=HN2.out Hm.out e0;clear e0;go_wp2;go_ret2
     rw[r1,r2];exact⟨_,_,rfl,iK w3 (E:=60) (size:=3) (enc:=aU) w3.heap.size (by simp) w.heap.size (by have:=B3.size;simpa using this),B3.al _⟩
   . obtain⟨g,D,d,rfl,hg1,hg2,c1,ownk⟩:=(oT.below hb3).pick hj;obtain⟨r1,r2⟩:=HN3.out _ Hm.out e0;clear e0;obtain⟨t,ht⟩:=Pj (T[j]);rw[<-ht]at c1 ownk r1;clear ht;have hj2:(j:Int)<(T.length:Int):=(by omega);go_wp2;go_ret2
     rw[r1,r2];exact⟨_,_,rfl,ownk.mono B1.size,B3⟩
 . rw[rH hm];obtain⟨r1,r2⟩:=HN1.out hm;clear hm;go_wp2;go_ret2
   rw[r1,r2];exact⟨_,_,rfl,iK w1 (E:=60) (size:=3) (enc:=aU) w1.heap.size (by simp) w.heap.size (by have:=B1.size;simpa using this),B1.al _⟩
theorem H7 (v u:Value) (rows:List Int) (l:List Dm) (x y:Int) (s:Bool) (w:World) (h:Rd 1 aX w v rows) (h':Rd 3 aQ w u l) (hne:l≠[]):Calls Tryz.prog 77 #[.agg #[v],u,.agg #[.int .i64 x,.int .i64 y,.bool s]] w (gG 60 3 aU (Au rows l (x,y,s)) (wW rows l (x,y,s)) w):=by
 obtain⟨Al,cl,rfl,_,_⟩:=h'.form;have B0:=((Below.refl w.heap.size w).al (.cells #[v] 26)).al (.cells #[.int .i64 x,.int .i64 y,.bool s] 60);have bR:=(Blk.aW w 26 #[v]).alloc (.cells #[.int .i64 x,.int .i64 y,.bool s] 60);have bX:=Blk.gJ (w.alloc (.cells #[v] 26)) 60 #[.int .i64 x,.int .i64 y,.bool s] (w.heap.size+1) (by simp);have hsm:=xP rows;have hnot:= @Ka rows l (x,y,s);have hnone:= @H6 rows l (x,y,s);have hsome:=fun m=> @CP rows l m (x,y,s)
 have hall:l∈aG rows->∀t∈aG rows,t≠[]:=fun h1 t h2=>NA h1 h2 hne
 obtain⟨T,hT⟩:=Pj (aG rows);have cL:∀(W:World),Rd 1 aX W v rows->Calls Tryz.prog 130 #[.agg #[v]] W (BD T W):=fun W hW=>by rw[hT];exact Ev v rows W hW
 have hlm:∀m:List Dm,m∈aG rows->m.length<=1000:=fun m hm=>by have:=jS hm;omega
 rw[<-hT]at hsm hnot hnone hsome hlm hall;have HCL:=Pm cL;have HN1:=Pm hnot;have HN2:=Pm hnone;have HN3:=Pm hsome;have HALL:=Pm hall;clear hT cL hnot hnone hsome hall hne;have hnil:=fun(w:World) (a:Option Addr) (n c:Nat)=>run_neq_slice_nil_any (P:=Tryz.prog) w 27 60 a n c 0 0 Tryz.underlying27
 go_enter Tryz.func77,Tryz.ntmps77
 have z0:=bR.c1;obtain⟨q_0,q_1,q_2⟩:=bX.n3;go_wp2_with fail
 refine(HCL.out _ (h.Pk B0)).mono ?_;rintro e w1 ⟨A,c,rfl,oT,hb1⟩;have B1:=B0.tr hb1;have bX1:=bX.bl hb1;clear z0 q_0 q_1 q_2;go_wp2_with fail
 refine(sH _ _ T l _ oT (h'.Pk B1)).mono ?_;rintro e w2 ⟨rfl,hb2⟩;have B2:=B1.tr hb2;have oT2:=oT.below hb2;have bX2:=bX1.bl hb2;by_cases hm:l∈T
 . have hll:=hlm l hm;rw[mX hm];obtain⟨hia,hia2⟩:=mR hm;obtain⟨i,hi⟩:=Pj (ix T l);rw[<-hi]at hia⊢;clear hi hia2;have Hm:=Pm hm;clear hm;obtain⟨q_0,q_1,q_2⟩:=bX2.n3;go_wp2_with fail
   refine(F8 _ _ T l x y s _ oT2 (h'.Pk B2) hll hsm (HALL.out Hm.out)).mono ?_;rintro e w3 ⟨bv,rfl,hq,hb3⟩;have B3:=B2.tr hb3;clear q_0 q_1 q_2;rcases hq with⟨e0,rfl⟩|⟨m,g,d,e0,hmT,rfl,om⟩
   . obtain⟨r1,r2⟩:=HN2.out Hm.out e0;clear e0;go_wp2;go_ret2
     rw[r1,r2];exact⟨_,_,rfl,aD.CV,B3⟩
   . obtain⟨r1,r2⟩:=HN3.out _ Hm.out e0;clear e0;go_wp2;go_ret2
     rw[r1,r2];exact⟨_,_,rfl,om.mono B0.size,B3⟩
 . rw[rH hm];obtain⟨r1,r2⟩:=HN1.out hm;clear hm;go_wp2;go_ret2
   rw[r1,r2];exact⟨_,_,rfl,aD.CV,B2⟩
def I4 (rows:List Int) (l:List Dm) (d:Dm):Int:=if wW rows l d=true then((chg l (Au rows l d):Nat):Int)else-1
theorem F9 (v u:Value) (rows:List Int) (l:List Dm) (x y:Int) (s:Bool) (w:World) (h:Rd 1 aX w v rows) (h':Rd 3 aQ w u l) (hne:l≠[]):Calls Tryz.prog 79 #[.agg #[v],u,.agg #[.int .i64 x,.int .i64 y,.bool s]] w (Ret (.int .i64 (I4 rows l (x,y,s))) w):=by
 obtain⟨Al,cl,rfl,_,_⟩:=h'.form;have B0:=((Below.refl w.heap.size w).al (.cells #[v] 26)).al (.cells #[.int .i64 x,.int .i64 y,.bool s] 60);have bR:=(Blk.aW w 26 #[v]).alloc (.cells #[.int .i64 x,.int .i64 y,.bool s] 60);have bX:=Blk.gJ (w.alloc (.cells #[v] 26)) 60 #[.int .i64 x,.int .i64 y,.bool s] (w.heap.size+1) (by simp);have hlm:wW rows l (x,y,s)=true->l.length<=1000:=fun hb=>by have:=jS (Fp hb).1;omega
 have cR:=fun(W:World) (h1:Rd 1 aX W v rows) (h2:Rd 3 aQ W (.slice Al l.length cl) l)=>H7 v _ rows l x y s W h1 h2 hne
 have hN:I4 rows l (x,y,s)=if wW rows l (x,y,s)=true then((chg l (Au rows l (x,y,s)):Nat):Int)else-1:=rfl
 obtain⟨b,hb⟩:=Pj (wW rows l (x,y,s));obtain⟨m,hm⟩:=Pj (Au rows l (x,y,s));obtain⟨N,hN2⟩:=Pj (I4 rows l (x,y,s));rw[<-hN2]at hN⊢;rw[<-hb,<-hm]at hN;rw[<-hb]at hlm;simp only[<-hb,<-hm]at cR;have HR:=Pm cR;have HN:=Pm hN;clear cR hN hb hm hne hN2;go_enter Tryz.func79,Tryz.ntmps79
 have z0:=bR.c1;obtain⟨q_0,q_1,q_2⟩:=bX.n3;go_wp2_with fail
 refine(HR.out _ (h.Pk B0) (h'.Pk B0)).mono ?_;rintro e w1 ⟨A,c,rfl,om,hb1⟩;have B1:=B0.tr hb1;clear z0 q_0 q_1 q_2;cases b
 . go_wp2;go_ret;exact⟨by rw[HN.out];rfl,B1⟩
 . have hll:=hlm rfl;go_wp2_with fail
   refine(CJ _ _ l m _ (h'.Pk B1) (om.rd aC (by decide)) hll).mono ?_;rintro e w2 ⟨rfl,hb2⟩;go_wp2;go_ret;exact⟨by rw[HN.out];rfl,B1.tr hb2⟩
end Go.Proofs.YtljfoohaapckeaaGreatDoor
