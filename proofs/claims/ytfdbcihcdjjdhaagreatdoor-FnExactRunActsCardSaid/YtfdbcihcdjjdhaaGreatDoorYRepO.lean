/- RepairOf and RepairCost, of both sides: the walks. Condition: the list is not empty (the program's own). -/
import Derived.Test.YtfdbcihcdjjdhaaGreatDoorYRepW
import Derived.WalkSpells
namespace Go.Proofs.YtfdbcihcdjjdhaaGreatDoor
open Go.ChangeShapes Go.WideShapes Go.ChangeAt Go.RowKit
set_option linter.unusedVariables false
set_option linter.unusedSimpArgs false
set_option maxHeartbeats 4000000
set_option maxRecDepth 100000
theorem rep_not {rows:List Int} {l:List Dm} {d:Dm} (h:¬l∈listRows rows):repL rows l d=[]∧repB rows l d=false:=by
 unfold repL repB;rw[if_neg h,decide_eq_false h];exact⟨rfl,rfl⟩
theorem rep_none {rows:List Int} {l:List Dm} {d:Dm} (h:l∈listRows rows) (e:best (listRows rows) l d=none):repL rows l d=[]∧repB rows l d=false:=by
 unfold repL repB;rw[if_pos h,decide_eq_true h,e];exact⟨rfl,rfl⟩
theorem rep_some {rows:List Int} {l m:List Dm} {d:Dm} (h:l∈listRows rows) (e:best (listRows rows) l d=some m):repL rows l d=m∧repB rows l d=true:=by
 unfold repL repB;rw[if_pos h,decide_eq_true h,e];exact⟨rfl,rfl⟩
theorem rep_mem {rows:List Int} {l:List Dm} {d:Dm} (h:repB rows l d=true):l∈listRows rows∧repL rows l d∈listRows rows:=by
 unfold repB at h;rw[Bool.and_eq_true,decide_eq_true_iff,Option.isSome_iff_exists]at h;obtain⟨h1,m,h2⟩:=h;rw[(rep_some h1 h2).1];rcases best_mem _ _ _ h2 with h3|h3
 · cases h3
 · exact⟨h1,h3⟩
theorem repS_any (v u:Value) (rows:List Int) (l:List Dm) (x y:Int) (s:Bool) (w:World) (h:Rd 1 RInt w v rows) (h':Rd 3 RDom w u l):Calls Tryz.prog 84 #[.agg #[v],u,.agg #[.int .i64 x,.int .i64 y,.bool s]] w (RetOwnB 90 3 eDom (repL rows l (x,y,s)) (repB rows l (x,y,s)) w):=by
 obtain⟨Al,cl,rfl,_,_⟩:=h'.form;have B0:=((Below.refl w.heap.size w).al (.cells #[v] 32)).al (.cells #[.int .i64 x,.int .i64 y,.bool s] 90);have bR:=(Blk.new_ w 32 #[v]).alloc (.cells #[.int .i64 x,.int .i64 y,.bool s] 90);have bX:=Blk.new2 (w.alloc (.cells #[v] 32)) 90 #[.int .i64 x,.int .i64 y,.bool s] (w.heap.size+1) (by simp);have hsm:=list_len rows;have hnot:= @rep_not rows l (x,y,s);have hnone:= @rep_none rows l (x,y,s);have hsome:=fun m=> @rep_some rows l m (x,y,s)
 obtain⟨T,hT⟩:∃T,T=listRows rows:=⟨_,rfl⟩;have cL:∀(W:World),Rd 1 RInt W v rows→Calls Tryz.prog 159 #[.agg #[v]] W (RetLL T W):=fun W hW=>by rw[hT];exact listTilS_any v rows W hW
 have cI:∀(u:Value) (m:List Dm) (W:World),Rd 1 RInt W v rows→Rd 3 RDom W u m→Calls Tryz.prog 158 #[.agg #[v],u] W (Ret (.int .i64 (indexI T m)) W):=fun u m W h1 h2=>by rw[hT];exact indexS_any v u rows m W h1 h2
 have hlm:∀m:List Dm,m∈listRows rows→m.length≤1000:=fun m hm=>by have:=list_mem_len hm;omega
 rw[←hT]at hsm hnot hnone hsome hlm;have HCL:=Lib.hid cL;have HCI:=Lib.hid cI;have HN1:=Lib.hid hnot;have HN2:=Lib.hid hnone;have HN3:=Lib.hid hsome;clear hT cL cI hnot hnone hsome;go_enter Tryz.func84,Tryz.ntmps84
 have z0:=bR.c1;obtain⟨q_0,q_1,q_2⟩:=bX.n3;go_wp2_with fail
 refine(HCI.out _ l _ (h.below RE.stays B0) (h'.below RE.stays B0)).mono ?_;rintro e w1 ⟨rfl,hb1⟩;have B1:=B0.tr hb1;have bR1:=bR.bl hb1;have bX1:=bX.bl hb1;clear z0 q_0 q_1 q_2;by_cases hm:l∈T
 · have hll:=hlm l hm;rw[index_yes hm];obtain⟨hia,hia2⟩:=ix_mem hm;obtain⟨i,hi⟩:∃i,i=ix T l:=⟨_,rfl⟩;rw[←hi]at hia⊢;clear hi hia2;have Hm:=Lib.hid hm;clear hm;have z0:=bR1.c1;go_wp2_with fail
   refine(HCL.out _ (h.below RE.stays B1)).mono ?_;rintro e w2 ⟨A,c,rfl,oT,hb2⟩;have B2:=B1.tr hb2;clear z0;have bX2:=bX1.bl hb2;obtain⟨q_0,q_1,q_2⟩:=bX2.n3;go_wp2_with fail
   refine(bestT_any _ _ T l x y s _ oT (h'.below RE.stays B2) hll hsm).mono ?_;rintro e w3 ⟨q,rfl,hq,hb3⟩;have B3:=B2.tr hb3;clear q_0 q_1 q_2;rcases hq with⟨e0,rfl⟩|⟨j,hj,e0,rfl⟩
   · obtain⟨r1,r2⟩:=HN2.out Hm.out e0;clear e0;go_wp2;go_ret2
     rw[r1,r2];exact⟨_,_,rfl,own_mt w3 (E:=90) (size:=3) (enc:=eDom) w3.heap.size (by simp) w.heap.size (by have:=B3.size;simpa using this),B3.al _⟩
   · obtain⟨g,D,d,rfl,hg1,hg2,c1,ownk⟩:=(oT.below hb3).pick hj;obtain⟨r1,r2⟩:=HN3.out _ Hm.out e0;clear e0;obtain⟨t,ht⟩:∃t,t=T[j]:=⟨_,rfl⟩;rw[←ht]at c1 ownk r1;clear ht;have hj2:(j:Int)<(T.length:Int):=(by omega);go_wp2;go_ret2
     rw[r1,r2];exact⟨_,_,rfl,ownk.mono B1.size,B3⟩
 · rw[index_no hm];obtain⟨r1,r2⟩:=HN1.out hm;clear hm;go_wp2;go_ret2
   rw[r1,r2];exact⟨_,_,rfl,own_mt w1 (E:=90) (size:=3) (enc:=eDom) w1.heap.size (by simp) w.heap.size (by have:=B1.size;simpa using this),B1.al _⟩
theorem repI_any (v u:Value) (rows:List Int) (l:List Dm) (x y:Int) (s:Bool) (w:World) (h:Rd 1 RInt w v rows) (h':Rd 3 RDom w u l) (hne:l≠[]):Calls Tryz.prog 89 #[.agg #[v],u,.agg #[.int .i64 x,.int .i64 y,.bool s]] w (RetOwnB 90 3 eDom (repL rows l (x,y,s)) (repB rows l (x,y,s)) w):=by
 obtain⟨Al,cl,rfl,_,_⟩:=h'.form;have B0:=((Below.refl w.heap.size w).al (.cells #[v] 32)).al (.cells #[.int .i64 x,.int .i64 y,.bool s] 90);have bR:=(Blk.new_ w 32 #[v]).alloc (.cells #[.int .i64 x,.int .i64 y,.bool s] 90);have bX:=Blk.new2 (w.alloc (.cells #[v] 32)) 90 #[.int .i64 x,.int .i64 y,.bool s] (w.heap.size+1) (by simp);have hsm:=list_len rows;have hnot:= @rep_not rows l (x,y,s);have hnone:= @rep_none rows l (x,y,s);have hsome:=fun m=> @rep_some rows l m (x,y,s)
 have hall:l∈listRows rows→∀t∈listRows rows,t≠[]:=fun h1 t h2=>list_ne h1 h2 hne
 obtain⟨T,hT⟩:∃T,T=listRows rows:=⟨_,rfl⟩;have cL:∀(W:World),Rd 1 RInt W v rows→Calls Tryz.prog 166 #[.agg #[v]] W (RetLL T W):=fun W hW=>by rw[hT];exact listI_any v rows W hW
 have hlm:∀m:List Dm,m∈listRows rows→m.length≤1000:=fun m hm=>by have:=list_mem_len hm;omega
 rw[←hT]at hsm hnot hnone hsome hlm hall;have HCL:=Lib.hid cL;have HN1:=Lib.hid hnot;have HN2:=Lib.hid hnone;have HN3:=Lib.hid hsome;have HALL:=Lib.hid hall;clear hT cL hnot hnone hsome hall hne;have hnil:=fun(w:World) (a:Option Addr) (n c:Nat)=>run_neq_slice_nil_any (P:=Tryz.prog) w 33 90 a n c 0 0 Tryz.underlying33
 go_enter Tryz.func89,Tryz.ntmps89
 have z0:=bR.c1;obtain⟨q_0,q_1,q_2⟩:=bX.n3;go_wp2_with fail
 refine(HCL.out _ (h.below RE.stays B0)).mono ?_;rintro e w1 ⟨A,c,rfl,oT,hb1⟩;have B1:=B0.tr hb1;have bX1:=bX.bl hb1;clear z0 q_0 q_1 q_2;go_wp2_with fail
 refine(indexI_any _ _ T l _ oT (h'.below RE.stays B1)).mono ?_;rintro e w2 ⟨rfl,hb2⟩;have B2:=B1.tr hb2;have oT2:=oT.below hb2;have bX2:=bX1.bl hb2;by_cases hm:l∈T
 · have hll:=hlm l hm;rw[index_yes hm];obtain⟨hia,hia2⟩:=ix_mem hm;obtain⟨i,hi⟩:∃i,i=ix T l:=⟨_,rfl⟩;rw[←hi]at hia⊢;clear hi hia2;have Hm:=Lib.hid hm;clear hm;obtain⟨q_0,q_1,q_2⟩:=bX2.n3;go_wp2_with fail
   refine(repairI_any _ _ T l x y s _ oT2 (h'.below RE.stays B2) hll hsm (HALL.out Hm.out)).mono ?_;rintro e w3 ⟨bv,rfl,hq,hb3⟩;have B3:=B2.tr hb3;clear q_0 q_1 q_2;rcases hq with⟨e0,rfl⟩|⟨m,g,d,e0,hmT,rfl,om⟩
   · obtain⟨r1,r2⟩:=HN2.out Hm.out e0;clear e0;go_wp2;go_ret2
     rw[r1,r2];exact⟨_,_,rfl,OwnL.nil_,B3⟩
   · obtain⟨r1,r2⟩:=HN3.out _ Hm.out e0;clear e0;go_wp2;go_ret2
     rw[r1,r2];exact⟨_,_,rfl,om.mono B0.size,B3⟩
 · rw[index_no hm];obtain⟨r1,r2⟩:=HN1.out hm;clear hm;go_wp2;go_ret2
   rw[r1,r2];exact⟨_,_,rfl,OwnL.nil_,B2⟩
def repN (rows:List Int) (l:List Dm) (d:Dm):Int:=if repB rows l d=true then((chg l (repL rows l d):Nat):Int)else-1
theorem repCost_any (v u:Value) (rows:List Int) (l:List Dm) (x y:Int) (s:Bool) (w:World) (h:Rd 1 RInt w v rows) (h':Rd 3 RDom w u l) (hne:l≠[]):Calls Tryz.prog 91 #[.agg #[v],u,.agg #[.int .i64 x,.int .i64 y,.bool s]] w (Ret (.int .i64 (repN rows l (x,y,s))) w):=by
 obtain⟨Al,cl,rfl,_,_⟩:=h'.form;have B0:=((Below.refl w.heap.size w).al (.cells #[v] 32)).al (.cells #[.int .i64 x,.int .i64 y,.bool s] 90);have bR:=(Blk.new_ w 32 #[v]).alloc (.cells #[.int .i64 x,.int .i64 y,.bool s] 90);have bX:=Blk.new2 (w.alloc (.cells #[v] 32)) 90 #[.int .i64 x,.int .i64 y,.bool s] (w.heap.size+1) (by simp);have hlm:repB rows l (x,y,s)=true→l.length≤1000:=fun hb=>by have:=list_mem_len (rep_mem hb).1;omega
 have cR:=fun(W:World) (h1:Rd 1 RInt W v rows) (h2:Rd 3 RDom W (.slice Al l.length cl) l)=>repI_any v _ rows l x y s W h1 h2 hne
 have hN:repN rows l (x,y,s)=if repB rows l (x,y,s)=true then((chg l (repL rows l (x,y,s)):Nat):Int)else-1:=rfl
 obtain⟨b,hb⟩:∃b,b=repB rows l (x,y,s):=⟨_,rfl⟩;obtain⟨m,hm⟩:∃m,m=repL rows l (x,y,s):=⟨_,rfl⟩;obtain⟨N,hN2⟩:∃N,N=repN rows l (x,y,s):=⟨_,rfl⟩;rw[←hN2]at hN⊢;rw[←hb,←hm]at hN;rw[←hb]at hlm;simp only[←hb,←hm]at cR;have HR:=Lib.hid cR;have HN:=Lib.hid hN;clear cR hN hb hm hne hN2;go_enter Tryz.func91,Tryz.ntmps91
 have z0:=bR.c1;obtain⟨q_0,q_1,q_2⟩:=bX.n3;go_wp2_with fail
 refine(HR.out _ (h.below RE.stays B0) (h'.below RE.stays B0)).mono ?_;rintro e w1 ⟨A,c,rfl,om,hb1⟩;have B1:=B0.tr hb1;clear z0 q_0 q_1 q_2;cases b
 · go_wp2;go_ret;exact⟨by rw[HN.out];rfl,B1⟩
 · have hll:=hlm rfl;go_wp2_with fail
   refine(chgI_any _ _ l m _ (h'.below RE.stays B1) (om.rd lenDom (by decide)) hll).mono ?_;rintro e w2 ⟨rfl,hb2⟩;go_wp2;go_ret;exact⟨by rw[HN.out];rfl,B1.tr hb2⟩
end Go.Proofs.YtfdbcihcdjjdhaaGreatDoor
