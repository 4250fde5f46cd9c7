/- A domino breaks, on both sides: the walks. Conditions: sizes; the library's table of powers, as its text lays it. -/
import Derived.Test.YtfdbcihcdjjdhaaGreatDoorZWkC
import Derived.Test.YtfdbcihcdjjdhaaGreatDoorZRepO
namespace Go.Proofs.YtfdbcihcdjjdhaaGreatDoor
open Go.ChangeShapes Go.WideShapes Go.ChangeAt Go.RowKit
set_option linter.unusedVariables false
set_option linter.unusedSimpArgs false
def brkD (y:Wk) (i:Int):Dm:=(y.1.2.2.1[i.toNat]?).getD (0,0,false)
def brkT (y:Wk) (i:Int):List Dm:=repL y.1.1 y.1.2.2.1 (brkD y i)
noncomputable def brkNew (y:Wk) (i:Int):Wk:=((y.1.1,y.1.2.1,brkT y i,wayL y.1.1 y.1.2.1 (brkT y i)),y.2.1-1,y.2.2.1,y.2.2.2+1)
noncomputable def brkOk (y:Wk) (i:Int):Bool:=workOk y&&inB i 0 ((y.1.2.2.1.length:Int)-1)&& !decide (y.2.1=0)&&repB y.1.1 y.1.2.2.1 (brkD y i)&&wayB y.1.1 y.1.2.1 (brkT y i)&&workOk (brkNew y i)
noncomputable def brkWk (y:Wk) (i:Int):Wk:=if brkOk y i=true then brkNew y i else y
noncomputable def brkN (y:Wk) (i:Int):Int:=if brkOk y i=true then repN y.1.1 y.1.2.2.1 (brkD y i)else-1
def RetWkN (y:Wk) (n:Int) (w:World) (e:Ending) (w':World):Prop:=∃A1 c1 A2 c2 A3 c3 A4 c4,e= .returned (.tuple #[.agg #[.slice A1 y.1.1.length c1,.slice A2 y.1.2.1.length c2,.slice A3 y.1.2.2.1.length c3,.slice A4 y.1.2.2.2.length c4,.int .i64 y.2.1,.int .i64 y.2.2.1,.int .i64 y.2.2.2],.int .i64 n])∧
  OwnFl w.heap.size w' (.slice A1 y.1.1.length c1) (.slice A2 y.1.2.1.length c2) (.slice A3 y.1.2.2.1.length c3) (.slice A4 y.1.2.2.2.length c4) y.1∧Below w.heap.size w w'
theorem work_nums {x:Fl} {s p r:Int} (h:workOk (x,s,p,r)=true):0≤s∧s≤10000∧0≤r∧r≤10000:=by
 unfold workOk inB at h
 simp only[Bool.and_eq_true,decide_eq_true_iff]at h
 omega
set_option maxHeartbeats 4000000 in
set_option maxRecDepth 100000 in
theorem brkI_any (v1 v2 v3 v4:Value) (x:Fl) (s p r i:Int) (w:World) (h1:Rd 1 RInt w v1 x.1) (h2:Rd 3 RDom w v2 x.2.1) (h3:Rd 3 RDom w v3 x.2.2.1) (h4:Rd 2 RPair w v4 x.2.2.2) (hs:Small4 x)(ht:Tab w):
 Calls Tryz.prog 20 #[.agg #[v1,v2,v3,v4,.int .i64 s,.int .i64 p,.int .i64 r],.int .i64 i] w (RetWkN (brkWk (x,s,p,r) i) (brkN (x,s,p,r) i) w):=by
 have HTB:=Lib.hid ht;clear ht
 obtain⟨A1,c1,rfl,hc1,hm1⟩:=h1.form
 obtain⟨A2,c2,rfl,hc2,hm2⟩:=h2.form
 obtain⟨A3,c3,rfl,hc3,hm3⟩:=h3.form
 obtain⟨A4,c4,rfl,hc4,hm4⟩:=h4.form
 obtain⟨⟨dx,dy,dd⟩,hd⟩:∃d,d=brkD (x,s,p,r) i:=⟨_,rfl⟩
 obtain⟨k,hk⟩:∃k,k=workOk (x,s,p,r):=⟨_,rfl⟩
 obtain⟨ib,hib⟩:∃b,b=inB i 0 ((x.2.2.1.length:Int)-1):=⟨_,rfl⟩
 obtain⟨T,hT⟩:∃T,T=repL x.1 x.2.2.1 (dx,dy,dd):=⟨_,rfl⟩
 obtain⟨o,ho⟩:∃o,o=repB x.1 x.2.2.1 (dx,dy,dd):=⟨_,rfl⟩
 obtain⟨N0,hN0⟩:∃N,N=repN x.1 x.2.2.1 (dx,dy,dd):=⟨_,rfl⟩
 obtain⟨L,hL⟩:∃L,L=wayL x.1 x.2.1 T:=⟨_,rfl⟩
 obtain⟨f,hf⟩:∃f,f=wayB x.1 x.2.1 T:=⟨_,rfl⟩
 obtain⟨x2,hx2⟩:∃y:Fl,y=(x.1,x.2.1,T,L):=⟨_,rfl⟩
 obtain⟨k2,hk2⟩:∃k,k=workOk (x2,s-1,p,r+1):=⟨_,rfl⟩
 have hnew:brkNew (x,s,p,r) i=(x2,s-1,p,r+1):=by unfold brkNew brkT;simp only;rw[←hd,←hT,←hL,←hx2]
 have hB:brkOk (x,s,p,r) i=(k&&ib&& !decide (s=0)&&o&&f&&k2):=by unfold brkOk brkT;rw[hnew];simp only;rw[←hd,←hT,←ho,←hf,←hk,←hib,←hk2]
 have hY:brkWk (x,s,p,r) i=if(k&&ib&& !decide (s=0)&&o&&f&&k2)=true then(x2,s-1,p,r+1)else(x,s,p,r):=by unfold brkWk;rw[hB,hnew]
 have hN:brkN (x,s,p,r) i=if(k&&ib&& !decide (s=0)&&o&&f&&k2)=true then N0 else-1:=by unfold brkN;rw[hB];simp only;rw[←hd,←hN0]
 obtain⟨Y,hYY⟩:∃q,q=brkWk (x,s,p,r) i:=⟨_,rfl⟩
 obtain⟨N,hNN⟩:∃q,q=brkN (x,s,p,r) i:=⟨_,rfl⟩
 rw[←hYY]at hY⊢
 rw[←hNN]at hN⊢
 have hrow : k = true → 0 ≤ s ∧ s ≤ 10000 ∧ 0 ≤ r ∧ r ≤ 10000 := fun q => by
  rw[hk]at q
  exact work_nums q
 have hin : ib = true → 0 ≤ i ∧ i < (x.2.2.1.length : Int) := fun q => by
  rw[hib]at q
  unfold inB at q
  rw[Bool.and_eq_true,decide_eq_true_iff,decide_eq_true_iff]at q
  omega
 have hget:∀(j:Nat) (hj:j<x.2.2.1.length),i=(j:Int)→x.2.2.1[j]=(dx,dy,dd):=fun j hj e=>by rw[hd,e];unfold brkD;simp[hj]
 have CK:∀(a1 a2 a3 a4:Value) (w:World),Rd 1 RInt w a1 x.1→Rd 3 RDom w a2 x.2.1→Rd 3 RDom w a3 x.2.2.1→Rd 2 RPair w a4 x.2.2.2→Calls Tryz.prog 55 #[.agg #[a1,a2,a3,a4,.int .i64 s,.int .i64 p,.int .i64 r]] w (Ret (.bool k) w):=fun a1 a2 a3 a4 w k1 k2 k3 k4=>by rw[hk];exact workOkI_any a1 a2 a3 a4 (x,s,p,r) w k1 k2 k3 k4 hs.2.1
 have CK2:∀(a1 a2 a3 a4:Value) (w:World),Rd 1 RInt w a1 x2.1→Rd 3 RDom w a2 x2.2.1→Rd 3 RDom w a3 x2.2.2.1→Rd 2 RPair w a4 x2.2.2.2→Calls Tryz.prog 55 #[.agg #[a1,a2,a3,a4,.int .i64 (s-1),.int .i64 p,.int .i64 (r+1)]] w (Ret (.bool k2) w):=fun a1 a2 a3 a4 w k1 k2 k3 k4=>by rw[hk2];exact workOkI_any a1 a2 a3 a4 (x2,s-1,p,r+1) w k1 k2 k3 k4 (by rw[hx2];exact hs.2.1)
 have CI:∀(w:World),Calls Tryz.prog 88 #[.int .i64 i,.int .i64 0,.int .i64 ((x.2.2.1.length:Int)-1)] w (Pure (.bool ib) w):=fun w=>by rw[hib];exact within_any i 0 _ w
 have CR:∀(a u:Value) (w:World),x.2.2.1≠[]→Rd 1 RInt w a x.1→Rd 3 RDom w u x.2.2.1→Calls Tryz.prog 89 #[.agg #[a],u,.agg #[.int .i64 dx,.int .i64 dy,.bool dd]] w (RetOwnB 90 3 eDom T o w):=fun a u w k0 k1 k2=>by rw[hT,ho];exact repI_any _ _ _ _ _ _ _ _ k1 k2 k0
 have CW:∀(a u1 u2:Value) (w:World),Rd 1 RInt w a x.1→Rd 3 RDom w u1 x.2.1→Rd 3 RDom w u2 T→Tab w→Calls Tryz.prog 90 #[.agg #[a],u1,u2] w (RetOwnB 77 2 ePair L f w):=fun a u1 u2 w k1 k2 k3 kt=>by rw[hL,hf];exact wayI_any _ _ _ _ _ _ _ k1 k2 k3 kt
 have CN:∀(a u:Value) (w:World),x.2.2.1≠[]→Rd 1 RInt w a x.1→Rd 3 RDom w u x.2.2.1→Calls Tryz.prog 91 #[.agg #[a],u,.agg #[.int .i64 dx,.int .i64 dy,.bool dd]] w (Ret (.int .i64 N0) w):=fun a u w k0 k1 k2=>by rw[hN0];exact repCost_any _ _ _ _ _ _ _ _ k1 k2 k0
 have hwn:IntKind.i64.wrap ((x.2.2.1.length:Int)-1)=(x.2.2.1.length:Int)-1:=IntWalk.i64_in _ (by omega)
 have HY:=Lib.hid hY;have HN:=Lib.hid hN;have HX2:=Lib.hid hx2
 clear hY hN hYY hNN hB hnew hk hib hT ho hN0 hL hf hk2 hx2 hd
 have B0:=((Below.refl w.heap.size w).al (.cells #[.slice A1 x.1.length c1,.slice A2 x.2.1.length c2,.slice A3 x.2.2.1.length c3,.slice A4 x.2.2.2.length c4,.int .i64 s,.int .i64 p,.int .i64 r] 38)).al (.cells #[.slice none 0 0,.slice none 0 0,.slice none 0 0,.slice none 0 0,.int .i64 0,.int .i64 0,.int .i64 0] 38)
 have bP:=(Blk.new_ w 38 #[.slice A1 x.1.length c1,.slice A2 x.2.1.length c2,.slice A3 x.2.2.1.length c3,.slice A4 x.2.2.2.length c4,.int .i64 s,.int .i64 p,.int .i64 r]).alloc (.cells #[.slice none 0 0,.slice none 0 0,.slice none 0 0,.slice none 0 0,.int .i64 0,.int .i64 0,.int .i64 0] 38)
 have bR:=Blk.new2 (w.alloc (.cells #[.slice A1 x.1.length c1,.slice A2 x.2.1.length c2,.slice A3 x.2.2.1.length c3,.slice A4 x.2.2.2.length c4,.int .i64 s,.int .i64 p,.int .i64 r] 38)) 38 #[.slice none 0 0,.slice none 0 0,.slice none 0 0,.slice none 0 0,.int .i64 0,.int .i64 0,.int .i64 0] (w.heap.size+1) (by simp)
 go_enter Tryz.func20,Tryz.ntmps20
 go_wp2_with fail
 obtain⟨W0,hW0⟩:∃W0,W0=(w.alloc (.cells #[.slice A1 x.1.length c1,.slice A2 x.2.1.length c2,.slice A3 x.2.2.1.length c3,.slice A4 x.2.2.2.length c4,.int .i64 s,.int .i64 p,.int .i64 r] 38)).alloc (.cells #[.slice none 0 0,.slice none 0 0,.slice none 0 0,.slice none 0 0,.int .i64 0,.int .i64 0,.int .i64 0] 38):=⟨_,rfl⟩
 obtain⟨gP,hgP⟩:∃g,g=w.heap.size:=⟨_,rfl⟩
 obtain⟨gR,hgR'⟩:∃g,g=w.heap.size+1:=⟨_,rfl⟩
 rw[←hW0]at B0 bP bR⊢
 rw[←hgR']at bR⊢
 rw[←hgP]at bP⊢
 have hgR:w.heap.size≤gR:=by omega
 have hPR:gP≠gR:=by omega
 clear hW0 hgP hgR'
 obtain⟨y_0,y_1,y_2,y_3,y_4,y_5,y_6⟩:=bP.n7
 refine(copyWkI_any _ _ _ _ x s p r _ (h1.below RE.stays B0) (h2.below RE.stays B0) (h3.below RE.stays B0) (h4.below RE.stays B0) hs).mono ?_
 rintro e w1 ⟨C1,c1',C2,c2',C3,c3',C4,c4',rfl,oO,hb1⟩
 have oO:=oO.mono B0.size
 have hgO:w.heap.size≤w1.heap.size:=(B0.tr hb1).size
 have bO1:=Blk.new_ w1 38 #[.slice C1 x.1.length c1',.slice C2 x.2.1.length c2',.slice C3 x.2.2.1.length c3',.slice C4 x.2.2.2.length c4',.int .i64 s,.int .i64 p,.int .i64 r]
 have oO1:=oO.alloc (.cells #[.slice C1 x.1.length c1',.slice C2 x.2.1.length c2',.slice C3 x.2.2.1.length c3',.slice C4 x.2.2.2.length c4',.int .i64 s,.int .i64 p,.int .i64 r] 38)
 have B1:=(B0.tr hb1).al (.cells #[.slice C1 x.1.length c1',.slice C2 x.2.1.length c2',.slice C3 x.2.2.1.length c3',.slice C4 x.2.2.2.length c4',.int .i64 s,.int .i64 p,.int .i64 r] 38)
 have bP1:=(bP.bl hb1).alloc (.cells #[.slice C1 x.1.length c1',.slice C2 x.2.1.length c2',.slice C3 x.2.2.1.length c3',.slice C4 x.2.2.2.length c4',.int .i64 s,.int .i64 p,.int .i64 r] 38)
 have bR1:=(bR.bl hb1).alloc (.cells #[.slice C1 x.1.length c1',.slice C2 x.2.1.length c2',.slice C3 x.2.2.1.length c3',.slice C4 x.2.2.2.length c4',.int .i64 s,.int .i64 p,.int .i64 r] 38)
 have hRl:=(bR.bl hb1).lt
 have hPl:=(bP.bl hb1).lt
 have hPn:gP≠w1.heap.size:=by omega
 clear oO y_0 y_1 y_2 y_3 y_4 y_5 y_6 hb1 B0 bP bR
 go_upto_region 2 with(fail)
 obtain⟨W1,hW1⟩:∃W1,W1=w1.alloc (.cells #[.slice C1 x.1.length c1',.slice C2 x.2.1.length c2',.slice C3 x.2.2.1.length c3',.slice C4 x.2.2.2.length c4',.int .i64 s,.int .i64 p,.int .i64 r] 38):=⟨_,rfl⟩
 obtain⟨gO,hgO'⟩:∃g,g=w1.heap.size:=⟨_,rfl⟩
 rw[←hW1]at bO1 oO1 B1 bP1 bR1⊢
 rw[←hgO']at bO1 hPn hgO⊢
 have hRO:gR≠gO:=by omega
 have hOR:=hRO.symm
 clear hW1 hgO' hRl hPl
 obtain⟨y_0,y_1,y_2,y_3,y_4,y_5,y_6⟩:=bP1.n7
 go_wp2_with fail
 refine(CK _ _ _ _ _ (h1.below RE.stays B1) (h2.below RE.stays B1) (h3.below RE.stays B1) (h4.below RE.stays B1)).mono ?_
 rintro e w3 ⟨rfl,hb3⟩
 have B3:=B1.tr hb3
 have bR3:=bR1.bl hb3
 have bO3:=bO1.bl hb3
 have bP3:=bP1.bl hb3
 have oO3:=oO1.below hb3
 clear y_0 y_1 y_2 y_3 y_4 y_5 y_6 B1 bR1 bO1 bP1 oO1 hb3
 cases k
 · skip
   obtain rfl:(x,s,p,r)=Y:=by rw[HY.out];rfl
   obtain rfl: -1=N:=by rw[HN.out];rfl
   obtain⟨q_0,q_1,q_2,q_3,q_4,q_5,q_6⟩:=bO3.n7
   go_wp2_with (refine wpList_storeRow rfl 38 _ _ rfl gR #[.slice C1 x.1.length c1',.slice C2 x.2.1.length c2',.slice C3 x.2.2.1.length c3',.slice C4 x.2.2.2.length c4',.int .i64 s,.int .i64 p,.int .i64 r] rfl rfl _ _ bR3 (by kernel_rfl) rfl (by simp[Value.oneCell']) ?_;intro wE bE hgE)
   have oE:OwnFl w.heap.size wE _ _ _ _ _:=OwnFl.rowI oO3 bR3 (by decide) (by decide) (by decide) hgE
   have BE:=B3.grown hgE B3.size (fun k hk=>by injection hk with hk;subst hk;exact hgR)
   obtain⟨q_0,q_1,q_2,q_3,q_4,q_5,q_6⟩:=bE.n7
   refine bodyPost_ret (v:= .tuple #[.agg #[.slice C1 x.1.length c1',.slice C2 x.2.1.length c2',.slice C3 x.2.2.1.length c3',.slice C4 x.2.2.2.length c4',.int .i64 s,.int .i64 p,.int .i64 r],.int .i64 (-1)]) (by simp[results,Tryz.results20,go_sem,q_0,q_1,q_2,q_3,q_4,q_5,q_6]) rfl ⟨C1,c1',C2,c2',C3,c3',C4,c4',rfl,oE,BE⟩
 · obtain⟨hs0,hs1,hr0,hr1⟩:=hrow rfl
   obtain⟨y_0,y_1,y_2,y_3,y_4,y_5,y_6⟩:=bP3.n7
   go_wp2_with fail
   refine(CI _).mono ?_
   rintro e w4 ⟨rfl,rfl⟩
   clear y_0 y_1 y_2 y_3 y_4 y_5 y_6
   cases ib
   · skip
     obtain rfl:(x,s,p,r)=Y:=by rw[HY.out];rfl
     obtain rfl: -1=N:=by rw[HN.out];rfl
     obtain⟨q_0,q_1,q_2,q_3,q_4,q_5,q_6⟩:=bO3.n7
     go_wp2_with (refine wpList_storeRow rfl 38 _ _ rfl gR #[.slice C1 x.1.length c1',.slice C2 x.2.1.length c2',.slice C3 x.2.2.1.length c3',.slice C4 x.2.2.2.length c4',.int .i64 s,.int .i64 p,.int .i64 r] rfl rfl _ _ bR3 (by kernel_rfl) rfl (by simp[Value.oneCell']) ?_;intro wE bE hgE)
     have oE:OwnFl w.heap.size wE _ _ _ _ _:=OwnFl.rowI oO3 bR3 (by decide) (by decide) (by decide) hgE
     have BE:=B3.grown hgE B3.size (fun k hk=>by injection hk with hk;subst hk;exact hgR)
     obtain⟨q_0,q_1,q_2,q_3,q_4,q_5,q_6⟩:=bE.n7
     refine bodyPost_ret (v:= .tuple #[.agg #[.slice C1 x.1.length c1',.slice C2 x.2.1.length c2',.slice C3 x.2.2.1.length c3',.slice C4 x.2.2.2.length c4',.int .i64 s,.int .i64 p,.int .i64 r],.int .i64 (-1)]) (by simp[results,Tryz.results20,go_sem,q_0,q_1,q_2,q_3,q_4,q_5,q_6]) rfl ⟨C1,c1',C2,c2',C3,c3',C4,c4',rfl,oE,BE⟩
   · obtain⟨hi0,hi1⟩:=hin rfl
     by_cases hsz:s=0
     · have hd1:decide (s=0)=true:=decide_eq_true hsz
       have hd2:(s==0)=true:=by rw[hsz];rfl
       clear hsz
       obtain⟨y_0,y_1,y_2,y_3,y_4,y_5,y_6⟩:=bP3.n7
       obtain rfl:(x,s,p,r)=Y:=by rw[HY.out,hd1];rfl
       obtain rfl: -1=N:=by rw[HN.out,hd1];rfl
       obtain⟨q_0,q_1,q_2,q_3,q_4,q_5,q_6⟩:=bO3.n7
       go_wp2_with (refine wpList_storeRow rfl 38 _ _ rfl gR #[.slice C1 x.1.length c1',.slice C2 x.2.1.length c2',.slice C3 x.2.2.1.length c3',.slice C4 x.2.2.2.length c4',.int .i64 s,.int .i64 p,.int .i64 r] rfl rfl _ _ bR3 (by kernel_rfl) rfl (by simp[Value.oneCell']) ?_;intro wE bE hgE)
       have oE:OwnFl w.heap.size wE _ _ _ _ _:=OwnFl.rowI oO3 bR3 (by decide) (by decide) (by decide) hgE
       have BE:=B3.grown hgE B3.size (fun k hk=>by injection hk with hk;subst hk;exact hgR)
       obtain⟨q_0,q_1,q_2,q_3,q_4,q_5,q_6⟩:=bE.n7
       refine bodyPost_ret (v:= .tuple #[.agg #[.slice C1 x.1.length c1',.slice C2 x.2.1.length c2',.slice C3 x.2.2.1.length c3',.slice C4 x.2.2.2.length c4',.int .i64 s,.int .i64 p,.int .i64 r],.int .i64 (-1)]) (by simp[results,Tryz.results20,go_sem,q_0,q_1,q_2,q_3,q_4,q_5,q_6]) rfl ⟨C1,c1',C2,c2',C3,c3',C4,c4',rfl,oE,BE⟩
     · have hd1:decide (s=0)=false:=decide_eq_false hsz
       have hd2:(s==0)=false:=beq_false_of_ne hsz
       clear hsz
       obtain⟨j,rfl⟩:∃j:Nat,i=(j:Int):=⟨i.toNat,by omega⟩
       have hjl:j<x.2.2.1.length:=by omega
       have hgj:=hget j hjl rfl
       have hne:x.2.2.1≠[]:=fun e=>by rw[e]at hjl;exact absurd hjl (Nat.not_lt_zero _)
       obtain⟨bb,off,rfl,hbb,q0,q1,q2⟩:=(h3.below RE.stays B3).atDom hjl
       rw[hgj]at q0 q1 q2
       clear hget hgj hin hrow
       have bB4:=Blk.new_ w3 90 #[.int .i64 dx,.int .i64 dy,.bool dd]
       have oO4:=oO3.alloc (.cells #[.int .i64 dx,.int .i64 dy,.bool dd] 90)
       have B4:=B3.al (.cells #[.int .i64 dx,.int .i64 dy,.bool dd] 90)
       have bP4:=bP3.alloc (.cells #[.int .i64 dx,.int .i64 dy,.bool dd] 90)
       have bR4:=bR3.alloc (.cells #[.int .i64 dx,.int .i64 dy,.bool dd] 90)
       have bO4:=bO3.alloc (.cells #[.int .i64 dx,.int .i64 dy,.bool dd] 90)
       have hRl:=bR3.lt
       have hPl:=bP3.lt
       have hOl:=bO3.lt
       have hPB:gP≠w3.heap.size:=by omega
       have hRB:gR≠w3.heap.size:=by omega
       have hOB:gO≠w3.heap.size:=by omega
       obtain⟨y_0,y_1,y_2,y_3,y_4,y_5,y_6⟩:=bP3.n7
       go_upto_region 5 with(fail)
       obtain⟨W4,hW4⟩:∃W4,W4=w3.alloc (.cells #[.int .i64 dx,.int .i64 dy,.bool dd] 90):=⟨_,rfl⟩
       obtain⟨gB,hgB'⟩:∃g,g=w3.heap.size:=⟨_,rfl⟩
       rw[←hW4]at bB4 oO4 B4 bP4 bR4 bO4⊢
       rw[←hgB']at bB4 hPB hRB hOB⊢
       clear hW4 hgB' hRl hPl hOl y_0 y_1 y_2 y_3 y_4 y_5 y_6 B3 bP3 bR3 bO3 oO3 q0 q1 q2 hbb
       have hBO:=hOB.symm
       have hBR:=hRB.symm
       obtain⟨y_0,y_1,y_2,y_3,y_4,y_5,y_6⟩:=bP4.n7
       obtain⟨d_0,d_1,d_2⟩:=bB4.n3
       go_wp2_with fail
       refine(CR _ _ _ hne (h1.below RE.stays B4) (h3.below RE.stays B4)).mono ?_
       rintro e w5 ⟨DT,dT,rfl,oT,hb5⟩
       clear y_0 y_1 y_2 y_3 y_4 y_5 y_6 d_0 d_1 d_2
       have B5:=B4.tr hb5
       have bR5:=bR4.bl hb5
       have bO5:=bO4.bl hb5
       have bP5:=bP4.bl hb5
       have bB5:=bB4.bl hb5
       have oO5:=oO4.below hb5
       have apT : ∀ g, (Value.slice C2 x.2.1.length c2').ownBlock = some g → (Value.slice DT T.length dT).ownBlock ≠ some g := fun g q q2 => by
        have a:=(oO4.lt (.inr (.inl q))).2
        have b:=(World.ownsRow.lt oT g q2).1
        omega
       have oT5:=oT.mono B4.size
       clear B4 bR4 bO4 bP4 bB4 oO4 oT
       obtain⟨y_0,y_1,y_2,y_3,y_4,y_5,y_6⟩:=bP5.n7
       go_wp2_with fail
       refine(CW _ _ _ _ (h1.below RE.stays B5) (h2.below RE.stays B5) (oT5.rd lenDom (by decide)) (HTB.out.below B5)).mono ?_
       rintro e w6 ⟨DL,dL,rfl,oL,hb6⟩
       clear y_0 y_1 y_2 y_3 y_4 y_5 y_6
       have B6:=B5.tr hb6
       have bR6:=bR5.bl hb6
       have bO6:=bO5.bl hb6
       have bP6:=bP5.bl hb6
       have bB6:=bB5.bl hb6
       have oO6:=oO5.below hb6
       have oT6:=oT5.below hb6
       have oL6:=oL.mono B5.size
       clear B5 bR5 bO5 bP5 bB5 oO5 oT5 oL hb6
       cases o
       · skip
         obtain rfl:(x,s,p,r)=Y:=by rw[HY.out,hd1];rfl
         obtain rfl: -1=N:=by rw[HN.out,hd1];rfl
         obtain⟨q_0,q_1,q_2,q_3,q_4,q_5,q_6⟩:=bO6.n7
         go_wp2_with (refine wpList_storeRow rfl 38 _ _ rfl gR #[.slice C1 x.1.length c1',.slice C2 x.2.1.length c2',.slice C3 x.2.2.1.length c3',.slice C4 x.2.2.2.length c4',.int .i64 s,.int .i64 p,.int .i64 r] rfl rfl _ _ bR6 (by kernel_rfl) rfl (by simp[Value.oneCell']) ?_;intro wE bE hgE)
         have oE:OwnFl w.heap.size wE _ _ _ _ _:=OwnFl.rowI oO6 bR6 (by decide) (by decide) (by decide) hgE
         have BE:=B6.grown hgE B6.size (fun k hk=>by injection hk with hk;subst hk;exact hgR)
         obtain⟨q_0,q_1,q_2,q_3,q_4,q_5,q_6⟩:=bE.n7
         refine bodyPost_ret (v:= .tuple #[.agg #[.slice C1 x.1.length c1',.slice C2 x.2.1.length c2',.slice C3 x.2.2.1.length c3',.slice C4 x.2.2.2.length c4',.int .i64 s,.int .i64 p,.int .i64 r],.int .i64 (-1)]) (by simp[results,Tryz.results20,go_sem,q_0,q_1,q_2,q_3,q_4,q_5,q_6]) rfl ⟨C1,c1',C2,c2',C3,c3',C4,c4',rfl,oE,BE⟩
       · cases f
         · skip
           obtain rfl:(x,s,p,r)=Y:=by rw[HY.out,hd1];rfl
           obtain rfl: -1=N:=by rw[HN.out,hd1];rfl
           obtain⟨q_0,q_1,q_2,q_3,q_4,q_5,q_6⟩:=bO6.n7
           go_wp2_with (refine wpList_storeRow rfl 38 _ _ rfl gR #[.slice C1 x.1.length c1',.slice C2 x.2.1.length c2',.slice C3 x.2.2.1.length c3',.slice C4 x.2.2.2.length c4',.int .i64 s,.int .i64 p,.int .i64 r] rfl rfl _ _ bR6 (by kernel_rfl) rfl (by simp[Value.oneCell']) ?_;intro wE bE hgE)
           have oE:OwnFl w.heap.size wE _ _ _ _ _:=OwnFl.rowI oO6 bR6 (by decide) (by decide) (by decide) hgE
           have BE:=B6.grown hgE B6.size (fun k hk=>by injection hk with hk;subst hk;exact hgR)
           obtain⟨q_0,q_1,q_2,q_3,q_4,q_5,q_6⟩:=bE.n7
           refine bodyPost_ret (v:= .tuple #[.agg #[.slice C1 x.1.length c1',.slice C2 x.2.1.length c2',.slice C3 x.2.2.1.length c3',.slice C4 x.2.2.2.length c4',.int .i64 s,.int .i64 p,.int .i64 r],.int .i64 (-1)]) (by simp[results,Tryz.results20,go_sem,q_0,q_1,q_2,q_3,q_4,q_5,q_6]) rfl ⟨C1,c1',C2,c2',C3,c3',C4,c4',rfl,oE,BE⟩
         · skip
           obtain rfl:=HX2.out
           simp only at CK2
           have hw1:IntKind.i64.wrap (s-1)=s-1:=IntWalk.i64_in _ (by omega)
           have hw2:IntKind.i64.wrap (r+1)=r+1:=IntWalk.i64_in _ (by omega)
           have oN6:OwnFl w.heap.size w6 (.slice C1 x.1.length c1') (.slice C2 x.2.1.length c2') (.slice DT T.length dT) (.slice DL L.length dL) (x.1,x.2.1,T,L):=⟨oO6.a,oO6.b,oT6,oL6,apT⟩
           obtain⟨y_0,y_1,y_2,y_3,y_4,y_5,y_6⟩:=bO6.n7
           have fO:=fun j=>bO6.frozen j
           have hgg:=gr_set (gr_set (gr_set (gr_set (World.grownBy.refl w6 (some gO)) 2 (.slice DT T.length dT)) 3 (.slice DL L.length dL)) 4 (.int .i64 (s-1))) 6 (.int .i64 (r+1))
           have bO7:=(((bO6.st 2 (.slice DT T.length dT) #[.slice C1 x.1.length c1',.slice C2 x.2.1.length c2',.slice DT T.length dT,.slice C4 x.2.2.2.length c4',.int .i64 s,.int .i64 p,.int .i64 r] rfl).st 3 (.slice DL L.length dL) #[.slice C1 x.1.length c1',.slice C2 x.2.1.length c2',.slice DT T.length dT,.slice DL L.length dL,.int .i64 s,.int .i64 p,.int .i64 r] rfl).st 4 (.int .i64 (s-1)) #[.slice C1 x.1.length c1',.slice C2 x.2.1.length c2',.slice DT T.length dT,.slice DL L.length dL,.int .i64 (s-1),.int .i64 p,.int .i64 r] rfl).st 6 (.int .i64 (r+1)) #[.slice C1 x.1.length c1',.slice C2 x.2.1.length c2',.slice DT T.length dT,.slice DL L.length dL,.int .i64 (s-1),.int .i64 p,.int .i64 (r+1)] rfl
           have bR7:=bR6.grown hgg (by simp;omega)
           have bP7:=bP6.grown hgg (by simp;omega)
           have bB7:=bB6.grown hgg (by simp;omega)
           have oO7:=OwnFl.rowI oN6 bO6 (by decide) (by decide) (by decide) hgg
           have B7:=B6.grown hgg B6.size (fun k hk=>by injection hk with hk;subst hk;exact hgO)
           go_upto_region 12 with(fail)
           obtain⟨W7,hW7⟩:∃W7,W7=(((w6.setCell ⟨gO,2,none⟩ (.slice DT T.length dT)).setCell ⟨gO,3,none⟩ (.slice DL L.length dL)).setCell ⟨gO,4,none⟩ (.int .i64 (s-1))).setCell ⟨gO,6,none⟩ (.int .i64 (r+1)):=⟨_,rfl⟩
           rw[←hW7]at bO7 bR7 bP7 bB7 oO7 B7⊢
           clear hW7 hgg y_0 y_1 y_2 y_3 y_4 y_5 y_6 fO B6 bR6 bO6 bP6 bB6 oO6 oT6 oL6 oN6
           obtain⟨y_0,y_1,y_2,y_3,y_4,y_5,y_6⟩:=bO7.n7
           go_wp2_with fail
           refine(CK2 _ _ _ _ _ oO7.ra oO7.rb oO7.rc oO7.rd).mono ?_
           rintro e w8 ⟨rfl,hb8⟩
           have B8:=B7.tr hb8
           have bR8:=bR7.bl hb8
           have bO8:=bO7.bl hb8
           have bP8:=bP7.bl hb8
           have bB8:=bB7.bl hb8
           have oO8:=oO7.below hb8
           clear y_0 y_1 y_2 y_3 y_4 y_5 y_6 B7 bR7 bO7 bP7 bB7 oO7 hb8
           cases k2
           · skip
             obtain rfl:(x,s,p,r)=Y:=by rw[HY.out,hd1];rfl
             obtain rfl: -1=N:=by rw[HN.out,hd1];rfl
             obtain⟨y_0,y_1,y_2,y_3,y_4,y_5,y_6⟩:=bP8.n7
             go_wp2_with fail
             refine(copyWkI_any _ _ _ _ x s p r _ (h1.below RE.stays B8) (h2.below RE.stays B8) (h3.below RE.stays B8) (h4.below RE.stays B8) hs).mono ?_
             rintro e w9 ⟨D1,d1,D2,d2,D3,d3,D4,d4,rfl,oD,hb9⟩
             have oD:=oD.mono B8.size
             have B9:=B8.tr hb9
             have bR9:=bR8.bl hb9
             go_wp2_with (refine wpList_storeRow rfl 38 _ _ rfl gR #[.slice D1 x.1.length d1,.slice D2 x.2.1.length d2,.slice D3 x.2.2.1.length d3,.slice D4 x.2.2.2.length d4,.int .i64 s,.int .i64 p,.int .i64 r] rfl rfl _ _ bR9 (by kernel_rfl) rfl (by simp[Value.oneCell']) ?_;intro wE bE hgE)
             have oE:OwnFl w.heap.size wE _ _ _ _ _:=OwnFl.rowI oD bR9 (by decide) (by decide) (by decide) hgE
             have BE:=B9.grown hgE B9.size (fun k hk=>by injection hk with hk;subst hk;exact hgR)
             obtain⟨q_0,q_1,q_2,q_3,q_4,q_5,q_6⟩:=bE.n7
             refine bodyPost_ret (v:= .tuple #[.agg #[.slice D1 x.1.length d1,.slice D2 x.2.1.length d2,.slice D3 x.2.2.1.length d3,.slice D4 x.2.2.2.length d4,.int .i64 s,.int .i64 p,.int .i64 r],.int .i64 (-1)]) (by simp[results,Tryz.results20,go_sem,q_0,q_1,q_2,q_3,q_4,q_5,q_6]) rfl ⟨D1,d1,D2,d2,D3,d3,D4,d4,rfl,oE,BE⟩
           · skip
             obtain rfl:((x.1,x.2.1,T,L),s-1,p,r+1)=Y:=by rw[HY.out,hd1];rfl
             obtain rfl:N0=N:=by rw[HN.out,hd1];rfl
             obtain⟨p_0,p_1,p_2,p_3,p_4,p_5,p_6⟩:=bP8.n7
             obtain⟨y_0,y_1,y_2,y_3,y_4,y_5,y_6⟩:=bO8.n7
             obtain⟨d_0,d_1,d_2⟩:=bB8.n3
             obtain⟨W8,hW8⟩:∃W8,W8=w8:=⟨_,rfl⟩
             rw[←hW8]at B8 bR8 bO8 bP8 bB8 oO8 p_0 p_1 p_2 p_3 p_4 p_5 p_6 y_0 y_1 y_2 y_3 y_4 y_5 y_6 d_0 d_1 d_2⊢
             clear hW8
             have Bw:Below W8.heap.size W8 W8.drew:=(Below.refl _ _).drew
             have hz:W8.heap.size≤W8.drew.heap.size:=by simp
             have hPl:=bP8.lt
             have hOl:=bO8.lt
             have hBl:=bB8.lt
             go_wp2_with fail
             refine rB (fun w'=>w'.cell? ⟨gP,0,none⟩=some (.slice A1 x.1.length c1)∧w'.cell? ⟨gP,2,none⟩=some (.slice (some ⟨bb,off,none⟩) x.2.2.1.length c3)∧w'.cell? ⟨gO,0,none⟩=some (.slice C1 x.1.length c1')∧w'.cell? ⟨gO,1,none⟩=some (.slice C2 x.2.1.length c2')∧w'.cell? ⟨gO,2,none⟩=some (.slice DT T.length dT)∧w'.cell? ⟨gO,3,none⟩=some (.slice DL L.length dL)∧w'.cell? ⟨gO,4,none⟩=some (.int .i64 (s-1))∧w'.cell? ⟨gO,5,none⟩=some (.int .i64 p)∧w'.cell? ⟨gO,6,none⟩=some (.int .i64 (r+1))∧w'.cell? ⟨gB,0,none⟩=some (.int .i64 dx)∧w'.cell? ⟨gB,1,none⟩=some (.int .i64 dy)∧w'.cell? ⟨gB,2,none⟩=some (.bool dd)) fun hHeld=>(tW 0)<|(tW 1)<|(tW 2)<|(tW 3)<|(tW 4)<|(tW 5)<|(tW 6)<|(tW 7)<|(tR [8])<|tL fun K hK=>?_
             go_simp
             (first|(go_at_call 91;go_must (refine(CN _ _ _ hne (h1.below RE.stays (B8.tr Bw)) (h3.below RE.stays (B8.tr Bw))).mono ?_;rintro e wX ⟨rfl,hbX⟩;obtain⟨hcX,hfX,hzX⟩:=bkn hbX W8.heap.size hz;have hz:=hzX;have Bw:=Bw.tr hbX);(try go_wp2_with fail)))
             refine tK hK fun hHeld=>?_
             clear hK K
             refine(tR [9])<|tL fun K hK=>?_
             (refine step_storeRow rfl 38 _ _ rfl gR #[.slice C1 x.1.length c1',.slice C2 x.2.1.length c2',.slice DT T.length dT,.slice DL L.length dL,.int .i64 (s-1),.int .i64 p,.int .i64 (r+1)] rfl rfl _ _ (bR8.bl Bw) (by kernel_rfl) rfl (by simp[Value.oneCell']) ?_;intro wE bE hgE;have oE:=OwnFl.rowI (oO8.below Bw) (bR8.bl Bw) (by decide) (by decide) (by decide) hgE;have BE:=(B8.tr Bw).grown hgE (B8.tr Bw).size (fun k hk=>by injection hk with hk;subst hk;exact hgR);have bPE:=(bP8.bl Bw).grown hgE (by simp;omega);have bOE:=(bO8.bl Bw).grown hgE (by simp;omega);have bBE:=(bB8.bl Bw).grown hgE (by simp;omega);obtain⟨c_0,c_1,c_2,c_3,c_4,c_5,c_6⟩:=bPE.n7;obtain⟨f_0,f_1,f_2,f_3,f_4,f_5,f_6⟩:=bOE.n7;obtain⟨g_0,g_1,g_2⟩:=bBE.n3)
             refine tK hK fun hHeld=>?_
             clear hK K
             refine(tW 10)<|tD ?_
             all_goals
               go_wp2_with fail
               obtain⟨q_0,q_1,q_2,q_3,q_4,q_5,q_6⟩:=bE.n7
               refine bodyPost_ret (v:= .tuple #[.agg #[.slice C1 x.1.length c1',.slice C2 x.2.1.length c2',.slice DT T.length dT,.slice DL L.length dL,.int .i64 (s-1),.int .i64 p,.int .i64 (r+1)],.int .i64 N0]) (by simp[results,Tryz.results20,go_sem,q_0,q_1,q_2,q_3,q_4,q_5,q_6]) rfl ⟨C1,c1',C2,c2',DT,dT,DL,dL,rfl,oE,BE⟩
set_option maxHeartbeats 4000000 in
set_option maxRecDepth 100000 in
theorem brkS_any (v1 v2 v3 v4:Value) (x:Fl) (s p r i:Int) (w:World) (h1:Rd 1 RInt w v1 x.1) (h2:Rd 3 RDom w v2 x.2.1) (h3:Rd 3 RDom w v3 x.2.2.1) (h4:Rd 2 RPair w v4 x.2.2.2) (hs:Small4 x):
 Calls Tryz.prog 18 #[.agg #[v1,v2,v3,v4,.int .i64 s,.int .i64 p,.int .i64 r],.int .i64 i] w (RetWkN (brkWk (x,s,p,r) i) (brkN (x,s,p,r) i) w):=by
 obtain⟨A1,c1,rfl,hc1,hm1⟩:=h1.form
 obtain⟨A2,c2,rfl,hc2,hm2⟩:=h2.form
 obtain⟨A3,c3,rfl,hc3,hm3⟩:=h3.form
 obtain⟨A4,c4,rfl,hc4,hm4⟩:=h4.form
 obtain⟨⟨dx,dy,dd⟩,hd⟩:∃d,d=brkD (x,s,p,r) i:=⟨_,rfl⟩
 obtain⟨k,hk⟩:∃k,k=workOk (x,s,p,r):=⟨_,rfl⟩
 obtain⟨ib,hib⟩:∃b,b=inB i 0 ((x.2.2.1.length:Int)-1):=⟨_,rfl⟩
 obtain⟨T,hT⟩:∃T,T=repL x.1 x.2.2.1 (dx,dy,dd):=⟨_,rfl⟩
 obtain⟨o,ho⟩:∃o,o=repB x.1 x.2.2.1 (dx,dy,dd):=⟨_,rfl⟩
 obtain⟨N0,hN0⟩:∃N,N=repN x.1 x.2.2.1 (dx,dy,dd):=⟨_,rfl⟩
 obtain⟨L,hL⟩:∃L,L=wayL x.1 x.2.1 T:=⟨_,rfl⟩
 obtain⟨f,hf⟩:∃f,f=wayB x.1 x.2.1 T:=⟨_,rfl⟩
 obtain⟨x2,hx2⟩:∃y:Fl,y=(x.1,x.2.1,T,L):=⟨_,rfl⟩
 obtain⟨k2,hk2⟩:∃k,k=workOk (x2,s-1,p,r+1):=⟨_,rfl⟩
 have hnew:brkNew (x,s,p,r) i=(x2,s-1,p,r+1):=by unfold brkNew brkT;simp only;rw[←hd,←hT,←hL,←hx2]
 have hB:brkOk (x,s,p,r) i=(k&&ib&& !decide (s=0)&&o&&f&&k2):=by unfold brkOk brkT;rw[hnew];simp only;rw[←hd,←hT,←ho,←hf,←hk,←hib,←hk2]
 have hY:brkWk (x,s,p,r) i=if(k&&ib&& !decide (s=0)&&o&&f&&k2)=true then(x2,s-1,p,r+1)else(x,s,p,r):=by unfold brkWk;rw[hB,hnew]
 have hN:brkN (x,s,p,r) i=if(k&&ib&& !decide (s=0)&&o&&f&&k2)=true then N0 else-1:=by unfold brkN;rw[hB];simp only;rw[←hd,←hN0]
 obtain⟨Y,hYY⟩:∃q,q=brkWk (x,s,p,r) i:=⟨_,rfl⟩
 obtain⟨N,hNN⟩:∃q,q=brkN (x,s,p,r) i:=⟨_,rfl⟩
 rw[←hYY]at hY⊢
 rw[←hNN]at hN⊢
 have hrow : k = true → 0 ≤ s ∧ s ≤ 10000 ∧ 0 ≤ r ∧ r ≤ 10000 := fun q => by
  rw[hk]at q
  exact work_nums q
 have hin : ib = true → 0 ≤ i ∧ i < (x.2.2.1.length : Int) := fun q => by
  rw[hib]at q
  unfold inB at q
  rw[Bool.and_eq_true,decide_eq_true_iff,decide_eq_true_iff]at q
  omega
 have hget:∀(j:Nat) (hj:j<x.2.2.1.length),i=(j:Int)→x.2.2.1[j]=(dx,dy,dd):=fun j hj e=>by rw[hd,e];unfold brkD;simp[hj]
 have CK:∀(a1 a2 a3 a4:Value) (w:World),Rd 1 RInt w a1 x.1→Rd 3 RDom w a2 x.2.1→Rd 3 RDom w a3 x.2.2.1→Rd 2 RPair w a4 x.2.2.2→Calls Tryz.prog 82 #[.agg #[a1,a2,a3,a4,.int .i64 s,.int .i64 p,.int .i64 r]] w (Ret (.bool k) w):=fun a1 a2 a3 a4 w k1 k2 k3 k4=>by rw[hk];exact workOkS_any a1 a2 a3 a4 (x,s,p,r) w k1 k2 k3 k4 hs.2.1
 have CK2:∀(a1 a2 a3 a4:Value) (w:World),Rd 1 RInt w a1 x2.1→Rd 3 RDom w a2 x2.2.1→Rd 3 RDom w a3 x2.2.2.1→Rd 2 RPair w a4 x2.2.2.2→Calls Tryz.prog 82 #[.agg #[a1,a2,a3,a4,.int .i64 (s-1),.int .i64 p,.int .i64 (r+1)]] w (Ret (.bool k2) w):=fun a1 a2 a3 a4 w k1 k2 k3 k4=>by rw[hk2];exact workOkS_any a1 a2 a3 a4 (x2,s-1,p,r+1) w k1 k2 k3 k4 (by rw[hx2];exact hs.2.1)
 have CI:∀(w:World),Calls Tryz.prog 83 #[.int .i64 i,.int .i64 0,.int .i64 ((x.2.2.1.length:Int)-1)] w (Pure (.bool ib) w):=fun w=>by rw[hib];exact in_any i 0 _ w
 have CR:∀(a u:Value) (w:World),x.2.2.1≠[]→Rd 1 RInt w a x.1→Rd 3 RDom w u x.2.2.1→Calls Tryz.prog 84 #[.agg #[a],u,.agg #[.int .i64 dx,.int .i64 dy,.bool dd]] w (RetOwnB 90 3 eDom T o w):=fun a u w k0 k1 k2=>by rw[hT,ho];exact repS_any _ _ _ _ _ _ _ _ k1 k2
 have CW:∀(a u1 u2:Value) (w:World),Rd 1 RInt w a x.1→Rd 3 RDom w u1 x.2.1→Rd 3 RDom w u2 T→Calls Tryz.prog 85 #[.agg #[a],u1,u2] w (RetOwnB 77 2 ePair L f w):=fun a u1 u2 w k1 k2 k3=>by rw[hL,hf];exact wayS_any _ _ _ _ _ _ _ k1 k2 k3
 have CN : ∀ (a u : Value) (w : World), o = true → Rd 3 RDom w a x.2.2.1 → Rd 3 RDom w u T → Calls Tryz.prog 57 #[a, u] w (Ret (.int .i64 N0) w) := fun a u w k0 k1 k2 => by
  have e:repN x.1 x.2.2.1 (dx,dy,dd)=((chg x.2.2.1 T:Nat):Int):=by unfold repN;rw[←ho,k0,←hT];rfl
  rw[hN0,e]
  exact chgS_any _ _ _ _ w k1 k2 (by have:=list_mem_len (rep_mem (ho.symm.trans k0)).1;omega)
 have hwn:IntKind.i64.wrap ((x.2.2.1.length:Int)-1)=(x.2.2.1.length:Int)-1:=IntWalk.i64_in _ (by omega)
 have HY:=Lib.hid hY;have HN:=Lib.hid hN;have HX2:=Lib.hid hx2
 clear hY hN hYY hNN hB hnew hk hib hT ho hN0 hL hf hk2 hx2 hd
 have B0:=((Below.refl w.heap.size w).al (.cells #[.slice A1 x.1.length c1,.slice A2 x.2.1.length c2,.slice A3 x.2.2.1.length c3,.slice A4 x.2.2.2.length c4,.int .i64 s,.int .i64 p,.int .i64 r] 38)).al (.cells #[.slice none 0 0,.slice none 0 0,.slice none 0 0,.slice none 0 0,.int .i64 0,.int .i64 0,.int .i64 0] 38)
 have bP:=(Blk.new_ w 38 #[.slice A1 x.1.length c1,.slice A2 x.2.1.length c2,.slice A3 x.2.2.1.length c3,.slice A4 x.2.2.2.length c4,.int .i64 s,.int .i64 p,.int .i64 r]).alloc (.cells #[.slice none 0 0,.slice none 0 0,.slice none 0 0,.slice none 0 0,.int .i64 0,.int .i64 0,.int .i64 0] 38)
 have bR:=Blk.new2 (w.alloc (.cells #[.slice A1 x.1.length c1,.slice A2 x.2.1.length c2,.slice A3 x.2.2.1.length c3,.slice A4 x.2.2.2.length c4,.int .i64 s,.int .i64 p,.int .i64 r] 38)) 38 #[.slice none 0 0,.slice none 0 0,.slice none 0 0,.slice none 0 0,.int .i64 0,.int .i64 0,.int .i64 0] (w.heap.size+1) (by simp)
 go_enter Tryz.func18,Tryz.ntmps18
 go_wp2_with fail
 obtain⟨W0,hW0⟩:∃W0,W0=(w.alloc (.cells #[.slice A1 x.1.length c1,.slice A2 x.2.1.length c2,.slice A3 x.2.2.1.length c3,.slice A4 x.2.2.2.length c4,.int .i64 s,.int .i64 p,.int .i64 r] 38)).alloc (.cells #[.slice none 0 0,.slice none 0 0,.slice none 0 0,.slice none 0 0,.int .i64 0,.int .i64 0,.int .i64 0] 38):=⟨_,rfl⟩
 obtain⟨gP,hgP⟩:∃g,g=w.heap.size:=⟨_,rfl⟩
 obtain⟨gR,hgR'⟩:∃g,g=w.heap.size+1:=⟨_,rfl⟩
 rw[←hW0]at B0 bP bR⊢
 rw[←hgR']at bR⊢
 rw[←hgP]at bP⊢
 have hgR:w.heap.size≤gR:=by omega
 have hPR:gP≠gR:=by omega
 clear hW0 hgP hgR'
 obtain⟨y_0,y_1,y_2,y_3,y_4,y_5,y_6⟩:=bP.n7
 refine(copyWkS_any _ _ _ _ x s p r _ (h1.below RE.stays B0) (h2.below RE.stays B0) (h3.below RE.stays B0) (h4.below RE.stays B0) hs).mono ?_
 rintro e w1 ⟨C1,c1',C2,c2',C3,c3',C4,c4',rfl,oO,hb1⟩
 have oO:=oO.mono B0.size
 have hgO:w.heap.size≤w1.heap.size:=(B0.tr hb1).size
 have bO1:=Blk.new_ w1 38 #[.slice C1 x.1.length c1',.slice C2 x.2.1.length c2',.slice C3 x.2.2.1.length c3',.slice C4 x.2.2.2.length c4',.int .i64 s,.int .i64 p,.int .i64 r]
 have oO1:=oO.alloc (.cells #[.slice C1 x.1.length c1',.slice C2 x.2.1.length c2',.slice C3 x.2.2.1.length c3',.slice C4 x.2.2.2.length c4',.int .i64 s,.int .i64 p,.int .i64 r] 38)
 have B1:=(B0.tr hb1).al (.cells #[.slice C1 x.1.length c1',.slice C2 x.2.1.length c2',.slice C3 x.2.2.1.length c3',.slice C4 x.2.2.2.length c4',.int .i64 s,.int .i64 p,.int .i64 r] 38)
 have bP1:=(bP.bl hb1).alloc (.cells #[.slice C1 x.1.length c1',.slice C2 x.2.1.length c2',.slice C3 x.2.2.1.length c3',.slice C4 x.2.2.2.length c4',.int .i64 s,.int .i64 p,.int .i64 r] 38)
 have bR1:=(bR.bl hb1).alloc (.cells #[.slice C1 x.1.length c1',.slice C2 x.2.1.length c2',.slice C3 x.2.2.1.length c3',.slice C4 x.2.2.2.length c4',.int .i64 s,.int .i64 p,.int .i64 r] 38)
 have hRl:=(bR.bl hb1).lt
 have hPl:=(bP.bl hb1).lt
 have hPn:gP≠w1.heap.size:=by omega
 clear oO y_0 y_1 y_2 y_3 y_4 y_5 y_6 hb1 B0 bP bR
 go_upto_region 2 with(fail)
 obtain⟨W1,hW1⟩:∃W1,W1=w1.alloc (.cells #[.slice C1 x.1.length c1',.slice C2 x.2.1.length c2',.slice C3 x.2.2.1.length c3',.slice C4 x.2.2.2.length c4',.int .i64 s,.int .i64 p,.int .i64 r] 38):=⟨_,rfl⟩
 obtain⟨gO,hgO'⟩:∃g,g=w1.heap.size:=⟨_,rfl⟩
 rw[←hW1]at bO1 oO1 B1 bP1 bR1⊢
 rw[←hgO']at bO1 hPn hgO⊢
 have hRO:gR≠gO:=by omega
 have hOR:=hRO.symm
 clear hW1 hgO' hRl hPl
 obtain⟨y_0,y_1,y_2,y_3,y_4,y_5,y_6⟩:=bP1.n7
 go_wp2_with fail
 refine(CK _ _ _ _ _ (h1.below RE.stays B1) (h2.below RE.stays B1) (h3.below RE.stays B1) (h4.below RE.stays B1)).mono ?_
 rintro e w3 ⟨rfl,hb3⟩
 have B3:=B1.tr hb3
 have bR3:=bR1.bl hb3
 have bO3:=bO1.bl hb3
 have bP3:=bP1.bl hb3
 have oO3:=oO1.below hb3
 clear y_0 y_1 y_2 y_3 y_4 y_5 y_6 B1 bR1 bO1 bP1 oO1 hb3
 cases k
 · skip
   obtain rfl:(x,s,p,r)=Y:=by rw[HY.out];rfl
   obtain rfl: -1=N:=by rw[HN.out];rfl
   obtain⟨q_0,q_1,q_2,q_3,q_4,q_5,q_6⟩:=bO3.n7
   go_wp2_with (refine wpList_storeRow rfl 38 _ _ rfl gR #[.slice C1 x.1.length c1',.slice C2 x.2.1.length c2',.slice C3 x.2.2.1.length c3',.slice C4 x.2.2.2.length c4',.int .i64 s,.int .i64 p,.int .i64 r] rfl rfl _ _ bR3 (by kernel_rfl) rfl (by simp[Value.oneCell']) ?_;intro wE bE hgE)
   have oE:OwnFl w.heap.size wE _ _ _ _ _:=OwnFl.rowI oO3 bR3 (by decide) (by decide) (by decide) hgE
   have BE:=B3.grown hgE B3.size (fun k hk=>by injection hk with hk;subst hk;exact hgR)
   obtain⟨q_0,q_1,q_2,q_3,q_4,q_5,q_6⟩:=bE.n7
   refine bodyPost_ret (v:= .tuple #[.agg #[.slice C1 x.1.length c1',.slice C2 x.2.1.length c2',.slice C3 x.2.2.1.length c3',.slice C4 x.2.2.2.length c4',.int .i64 s,.int .i64 p,.int .i64 r],.int .i64 (-1)]) (by simp[results,Tryz.results18,go_sem,q_0,q_1,q_2,q_3,q_4,q_5,q_6]) rfl ⟨C1,c1',C2,c2',C3,c3',C4,c4',rfl,oE,BE⟩
 · obtain⟨hs0,hs1,hr0,hr1⟩:=hrow rfl
   obtain⟨y_0,y_1,y_2,y_3,y_4,y_5,y_6⟩:=bP3.n7
   go_wp2_with fail
   refine(CI _).mono ?_
   rintro e w4 ⟨rfl,rfl⟩
   clear y_0 y_1 y_2 y_3 y_4 y_5 y_6
   cases ib
   · skip
     obtain rfl:(x,s,p,r)=Y:=by rw[HY.out];rfl
     obtain rfl: -1=N:=by rw[HN.out];rfl
     obtain⟨q_0,q_1,q_2,q_3,q_4,q_5,q_6⟩:=bO3.n7
     go_wp2_with (refine wpList_storeRow rfl 38 _ _ rfl gR #[.slice C1 x.1.length c1',.slice C2 x.2.1.length c2',.slice C3 x.2.2.1.length c3',.slice C4 x.2.2.2.length c4',.int .i64 s,.int .i64 p,.int .i64 r] rfl rfl _ _ bR3 (by kernel_rfl) rfl (by simp[Value.oneCell']) ?_;intro wE bE hgE)
     have oE:OwnFl w.heap.size wE _ _ _ _ _:=OwnFl.rowI oO3 bR3 (by decide) (by decide) (by decide) hgE
     have BE:=B3.grown hgE B3.size (fun k hk=>by injection hk with hk;subst hk;exact hgR)
     obtain⟨q_0,q_1,q_2,q_3,q_4,q_5,q_6⟩:=bE.n7
     refine bodyPost_ret (v:= .tuple #[.agg #[.slice C1 x.1.length c1',.slice C2 x.2.1.length c2',.slice C3 x.2.2.1.length c3',.slice C4 x.2.2.2.length c4',.int .i64 s,.int .i64 p,.int .i64 r],.int .i64 (-1)]) (by simp[results,Tryz.results18,go_sem,q_0,q_1,q_2,q_3,q_4,q_5,q_6]) rfl ⟨C1,c1',C2,c2',C3,c3',C4,c4',rfl,oE,BE⟩
   · obtain⟨hi0,hi1⟩:=hin rfl
     by_cases hsz:s=0
     · have hd1:decide (s=0)=true:=decide_eq_true hsz
       have hd2:(s==0)=true:=by rw[hsz];rfl
       clear hsz
       obtain⟨y_0,y_1,y_2,y_3,y_4,y_5,y_6⟩:=bP3.n7
       obtain rfl:(x,s,p,r)=Y:=by rw[HY.out,hd1];rfl
       obtain rfl: -1=N:=by rw[HN.out,hd1];rfl
       obtain⟨q_0,q_1,q_2,q_3,q_4,q_5,q_6⟩:=bO3.n7
       go_wp2_with (refine wpList_storeRow rfl 38 _ _ rfl gR #[.slice C1 x.1.length c1',.slice C2 x.2.1.length c2',.slice C3 x.2.2.1.length c3',.slice C4 x.2.2.2.length c4',.int .i64 s,.int .i64 p,.int .i64 r] rfl rfl _ _ bR3 (by kernel_rfl) rfl (by simp[Value.oneCell']) ?_;intro wE bE hgE)
       have oE:OwnFl w.heap.size wE _ _ _ _ _:=OwnFl.rowI oO3 bR3 (by decide) (by decide) (by decide) hgE
       have BE:=B3.grown hgE B3.size (fun k hk=>by injection hk with hk;subst hk;exact hgR)
       obtain⟨q_0,q_1,q_2,q_3,q_4,q_5,q_6⟩:=bE.n7
       refine bodyPost_ret (v:= .tuple #[.agg #[.slice C1 x.1.length c1',.slice C2 x.2.1.length c2',.slice C3 x.2.2.1.length c3',.slice C4 x.2.2.2.length c4',.int .i64 s,.int .i64 p,.int .i64 r],.int .i64 (-1)]) (by simp[results,Tryz.results18,go_sem,q_0,q_1,q_2,q_3,q_4,q_5,q_6]) rfl ⟨C1,c1',C2,c2',C3,c3',C4,c4',rfl,oE,BE⟩
     · have hd1:decide (s=0)=false:=decide_eq_false hsz
       have hd2:(s==0)=false:=beq_false_of_ne hsz
       clear hsz
       obtain⟨j,rfl⟩:∃j:Nat,i=(j:Int):=⟨i.toNat,by omega⟩
       have hjl:j<x.2.2.1.length:=by omega
       have hgj:=hget j hjl rfl
       have hne:x.2.2.1≠[]:=fun e=>by rw[e]at hjl;exact absurd hjl (Nat.not_lt_zero _)
       obtain⟨bb,off,rfl,hbb,q0,q1,q2⟩:=(h3.below RE.stays B3).atDom hjl
       rw[hgj]at q0 q1 q2
       clear hget hgj hin hrow
       have bB4:=Blk.new_ w3 90 #[.int .i64 dx,.int .i64 dy,.bool dd]
       have oO4:=oO3.alloc (.cells #[.int .i64 dx,.int .i64 dy,.bool dd] 90)
       have B4:=B3.al (.cells #[.int .i64 dx,.int .i64 dy,.bool dd] 90)
       have bP4:=bP3.alloc (.cells #[.int .i64 dx,.int .i64 dy,.bool dd] 90)
       have bR4:=bR3.alloc (.cells #[.int .i64 dx,.int .i64 dy,.bool dd] 90)
       have bO4:=bO3.alloc (.cells #[.int .i64 dx,.int .i64 dy,.bool dd] 90)
       have hRl:=bR3.lt
       have hPl:=bP3.lt
       have hOl:=bO3.lt
       have hPB:gP≠w3.heap.size:=by omega
       have hRB:gR≠w3.heap.size:=by omega
       have hOB:gO≠w3.heap.size:=by omega
       obtain⟨y_0,y_1,y_2,y_3,y_4,y_5,y_6⟩:=bP3.n7
       go_upto_region 5 with(fail)
       obtain⟨W4,hW4⟩:∃W4,W4=w3.alloc (.cells #[.int .i64 dx,.int .i64 dy,.bool dd] 90):=⟨_,rfl⟩
       obtain⟨gB,hgB'⟩:∃g,g=w3.heap.size:=⟨_,rfl⟩
       rw[←hW4]at bB4 oO4 B4 bP4 bR4 bO4⊢
       rw[←hgB']at bB4 hPB hRB hOB⊢
       clear hW4 hgB' hRl hPl hOl y_0 y_1 y_2 y_3 y_4 y_5 y_6 B3 bP3 bR3 bO3 oO3 q0 q1 q2 hbb
       have hBO:=hOB.symm
       have hBR:=hRB.symm
       obtain⟨y_0,y_1,y_2,y_3,y_4,y_5,y_6⟩:=bP4.n7
       obtain⟨d_0,d_1,d_2⟩:=bB4.n3
       go_wp2_with fail
       refine(CR _ _ _ hne (h1.below RE.stays B4) (h3.below RE.stays B4)).mono ?_
       rintro e w5 ⟨DT,dT,rfl,oT,hb5⟩
       clear y_0 y_1 y_2 y_3 y_4 y_5 y_6 d_0 d_1 d_2
       have B5:=B4.tr hb5
       have bR5:=bR4.bl hb5
       have bO5:=bO4.bl hb5
       have bP5:=bP4.bl hb5
       have bB5:=bB4.bl hb5
       have oO5:=oO4.below hb5
       have apT : ∀ g, (Value.slice C2 x.2.1.length c2').ownBlock = some g → (Value.slice DT T.length dT).ownBlock ≠ some g := fun g q q2 => by
        have a:=(oO4.lt (.inr (.inl q))).2
        have b:=(World.ownsRow.lt oT g q2).1
        omega
       have oT5:=oT.mono B4.size
       clear B4 bR4 bO4 bP4 bB4 oO4 oT
       cases o
       · skip
         obtain rfl:(x,s,p,r)=Y:=by rw[HY.out,hd1];rfl
         obtain rfl: -1=N:=by rw[HN.out,hd1];rfl
         obtain⟨q_0,q_1,q_2,q_3,q_4,q_5,q_6⟩:=bO5.n7
         go_wp2_with (refine wpList_storeRow rfl 38 _ _ rfl gR #[.slice C1 x.1.length c1',.slice C2 x.2.1.length c2',.slice C3 x.2.2.1.length c3',.slice C4 x.2.2.2.length c4',.int .i64 s,.int .i64 p,.int .i64 r] rfl rfl _ _ bR5 (by kernel_rfl) rfl (by simp[Value.oneCell']) ?_;intro wE bE hgE)
         have oE:OwnFl w.heap.size wE _ _ _ _ _:=OwnFl.rowI oO5 bR5 (by decide) (by decide) (by decide) hgE
         have BE:=B5.grown hgE B5.size (fun k hk=>by injection hk with hk;subst hk;exact hgR)
         obtain⟨q_0,q_1,q_2,q_3,q_4,q_5,q_6⟩:=bE.n7
         refine bodyPost_ret (v:= .tuple #[.agg #[.slice C1 x.1.length c1',.slice C2 x.2.1.length c2',.slice C3 x.2.2.1.length c3',.slice C4 x.2.2.2.length c4',.int .i64 s,.int .i64 p,.int .i64 r],.int .i64 (-1)]) (by simp[results,Tryz.results18,go_sem,q_0,q_1,q_2,q_3,q_4,q_5,q_6]) rfl ⟨C1,c1',C2,c2',C3,c3',C4,c4',rfl,oE,BE⟩
       · skip
         obtain⟨y_0,y_1,y_2,y_3,y_4,y_5,y_6⟩:=bP5.n7
         go_wp2_with fail
         refine(CW _ _ _ _ (h1.below RE.stays B5) (h2.below RE.stays B5) (oT5.rd lenDom (by decide))).mono ?_
         rintro e w6 ⟨DL,dL,rfl,oL,hb6⟩
         clear y_0 y_1 y_2 y_3 y_4 y_5 y_6
         have B6:=B5.tr hb6
         have bR6:=bR5.bl hb6
         have bO6:=bO5.bl hb6
         have bP6:=bP5.bl hb6
         have bB6:=bB5.bl hb6
         have oO6:=oO5.below hb6
         have oT6:=oT5.below hb6
         have oL6:=oL.mono B5.size
         clear B5 bR5 bO5 bP5 bB5 oO5 oT5 oL hb6
         cases f
         · skip
           obtain rfl:(x,s,p,r)=Y:=by rw[HY.out,hd1];rfl
           obtain rfl: -1=N:=by rw[HN.out,hd1];rfl
           obtain⟨q_0,q_1,q_2,q_3,q_4,q_5,q_6⟩:=bO6.n7
           go_wp2_with (refine wpList_storeRow rfl 38 _ _ rfl gR #[.slice C1 x.1.length c1',.slice C2 x.2.1.length c2',.slice C3 x.2.2.1.length c3',.slice C4 x.2.2.2.length c4',.int .i64 s,.int .i64 p,.int .i64 r] rfl rfl _ _ bR6 (by kernel_rfl) rfl (by simp[Value.oneCell']) ?_;intro wE bE hgE)
           have oE:OwnFl w.heap.size wE _ _ _ _ _:=OwnFl.rowI oO6 bR6 (by decide) (by decide) (by decide) hgE
           have BE:=B6.grown hgE B6.size (fun k hk=>by injection hk with hk;subst hk;exact hgR)
           obtain⟨q_0,q_1,q_2,q_3,q_4,q_5,q_6⟩:=bE.n7
           refine bodyPost_ret (v:= .tuple #[.agg #[.slice C1 x.1.length c1',.slice C2 x.2.1.length c2',.slice C3 x.2.2.1.length c3',.slice C4 x.2.2.2.length c4',.int .i64 s,.int .i64 p,.int .i64 r],.int .i64 (-1)]) (by simp[results,Tryz.results18,go_sem,q_0,q_1,q_2,q_3,q_4,q_5,q_6]) rfl ⟨C1,c1',C2,c2',C3,c3',C4,c4',rfl,oE,BE⟩
         · skip
           obtain rfl:=HX2.out
           simp only at CK2
           have hw1:IntKind.i64.wrap (s-1)=s-1:=IntWalk.i64_in _ (by omega)
           have hw2:IntKind.i64.wrap (r+1)=r+1:=IntWalk.i64_in _ (by omega)
           have oN6:OwnFl w.heap.size w6 (.slice C1 x.1.length c1') (.slice C2 x.2.1.length c2') (.slice DT T.length dT) (.slice DL L.length dL) (x.1,x.2.1,T,L):=⟨oO6.a,oO6.b,oT6,oL6,apT⟩
           obtain⟨y_0,y_1,y_2,y_3,y_4,y_5,y_6⟩:=bO6.n7
           have fO:=fun j=>bO6.frozen j
           have hgg:=gr_set (gr_set (gr_set (gr_set (World.grownBy.refl w6 (some gO)) 2 (.slice DT T.length dT)) 3 (.slice DL L.length dL)) 4 (.int .i64 (s-1))) 6 (.int .i64 (r+1))
           have bO7:=(((bO6.st 2 (.slice DT T.length dT) #[.slice C1 x.1.length c1',.slice C2 x.2.1.length c2',.slice DT T.length dT,.slice C4 x.2.2.2.length c4',.int .i64 s,.int .i64 p,.int .i64 r] rfl).st 3 (.slice DL L.length dL) #[.slice C1 x.1.length c1',.slice C2 x.2.1.length c2',.slice DT T.length dT,.slice DL L.length dL,.int .i64 s,.int .i64 p,.int .i64 r] rfl).st 4 (.int .i64 (s-1)) #[.slice C1 x.1.length c1',.slice C2 x.2.1.length c2',.slice DT T.length dT,.slice DL L.length dL,.int .i64 (s-1),.int .i64 p,.int .i64 r] rfl).st 6 (.int .i64 (r+1)) #[.slice C1 x.1.length c1',.slice C2 x.2.1.length c2',.slice DT T.length dT,.slice DL L.length dL,.int .i64 (s-1),.int .i64 p,.int .i64 (r+1)] rfl
           have bR7:=bR6.grown hgg (by simp;omega)
           have bP7:=bP6.grown hgg (by simp;omega)
           have bB7:=bB6.grown hgg (by simp;omega)
           have oO7:=OwnFl.rowI oN6 bO6 (by decide) (by decide) (by decide) hgg
           have B7:=B6.grown hgg B6.size (fun k hk=>by injection hk with hk;subst hk;exact hgO)
           go_upto_region 15 with(fail)
           obtain⟨W7,hW7⟩:∃W7,W7=(((w6.setCell ⟨gO,2,none⟩ (.slice DT T.length dT)).setCell ⟨gO,3,none⟩ (.slice DL L.length dL)).setCell ⟨gO,4,none⟩ (.int .i64 (s-1))).setCell ⟨gO,6,none⟩ (.int .i64 (r+1)):=⟨_,rfl⟩
           rw[←hW7]at bO7 bR7 bP7 bB7 oO7 B7⊢
           clear hW7 hgg y_0 y_1 y_2 y_3 y_4 y_5 y_6 fO B6 bR6 bO6 bP6 bB6 oO6 oT6 oL6 oN6
           obtain⟨y_0,y_1,y_2,y_3,y_4,y_5,y_6⟩:=bO7.n7
           go_wp2_with fail
           refine(CK2 _ _ _ _ _ oO7.ra oO7.rb oO7.rc oO7.rd).mono ?_
           rintro e w8 ⟨rfl,hb8⟩
           have B8:=B7.tr hb8
           have bR8:=bR7.bl hb8
           have bO8:=bO7.bl hb8
           have bP8:=bP7.bl hb8
           have bB8:=bB7.bl hb8
           have oO8:=oO7.below hb8
           clear y_0 y_1 y_2 y_3 y_4 y_5 y_6 B7 bR7 bO7 bP7 bB7 oO7 hb8
           cases k2
           · skip
             obtain rfl:(x,s,p,r)=Y:=by rw[HY.out,hd1];rfl
             obtain rfl: -1=N:=by rw[HN.out,hd1];rfl
             obtain⟨y_0,y_1,y_2,y_3,y_4,y_5,y_6⟩:=bP8.n7
             go_wp2_with fail
             refine(copyWkS_any _ _ _ _ x s p r _ (h1.below RE.stays B8) (h2.below RE.stays B8) (h3.below RE.stays B8) (h4.below RE.stays B8) hs).mono ?_
             rintro e w9 ⟨D1,d1,D2,d2,D3,d3,D4,d4,rfl,oD,hb9⟩
             have oD:=oD.mono B8.size
             have B9:=B8.tr hb9
             have bR9:=bR8.bl hb9
             go_wp2_with (refine wpList_storeRow rfl 38 _ _ rfl gR #[.slice D1 x.1.length d1,.slice D2 x.2.1.length d2,.slice D3 x.2.2.1.length d3,.slice D4 x.2.2.2.length d4,.int .i64 s,.int .i64 p,.int .i64 r] rfl rfl _ _ bR9 (by kernel_rfl) rfl (by simp[Value.oneCell']) ?_;intro wE bE hgE)
             have oE:OwnFl w.heap.size wE _ _ _ _ _:=OwnFl.rowI oD bR9 (by decide) (by decide) (by decide) hgE
             have BE:=B9.grown hgE B9.size (fun k hk=>by injection hk with hk;subst hk;exact hgR)
             obtain⟨q_0,q_1,q_2,q_3,q_4,q_5,q_6⟩:=bE.n7
             refine bodyPost_ret (v:= .tuple #[.agg #[.slice D1 x.1.length d1,.slice D2 x.2.1.length d2,.slice D3 x.2.2.1.length d3,.slice D4 x.2.2.2.length d4,.int .i64 s,.int .i64 p,.int .i64 r],.int .i64 (-1)]) (by simp[results,Tryz.results18,go_sem,q_0,q_1,q_2,q_3,q_4,q_5,q_6]) rfl ⟨D1,d1,D2,d2,D3,d3,D4,d4,rfl,oE,BE⟩
           · skip
             obtain rfl:((x.1,x.2.1,T,L),s-1,p,r+1)=Y:=by rw[HY.out,hd1];rfl
             obtain rfl:N0=N:=by rw[HN.out,hd1];rfl
             obtain⟨p_0,p_1,p_2,p_3,p_4,p_5,p_6⟩:=bP8.n7
             obtain⟨y_0,y_1,y_2,y_3,y_4,y_5,y_6⟩:=bO8.n7
             obtain⟨d_0,d_1,d_2⟩:=bB8.n3
             obtain⟨W8,hW8⟩:∃W8,W8=w8:=⟨_,rfl⟩
             rw[←hW8]at B8 bR8 bO8 bP8 bB8 oO8 p_0 p_1 p_2 p_3 p_4 p_5 p_6 y_0 y_1 y_2 y_3 y_4 y_5 y_6 d_0 d_1 d_2⊢
             clear hW8
             have Bw:Below W8.heap.size W8 W8.drew:=(Below.refl _ _).drew
             have hz:W8.heap.size≤W8.drew.heap.size:=by simp
             have hPl:=bP8.lt
             have hOl:=bO8.lt
             have hBl:=bB8.lt
             go_wp2_with fail
             refine rB (fun w'=>w'.cell? ⟨gP,0,none⟩=some (.slice A1 x.1.length c1)∧w'.cell? ⟨gP,2,none⟩=some (.slice (some ⟨bb,off,none⟩) x.2.2.1.length c3)∧w'.cell? ⟨gO,0,none⟩=some (.slice C1 x.1.length c1')∧w'.cell? ⟨gO,1,none⟩=some (.slice C2 x.2.1.length c2')∧w'.cell? ⟨gO,2,none⟩=some (.slice DT T.length dT)∧w'.cell? ⟨gO,3,none⟩=some (.slice DL L.length dL)∧w'.cell? ⟨gO,4,none⟩=some (.int .i64 (s-1))∧w'.cell? ⟨gO,5,none⟩=some (.int .i64 p)∧w'.cell? ⟨gO,6,none⟩=some (.int .i64 (r+1))∧w'.cell? ⟨gB,0,none⟩=some (.int .i64 dx)∧w'.cell? ⟨gB,1,none⟩=some (.int .i64 dy)∧w'.cell? ⟨gB,2,none⟩=some (.bool dd)) fun hHeld=>(tW 0)<|(tW 1)<|(tW 2)<|(tW 3)<|(tW 4)<|(tR [5])<|tL fun K hK=>?_
             go_simp
             (first|(go_at_call 57;go_must (refine(CN _ _ _ (by first|rfl|trivial) (h3.below RE.stays (B8.tr Bw)) ((oO8.below Bw).rc)).mono ?_;rintro e wX ⟨rfl,hbX⟩;obtain⟨hcX,hfX,hzX⟩:=bkn hbX W8.heap.size hz;have hz:=hzX;have Bw:=Bw.tr hbX);(try go_wp2_with fail)))
             refine tK hK fun hHeld=>?_
             clear hK K
             refine(tR [6])<|tL fun K hK=>?_
             (refine step_storeRow rfl 38 _ _ rfl gR #[.slice C1 x.1.length c1',.slice C2 x.2.1.length c2',.slice DT T.length dT,.slice DL L.length dL,.int .i64 (s-1),.int .i64 p,.int .i64 (r+1)] rfl rfl _ _ (bR8.bl Bw) (by kernel_rfl) rfl (by simp[Value.oneCell']) ?_;intro wE bE hgE;have oE:=OwnFl.rowI (oO8.below Bw) (bR8.bl Bw) (by decide) (by decide) (by decide) hgE;have BE:=(B8.tr Bw).grown hgE (B8.tr Bw).size (fun k hk=>by injection hk with hk;subst hk;exact hgR);have bPE:=(bP8.bl Bw).grown hgE (by simp;omega);have bOE:=(bO8.bl Bw).grown hgE (by simp;omega);have bBE:=(bB8.bl Bw).grown hgE (by simp;omega);obtain⟨c_0,c_1,c_2,c_3,c_4,c_5,c_6⟩:=bPE.n7;obtain⟨f_0,f_1,f_2,f_3,f_4,f_5,f_6⟩:=bOE.n7;obtain⟨g_0,g_1,g_2⟩:=bBE.n3)
             refine tK hK fun hHeld=>?_
             clear hK K
             refine(tW 7)<|tD ?_
             all_goals
               go_wp2_with fail
               obtain⟨q_0,q_1,q_2,q_3,q_4,q_5,q_6⟩:=bE.n7
               refine bodyPost_ret (v:= .tuple #[.agg #[.slice C1 x.1.length c1',.slice C2 x.2.1.length c2',.slice DT T.length dT,.slice DL L.length dL,.int .i64 (s-1),.int .i64 p,.int .i64 (r+1)],.int .i64 N0]) (by simp[results,Tryz.results18,go_sem,q_0,q_1,q_2,q_3,q_4,q_5,q_6]) rfl ⟨C1,c1',C2,c2',DT,dT,DL,dL,rfl,oE,BE⟩
theorem distK_le {T:List (List Dm)} (hT:FlipSet T) (k i:Nat):dist T k i≤300:=by
 unfold dist
 split
 · rename_i h
   have h1:=h.choose_spec.top i
   have h2:=hT.sm
   omega
 · exact(by decide:(-1:Int)≤300)
theorem wayK_len (rows:List Int) (a b:List Dm):(wayL rows a b).length≤300:=by
 unfold wayL
 split
 · have h1:=distK_le (set_list rows) (ix (listRows rows) b) (ix (listRows rows) a)
   have h2:=way_len (listRows rows) (dist (listRows rows) (ix (listRows rows) b)) (dist (listRows rows) (ix (listRows rows) b) (ix (listRows rows) a)).toNat (ix (listRows rows) a)
   omega
 · exact Nat.zero_le _
theorem brk_small {y:Wk} (i:Int) (hs:Small4 y.1):Small4 (brkWk y i).1:=by
 unfold brkWk
 split
 · rename_i h
   unfold brkOk at h
   simp only[Bool.and_eq_true]at h
   have h1:=list_mem_len (rep_mem h.1.1.2).2
   have h2:=wayK_len y.1.1 y.1.2.1 (brkT y i)
   exact⟨hs.1,hs.2.1,by unfold Small;show(brkT y i).length≤_;unfold brkT;omega,by unfold Small;show(wayL y.1.1 y.1.2.1 (brkT y i)).length≤_;omega⟩
 · exact hs
def RetWkI (z:Fl) (s p r n:Int) (w:World) (e:Ending) (w':World):Prop:=∃A1 c1 A2 c2 A3 c3 A4 c4,e= .returned (.tuple #[.agg #[.slice A1 z.1.length c1,.slice A2 z.2.1.length c2,.slice A3 z.2.2.1.length c3,.slice A4 z.2.2.2.length c4,.int .i64 s,.int .i64 p,.int .i64 r],.int .i64 n])∧
  OwnFl w.heap.size w' (.slice A1 z.1.length c1) (.slice A2 z.2.1.length c2) (.slice A3 z.2.2.1.length c3) (.slice A4 z.2.2.2.length c4) z∧Below w.heap.size w w'
end Go.Proofs.YtfdbcihcdjjdhaaGreatDoor
