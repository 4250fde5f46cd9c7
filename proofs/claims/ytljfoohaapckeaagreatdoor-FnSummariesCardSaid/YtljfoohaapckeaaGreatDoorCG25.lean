/- Workshops copied, a place turned, a workshop audited: the reference's side. Conditions: sizes. Distances over links, as a list of waiting places finds them: plain laws. No program in sight. Tilings and dominoes: a member is a tiling; the tilings with a domino are the tilings without its cells. Plain laws. Flips between the tilings of a list, and a shortest way: plain laws. No program in sight. Repairs: plain laws. No program in sight. -/
import Derived.Test.YtljfoohaapckeaaGreatDoorCG23
import Derived.Test.YtljfoohaapckeaaGreatDoorCFlDoS
import Derived.Test.YtljfoohaapckeaaGreatDoorCK5
import Derived.Test.YtljfoohaapckeaaGreatDoorCG12
import Derived.Test.YtljfoohaapckeaaGreatDoorCK9
import Derived.Test.YtljfoohaapckeaaGreatDoorCListSt
open _root_.List (range mem_cons_self getElem_mem take_length nodup_nil)
namespace Go.Proofs.YtljfoohaapckeaaGreatDoor
open Go.ChangeShapes Go.WideShapes Go.ChangeAt Go.RowKit
set_option linter.unusedVariables false
set_option linter.unusedSimpArgs false
set_option maxHeartbeats 4000000
set_option maxRecDepth 100000
theorem sP (v1 v2 v3 v4:Value) (x:Fl) (s p r cx cy:Int) (w:World) (h1:Rd 1 bV w v1 x.1) (h2:Rd 3 bG w v2 x.2.1) (h3:Rd 3 bG w v3 x.2.2.1) (h4:Rd 2 eD w v4 x.2.2.2) (hs:dG x):
 Calls Tryz.prog 97 #[.agg #[v1,v2,v3,v4,.int .i64 s,.int .i64 p,.int .i64 r],.agg #[.int .i64 cx,.int .i64 cy]] w (Cy (oZ (x,s,p,r) (cx,cy)) s p r (vC (x,s,p,r) (cx,cy)) w):=by
 obtain⟨A1,c1,rfl,hc1,hm1⟩:=h1.form;obtain⟨A2,c2,rfl,hc2,hm2⟩:=h2.form;obtain⟨A3,c3,rfl,hc3,hm3⟩:=h3.form;obtain⟨A4,c4,rfl,hc4,hm4⟩:=h4.form;obtain⟨z,b,hz⟩:∃z b,pI x (cx,cy)=(z,b):=⟨_,_,rfl⟩;obtain⟨k,hk⟩:=SL (dW (x,s,p,r))
 have CF : ∀ (a1 a2 a3 a4 : Value) (w : World), Rd 1 bV w a1 x.1 -> Rd 3 bG w a2 x.2.1 -> Rd 3 bG w a3 x.2.2.1 -> Rd 2 eD w a4 x.2.2.2 -> Calls Tryz.prog 138 #[.agg #[a1, a2, a3, a4], .agg #[.int .i64 cx, .int .i64 cy]] w (mE z b w) := fun a1 a2 a3 a4 w k1 k2 k3 k4 => by
  have:=xM a1 a2 a3 a4 x cx cy w k1 k2 k3 k4 hs;rw[hz]at this;exact this
 have hT:vC (x,s,p,r) (cx,cy)=(k&&b):=by unfold vC;rw[<-hk];simp only[hz]
 have hF:oZ (x,s,p,r) (cx,cy)=if(k&&b)=true then z else x:=by unfold oZ;rw[hT];simp only[hz]
 obtain⟨zz,hzz⟩:∃q,q=if(k&&b)=true then z else x:=⟨_,rfl⟩
 obtain⟨bb,hbb⟩:=SL ((k&&b));rw[hT,hF,<-hzz,<-hbb];have HZ:=SQ hzz;have HB:=SQ hbb;have HK:=SQ hk;clear hT hF hz hzz hbb hk;have B0:=(((Below.refl w.heap.size w).al (.cells #[.slice A1 x.1.length c1,.slice A2 x.2.1.length c2,.slice A3 x.2.2.1.length c3,.slice A4 x.2.2.2.length c4,.int .i64 s,.int .i64 p,.int .i64 r] 32)).al (.cells #[.int .i64 cx,.int .i64 cy] 70)).al (.cells #[.slice none 0 0,.slice none 0 0,.slice none 0 0,.slice none 0 0,.int .i64 0,.int .i64 0,.int .i64 0] 32);have bP:=((Blk.aY w 32 #[.slice A1 x.1.length c1,.slice A2 x.2.1.length c2,.slice A3 x.2.2.1.length c3,.slice A4 x.2.2.2.length c4,.int .i64 s,.int .i64 p,.int .i64 r]).alloc (.cells #[.int .i64 cx,.int .i64 cy] 70)).alloc (.cells #[.slice none 0 0,.slice none 0 0,.slice none 0 0,.slice none 0 0,.int .i64 0,.int .i64 0,.int .i64 0] 32);have bC:=(Blk.iX (w.alloc (.cells #[.slice A1 x.1.length c1,.slice A2 x.2.1.length c2,.slice A3 x.2.2.1.length c3,.slice A4 x.2.2.2.length c4,.int .i64 s,.int .i64 p,.int .i64 r] 32)) 70 #[.int .i64 cx,.int .i64 cy] (w.heap.size+1) (by simp)).alloc (.cells #[.slice none 0 0,.slice none 0 0,.slice none 0 0,.slice none 0 0,.int .i64 0,.int .i64 0,.int .i64 0] 32);have bR:=Blk.iX ((w.alloc (.cells #[.slice A1 x.1.length c1,.slice A2 x.2.1.length c2,.slice A3 x.2.2.1.length c3,.slice A4 x.2.2.2.length c4,.int .i64 s,.int .i64 p,.int .i64 r] 32)).alloc (.cells #[.int .i64 cx,.int .i64 cy] 70)) 32 #[.slice none 0 0,.slice none 0 0,.slice none 0 0,.slice none 0 0,.int .i64 0,.int .i64 0,.int .i64 0] (w.heap.size+1+1) (by simp);go_enter Tryz.func97,Tryz.ntmps97
 go_wp2_with fail
 obtain⟨W0,hW0⟩:=SL (((w.alloc (.cells #[.slice A1 x.1.length c1,.slice A2 x.2.1.length c2,.slice A3 x.2.2.1.length c3,.slice A4 x.2.2.2.length c4,.int .i64 s,.int .i64 p,.int .i64 r] 32)).alloc (.cells #[.int .i64 cx,.int .i64 cy] 70)).alloc (.cells #[.slice none 0 0,.slice none 0 0,.slice none 0 0,.slice none 0 0,.int .i64 0,.int .i64 0,.int .i64 0] 32));obtain⟨gP,hgP⟩:=SL w.heap.size;obtain⟨gC,hgC⟩:=SL (w.heap.size+1);obtain⟨gR,hgR'⟩:=SL (w.heap.size+1+1);rw[<-hW0]at B0 bP bC bR⊢;rw[<-hgR']at bR⊢;rw[<-hgC]at bC⊢;rw[<-hgP]at bP⊢;have hgR:w.heap.size<=gR:=(by omega);clear hW0 hgP hgC hgR';obtain⟨y_0,y_1,y_2,y_3,y_4,y_5,y_6⟩:=bP.n7;refine(nU _ _ _ _ x s p r _ (h1.SN B0) (h2.SN B0) (h3.SN B0) (h4.SN B0) hs).mono ?_;rintro e w1 ⟨C1,c1',C2,c2',C3,c3',C4,c4',rfl,oO,hb1⟩;have oO:=oO.mono B0.size;have hgO:w.heap.size<=w1.heap.size:=(B0.tr hb1).size;have bO1:=Blk.aY w1 32 #[.slice C1 x.1.length c1',.slice C2 x.2.1.length c2',.slice C3 x.2.2.1.length c3',.slice C4 x.2.2.2.length c4',.int .i64 s,.int .i64 p,.int .i64 r];have oO1:=oO.alloc (.cells #[.slice C1 x.1.length c1',.slice C2 x.2.1.length c2',.slice C3 x.2.2.1.length c3',.slice C4 x.2.2.2.length c4',.int .i64 s,.int .i64 p,.int .i64 r] 32);have B1:=(B0.tr hb1).al (.cells #[.slice C1 x.1.length c1',.slice C2 x.2.1.length c2',.slice C3 x.2.2.1.length c3',.slice C4 x.2.2.2.length c4',.int .i64 s,.int .i64 p,.int .i64 r] 32);have bP1:=(bP.bl hb1).alloc (.cells #[.slice C1 x.1.length c1',.slice C2 x.2.1.length c2',.slice C3 x.2.2.1.length c3',.slice C4 x.2.2.2.length c4',.int .i64 s,.int .i64 p,.int .i64 r] 32);have bC1:=(bC.bl hb1).alloc (.cells #[.slice C1 x.1.length c1',.slice C2 x.2.1.length c2',.slice C3 x.2.2.1.length c3',.slice C4 x.2.2.2.length c4',.int .i64 s,.int .i64 p,.int .i64 r] 32);have bR1:=(bR.bl hb1).alloc (.cells #[.slice C1 x.1.length c1',.slice C2 x.2.1.length c2',.slice C3 x.2.2.1.length c3',.slice C4 x.2.2.2.length c4',.int .i64 s,.int .i64 p,.int .i64 r] 32);have hRl:=(bR.bl hb1).lt;have hPl:=(bP.bl hb1).lt;have hCl:=(bC.bl hb1).lt;have hPn:gP≠w1.heap.size:=(by omega);have hCn:gC≠w1.heap.size:=(by omega);obtain⟨gO,hgO'⟩:=SL w1.heap.size;have hRO:gR≠gO:=(by omega);have hOR:=hRO.symm;have hgO:w.heap.size<=gO:=(by omega);clear oO y_0 y_1 y_2 y_3 y_4 y_5 y_6;obtain⟨y_0,y_1,y_2,y_3,y_4,y_5,y_6⟩:=bP1.n7;go_wp2_with fail
 refine(lC _ _ _ _ (x,s,p,r) _ (h1.SN B1) (h2.SN B1) (h3.SN B1) (h4.SN B1) hs.2.1).mono ?_;rintro e w2 ⟨rfl,hb2⟩;rw[<-hgO']at bO1⊢;rw[<-HK.out];clear hgO' y_0 y_1 y_2 y_3 y_4 y_5 y_6;have B1:=B1.tr hb2;have bP1:=bP1.bl hb2;have bC1:=bC1.bl hb2;have bR1:=bR1.bl hb2;have bO1:=bO1.bl hb2;have oO1:=oO1.below hb2;have hgOl:=bO1.lt;cases k
 . obtain rfl : x = zz := by rw [HZ.out]; rfl
   obtain rfl:bb=false:=by rw[HB.out];rfl
   obtain⟨y_0,y_1,y_2,y_3,y_4,y_5,y_6⟩:=bO1.n7;go_wp2_with (refine aA rfl 32 _ _ rfl gR #[.slice C1 x.1.length c1',.slice C2 x.2.1.length c2',.slice C3 x.2.2.1.length c3',.slice C4 x.2.2.2.length c4',.int .i64 s,.int .i64 p,.int .i64 r] rfl rfl _ _ bR1 (by kernel_rfl) rfl (by simp[Value.oneCell']) ?_;intro wE bE hgE)
   have oE:aF w.heap.size wE _ _ _ _ _:=aF.dZ oO1 bR1 (by decide) (by decide) (by decide) hgE;have BE:=B1.grown hgE B1.size (fun k hk=>by injection hk with hk;subst hk;exact hgR);obtain⟨q_0,q_1,q_2,q_3,q_4,q_5,q_6⟩:=bE.n7;refine bodyPost_ret (v:= .tuple #[.agg #[.slice C1 x.1.length c1',.slice C2 x.2.1.length c2',.slice C3 x.2.2.1.length c3',.slice C4 x.2.2.2.length c4',.int .i64 s,.int .i64 p,.int .i64 r],.bool false]) (by simp[results,Tryz.results97,go_sem,q_0,q_1,q_2,q_3,q_4,q_5,q_6]) rfl ⟨C1,c1',C2,c2',C3,c3',C4,c4',rfl,oE,BE⟩
 . skip;obtain⟨y_0,y_1,y_2,y_3,y_4,y_5,y_6⟩:=bP1.n7;obtain⟨d_0,d_1⟩:=bC1.n2;have hb0:=hb2;clear hb2;go_wp2_with fail
   refine(CF _ _ _ _ _ (h1.SN B1) (h2.SN B1) (h3.SN B1) (h4.SN B1)).mono ?_;rintro e w2 ⟨D1,d1,D2,d2,D3,d3,D4,d4,rfl,oD,hb2⟩;clear y_0 y_1 y_2 y_3 y_4 y_5 y_6 d_0 d_1;have oD:=oD.mono B1.size;have bF2:=Blk.aY w2 30 #[.slice D1 z.1.length d1,.slice D2 z.2.1.length d2,.slice D3 z.2.2.1.length d3,.slice D4 z.2.2.2.length d4];have oD2:=oD.alloc (.cells #[.slice D1 z.1.length d1,.slice D2 z.2.1.length d2,.slice D3 z.2.2.1.length d3,.slice D4 z.2.2.2.length d4] 30);have oO2:=(oO1.below hb2).alloc (.cells #[.slice D1 z.1.length d1,.slice D2 z.2.1.length d2,.slice D3 z.2.2.1.length d3,.slice D4 z.2.2.2.length d4] 30);have B2:=(B1.tr hb2).al (.cells #[.slice D1 z.1.length d1,.slice D2 z.2.1.length d2,.slice D3 z.2.2.1.length d3,.slice D4 z.2.2.2.length d4] 30);have bP2:=(bP1.bl hb2).alloc (.cells #[.slice D1 z.1.length d1,.slice D2 z.2.1.length d2,.slice D3 z.2.2.1.length d3,.slice D4 z.2.2.2.length d4] 30);have bR2:=(bR1.bl hb2).alloc (.cells #[.slice D1 z.1.length d1,.slice D2 z.2.1.length d2,.slice D3 z.2.2.1.length d3,.slice D4 z.2.2.2.length d4] 30);have bO2:=(bO1.bl hb2).alloc (.cells #[.slice D1 z.1.length d1,.slice D2 z.2.1.length d2,.slice D3 z.2.2.1.length d3,.slice D4 z.2.2.2.length d4] 30);have hPl2:=(bP1.bl hb2).lt;have hOl2:=(bO1.bl hb2).lt;have hRl2:=(bR1.bl hb2).lt;have hPn2:gP≠w2.heap.size:=(by omega);obtain⟨gF,hgF'⟩:=SL w2.heap.size;have hFO:gF≠gO:=(by omega);have hFR:gF≠gR:=(by omega);have hOF:=hFO.symm;have hRF:=hFR.symm;clear oD oO1;cases b
   . obtain rfl : x = zz := by rw [HZ.out]; rfl
     obtain rfl:bb=false:=by rw[HB.out];rfl
     obtain⟨y_0,y_1,y_2,y_3,y_4,y_5,y_6⟩:=bO2.n7;go_wp2_with (refine aA rfl 32 _ _ rfl gR #[.slice C1 x.1.length c1',.slice C2 x.2.1.length c2',.slice C3 x.2.2.1.length c3',.slice C4 x.2.2.2.length c4',.int .i64 s,.int .i64 p,.int .i64 r] rfl rfl _ _ bR2 (by kernel_rfl) rfl (by simp[Value.oneCell']) ?_;intro wE bE hgE)
     have oE:aF w.heap.size wE _ _ _ _ _:=aF.dZ oO2 bR2 (by decide) (by decide) (by decide) hgE;have BE:=B2.grown hgE B2.size (fun k hk=>by injection hk with hk;subst hk;exact hgR);obtain⟨q_0,q_1,q_2,q_3,q_4,q_5,q_6⟩:=bE.n7;refine bodyPost_ret (v:= .tuple #[.agg #[.slice C1 x.1.length c1',.slice C2 x.2.1.length c2',.slice C3 x.2.2.1.length c3',.slice C4 x.2.2.2.length c4',.int .i64 s,.int .i64 p,.int .i64 r],.bool false]) (by simp[results,Tryz.results97,go_sem,q_0,q_1,q_2,q_3,q_4,q_5,q_6]) rfl ⟨C1,c1',C2,c2',C3,c3',C4,c4',rfl,oE,BE⟩
   . obtain rfl : z = zz := by rw [HZ.out]; rfl
     obtain rfl:bb=true:=by rw[HB.out];rfl
     go_upto_region 7 with(fail)
     obtain⟨W3,hW3⟩:=SL (w2.alloc (.cells #[.slice D1 z.1.length d1,.slice D2 z.2.1.length d2,.slice D3 z.2.2.1.length d3,.slice D4 z.2.2.2.length d4] 30));rw[<-hW3]at bF2 bR2 bO2 oD2 B2⊢;rw[<-hgF']at bF2⊢;clear hW3 hgF';obtain⟨f_0,f_1,f_2,f_3⟩:=bF2.n4;have hgOl2:=bO2.lt;have hgFl:=bF2.lt;obtain⟨o_0,o_1,o_2,o_3,o_4,o_5,o_6⟩:=bO2.n7;have fO:∀j,W3.frozen? ⟨gO,j,none⟩=false:=fun j=>bO2.frozen j
     have hgg:=eF (eF (eF (eF (World.grownBy.refl W3 (some gO)) 0 (.slice D1 z.1.length d1)) 1 (.slice D2 z.2.1.length d2)) 2 (.slice D3 z.2.2.1.length d3)) 3 (.slice D4 z.2.2.2.length d4);have bR5:=bR2.grown hgg (by simp;omega);have oF5:=aF.dZ oD2 bO2 (by decide) (by decide) (by decide) hgg;have B5:=B2.grown hgg B2.size (fun k hk=>by injection hk with hk;subst hk;exact hgO);go_wp2_with (refine aA rfl 32 _ _ rfl gR #[.slice D1 z.1.length d1,.slice D2 z.2.1.length d2,.slice D3 z.2.2.1.length d3,.slice D4 z.2.2.2.length d4,.int .i64 s,.int .i64 p,.int .i64 r] rfl rfl _ _ bR5 (by kernel_rfl) rfl (by simp[Value.oneCell']) ?_;intro wE bE hgE)
     have oE:aF w.heap.size wE _ _ _ _ _:=aF.dZ oF5 bR5 (by decide) (by decide) (by decide) hgE;have BE:=B5.grown hgE B5.size (fun k hk=>by injection hk with hk;subst hk;exact hgR);obtain⟨q_0,q_1,q_2,q_3,q_4,q_5,q_6⟩:=bE.n7;refine bodyPost_ret (v:= .tuple #[.agg #[.slice D1 z.1.length d1,.slice D2 z.2.1.length d2,.slice D3 z.2.2.1.length d3,.slice D4 z.2.2.2.length d4,.int .i64 s,.int .i64 p,.int .i64 r],.bool true]) (by simp[results,Tryz.results97,go_sem,q_0,q_1,q_2,q_3,q_4,q_5,q_6]) rfl ⟨D1,d1,D2,d2,D3,d3,D4,d4,rfl,oE,BE⟩
end Go.Proofs.YtljfoohaapckeaaGreatDoor
namespace Go.Proofs.YtljfoohaapckeaaGreatDoor
set_option linter.unusedVariables false
set_option linter.unusedSimpArgs false
set_option maxHeartbeats 4000000
set_option maxRecDepth 100000
structure jL (E:Nat->Nat->Prop) (s n:Nat) (f:Nat->Int):Prop where
  st:f s=0
  low:∀i,-1<=f i
  zero:∀i,f i=0->i=s
  pre:∀i (m:Int),0<=m->f i=m+1->∃j,f j=m/\E j i
  edge:∀j i,0<=f j->E j i->0<=f i/\f i<=f j+1
  top:∀i,f i<n
  inn:∀i,0<=f i->i<n
theorem jL.le {E:Nat->Nat->Prop} {s n n':Nat} {f g:Nat->Int} (hf:jL E s n f) (hg:jL E s n' g):∀(m:Nat) (i:Nat),g i=m->0<=f i/\f i<=m
  | 0, i, h => by
   have:=hg.zero i h;subst this;rw[hf.st];omega
  | m + 1, i, h => by
   obtain⟨j,hj,he⟩:=hg.pre i m (by omega) (by rw[h];omega);have h1:=jL.le hf hg m j hj;have h2:=hf.edge j i h1.1 he;omega
theorem jL.same {E:Nat->Nat->Prop} {s n n':Nat} {f g:Nat->Int} (hf:jL E s n f) (hg:jL E s n' g):∀i,f i=g i:=by
 intro i;have h1:=hf.low i;have h2:=hg.low i;by_cases h:0<=g i
 . have a := jL.le hf hg (g i).toNat i (by omega);have b:=jL.le hg hf (f i).toNat i (by omega);omega
 . by_cases h':0<=f i
   . have b := jL.le hg hf (f i).toNat i (by omega);omega
   . omega
def upd (f:Nat->Int) (i:Nat) (v:Int):Nat->Int:=fun x=>if x=i then v else f x
theorem tF (f:Nat->Int) (i:Nat) (v:Int):upd f i v i=v:=if_pos rfl
theorem upd_ne {f:Nat->Int} {i j:Nat} {v:Int} (h:j≠i):upd f i v j=f j:=if_neg h
def uR (n:Nat) (f:Nat->Int):List Int:=(range n).map f
theorem jN (n:Nat) (f:Nat->Int):(uR n f).length=n:=by simp[uR]
theorem Hw {n:Nat} {f:Nat->Int} {i:Nat} (h:i<(uR n f).length):(uR n f)[i]=f i:=by simp[uR]
theorem Oq (n:Nat) (f:Nat->Int) (i:Nat) (v:Int):uR n (upd f i v)=(uR n f).set i v:=by
 apply List.ext_getElem
 . simp[uR]
 . intro k h1 h2;rw[Hw,List.getElem_set];unfold upd;by_cases h:k=i
   . rw[if_pos h,if_pos h.symm]
   . rw[if_neg h,if_neg (fun e=>h e.symm),Hw]
structure Bfs (E:Nat->Nat->Prop) (s n:Nat) (f:Nat->Int) (q:List Nat) (p:Nat):Prop where
  lt:∀i∈q,i<n
  nd:q.Nodup
  iff:∀i,0<=f i↔i∈q
  low:∀i,-1<=f i
  srt:q.Pairwise fun a b=>f a<=f b
  top:∀h:p<q.length,∀i∈q,f i<=f q[p]+1
  st:f s=0
  zero:∀i,f i=0->i=s
  pre:∀i (m:Int),0<=m->f i=m+1->∃j,f j=m/\E j i
  don:∀j∈q.take p,∀i,E j i->i∈q/\f i<=f j+1
  bd:∀a (h:a<q.length),f q[a]<=a
theorem Gb:∀(n:Nat) (q:List Nat),q.Nodup->(∀i∈q,i<n)->q.length<=n
  |0,[],_,_=>Nat.le_refl _
  |0,x::q,_,h=>by have:=h x mem_cons_self;omega
  | n + 1, q, hd, h => by
   have h1 : (q.erase n).length <= n := Gb n (q.erase n) (hd.erase n) (fun i hi => by
    have h2:=h i (List.mem_of_mem_erase hi);have h3:i≠n:=fun e=>by subst e;exact(List.Nodup.not_mem_erase hd) hi
    omega)
   have h4:=List.length_erase (a:=n) (l:=q);split at h4<;>omega
theorem Bfs.len {E:Nat->Nat->Prop} {s n:Nat} {f:Nat->Int} {q:List Nat} {p:Nat} (h:Bfs E s n f q p):q.length<=n:=Gb n q h.nd h.lt
def f0 (s:Nat):Nat->Int:=upd (fun _=> -1) s 0
theorem KH (s i:Nat):f0 s i=if i=s then 0 else-1:=rfl
theorem Bl (E:Nat->Nat->Prop) {s n:Nat} (hs:s<n):Bfs E s n (f0 s) [s] 0 where
  lt:=fun i hi=>by rw[List.mem_singleton.1 hi];exact hs
  nd:=by simp
  iff := fun i => by
   rw[List.mem_singleton,KH];split
   . rename_i h;exact⟨fun _=>h,fun _=>by omega⟩
   . rename_i h;exact⟨fun q=>by omega,fun q=>absurd q h⟩
  low:=fun i=>by rw[KH];split<;>omega
  srt:=by simp
  top := fun h i hi => by
   rw[List.mem_singleton.1 hi];show f0 s s<=f0 s s+1;omega
  st:=tF _ _ _
  zero := fun i h => by
   rw[KH]at h;split at h
   . assumption
   . omega
  pre := fun i m hm h => by
   rw[KH]at h;split at h<;>omega
  don:=fun j hj=>by simp at hj
  bd := fun a h => by
   obtain rfl:a=0:=by simp at h;omega
   show f0 s s<=0;rw[KH,if_pos rfl];omega
theorem HV {E:Nat->Nat->Prop} {s n:Nat} {f:Nat->Int} {q:List Nat} {p:Nat} (h:Bfs E s n f q p) (hp:p<q.length) {i:Nat} (hi:i<n) (he:E q[p] i) (hn:f i<0):Bfs E s n (upd f i (f q[p]+1)) (q++[i]) p:=by
 have hq:i∉q:=fun hm=>by have:=(h.iff i).2 hm;omega
 have old:∀j∈q,upd f i (f q[p]+1) j=f j:=fun j hj=>upd_ne fun e=>hq (e▸hj)
 have h0:0<=f q[p]:=(h.iff _).2 (getElem_mem hp);have hpp:(q++[i])[p]'(by simp;omega)=q[p]:=(by rw[List.getElem_append_left hp]);refine⟨fun j hj=> ?_,?_,fun j=> ?_,fun j=> ?_,?_,fun hl j hj=> ?_,?_,fun j hj=> ?_,fun j m hm hj=> ?_,fun j hj k hk=> ?_,fun a ha=> ?_⟩
 . rcases List.mem_append.1 hj with hj|hj
   . exact h.lt j hj
   . rw[List.mem_singleton.1 hj];exact hi
 . rw[List.nodup_append];exact⟨h.nd,by simp,fun a ha b hb=>by rw[List.mem_singleton.1 hb];exact fun e=>hq (e▸ha)⟩
 . rw[List.mem_append,List.mem_singleton];by_cases e:j=i
   . subst e;rw[tF];exact⟨fun _=> .inr rfl,fun _=>by omega⟩
   . rw[upd_ne e,h.iff];exact⟨fun q=> .inl q,fun q=>q.resolve_right e⟩
 . by_cases e:j=i
   . subst e;rw[tF];omega
   . rw[upd_ne e];exact h.low j
 . rw[List.pairwise_append];refine⟨h.srt.imp_of_mem fun{a b} ha hb hab=>by rw[old a ha,old b hb];exact hab,by simp,fun a ha b hb=> ?_⟩;rw[List.mem_singleton.1 hb,tF,old a ha];exact h.top hp a ha
 . rw[hpp,old _ (getElem_mem hp)];rcases List.mem_append.1 hj with hj|hj
   . rw[old j hj];exact h.top hp j hj
   . rw[List.mem_singleton.1 hj,tF];omega
 . have : s ∈ q := (h.iff s).1 (by rw [h.st]; omega);rw[old s this,h.st]
 . by_cases e:j=i
   . subst e;rw[tF]at hj;omega
   . rw[upd_ne e]at hj;exact h.zero j hj
 . by_cases e:j=i
   . subst e;rw[tF]at hj;refine⟨q[p],?_,he⟩;rw[old _ (getElem_mem hp)];omega
   . rw[upd_ne e]at hj;obtain⟨k,hk,hke⟩:=h.pre j m hm hj;refine⟨k,?_,hke⟩;rw[old k ((h.iff k).1 (by omega))];exact hk
 . have hj':j∈q.take p:=by
    rwa [List.take_append_of_le_length (by omega)]at hj
   have h1:=h.don j hj' k hk;refine⟨List.mem_append.2 (.inl h1.1),?_⟩;rw[old k h1.1,old j (List.mem_of_mem_take hj')];exact h1.2
 . by_cases e:a<q.length
   . rw[List.getElem_append_left e,old _ (getElem_mem e)];exact h.bd a e
   . obtain rfl : a = q.length := by simp at ha; omega
     rw[List.getElem_append_right (Nat.le_refl _)];simp only[Nat.sub_self,List.getElem_cons_zero];rw[tF];have:=h.bd p hp;omega
theorem ER {E:Nat->Nat->Prop} {s n:Nat} {f:Nat->Int} {q:List Nat} {p:Nat} (h:Bfs E s n f q p) (hp:p<q.length) (hd:∀i,E q[p] i->0<=f i):Bfs E s n f q (p+1):=by
 refine⟨h.lt,h.nd,h.iff,h.low,h.srt,fun hl j hj=> ?_,h.st,h.zero,h.pre,fun j hj k hk=> ?_,h.bd⟩
 . have h1:=h.top hp j hj;have h2:f q[p]<=f q[p+1]:=List.pairwise_iff_getElem.1 h.srt p (p+1) hp hl (by omega);omega
 . rw[List.take_succ_eq_append_getElem hp]at hj;rcases List.mem_append.1 hj with hj|hj
   . exact h.don j hj k hk
   . rw[List.mem_singleton.1 hj]at hk⊢;have h1:=(h.iff k).1 (hd k hk);exact⟨h1,h.top hp k h1⟩
theorem Eb {E:Nat->Nat->Prop} {s n:Nat} {f:Nat->Int} {q:List Nat} (h:Bfs E s n f q q.length):jL E s n f where
  st:=h.st
  low:=h.low
  zero:=h.zero
  pre:=h.pre
  edge := fun j i hj he => by
   have h1:=h.don j (by rw[take_length];exact(h.iff j).1 hj) i he;exact⟨(h.iff i).2 h1.1,h1.2⟩
  top := fun i => by
   have hn:=h.len;by_cases hi:0<=f i
   . obtain⟨a,ha,e⟩:=List.getElem_of_mem ((h.iff i).1 hi);have:=h.bd a ha;rw[e]at this;omega
   . have hs := h.lt s ((h.iff s).1 (by rw [h.st]; omega));omega
  inn:=fun i hi=>h.lt i ((h.iff i).1 hi)
end Go.Proofs.YtljfoohaapckeaaGreatDoor
namespace Go.Proofs.YtljfoohaapckeaaGreatDoor
set_option linter.unusedVariables false
set_option maxHeartbeats 4000000
set_option maxRecDepth 100000
theorem Ai {s:Nat} {t:List Dm}:t∈iM s↔Til 0 s.testBit t:=Cx 64 0 s.testBit t rfl
theorem Til.part {s:Nat} {t:List Dm} (h:Til 0 s.testBit t):kM s t:=
 ⟨fun d hd=>by obtain⟨a,_,c,e⟩:=h.ok d hd;exact Fb.2 ⟨a,c,e⟩,h.ord,h.ap⟩
theorem sQ {s:Nat} {t:List Dm} (h:t∈iM s):kM s t:=(Ai.1 h).part
theorem Ec {s:Nat} {t:List Dm} (h:t∈iM s):∀d∈t,aJ d=true:=fun d hd=>(Fb.1 ((sQ h).1 d hd)).1
theorem JB {s:Nat} {d:Dm}:eQ s d=true↔aJ d=true/\s.testBit (eZ d)=true/\s.testBit (iZ d)=true:=by
 constructor
 . intro h;unfold eQ at h;rw[Bool.and_eq_true,decide_eq_true_iff]at h;exact⟨h.1,qC h.2 _ (by rw[aT h.1];simp),qC h.2 _ (by rw[aT h.1];simp)⟩
 . rintro⟨a,b,c⟩;unfold eQ;rw[a,Bool.true_and,decide_eq_true_iff];refine xE fun j hj=> ?_
   rw[aT a,Bool.or_eq_true,decide_eq_true_iff,decide_eq_true_iff]at hj;rcases hj with rfl|rfl
   . exact b
   . exact c
theorem Nf {s:Nat} {t:List Dm} (h:t∈iM s) {d:Dm} (hd:d∈t):eQ s d=true:=JB.2 (Fb.1 ((sQ h).1 d hd))
theorem Ot {s:Nat} (hs:s<U64) {t:List Dm} (h:t∈iM s):gI 0 t=s:=by
 have T:=Ai.1 h;refine Nat.eq_of_testBit_eq fun j=> ?_
 rw[lQ];rcases q:s.testBit j with _|_
 . rw[List.any_eq_false];intro d hd;have:=Nf h hd;obtain⟨a,b,c⟩:=JB.1 this;rw[a,Bool.true_and,aT a];by_cases e1:eZ d=j
   . rw[e1,q]at b;cases b
   . by_cases e2:iZ d=j
     . rw[e2,q]at c;cases c
     . simp[e1,e2]
 . have hj:j<64:=by
    rcases Nat.lt_or_ge j 64 with h|h
    . exact h
    . rw[Nat.testBit_lt_two_pow (Nat.lt_of_lt_of_le hs (by unfold U64;exact Nat.pow_le_pow_right (by decide) h))]at q;cases q
   obtain⟨d,hd,e⟩:=T.all j (Nat.zero_le _) hj q;rw[List.any_eq_true];refine⟨d,hd,?_⟩;have a:=Ec h d hd;rw[a,Bool.true_and,aT a];rcases e with e|e<;>simp[e]
theorem BP {rows:List Int} (hr:dK rows) {t:List Dm} (h:t∈iM (setOf rows)):dN rows t=true:=by
 have hp:isPartial rows t=true:=rR.2 ⟨hr,sQ h⟩;rw[pJ hp,Ot (dM hr) h,decide_eq_true rfl]
theorem KI {rows:List Int} (hr:dK rows):aU rows=((iM (setOf rows)).length:Nat):=by
 unfold aU;rw[if_pos (aO.2 hr),sN (dM hr)]
end Go.Proofs.YtljfoohaapckeaaGreatDoor
namespace Go.Proofs.YtljfoohaapckeaaGreatDoor
set_option linter.unusedVariables false
set_option linter.unusedSimpArgs false
set_option maxHeartbeats 4000000
set_option maxRecDepth 100000
theorem Aj:∀(n i:Nat) (S:Nat->Bool),(tl n i S).Nodup
  |0,_,_=>by simp[tl]
  | n + 1, i, S => by
   have hc : ∀ (d : Dm) (l : List (List Dm)), l.Nodup -> (l.map (d :: ·)).Nodup := fun d l hl => by
    unfold List.Nodup at hl⊢;rw[List.pairwise_map];exact hl.imp fun{a b} h e=>h (List.cons.inj e).2
   have hd : eG i ≠ fJ i := fun e => by
    have:=congrArg (fun x:Dm=>x.2.2) e;exact absurd this (by simp[eG,fJ])
   rw[rV];split
   . rw[List.nodup_append];refine⟨?_,?_,fun a ha b hb e=> ?_⟩
     . split
       . exact hc _ _ (Aj n _ _)
       . exact nodup_nil
     . split
       . exact hc _ _ (Aj n _ _)
       . exact nodup_nil
     . subst e;split at ha
       . split at hb
         . obtain⟨x,_,rfl⟩:=List.mem_map.1 ha;obtain⟨y,_,e⟩:=List.mem_map.1 hb;exact hd (List.cons.inj e).1.symm
         . cases hb
       . cases ha
   . exact Aj n _ _
theorem BQ {s:Nat} {t:List Dm} (hp:kM s t) (hall:∀j,j<64->s.testBit j=true->∃d∈t,(aG d).testBit j=true):t∈iM s:=by
 refine Ai.2 ⟨fun d hd=> ?_,hp.2.1,hp.2.2,fun j _ h2 h3=> ?_⟩
 . obtain⟨a,b,c⟩:=Fb.1 (hp.1 d hd);exact⟨a,Nat.zero_le _,b,c⟩
 . obtain⟨d,hd,e⟩:=hall j h2 h3;refine⟨d,hd,?_⟩;rw[aT (Fb.1 (hp.1 d hd)).1,Bool.or_eq_true,decide_eq_true_iff,decide_eq_true_iff]at e;exact e
theorem Ou {s:Nat} {t:List Dm} (h:t∈iM s) {j:Nat} (hj:j<64) (hs:s.testBit j=true):∃d∈t,(aG d).testBit j=true:=by
 obtain⟨d,hd,e⟩:=(Ai.1 h).all j (Nat.zero_le _) hj hs;refine⟨d,hd,?_⟩;rw[aT (Ec h d hd),Bool.or_eq_true,decide_eq_true_iff,decide_eq_true_iff];exact e
theorem JC {s:Nat} {t:List Dm} {c:Cl} (h:t∈iM s) (hk:kindOf t c≠0):aR t c∈iM s:=by
 have hp:=sQ h;obtain⟨h1,h2,h3⟩:=LK hp hk;obtain⟨hsq,g1,g2⟩:=LJ hk;refine BQ h1 fun j hj hs=> ?_
 obtain⟨d,hd,hb⟩:=Ou h hj hs;have hm:∀x,x∈aR t c↔x∈iQ t (nG (kindOf t c) c) (pM (kindOf t c) c)/\aJ x=true:=fun x=>FT _ x
 have hn : ∀ x, (x = (pM (kindOf t c) c).1 ∨ x = (pM (kindOf t c) c).2) -> x ∈ aR t c := fun x hx => by
  refine(hm x).2 ⟨(vN _ _ _ x).2 (hx.elim .inl fun q=> .inr (.inl q)),?_⟩;rcases hx with rfl|rfl
  . exact hsq.ok.2.2.1
  . exact hsq.ok.2.2.2
 by_cases e1:d=(nG (kindOf t c) c).1
 . rcases Fe hsq.symm (j := j) (.inl (by rw [<- e1]; exact hb)) with q | q
   . exact⟨_,hn _ (.inl rfl),q⟩
   . exact⟨_,hn _ (.inr rfl),q⟩
 . by_cases e2:d=(nG (kindOf t c) c).2
   . rcases Fe hsq.symm (j := j) (.inr (by rw [<- e2]; exact hb)) with q | q
     . exact⟨_,hn _ (.inl rfl),q⟩
     . exact⟨_,hn _ (.inr rfl),q⟩
   . exact⟨d,(hm d).2 ⟨(vN _ _ _ d).2 (.inr (.inr ⟨hd,e1,e2⟩)),Ec h d hd⟩,hb⟩
def dP (l:List Dm):List Cl:=((range 64).map iE).filter fun c=>decide (kindOf l c≠0)
theorem jS {l:List Dm} {c:Cl}:c∈dP l↔kindOf l c≠0:=by
 unfold dP;rw[List.mem_filter,decide_eq_true_iff];refine⟨fun h=>h.2,fun h=>⟨?_,h⟩⟩;have hi:=G6 h;unfold kL at hi;rw[Bool.and_eq_true,decide_eq_true_iff,decide_eq_true_iff]at hi;obtain⟨x,y⟩:=c;simp only at hi;refine List.mem_map.2 ⟨(y*8+x).toNat,List.mem_range.2 (by omega),?_⟩;unfold iE;apply Prod.ext
 . simp only;omega
 . simp only;omega
def ix:List (List Dm)->List Dm->Nat
  |[],_=>0
  |a::r,m=>if a=m then 0 else ix r m+1
theorem mF:∀{T:List (List Dm)} {m:List Dm},m∈T->∃h:ix T m<T.length,T[ix T m]=m
  | a :: r, m, h => by
   by_cases e:a=m
   . have:ix (a::r) m=0:=if_pos e;refine⟨by rw[this];simp,?_⟩;simp only[this];exact e
   . have e2:ix (a::r) m=ix r m+1:=if_neg e;obtain⟨h1,h2⟩:=mF ((List.mem_cons.1 h).resolve_left (fun q=>e q.symm));refine⟨by rw[e2,List.length_cons];omega,?_⟩;simp only[e2,List.getElem_cons_succ];exact h2
theorem Ru {T:List (List Dm)} (hd:T.Nodup) {i:Nat} (hi:i<T.length):ix T T[i]=i:=by
 obtain⟨h1,h2⟩:=mF (getElem_mem hi);exact(List.getElem_inj hd).1 h2
def nK (T:List (List Dm)) (m:List Dm):Int:=if m∈T then((ix T m:Nat):Int)else-1
theorem JD : ∀ {T : List (List Dm)} {m : List Dm} {k : Nat} (hk : k < T.length), (∀ j (h : j < k), T[j]'(by omega) ≠ m) -> T[k] = m -> ix T m = k
  |[],m,k,hk,_,_=>by simp at hk
  | a :: r, m, 0, hk, _, e => by
   have e':a=m:=e;exact if_pos e'
  | a :: r, m, k + 1, hk, h, e => by
   have e1:¬a=m:=h 0 (Nat.succ_pos _);have e2:ix (a::r) m=ix r m+1:=if_neg e1;rw[e2,JD (k:=k) (by simpa using hk) (fun j hj=>h (j+1) (by omega)) (by simpa using e)]
theorem index_hit {T : List (List Dm)} {m : List Dm} {k : Nat} (hk : k < T.length) (h : ∀ j (h : j < k), T[j]'(by omega) ≠ m) (e : T[k] = m) : nK T m = (k : Int) := by
 unfold nK;rw[if_pos (e▸getElem_mem hk),JD hk h e]
theorem Ed {T:List (List Dm)} {m:List Dm} (h:∀j (h:j<T.length),T[j]≠m):nK T m= -1:=by
 unfold nK;rw[if_neg];intro hm;obtain⟨j,hj,e⟩:=List.getElem_of_mem hm;exact h j hj e
def til (T:List (List Dm)) (i:Nat):List Dm:=T.getD i []
theorem fI {T:List (List Dm)} {i:Nat} (hi:i<T.length):til T i=T[i]:=by unfold til;rw[List.getD_eq_getElem?_getD,List.getElem?_eq_getElem hi];rfl
def links (T:List (List Dm)) (j:Nat):List Nat:=(dP (til T j)).map fun c=>ix T (aR (til T j) c)
def Edge (T:List (List Dm)) (j i:Nat):Prop:=j<T.length/\i∈links T j
structure jR (T:List (List Dm)):Prop where
  nd:T.Nodup
  cl:∀t∈T,∀c,kindOf t c≠0->aR t c∈T/\kindOf (aR t c) c≠0/\aR (aR t c) c=t
  sm:T.length<=300
theorem wG (rows:List Int):jR (aD rows):=by
 unfold aD;split
 . rename_i h
   have hr:dK rows:=by
    by_cases hr:aZ rows=true
    . exact aO.1 hr
    . unfold aU at h;rw[if_neg hr]at h;simp[inB]at h
   refine⟨Aj _ _ _,fun t ht c hk=>⟨JC ht hk,?_⟩,?_⟩
   . obtain⟨_,h2,h3⟩:=LK (sQ ht) hk;exact⟨h2,h3⟩
   . have:=KI hr;simp[inB]at h;omega
 . exact⟨nodup_nil,(fun t ht=>by cases ht),by decide⟩
theorem xN {T:List (List Dm)} (hT:jR T) {j i:Nat} (h:Edge T j i):i<T.length:=by
 obtain⟨hj,hi⟩:=h;obtain⟨c,hc,rfl⟩:=List.mem_map.1 hi;rw[fI hj]at hc⊢;exact(mF (hT.cl _ (getElem_mem hj) c (jS.1 hc)).1).1
theorem Gc {T:List (List Dm)} (hT:jR T) {j i:Nat} (h:Edge T j i):Edge T i j:=by
 have hlt:=xN hT h;obtain⟨hj,hi⟩:=h;obtain⟨c,hc,rfl⟩:=List.mem_map.1 hi;rw[fI hj]at hc hlt⊢;obtain⟨h1,h2,h3⟩:=hT.cl _ (getElem_mem hj) c (jS.1 hc);obtain⟨h4,h5⟩:=mF h1;refine⟨hlt,List.mem_map.2 ⟨c,?_,?_⟩⟩
 . rw[fI h4,h5];exact jS.2 h2
 . rw[fI h4,h5,h3];exact Ru hT.nd hj
def Iy (T:List (List Dm)) (f:Nat->Int) (i:Nat):Option Cl:=(dP (til T i)).find? fun c=>decide (f (ix T (aR (til T i) c))=f i-1)
def rZ (T:List (List Dm)) (i:Nat) (c:Cl):Nat:=ix T (aR (til T i) c)
def rH (T:List (List Dm)) (f:Nat->Int):Nat->Nat->List Cl
  |0,_=>[]
  | m + 1, i => match Iy T f i with
    |some c=>c::rH T f m (rZ T i c)
    |none=>[]
theorem Bn {T:List (List Dm)} (hT:jR T) {k n:Nat} {f:Nat->Int} (hd:jL (Edge T) k n f) {i:Nat} {m:Nat} (hf:f i=m+1):∃c,Iy T f i=some c/\kindOf (til T i) c≠0/\f (rZ T i c)=m/\rZ T i c<T.length/\i<T.length:=by
 obtain⟨j,hj,he⟩:=hd.pre i m (by omega) hf;have hs:=Gc hT he;have hi:=xN hT he;obtain⟨_,hm⟩:=hs;obtain⟨c,hc,rfl⟩:=List.mem_map.1 hm;cases h:Iy T f i with
 |none=>
  have:=List.find?_eq_none.1 h c hc;simp only[decide_eq_true_eq]at this;exact absurd (by rw[hj,hf];omega) this
 |some d=>
  have h1:=List.find?_some h;have h2:=List.mem_of_find?_eq_some h;simp only[decide_eq_true_eq]at h1;have hk:=jS.1 h2;refine⟨d,rfl,hk,?_,?_,hi⟩
  . unfold rZ;rw[h1,hf];omega
  . exact xN hT ⟨hi,List.mem_map.2 ⟨d,h2,rfl⟩⟩
theorem ES {T:List (List Dm)} {f:Nat->Int} {m i:Nat} {c:Cl} (h:Iy T f i=some c):rH T f (m+1) i=c::rH T f m (rZ T i c):=by
 rw[rH,h]
theorem Ee (T:List (List Dm)) (f:Nat->Int):∀(m i:Nat),(rH T f m i).length<=m
  |0,_=>Nat.zero_le _
  | m + 1, i => by
   rw[rH];split
   . rename_i c _;rw[List.length_cons];have:=Ee T f m (rZ T i c);omega
   . exact Nat.zero_le _
open Classical in
noncomputable def nV (T:List (List Dm)) (k:Nat):Nat->Int:=if h:∃f,jL (Edge T) k T.length f then h.choose else fun _=> -1
theorem H5 {T:List (List Dm)} {k:Nat} {f:Nat->Int} (h:jL (Edge T) k T.length f):nV T k=f:=by
 have hx:∃f,jL (Edge T) k T.length f:=⟨f,h⟩;unfold nV;rw[dif_pos hx];funext i
 exact hx.choose_spec.same h i
noncomputable def sS (rows:List Int) (a b:List Dm):Bool:=decide (a∈aD rows)&&decide (b∈aD rows)&&decide (0<=nV (aD rows) (ix (aD rows) b) (ix (aD rows) a))
noncomputable def uS (rows:List Int) (a b:List Dm):List Cl:=if sS rows a b=true then rH (aD rows) (nV (aD rows) (ix (aD rows) b)) (nV (aD rows) (ix (aD rows) b) (ix (aD rows) a)).toNat (ix (aD rows) a)else[]
def yN (a b:List Dm) (k:Nat):Nat:=((a.take k).filter fun d=> !b.contains d).length
def chg (a b:List Dm):Nat:=(a.filter fun d=> !b.contains d).length
theorem Ng (a b:List Dm):yN a b a.length=chg a b:=by unfold yN chg;rw[take_length]
theorem KJ {a b:List Dm} {k:Nat} (h:k<a.length):yN a b (k+1)=yN a b k+(if b.contains a[k]=true then 0 else 1):=by
 unfold yN;rw[List.take_succ_eq_append_getElem h,List.filter_append,List.length_append];congr 1
 by_cases hc:b.contains a[k]=true
 . rw[if_pos hc,List.filter_cons_of_neg (by rw[hc];simp)];rfl
 . rw[if_neg hc,List.filter_cons_of_pos (by simpa using hc)];rfl
theorem Ov (a b:List Dm) (k:Nat):yN a b k<=k:=by
 unfold yN;refine Nat.le_trans (List.length_filter_le _ _) ?_;rw[List.length_take];omega
theorem PU (a b:List Dm):chg a b<=a.length:=List.length_filter_le _ _
def jY (list:List Dm) (d:Dm) (b:Option (List Dm)) (t:List Dm):Option (List Dm):=
 if t.contains d = true then b else match b with
   |none=>some t
   |some m=>if chg list t<chg list m then some t else some m
def pR (T:List (List Dm)) (list:List Dm) (d:Dm) (k:Nat):Option (List Dm):=(T.take k).foldl (jY list d) none
def iR (T:List (List Dm)) (list:List Dm) (d:Dm):Option (List Dm):=T.foldl (jY list d) none
theorem KL (T:List (List Dm)) (list:List Dm) (d:Dm):pR T list d T.length=iR T list d:=by unfold pR iR;rw[take_length]
theorem I4 {T:List (List Dm)} {list:List Dm} {d:Dm} {k:Nat} (h:k<T.length):pR T list d (k+1)=jY list d (pR T list d k) T[k]:=by
 unfold pR;rw[List.take_succ_eq_append_getElem h,List.foldl_append];rfl
def Gd (rows:List Int) (l:List Dm) (d:Dm):Bool:=decide (l∈aD rows)&&(iR (aD rows) l d).isSome
def H6 (rows:List Int) (l:List Dm) (d:Dm):List Dm:=if l∈aD rows then(iR (aD rows) l d).getD []else[]
theorem QK {rows:List Int} {t:List Dm} (ht:t∈aD rows):∀d∈t,aJ d=true:=by
 unfold aD at ht;split at ht
 . exact Ec ht
 . cases ht
theorem JE {list:List Dm} {d:Dm}:∀(T:List (List Dm)) (b:Option (List Dm)) (m:List Dm),T.foldl (jY list d) b=some m->b=some m∨m∈T
  |[],b,m,h=> .inl h
  | t :: T, b, m, h => by
   rw[List.foldl_cons]at h;rcases JE T _ m h with h|h
   . unfold jY at h;split at h
     . exact .inl h
     . split at h
       . injection h with h;subst h;exact .inr mem_cons_self
       . split at h
         . injection h with h;subst h;exact .inr mem_cons_self
         . exact .inl h
   . exact .inr (List.mem_cons_of_mem _ h)
end Go.Proofs.YtljfoohaapckeaaGreatDoor
