/- Workshops copied, a place turned, a workshop audited: the reference's side. Conditions: sizes. Distances over links, as a list of waiting places finds them: plain laws. No program in sight. -/
import Derived.Test.YtljfoohaapckeaaGreatDoorBG14
import Derived.Test.YtljfoohaapckeaaGreatDoorBFlDoS
import Derived.Test.YtljfoohaapckeaaGreatDoorBK5
namespace Go.Proofs.YtljfoohaapckeaaGreatDoor
open Go.ChangeShapes Go.WideShapes Go.ChangeAt Go.RowKit
set_option linter.unusedVariables false
set_option linter.unusedSimpArgs false
set_option maxHeartbeats 4000000
set_option maxRecDepth 100000
theorem rC (v1 v2 v3 v4:Value) (x:Fl) (s p r cx cy:Int) (w:World) (h1:Rd 1 bH w v1 x.1) (h2:Rd 3 aT w v2 x.2.1) (h3:Rd 3 aT w v3 x.2.2.1) (h4:Rd 2 bV w v4 x.2.2.2) (hs:dA x):
 Calls Tryz.prog 97 #[.agg #[v1,v2,v3,v4,.int .i64 s,.int .i64 p,.int .i64 r],.agg #[.int .i64 cx,.int .i64 cy]] w (uB (jZ (x,s,p,r) (cx,cy)) s p r (lS (x,s,p,r) (cx,cy)) w):=by
 obtain⟨A1,c1,rfl,hc1,hm1⟩:=h1.form;obtain⟨A2,c2,rfl,hc2,hm2⟩:=h2.form;obtain⟨A3,c3,rfl,hc3,hm3⟩:=h3.form;obtain⟨A4,c4,rfl,hc4,hm4⟩:=h4.form;obtain⟨z,b,hz⟩:∃z b,Bg x (cx,cy)=(z,b):=⟨_,_,rfl⟩;obtain⟨k,hk⟩:=Qi (aY (x,s,p,r))
 have CF : ∀ (a1 a2 a3 a4 : Value) (w : World), Rd 1 bH w a1 x.1 -> Rd 3 aT w a2 x.2.1 -> Rd 3 aT w a3 x.2.2.1 -> Rd 2 bV w a4 x.2.2.2 -> Calls Tryz.prog 138 #[.agg #[a1, a2, a3, a4], .agg #[.int .i64 cx, .int .i64 cy]] w (mQ z b w) := fun a1 a2 a3 a4 w k1 k2 k3 k4 => by
  have:=Om a1 a2 a3 a4 x cx cy w k1 k2 k3 k4 hs;rw[hz]at this;exact this
 have hT:lS (x,s,p,r) (cx,cy)=(k&&b):=by unfold lS;rw[<-hk];simp only[hz]
 have hF:jZ (x,s,p,r) (cx,cy)=if(k&&b)=true then z else x:=by unfold jZ;rw[hT];simp only[hz]
 obtain⟨zz,hzz⟩:∃q,q=if(k&&b)=true then z else x:=⟨_,rfl⟩
 obtain⟨bb,hbb⟩:=Qi ((k&&b));rw[hT,hF,<-hzz,<-hbb];have HZ:=Qk hzz;have HB:=Qk hbb;have HK:=Qk hk;clear hT hF hz hzz hbb hk;have B0:=(((Below.refl w.heap.size w).al (.cells #[.slice A1 x.1.length c1,.slice A2 x.2.1.length c2,.slice A3 x.2.2.1.length c3,.slice A4 x.2.2.2.length c4,.int .i64 s,.int .i64 p,.int .i64 r] 32)).al (.cells #[.int .i64 cx,.int .i64 cy] 70)).al (.cells #[.slice none 0 0,.slice none 0 0,.slice none 0 0,.slice none 0 0,.int .i64 0,.int .i64 0,.int .i64 0] 32);have bP:=((Blk.aZ w 32 #[.slice A1 x.1.length c1,.slice A2 x.2.1.length c2,.slice A3 x.2.2.1.length c3,.slice A4 x.2.2.2.length c4,.int .i64 s,.int .i64 p,.int .i64 r]).alloc (.cells #[.int .i64 cx,.int .i64 cy] 70)).alloc (.cells #[.slice none 0 0,.slice none 0 0,.slice none 0 0,.slice none 0 0,.int .i64 0,.int .i64 0,.int .i64 0] 32);have bC:=(Blk.iC (w.alloc (.cells #[.slice A1 x.1.length c1,.slice A2 x.2.1.length c2,.slice A3 x.2.2.1.length c3,.slice A4 x.2.2.2.length c4,.int .i64 s,.int .i64 p,.int .i64 r] 32)) 70 #[.int .i64 cx,.int .i64 cy] (w.heap.size+1) (by simp)).alloc (.cells #[.slice none 0 0,.slice none 0 0,.slice none 0 0,.slice none 0 0,.int .i64 0,.int .i64 0,.int .i64 0] 32);have bR:=Blk.iC ((w.alloc (.cells #[.slice A1 x.1.length c1,.slice A2 x.2.1.length c2,.slice A3 x.2.2.1.length c3,.slice A4 x.2.2.2.length c4,.int .i64 s,.int .i64 p,.int .i64 r] 32)).alloc (.cells #[.int .i64 cx,.int .i64 cy] 70)) 32 #[.slice none 0 0,.slice none 0 0,.slice none 0 0,.slice none 0 0,.int .i64 0,.int .i64 0,.int .i64 0] (w.heap.size+1+1) (by simp);go_enter Tryz.func97,Tryz.ntmps97
 go_wp2_with fail
 obtain⟨W0,hW0⟩:=Qi (((w.alloc (.cells #[.slice A1 x.1.length c1,.slice A2 x.2.1.length c2,.slice A3 x.2.2.1.length c3,.slice A4 x.2.2.2.length c4,.int .i64 s,.int .i64 p,.int .i64 r] 32)).alloc (.cells #[.int .i64 cx,.int .i64 cy] 70)).alloc (.cells #[.slice none 0 0,.slice none 0 0,.slice none 0 0,.slice none 0 0,.int .i64 0,.int .i64 0,.int .i64 0] 32));obtain⟨gP,hgP⟩:=Qi w.heap.size;obtain⟨gC,hgC⟩:=Qi (w.heap.size+1);obtain⟨gR,hgR'⟩:=Qi (w.heap.size+1+1);rw[<-hW0]at B0 bP bC bR⊢;rw[<-hgR']at bR⊢;rw[<-hgC]at bC⊢;rw[<-hgP]at bP⊢;have hgR:w.heap.size<=gR:=(by omega);clear hW0 hgP hgC hgR';obtain⟨y_0,y_1,y_2,y_3,y_4,y_5,y_6⟩:=bP.n7;refine(nJ _ _ _ _ x s p r _ (h1.Qj B0) (h2.Qj B0) (h3.Qj B0) (h4.Qj B0) hs).mono ?_;rintro e w1 ⟨C1,c1',C2,c2',C3,c3',C4,c4',rfl,oO,hb1⟩;have oO:=oO.mono B0.size;have hgO:w.heap.size<=w1.heap.size:=(B0.tr hb1).size;have bO1:=Blk.aZ w1 32 #[.slice C1 x.1.length c1',.slice C2 x.2.1.length c2',.slice C3 x.2.2.1.length c3',.slice C4 x.2.2.2.length c4',.int .i64 s,.int .i64 p,.int .i64 r];have oO1:=oO.alloc (.cells #[.slice C1 x.1.length c1',.slice C2 x.2.1.length c2',.slice C3 x.2.2.1.length c3',.slice C4 x.2.2.2.length c4',.int .i64 s,.int .i64 p,.int .i64 r] 32);have B1:=(B0.tr hb1).al (.cells #[.slice C1 x.1.length c1',.slice C2 x.2.1.length c2',.slice C3 x.2.2.1.length c3',.slice C4 x.2.2.2.length c4',.int .i64 s,.int .i64 p,.int .i64 r] 32);have bP1:=(bP.bl hb1).alloc (.cells #[.slice C1 x.1.length c1',.slice C2 x.2.1.length c2',.slice C3 x.2.2.1.length c3',.slice C4 x.2.2.2.length c4',.int .i64 s,.int .i64 p,.int .i64 r] 32);have bC1:=(bC.bl hb1).alloc (.cells #[.slice C1 x.1.length c1',.slice C2 x.2.1.length c2',.slice C3 x.2.2.1.length c3',.slice C4 x.2.2.2.length c4',.int .i64 s,.int .i64 p,.int .i64 r] 32);have bR1:=(bR.bl hb1).alloc (.cells #[.slice C1 x.1.length c1',.slice C2 x.2.1.length c2',.slice C3 x.2.2.1.length c3',.slice C4 x.2.2.2.length c4',.int .i64 s,.int .i64 p,.int .i64 r] 32);have hRl:=(bR.bl hb1).lt;have hPl:=(bP.bl hb1).lt;have hCl:=(bC.bl hb1).lt;have hPn:gP≠w1.heap.size:=(by omega);have hCn:gC≠w1.heap.size:=(by omega);obtain⟨gO,hgO'⟩:=Qi w1.heap.size;have hRO:gR≠gO:=(by omega);have hOR:=hRO.symm;have hgO:w.heap.size<=gO:=(by omega);clear oO y_0 y_1 y_2 y_3 y_4 y_5 y_6;obtain⟨y_0,y_1,y_2,y_3,y_4,y_5,y_6⟩:=bP1.n7;go_wp2_with fail
 refine(kL _ _ _ _ (x,s,p,r) _ (h1.Qj B1) (h2.Qj B1) (h3.Qj B1) (h4.Qj B1) hs.2.1).mono ?_;rintro e w2 ⟨rfl,hb2⟩;rw[<-hgO']at bO1⊢;rw[<-HK.out];clear hgO' y_0 y_1 y_2 y_3 y_4 y_5 y_6;have B1:=B1.tr hb2;have bP1:=bP1.bl hb2;have bC1:=bC1.bl hb2;have bR1:=bR1.bl hb2;have bO1:=bO1.bl hb2;have oO1:=oO1.below hb2;have hgOl:=bO1.lt;cases k
 . obtain rfl : x = zz := by rw [HZ.out]; rfl
   obtain rfl:bb=false:=by rw[HB.out];rfl
   obtain⟨y_0,y_1,y_2,y_3,y_4,y_5,y_6⟩:=bO1.n7;go_wp2_with (refine aA rfl 32 _ _ rfl gR #[.slice C1 x.1.length c1',.slice C2 x.2.1.length c2',.slice C3 x.2.2.1.length c3',.slice C4 x.2.2.2.length c4',.int .i64 s,.int .i64 p,.int .i64 r] rfl rfl _ _ bR1 (by kernel_rfl) rfl (by simp[Value.oneCell']) ?_;intro wE bE hgE)
   have oE:aC w.heap.size wE _ _ _ _ _:=aC.dB oO1 bR1 (by decide) (by decide) (by decide) hgE;have BE:=B1.grown hgE B1.size (fun k hk=>by injection hk with hk;subst hk;exact hgR);obtain⟨q_0,q_1,q_2,q_3,q_4,q_5,q_6⟩:=bE.n7;refine bodyPost_ret (v:= .tuple #[.agg #[.slice C1 x.1.length c1',.slice C2 x.2.1.length c2',.slice C3 x.2.2.1.length c3',.slice C4 x.2.2.2.length c4',.int .i64 s,.int .i64 p,.int .i64 r],.bool false]) (by simp[results,Tryz.results97,go_sem,q_0,q_1,q_2,q_3,q_4,q_5,q_6]) rfl ⟨C1,c1',C2,c2',C3,c3',C4,c4',rfl,oE,BE⟩
 . skip;obtain⟨y_0,y_1,y_2,y_3,y_4,y_5,y_6⟩:=bP1.n7;obtain⟨d_0,d_1⟩:=bC1.n2;have hb0:=hb2;clear hb2;go_wp2_with fail
   refine(CF _ _ _ _ _ (h1.Qj B1) (h2.Qj B1) (h3.Qj B1) (h4.Qj B1)).mono ?_;rintro e w2 ⟨D1,d1,D2,d2,D3,d3,D4,d4,rfl,oD,hb2⟩;clear y_0 y_1 y_2 y_3 y_4 y_5 y_6 d_0 d_1;have oD:=oD.mono B1.size;have bF2:=Blk.aZ w2 30 #[.slice D1 z.1.length d1,.slice D2 z.2.1.length d2,.slice D3 z.2.2.1.length d3,.slice D4 z.2.2.2.length d4];have oD2:=oD.alloc (.cells #[.slice D1 z.1.length d1,.slice D2 z.2.1.length d2,.slice D3 z.2.2.1.length d3,.slice D4 z.2.2.2.length d4] 30);have oO2:=(oO1.below hb2).alloc (.cells #[.slice D1 z.1.length d1,.slice D2 z.2.1.length d2,.slice D3 z.2.2.1.length d3,.slice D4 z.2.2.2.length d4] 30);have B2:=(B1.tr hb2).al (.cells #[.slice D1 z.1.length d1,.slice D2 z.2.1.length d2,.slice D3 z.2.2.1.length d3,.slice D4 z.2.2.2.length d4] 30);have bP2:=(bP1.bl hb2).alloc (.cells #[.slice D1 z.1.length d1,.slice D2 z.2.1.length d2,.slice D3 z.2.2.1.length d3,.slice D4 z.2.2.2.length d4] 30);have bR2:=(bR1.bl hb2).alloc (.cells #[.slice D1 z.1.length d1,.slice D2 z.2.1.length d2,.slice D3 z.2.2.1.length d3,.slice D4 z.2.2.2.length d4] 30);have bO2:=(bO1.bl hb2).alloc (.cells #[.slice D1 z.1.length d1,.slice D2 z.2.1.length d2,.slice D3 z.2.2.1.length d3,.slice D4 z.2.2.2.length d4] 30);have hPl2:=(bP1.bl hb2).lt;have hOl2:=(bO1.bl hb2).lt;have hRl2:=(bR1.bl hb2).lt;have hPn2:gP≠w2.heap.size:=(by omega);obtain⟨gF,hgF'⟩:=Qi w2.heap.size;have hFO:gF≠gO:=(by omega);have hFR:gF≠gR:=(by omega);have hOF:=hFO.symm;have hRF:=hFR.symm;clear oD oO1;cases b
   . obtain rfl : x = zz := by rw [HZ.out]; rfl
     obtain rfl:bb=false:=by rw[HB.out];rfl
     obtain⟨y_0,y_1,y_2,y_3,y_4,y_5,y_6⟩:=bO2.n7;go_wp2_with (refine aA rfl 32 _ _ rfl gR #[.slice C1 x.1.length c1',.slice C2 x.2.1.length c2',.slice C3 x.2.2.1.length c3',.slice C4 x.2.2.2.length c4',.int .i64 s,.int .i64 p,.int .i64 r] rfl rfl _ _ bR2 (by kernel_rfl) rfl (by simp[Value.oneCell']) ?_;intro wE bE hgE)
     have oE:aC w.heap.size wE _ _ _ _ _:=aC.dB oO2 bR2 (by decide) (by decide) (by decide) hgE;have BE:=B2.grown hgE B2.size (fun k hk=>by injection hk with hk;subst hk;exact hgR);obtain⟨q_0,q_1,q_2,q_3,q_4,q_5,q_6⟩:=bE.n7;refine bodyPost_ret (v:= .tuple #[.agg #[.slice C1 x.1.length c1',.slice C2 x.2.1.length c2',.slice C3 x.2.2.1.length c3',.slice C4 x.2.2.2.length c4',.int .i64 s,.int .i64 p,.int .i64 r],.bool false]) (by simp[results,Tryz.results97,go_sem,q_0,q_1,q_2,q_3,q_4,q_5,q_6]) rfl ⟨C1,c1',C2,c2',C3,c3',C4,c4',rfl,oE,BE⟩
   . obtain rfl : z = zz := by rw [HZ.out]; rfl
     obtain rfl:bb=true:=by rw[HB.out];rfl
     go_upto_region 7 with(fail)
     obtain⟨W3,hW3⟩:=Qi (w2.alloc (.cells #[.slice D1 z.1.length d1,.slice D2 z.2.1.length d2,.slice D3 z.2.2.1.length d3,.slice D4 z.2.2.2.length d4] 30));rw[<-hW3]at bF2 bR2 bO2 oD2 B2⊢;rw[<-hgF']at bF2⊢;clear hW3 hgF';obtain⟨f_0,f_1,f_2,f_3⟩:=bF2.n4;have hgOl2:=bO2.lt;have hgFl:=bF2.lt;obtain⟨o_0,o_1,o_2,o_3,o_4,o_5,o_6⟩:=bO2.n7;have fO:∀j,W3.frozen? ⟨gO,j,none⟩=false:=fun j=>bO2.frozen j
     have hgg:=cZ (cZ (cZ (cZ (World.grownBy.refl W3 (some gO)) 0 (.slice D1 z.1.length d1)) 1 (.slice D2 z.2.1.length d2)) 2 (.slice D3 z.2.2.1.length d3)) 3 (.slice D4 z.2.2.2.length d4);have bR5:=bR2.grown hgg (by simp;omega);have oF5:=aC.dB oD2 bO2 (by decide) (by decide) (by decide) hgg;have B5:=B2.grown hgg B2.size (fun k hk=>by injection hk with hk;subst hk;exact hgO);go_wp2_with (refine aA rfl 32 _ _ rfl gR #[.slice D1 z.1.length d1,.slice D2 z.2.1.length d2,.slice D3 z.2.2.1.length d3,.slice D4 z.2.2.2.length d4,.int .i64 s,.int .i64 p,.int .i64 r] rfl rfl _ _ bR5 (by kernel_rfl) rfl (by simp[Value.oneCell']) ?_;intro wE bE hgE)
     have oE:aC w.heap.size wE _ _ _ _ _:=aC.dB oF5 bR5 (by decide) (by decide) (by decide) hgE;have BE:=B5.grown hgE B5.size (fun k hk=>by injection hk with hk;subst hk;exact hgR);obtain⟨q_0,q_1,q_2,q_3,q_4,q_5,q_6⟩:=bE.n7;refine bodyPost_ret (v:= .tuple #[.agg #[.slice D1 z.1.length d1,.slice D2 z.2.1.length d2,.slice D3 z.2.2.1.length d3,.slice D4 z.2.2.2.length d4,.int .i64 s,.int .i64 p,.int .i64 r],.bool true]) (by simp[results,Tryz.results97,go_sem,q_0,q_1,q_2,q_3,q_4,q_5,q_6]) rfl ⟨D1,d1,D2,d2,D3,d3,D4,d4,rfl,oE,BE⟩
end Go.Proofs.YtljfoohaapckeaaGreatDoor
namespace Go.Proofs.YtljfoohaapckeaaGreatDoor
set_option linter.unusedVariables false
set_option linter.unusedSimpArgs false
set_option maxHeartbeats 4000000
set_option maxRecDepth 100000
structure kH (E:Nat->Nat->Prop) (s n:Nat) (f:Nat->Int):Prop where
  st:f s=0
  low:∀i,-1<=f i
  zero:∀i,f i=0->i=s
  pre:∀i (m:Int),0<=m->f i=m+1->∃j,f j=m/\E j i
  edge:∀j i,0<=f j->E j i->0<=f i/\f i<=f j+1
  top:∀i,f i<n
  inn:∀i,0<=f i->i<n
theorem kH.le {E:Nat->Nat->Prop} {s n n':Nat} {f g:Nat->Int} (hf:kH E s n f) (hg:kH E s n' g):∀(m:Nat) (i:Nat),g i=m->0<=f i/\f i<=m
  | 0, i, h => by
   have:=hg.zero i h;subst this;rw[hf.st];omega
  | m + 1, i, h => by
   obtain⟨j,hj,he⟩:=hg.pre i m (by omega) (by rw[h];omega);have h1:=kH.le hf hg m j hj;have h2:=hf.edge j i h1.1 he;omega
theorem kH.same {E:Nat->Nat->Prop} {s n n':Nat} {f g:Nat->Int} (hf:kH E s n f) (hg:kH E s n' g):∀i,f i=g i:=by
 intro i;have h1:=hf.low i;have h2:=hg.low i;by_cases h:0<=g i
 . have a := kH.le hf hg (g i).toNat i (by omega);have b:=kH.le hg hf (f i).toNat i (by omega);omega
 . by_cases h':0<=f i
   . have b := kH.le hg hf (f i).toNat i (by omega);omega
   . omega
def upd (f:Nat->Int) (i:Nat) (v:Int):Nat->Int:=fun x=>if x=i then v else f x
theorem rR (f:Nat->Int) (i:Nat) (v:Int):upd f i v i=v:=if_pos rfl
theorem upd_ne {f:Nat->Int} {i j:Nat} {v:Int} (h:j≠i):upd f i v j=f j:=if_neg h
def tT (n:Nat) (f:Nat->Int):List Int:=(List.range n).map f
theorem jJ (n:Nat) (f:Nat->Int):(tT n f).length=n:=by simp[tT]
theorem FT {n:Nat} {f:Nat->Int} {i:Nat} (h:i<(tT n f).length):(tT n f)[i]=f i:=by simp[tT]
theorem Ms (n:Nat) (f:Nat->Int) (i:Nat) (v:Int):tT n (upd f i v)=(tT n f).set i v:=by
 apply List.ext_getElem
 . simp[tT]
 . intro k h1 h2;rw[FT,List.getElem_set];unfold upd;by_cases h:k=i
   . rw[if_pos h,if_pos h.symm]
   . rw[if_neg h,if_neg (fun e=>h e.symm),FT]
structure Bfs (E:Nat->Nat->Prop) (s n:Nat) (f:Nat->Int) (q:List Nat) (p:Nat):Prop where
  lt:∀i∈q,i<n
  nd:q.Nodup
  iff:∀i,0<=f i↔i∈q
  low:∀i,-1<=f i
  srt:q.Pairwise fun a b=>f a<=f b
  top:∀h:p<q.length,∀i∈q,f i<=f q[p]+1
  st:f s=0
  zero:∀i,f i=0->i=s
  pre:∀i (m:Int),0<=m->f i=m+1->∃j,f j=m/\E j i
  don:∀j∈q.take p,∀i,E j i->i∈q/\f i<=f j+1
  bd:∀a (h:a<q.length),f q[a]<=a
theorem EF:∀(n:Nat) (q:List Nat),q.Nodup->(∀i∈q,i<n)->q.length<=n
  |0,[],_,_=>Nat.le_refl _
  |0,x::q,_,h=>by have:=h x List.mem_cons_self;omega
  | n + 1, q, hd, h => by
   have h1 : (q.erase n).length <= n := EF n (q.erase n) (hd.erase n) (fun i hi => by
    have h2:=h i (List.mem_of_mem_erase hi);have h3:i≠n:=fun e=>by subst e;exact(List.Nodup.not_mem_erase hd) hi
    omega)
   have h4:=List.length_erase (a:=n) (l:=q);split at h4<;>omega
theorem Bfs.len {E:Nat->Nat->Prop} {s n:Nat} {f:Nat->Int} {q:List Nat} {p:Nat} (h:Bfs E s n f q p):q.length<=n:=EF n q h.nd h.lt
def f0 (s:Nat):Nat->Int:=upd (fun _=> -1) s 0
theorem Jm (s i:Nat):f0 s i=if i=s then 0 else-1:=rfl
theorem EG (E:Nat->Nat->Prop) {s n:Nat} (hs:s<n):Bfs E s n (f0 s) [s] 0 where
  lt:=fun i hi=>by rw[List.mem_singleton.1 hi];exact hs
  nd:=by simp
  iff := fun i => by
   rw[List.mem_singleton,Jm];split
   . rename_i h;exact⟨fun _=>h,fun _=>by omega⟩
   . rename_i h;exact⟨fun q=>by omega,fun q=>absurd q h⟩
  low:=fun i=>by rw[Jm];split<;>omega
  srt:=by simp
  top := fun h i hi => by
   rw[List.mem_singleton.1 hi];show f0 s s<=f0 s s+1;omega
  st:=rR _ _ _
  zero := fun i h => by
   rw[Jm]at h;split at h
   . assumption
   . omega
  pre := fun i m hm h => by
   rw[Jm]at h;split at h<;>omega
  don:=fun j hj=>by simp at hj
  bd := fun a h => by
   obtain rfl:a=0:=by simp at h;omega
   show f0 s s<=0;rw[Jm,if_pos rfl];omega
theorem Km {E:Nat->Nat->Prop} {s n:Nat} {f:Nat->Int} {q:List Nat} {p:Nat} (h:Bfs E s n f q p) (hp:p<q.length) {i:Nat} (hi:i<n) (he:E q[p] i) (hn:f i<0):Bfs E s n (upd f i (f q[p]+1)) (q++[i]) p:=by
 have hq:i∉q:=fun hm=>by have:=(h.iff i).2 hm;omega
 have old:∀j∈q,upd f i (f q[p]+1) j=f j:=fun j hj=>upd_ne fun e=>hq (e▸hj)
 have h0:0<=f q[p]:=(h.iff _).2 (List.getElem_mem hp);have hpp:(q++[i])[p]'(by simp;omega)=q[p]:=(by rw[List.getElem_append_left hp]);refine⟨fun j hj=> ?_,?_,fun j=> ?_,fun j=> ?_,?_,fun hl j hj=> ?_,?_,fun j hj=> ?_,fun j m hm hj=> ?_,fun j hj k hk=> ?_,fun a ha=> ?_⟩
 . rcases List.mem_append.1 hj with hj|hj
   . exact h.lt j hj
   . rw[List.mem_singleton.1 hj];exact hi
 . rw[List.nodup_append];exact⟨h.nd,by simp,fun a ha b hb=>by rw[List.mem_singleton.1 hb];exact fun e=>hq (e▸ha)⟩
 . rw[List.mem_append,List.mem_singleton];by_cases e:j=i
   . subst e;rw[rR];exact⟨fun _=> .inr rfl,fun _=>by omega⟩
   . rw[upd_ne e,h.iff];exact⟨fun q=> .inl q,fun q=>q.resolve_right e⟩
 . by_cases e:j=i
   . subst e;rw[rR];omega
   . rw[upd_ne e];exact h.low j
 . rw[List.pairwise_append];refine⟨h.srt.imp_of_mem fun{a b} ha hb hab=>by rw[old a ha,old b hb];exact hab,by simp,fun a ha b hb=> ?_⟩;rw[List.mem_singleton.1 hb,rR,old a ha];exact h.top hp a ha
 . rw[hpp,old _ (List.getElem_mem hp)];rcases List.mem_append.1 hj with hj|hj
   . rw[old j hj];exact h.top hp j hj
   . rw[List.mem_singleton.1 hj,rR];omega
 . have : s ∈ q := (h.iff s).1 (by rw [h.st]; omega);rw[old s this,h.st]
 . by_cases e:j=i
   . subst e;rw[rR]at hj;omega
   . rw[upd_ne e]at hj;exact h.zero j hj
 . by_cases e:j=i
   . subst e;rw[rR]at hj;refine⟨q[p],?_,he⟩;rw[old _ (List.getElem_mem hp)];omega
   . rw[upd_ne e]at hj;obtain⟨k,hk,hke⟩:=h.pre j m hm hj;refine⟨k,?_,hke⟩;rw[old k ((h.iff k).1 (by omega))];exact hk
 . have hj':j∈q.take p:=by
    rwa [List.take_append_of_le_length (by omega)]at hj
   have h1:=h.don j hj' k hk;refine⟨List.mem_append.2 (.inl h1.1),?_⟩;rw[old k h1.1,old j (List.mem_of_mem_take hj')];exact h1.2
 . by_cases e:a<q.length
   . rw[List.getElem_append_left e,old _ (List.getElem_mem e)];exact h.bd a e
   . obtain rfl : a = q.length := by simp at ha; omega
     rw[List.getElem_append_right (Nat.le_refl _)];simp only[Nat.sub_self,List.getElem_cons_zero];rw[rR];have:=h.bd p hp;omega
theorem Ic {E:Nat->Nat->Prop} {s n:Nat} {f:Nat->Int} {q:List Nat} {p:Nat} (h:Bfs E s n f q p) (hp:p<q.length) (hd:∀i,E q[p] i->0<=f i):Bfs E s n f q (p+1):=by
 refine⟨h.lt,h.nd,h.iff,h.low,h.srt,fun hl j hj=> ?_,h.st,h.zero,h.pre,fun j hj k hk=> ?_,h.bd⟩
 . have h1:=h.top hp j hj;have h2:f q[p]<=f q[p+1]:=List.pairwise_iff_getElem.1 h.srt p (p+1) hp hl (by omega);omega
 . rw[List.take_succ_eq_append_getElem hp]at hj;rcases List.mem_append.1 hj with hj|hj
   . exact h.don j hj k hk
   . rw[List.mem_singleton.1 hj]at hk⊢;have h1:=(h.iff k).1 (hd k hk);exact⟨h1,h.top hp k h1⟩
theorem Kn {E:Nat->Nat->Prop} {s n:Nat} {f:Nat->Int} {q:List Nat} (h:Bfs E s n f q q.length):kH E s n f where
  st:=h.st
  low:=h.low
  zero:=h.zero
  pre:=h.pre
  edge := fun j i hj he => by
   have h1:=h.don j (by rw[List.take_length];exact(h.iff j).1 hj) i he;exact⟨(h.iff i).2 h1.1,h1.2⟩
  top := fun i => by
   have hn:=h.len;by_cases hi:0<=f i
   . obtain⟨a,ha,e⟩:=List.getElem_of_mem ((h.iff i).1 hi);have:=h.bd a ha;rw[e]at this;omega
   . have hs := h.lt s ((h.iff s).1 (by rw [h.st]; omega));omega
  inn:=fun i hi=>h.lt i ((h.iff i).1 hi)
end Go.Proofs.YtljfoohaapckeaaGreatDoor
