/- Workshops copied, a place turned, a workshop audited: the reference's side. Conditions: sizes. Distances over links, as a list of waiting places finds them: plain laws. No program in sight. Tilings and dominoes: a member is a tiling; the tilings with a domino are the tilings without its cells. Plain laws. Flips between the tilings of a list, and a shortest way: plain laws. No program in sight. Repairs: plain laws. No program in sight. DERIVED: THE SHELF's CONTRACTS AT THIS DUMP, IN PLAIN WORDS (tools/lay-plain.mjs out of 'TryzShelf.lean', which tools/lay-shelf.mjs wrote): THE SAME DECLARATIONS UNDER THE SAME NAMES: 'import', 'namespace', 'open', 'def', 'theorem' AND NOTHING ELSE: no command of the shelf's: FOR A HAND-IN. Each laying: the table of numbers ('.._ren') and one theorem, a field a fact of the dump's own or the kernel's comparison; each contract: ONE APPLICATION. Numbers and lines as texts: FormatInt of both sides, lineOf. Conditions: numbers from 0 on; the library's table of powers, as its text lays it. FormatAct of both sides: the walks, and the law's. Conditions: the library's table of powers, as its text lays it. Lines cut at blanks, numbers and acts as texts, read back: plain laws. No program in sight. -/
import Derived.Test.YtljfoohaapckeaaGreatDoorDG23
import Derived.Test.YtljfoohaapckeaaGreatDoorDFlDoS
import Derived.Test.YtljfoohaapckeaaGreatDoorDK5
import Derived.Test.YtljfoohaapckeaaGreatDoorDG13
import Derived.Test.YtljfoohaapckeaaGreatDoorDK9
import Derived.Test.YtljfoohaapckeaaGreatDoorDListSt
import Derived.Shelf.Strings.Builder1
import Derived.Shelf.Strings.Builder2
import Derived.Shelf.Strings.OnBuilder
import Derived.Shelf.Strings.BuilderF
import Derived.Shelf.Strings.BuilderK
import Derived.Shelf.Strings.Builder2Cap
import Derived.Shelf.Strconv.Atoi
import Derived.Shelf.Strconv.Itoa0
import Derived.Shelf.Strconv.Itoa1
import Derived.Shelf.LaysM
import Derived.Shelf.Strconv.Itoa2
import Derived.Shelf.Strconv.Itoa3
import Derived.Shelf.Strconv.AtoiErrFast
import Derived.Shelf.Strconv.ParseIntEmpty
import Derived.Shelf.Strconv.AtoiFail
import Derived.Shelf.Strconv.Clone
import Derived.Shelf.Strconv.SyntaxError
import Derived.Shelf.LaysC
import Derived.Shelf.Strconv.ToError
import Derived.Shelf.Strconv.AtoiErr
import Derived.Shelf.Strconv.ErrVar
import Derived.Shelf.Strings.Search1
import Derived.Shelf.Strings.Search2
import Derived.Shelf.Strings.Search3
import Derived.Shelf.Strings.Count
import Derived.Shelf.Strings.Shaped
import Derived.Shelf.Strings.Split
import Derived.Shelf.Strings.SplitShaped
import Derived.Shelf.Unicode.DecodeSlow
import Derived.Shelf.Strings.BuilderCap
import Derived.Test.YtljfoohaapckeaaGreatDoorProg
import Derived.Test.YtljfoohaapckeaaGreatDoorDK1
import Derived.Laws.BytesArg
import Derived.Lib.ItoaLen
import Derived.Lib.Join
import Derived.Lib.AppendIntMem
import Derived.Test.YtljfoohaapckeaaGreatDoorDK2
import Derived.Lib.Atoi
open _root_.List (range mem_cons_self getElem_mem take_length nodup_nil mem_cons_of_mem)
open _root_.Nat (le_refl zero_le)
open _root_.Go.Lib (join TabIs itoa joinTail)
open _root_.Go.Proofs.Tryz (prog results97 isAgg0 sizeOf0 isAgg3 sizeOf3 isAgg4 sizeOf4 isAgg9 sizeOf9 isAgg20 sizeOf20 isAgg22 sizeOf22 isAgg5 sizeOf5)
namespace Go.Proofs.YtljfoohaapckeaaGreatDoor
open Go.ChangeShapes Go.WideShapes Go.ChangeAt Go.RowKit
set_option linter.unusedVariables false
set_option linter.unusedSimpArgs false
set_option maxHeartbeats 4000000
set_option maxRecDepth 100000
theorem pX (v1 v2 v3 v4:Value) (x:Fl) (s p r cx cy:Int) (w:World) (h1:Rd 1 bH w v1 x.1) (h2:Rd 3 aU w v2 x.2.1) (h3:Rd 3 aU w v3 x.2.2.1) (h4:Rd 2 bT w v4 x.2.2.2) (hs:dZ x):
 Calls prog 97 #[.agg #[v1,v2,v3,v4,.int .i64 s,.int .i64 p,.int .i64 r],.agg #[.int .i64 cx,.int .i64 cy]] w (Ao (nD (x,s,p,r) (cx,cy)) s p r (rZ (x,s,p,r) (cx,cy)) w):=by
 obtain⟨A1,c1,rfl,hc1,hm1⟩:=h1.form;obtain⟨A2,c2,rfl,hc2,hm2⟩:=h2.form;obtain⟨A3,c3,rfl,hc3,hm3⟩:=h3.form;obtain⟨A4,c4,rfl,hc4,hm4⟩:=h4.form;obtain⟨z,b,hz⟩:∃z b,E9 x (cx,cy)=(z,b):=⟨_,_,rfl⟩;obtain⟨k,hk⟩:=Oy (dB (x,s,p,r))
 have CF : ∀ (a1 a2 a3 a4 : Value) (w : World), Rd 1 bH w a1 x.1 -> Rd 3 aU w a2 x.2.1 -> Rd 3 aU w a3 x.2.2.1 -> Rd 2 bT w a4 x.2.2.2 -> Calls prog 138 #[.agg #[a1, a2, a3, a4], .agg #[.int .i64 cx, .int .i64 cy]] w (rY z b w) := fun a1 a2 a3 a4 w k1 k2 k3 k4 => by
  have:=MX a1 a2 a3 a4 x cx cy w k1 k2 k3 k4 hs;rw[hz]at this;exact this
 have hT:rZ (x,s,p,r) (cx,cy)=(k&&b):=by unfold rZ;rw[<-hk];simp only[hz]
 have hF:nD (x,s,p,r) (cx,cy)=if(k&&b)=true then z else x:=by unfold nD;rw[hT];simp only[hz]
 obtain⟨zz,hzz⟩:∃q,q=if(k&&b)=true then z else x:=⟨_,rfl⟩
 obtain⟨bb,hbb⟩:=Oy ((k&&b));rw[hT,hF,<-hzz,<-hbb];have HZ:=OA hzz;have HB:=OA hbb;have HK:=OA hk;clear hT hF hz hzz hbb hk;have B0:=(((Below.refl w.heap.size w).al (.cells #[.slice A1 x.1.length c1,.slice A2 x.2.1.length c2,.slice A3 x.2.2.1.length c3,.slice A4 x.2.2.2.length c4,.int .i64 s,.int .i64 p,.int .i64 r] 32)).al (.cells #[.int .i64 cx,.int .i64 cy] 70)).al (.cells #[.slice none 0 0,.slice none 0 0,.slice none 0 0,.slice none 0 0,.int .i64 0,.int .i64 0,.int .i64 0] 32);have bP:=((Blk.bK w 32 #[.slice A1 x.1.length c1,.slice A2 x.2.1.length c2,.slice A3 x.2.2.1.length c3,.slice A4 x.2.2.2.length c4,.int .i64 s,.int .i64 p,.int .i64 r]).alloc (.cells #[.int .i64 cx,.int .i64 cy] 70)).alloc (.cells #[.slice none 0 0,.slice none 0 0,.slice none 0 0,.slice none 0 0,.int .i64 0,.int .i64 0,.int .i64 0] 32);have bC:=(Blk.iV (w.alloc (.cells #[.slice A1 x.1.length c1,.slice A2 x.2.1.length c2,.slice A3 x.2.2.1.length c3,.slice A4 x.2.2.2.length c4,.int .i64 s,.int .i64 p,.int .i64 r] 32)) 70 #[.int .i64 cx,.int .i64 cy] (w.heap.size+1) (by simp)).alloc (.cells #[.slice none 0 0,.slice none 0 0,.slice none 0 0,.slice none 0 0,.int .i64 0,.int .i64 0,.int .i64 0] 32);have bR:=Blk.iV ((w.alloc (.cells #[.slice A1 x.1.length c1,.slice A2 x.2.1.length c2,.slice A3 x.2.2.1.length c3,.slice A4 x.2.2.2.length c4,.int .i64 s,.int .i64 p,.int .i64 r] 32)).alloc (.cells #[.int .i64 cx,.int .i64 cy] 70)) 32 #[.slice none 0 0,.slice none 0 0,.slice none 0 0,.slice none 0 0,.int .i64 0,.int .i64 0,.int .i64 0] (w.heap.size+1+1) (by simp);go_enter Tryz.func97,Tryz.ntmps97
 go_wp2_with fail
 obtain⟨W0,hW0⟩:=Oy (((w.alloc (.cells #[.slice A1 x.1.length c1,.slice A2 x.2.1.length c2,.slice A3 x.2.2.1.length c3,.slice A4 x.2.2.2.length c4,.int .i64 s,.int .i64 p,.int .i64 r] 32)).alloc (.cells #[.int .i64 cx,.int .i64 cy] 70)).alloc (.cells #[.slice none 0 0,.slice none 0 0,.slice none 0 0,.slice none 0 0,.int .i64 0,.int .i64 0,.int .i64 0] 32));obtain⟨gP,hgP⟩:=Oy w.heap.size;obtain⟨gC,hgC⟩:=Oy (w.heap.size+1);obtain⟨gR,hgR'⟩:=Oy (w.heap.size+1+1);rw[<-hW0]at B0 bP bC bR⊢;rw[<-hgR']at bR⊢;rw[<-hgC]at bC⊢;rw[<-hgP]at bP⊢;have hgR:w.heap.size<=gR:=(by omega);clear hW0 hgP hgC hgR';obtain⟨y_0,y_1,y_2,y_3,y_4,y_5,y_6⟩:=bP.n7;refine(mK _ _ _ _ x s p r _ (h1.Oz B0) (h2.Oz B0) (h3.Oz B0) (h4.Oz B0) hs).mono ?_;rintro e w1 ⟨C1,c1',C2,c2',C3,c3',C4,c4',rfl,oO,hb1⟩;have oO:=oO.mono B0.size;have hgO:w.heap.size<=w1.heap.size:=(B0.tr hb1).size;have bO1:=Blk.bK w1 32 #[.slice C1 x.1.length c1',.slice C2 x.2.1.length c2',.slice C3 x.2.2.1.length c3',.slice C4 x.2.2.2.length c4',.int .i64 s,.int .i64 p,.int .i64 r];have oO1:=oO.alloc (.cells #[.slice C1 x.1.length c1',.slice C2 x.2.1.length c2',.slice C3 x.2.2.1.length c3',.slice C4 x.2.2.2.length c4',.int .i64 s,.int .i64 p,.int .i64 r] 32);have B1:=(B0.tr hb1).al (.cells #[.slice C1 x.1.length c1',.slice C2 x.2.1.length c2',.slice C3 x.2.2.1.length c3',.slice C4 x.2.2.2.length c4',.int .i64 s,.int .i64 p,.int .i64 r] 32);have bP1:=(bP.bl hb1).alloc (.cells #[.slice C1 x.1.length c1',.slice C2 x.2.1.length c2',.slice C3 x.2.2.1.length c3',.slice C4 x.2.2.2.length c4',.int .i64 s,.int .i64 p,.int .i64 r] 32);have bC1:=(bC.bl hb1).alloc (.cells #[.slice C1 x.1.length c1',.slice C2 x.2.1.length c2',.slice C3 x.2.2.1.length c3',.slice C4 x.2.2.2.length c4',.int .i64 s,.int .i64 p,.int .i64 r] 32);have bR1:=(bR.bl hb1).alloc (.cells #[.slice C1 x.1.length c1',.slice C2 x.2.1.length c2',.slice C3 x.2.2.1.length c3',.slice C4 x.2.2.2.length c4',.int .i64 s,.int .i64 p,.int .i64 r] 32);have hRl:=(bR.bl hb1).lt;have hPl:=(bP.bl hb1).lt;have hCl:=(bC.bl hb1).lt;have hPn:gP≠w1.heap.size:=(by omega);have hCn:gC≠w1.heap.size:=(by omega);obtain⟨gO,hgO'⟩:=Oy w1.heap.size;have hRO:gR≠gO:=(by omega);have hOR:=hRO.symm;have hgO:w.heap.size<=gO:=(by omega);clear oO y_0 y_1 y_2 y_3 y_4 y_5 y_6;obtain⟨y_0,y_1,y_2,y_3,y_4,y_5,y_6⟩:=bP1.n7;go_wp2_with fail
 refine(kX _ _ _ _ (x,s,p,r) _ (h1.Oz B1) (h2.Oz B1) (h3.Oz B1) (h4.Oz B1) hs.2.1).mono ?_;rintro e w2 ⟨rfl,hb2⟩;rw[<-hgO']at bO1⊢;rw[<-HK.out];clear hgO' y_0 y_1 y_2 y_3 y_4 y_5 y_6;have B1:=B1.tr hb2;have bP1:=bP1.bl hb2;have bC1:=bC1.bl hb2;have bR1:=bR1.bl hb2;have bO1:=bO1.bl hb2;have oO1:=oO1.below hb2;have hgOl:=bO1.lt;cases k
 . obtain rfl : x = zz := by rw [HZ.out]; rfl
   obtain rfl:bb=false:=by rw[HB.out];rfl
   obtain⟨y_0,y_1,y_2,y_3,y_4,y_5,y_6⟩:=bO1.n7;go_wp2_with (refine aA rfl 32 _ _ rfl gR #[.slice C1 x.1.length c1',.slice C2 x.2.1.length c2',.slice C3 x.2.2.1.length c3',.slice C4 x.2.2.2.length c4',.int .i64 s,.int .i64 p,.int .i64 r] rfl rfl _ _ bR1 (by kernel_rfl) rfl (by simp[Value.oneCell']) ?_;intro wE bE hgE)
   have oE:aD w.heap.size wE _ _ _ _ _:=aD.eD oO1 bR1 (by decide) (by decide) (by decide) hgE;have BE:=B1.grown hgE B1.size (fun k hk=>by injection hk with hk;subst hk;exact hgR);obtain⟨q_0,q_1,q_2,q_3,q_4,q_5,q_6⟩:=bE.n7;refine bodyPost_ret (v:= .tuple #[.agg #[.slice C1 x.1.length c1',.slice C2 x.2.1.length c2',.slice C3 x.2.2.1.length c3',.slice C4 x.2.2.2.length c4',.int .i64 s,.int .i64 p,.int .i64 r],.bool false]) (by simp[results,results97,go_sem,q_0,q_1,q_2,q_3,q_4,q_5,q_6]) rfl ⟨C1,c1',C2,c2',C3,c3',C4,c4',rfl,oE,BE⟩
 . skip;obtain⟨y_0,y_1,y_2,y_3,y_4,y_5,y_6⟩:=bP1.n7;obtain⟨d_0,d_1⟩:=bC1.n2;have hb0:=hb2;clear hb2;go_wp2_with fail
   refine(CF _ _ _ _ _ (h1.Oz B1) (h2.Oz B1) (h3.Oz B1) (h4.Oz B1)).mono ?_;rintro e w2 ⟨D1,d1,D2,d2,D3,d3,D4,d4,rfl,oD,hb2⟩;clear y_0 y_1 y_2 y_3 y_4 y_5 y_6 d_0 d_1;have oD:=oD.mono B1.size;have bF2:=Blk.bK w2 30 #[.slice D1 z.1.length d1,.slice D2 z.2.1.length d2,.slice D3 z.2.2.1.length d3,.slice D4 z.2.2.2.length d4];have oD2:=oD.alloc (.cells #[.slice D1 z.1.length d1,.slice D2 z.2.1.length d2,.slice D3 z.2.2.1.length d3,.slice D4 z.2.2.2.length d4] 30);have oO2:=(oO1.below hb2).alloc (.cells #[.slice D1 z.1.length d1,.slice D2 z.2.1.length d2,.slice D3 z.2.2.1.length d3,.slice D4 z.2.2.2.length d4] 30);have B2:=(B1.tr hb2).al (.cells #[.slice D1 z.1.length d1,.slice D2 z.2.1.length d2,.slice D3 z.2.2.1.length d3,.slice D4 z.2.2.2.length d4] 30);have bP2:=(bP1.bl hb2).alloc (.cells #[.slice D1 z.1.length d1,.slice D2 z.2.1.length d2,.slice D3 z.2.2.1.length d3,.slice D4 z.2.2.2.length d4] 30);have bR2:=(bR1.bl hb2).alloc (.cells #[.slice D1 z.1.length d1,.slice D2 z.2.1.length d2,.slice D3 z.2.2.1.length d3,.slice D4 z.2.2.2.length d4] 30);have bO2:=(bO1.bl hb2).alloc (.cells #[.slice D1 z.1.length d1,.slice D2 z.2.1.length d2,.slice D3 z.2.2.1.length d3,.slice D4 z.2.2.2.length d4] 30);have hPl2:=(bP1.bl hb2).lt;have hOl2:=(bO1.bl hb2).lt;have hRl2:=(bR1.bl hb2).lt;have hPn2:gP≠w2.heap.size:=(by omega);obtain⟨gF,hgF'⟩:=Oy w2.heap.size;have hFO:gF≠gO:=(by omega);have hFR:gF≠gR:=(by omega);have hOF:=hFO.symm;have hRF:=hFR.symm;clear oD oO1;cases b
   . obtain rfl : x = zz := by rw [HZ.out]; rfl
     obtain rfl:bb=false:=by rw[HB.out];rfl
     obtain⟨y_0,y_1,y_2,y_3,y_4,y_5,y_6⟩:=bO2.n7;go_wp2_with (refine aA rfl 32 _ _ rfl gR #[.slice C1 x.1.length c1',.slice C2 x.2.1.length c2',.slice C3 x.2.2.1.length c3',.slice C4 x.2.2.2.length c4',.int .i64 s,.int .i64 p,.int .i64 r] rfl rfl _ _ bR2 (by kernel_rfl) rfl (by simp[Value.oneCell']) ?_;intro wE bE hgE)
     have oE:aD w.heap.size wE _ _ _ _ _:=aD.eD oO2 bR2 (by decide) (by decide) (by decide) hgE;have BE:=B2.grown hgE B2.size (fun k hk=>by injection hk with hk;subst hk;exact hgR);obtain⟨q_0,q_1,q_2,q_3,q_4,q_5,q_6⟩:=bE.n7;refine bodyPost_ret (v:= .tuple #[.agg #[.slice C1 x.1.length c1',.slice C2 x.2.1.length c2',.slice C3 x.2.2.1.length c3',.slice C4 x.2.2.2.length c4',.int .i64 s,.int .i64 p,.int .i64 r],.bool false]) (by simp[results,results97,go_sem,q_0,q_1,q_2,q_3,q_4,q_5,q_6]) rfl ⟨C1,c1',C2,c2',C3,c3',C4,c4',rfl,oE,BE⟩
   . obtain rfl : z = zz := by rw [HZ.out]; rfl
     obtain rfl:bb=true:=by rw[HB.out];rfl
     go_upto_region 7 with(fail)
     obtain⟨W3,hW3⟩:=Oy (w2.alloc (.cells #[.slice D1 z.1.length d1,.slice D2 z.2.1.length d2,.slice D3 z.2.2.1.length d3,.slice D4 z.2.2.2.length d4] 30));rw[<-hW3]at bF2 bR2 bO2 oD2 B2⊢;rw[<-hgF']at bF2⊢;clear hW3 hgF';obtain⟨f_0,f_1,f_2,f_3⟩:=bF2.n4;have hgOl2:=bO2.lt;have hgFl:=bF2.lt;obtain⟨o_0,o_1,o_2,o_3,o_4,o_5,o_6⟩:=bO2.n7;have fO:∀j,W3.frozen? ⟨gO,j,none⟩=false:=fun j=>bO2.frozen j
     have hgg:=dI (dI (dI (dI (World.grownBy.refl W3 (some gO)) 0 (.slice D1 z.1.length d1)) 1 (.slice D2 z.2.1.length d2)) 2 (.slice D3 z.2.2.1.length d3)) 3 (.slice D4 z.2.2.2.length d4);have bR5:=bR2.grown hgg (by simp;omega);have oF5:=aD.eD oD2 bO2 (by decide) (by decide) (by decide) hgg;have B5:=B2.grown hgg B2.size (fun k hk=>by injection hk with hk;subst hk;exact hgO);go_wp2_with (refine aA rfl 32 _ _ rfl gR #[.slice D1 z.1.length d1,.slice D2 z.2.1.length d2,.slice D3 z.2.2.1.length d3,.slice D4 z.2.2.2.length d4,.int .i64 s,.int .i64 p,.int .i64 r] rfl rfl _ _ bR5 (by kernel_rfl) rfl (by simp[Value.oneCell']) ?_;intro wE bE hgE)
     have oE:aD w.heap.size wE _ _ _ _ _:=aD.eD oF5 bR5 (by decide) (by decide) (by decide) hgE;have BE:=B5.grown hgE B5.size (fun k hk=>by injection hk with hk;subst hk;exact hgR);obtain⟨q_0,q_1,q_2,q_3,q_4,q_5,q_6⟩:=bE.n7;refine bodyPost_ret (v:= .tuple #[.agg #[.slice D1 z.1.length d1,.slice D2 z.2.1.length d2,.slice D3 z.2.2.1.length d3,.slice D4 z.2.2.2.length d4,.int .i64 s,.int .i64 p,.int .i64 r],.bool true]) (by simp[results,results97,go_sem,q_0,q_1,q_2,q_3,q_4,q_5,q_6]) rfl ⟨D1,d1,D2,d2,D3,d3,D4,d4,rfl,oE,BE⟩
end Go.Proofs.YtljfoohaapckeaaGreatDoor
namespace Go.Proofs.YtljfoohaapckeaaGreatDoor
set_option linter.unusedVariables false
set_option linter.unusedSimpArgs false
set_option maxHeartbeats 4000000
set_option maxRecDepth 100000
structure jU (E:Nat->Nat->Prop) (s n:Nat) (f:Nat->Int):Prop where
  st:f s=0
  low:∀i,-1<=f i
  zero:∀i,f i=0->i=s
  pre:∀i (m:Int),0<=m->f i=m+1->∃j,f j=m/\E j i
  edge:∀j i,0<=f j->E j i->0<=f i/\f i<=f j+1
  top:∀i,f i<n
  inn:∀i,0<=f i->i<n
theorem jU.le {E:Nat->Nat->Prop} {s n n':Nat} {f g:Nat->Int} (hf:jU E s n f) (hg:jU E s n' g):∀(m:Nat) (i:Nat),g i=m->0<=f i/\f i<=m
  | 0, i, h => by
   have:=hg.zero i h;subst this;rw[hf.st];omega
  | m + 1, i, h => by
   obtain⟨j,hj,he⟩:=hg.pre i m (by omega) (by rw[h];omega);have h1:=jU.le hf hg m j hj;have h2:=hf.edge j i h1.1 he;omega
theorem jU.same {E:Nat->Nat->Prop} {s n n':Nat} {f g:Nat->Int} (hf:jU E s n f) (hg:jU E s n' g):∀i,f i=g i:=by
 intro i;have h1:=hf.low i;have h2:=hg.low i;by_cases h:0<=g i
 . have a := jU.le hf hg (g i).toNat i (by omega);have b:=jU.le hg hf (f i).toNat i (by omega);omega
 . by_cases h':0<=f i
   . have b := jU.le hg hf (f i).toNat i (by omega);omega
   . omega
def upd (f:Nat->Int) (i:Nat) (v:Int):Nat->Int:=fun x=>if x=i then v else f x
theorem qH (f:Nat->Int) (i:Nat) (v:Int):upd f i v i=v:=if_pos rfl
theorem upd_ne {f:Nat->Int} {i j:Nat} {v:Int} (h:j≠i):upd f i v j=f j:=if_neg h
def rU (n:Nat) (f:Nat->Int):List Int:=(range n).map f
theorem iW (n:Nat) (f:Nat->Int):(rU n f).length=n:=by simp[rU]
theorem Fe {n:Nat} {f:Nat->Int} {i:Nat} (h:i<(rU n f).length):(rU n f)[i]=f i:=by simp[rU]
theorem Lh (n:Nat) (f:Nat->Int) (i:Nat) (v:Int):rU n (upd f i v)=(rU n f).set i v:=by
 apply List.ext_getElem
 . simp[rU]
 . intro k h1 h2;rw[Fe,List.getElem_set];unfold upd;by_cases h:k=i
   . rw[if_pos h,if_pos h.symm]
   . rw[if_neg h,if_neg (fun e=>h e.symm),Fe]
structure Bfs (E:Nat->Nat->Prop) (s n:Nat) (f:Nat->Int) (q:List Nat) (p:Nat):Prop where
  lt:∀i∈q,i<n
  nd:q.Nodup
  iff:∀i,0<=f i↔i∈q
  low:∀i,-1<=f i
  srt:q.Pairwise fun a b=>f a<=f b
  top:∀h:p<q.length,∀i∈q,f i<=f q[p]+1
  st:f s=0
  zero:∀i,f i=0->i=s
  pre:∀i (m:Int),0<=m->f i=m+1->∃j,f j=m/\E j i
  don:∀j∈q.take p,∀i,E j i->i∈q/\f i<=f j+1
  bd:∀a (h:a<q.length),f q[a]<=a
theorem El:∀(n:Nat) (q:List Nat),q.Nodup->(∀i∈q,i<n)->q.length<=n
  |0,[],_,_=>le_refl _
  |0,x::q,_,h=>by have:=h x mem_cons_self;omega
  | n + 1, q, hd, h => by
   have h1 : (q.erase n).length <= n := El n (q.erase n) (hd.erase n) (fun i hi => by
    have h2:=h i (List.mem_of_mem_erase hi);have h3:i≠n:=fun e=>by subst e;exact(List.Nodup.not_mem_erase hd) hi
    omega)
   have h4:=List.length_erase (a:=n) (l:=q);split at h4<;>omega
theorem Bfs.len {E:Nat->Nat->Prop} {s n:Nat} {f:Nat->Int} {q:List Nat} {p:Nat} (h:Bfs E s n f q p):q.length<=n:=El n q h.nd h.lt
def f0 (s:Nat):Nat->Int:=upd (fun _=> -1) s 0
theorem Iy (s i:Nat):f0 s i=if i=s then 0 else-1:=rfl
theorem Em (E:Nat->Nat->Prop) {s n:Nat} (hs:s<n):Bfs E s n (f0 s) [s] 0 where
  lt:=fun i hi=>by rw[List.mem_singleton.1 hi];exact hs
  nd:=by simp
  iff := fun i => by
   rw[List.mem_singleton,Iy];split
   . rename_i h;exact⟨fun _=>h,fun _=>by omega⟩
   . rename_i h;exact⟨fun q=>by omega,fun q=>absurd q h⟩
  low:=fun i=>by rw[Iy];split<;>omega
  srt:=by simp
  top := fun h i hi => by
   rw[List.mem_singleton.1 hi];show f0 s s<=f0 s s+1;omega
  st:=qH _ _ _
  zero := fun i h => by
   rw[Iy]at h;split at h
   . assumption
   . omega
  pre := fun i m hm h => by
   rw[Iy]at h;split at h<;>omega
  don:=fun j hj=>by simp at hj
  bd := fun a h => by
   obtain rfl:a=0:=by simp at h;omega
   show f0 s s<=0;rw[Iy,if_pos rfl];omega
theorem Jz {E:Nat->Nat->Prop} {s n:Nat} {f:Nat->Int} {q:List Nat} {p:Nat} (h:Bfs E s n f q p) (hp:p<q.length) {i:Nat} (hi:i<n) (he:E q[p] i) (hn:f i<0):Bfs E s n (upd f i (f q[p]+1)) (q++[i]) p:=by
 have hq:i∉q:=fun hm=>by have:=(h.iff i).2 hm;omega
 have old:∀j∈q,upd f i (f q[p]+1) j=f j:=fun j hj=>upd_ne fun e=>hq (e▸hj)
 have h0:0<=f q[p]:=(h.iff _).2 (getElem_mem hp);have hpp:(q++[i])[p]'(by simp;omega)=q[p]:=(by rw[List.getElem_append_left hp]);refine⟨fun j hj=> ?_,?_,fun j=> ?_,fun j=> ?_,?_,fun hl j hj=> ?_,?_,fun j hj=> ?_,fun j m hm hj=> ?_,fun j hj k hk=> ?_,fun a ha=> ?_⟩
 . rcases List.mem_append.1 hj with hj|hj
   . exact h.lt j hj
   . rw[List.mem_singleton.1 hj];exact hi
 . rw[List.nodup_append];exact⟨h.nd,by simp,fun a ha b hb=>by rw[List.mem_singleton.1 hb];exact fun e=>hq (e▸ha)⟩
 . rw[List.mem_append,List.mem_singleton];by_cases e:j=i
   . subst e;rw[qH];exact⟨fun _=> .inr rfl,fun _=>by omega⟩
   . rw[upd_ne e,h.iff];exact⟨fun q=> .inl q,fun q=>q.resolve_right e⟩
 . by_cases e:j=i
   . subst e;rw[qH];omega
   . rw[upd_ne e];exact h.low j
 . rw[List.pairwise_append];refine⟨h.srt.imp_of_mem fun{a b} ha hb hab=>by rw[old a ha,old b hb];exact hab,by simp,fun a ha b hb=> ?_⟩;rw[List.mem_singleton.1 hb,qH,old a ha];exact h.top hp a ha
 . rw[hpp,old _ (getElem_mem hp)];rcases List.mem_append.1 hj with hj|hj
   . rw[old j hj];exact h.top hp j hj
   . rw[List.mem_singleton.1 hj,qH];omega
 . have : s ∈ q := (h.iff s).1 (by rw [h.st]; omega);rw[old s this,h.st]
 . by_cases e:j=i
   . subst e;rw[qH]at hj;omega
   . rw[upd_ne e]at hj;exact h.zero j hj
 . by_cases e:j=i
   . subst e;rw[qH]at hj;refine⟨q[p],?_,he⟩;rw[old _ (getElem_mem hp)];omega
   . rw[upd_ne e]at hj;obtain⟨k,hk,hke⟩:=h.pre j m hm hj;refine⟨k,?_,hke⟩;rw[old k ((h.iff k).1 (by omega))];exact hk
 . have hj':j∈q.take p:=by
    rwa [List.take_append_of_le_length (by omega)]at hj
   have h1:=h.don j hj' k hk;refine⟨List.mem_append.2 (.inl h1.1),?_⟩;rw[old k h1.1,old j (List.mem_of_mem_take hj')];exact h1.2
 . by_cases e:a<q.length
   . rw[List.getElem_append_left e,old _ (getElem_mem e)];exact h.bd a e
   . obtain rfl : a = q.length := by simp at ha; omega
     rw[List.getElem_append_right (le_refl _)];simp only[Nat.sub_self,List.getElem_cons_zero];rw[qH];have:=h.bd p hp;omega
theorem Gs {E:Nat->Nat->Prop} {s n:Nat} {f:Nat->Int} {q:List Nat} {p:Nat} (h:Bfs E s n f q p) (hp:p<q.length) (hd:∀i,E q[p] i->0<=f i):Bfs E s n f q (p+1):=by
 refine⟨h.lt,h.nd,h.iff,h.low,h.srt,fun hl j hj=> ?_,h.st,h.zero,h.pre,fun j hj k hk=> ?_,h.bd⟩
 . have h1:=h.top hp j hj;have h2:f q[p]<=f q[p+1]:=List.pairwise_iff_getElem.1 h.srt p (p+1) hp hl (by omega);omega
 . rw[List.take_succ_eq_append_getElem hp]at hj;rcases List.mem_append.1 hj with hj|hj
   . exact h.don j hj k hk
   . rw[List.mem_singleton.1 hj]at hk⊢;have h1:=(h.iff k).1 (hd k hk);exact⟨h1,h.top hp k h1⟩
theorem JA {E:Nat->Nat->Prop} {s n:Nat} {f:Nat->Int} {q:List Nat} (h:Bfs E s n f q q.length):jU E s n f where
  st:=h.st
  low:=h.low
  zero:=h.zero
  pre:=h.pre
  edge := fun j i hj he => by
   have h1:=h.don j (by rw[take_length];exact(h.iff j).1 hj) i he;exact⟨(h.iff i).2 h1.1,h1.2⟩
  top := fun i => by
   have hn:=h.len;by_cases hi:0<=f i
   . obtain⟨a,ha,e⟩:=List.getElem_of_mem ((h.iff i).1 hi);have:=h.bd a ha;rw[e]at this;omega
   . have hs := h.lt s ((h.iff s).1 (by rw [h.st]; omega));omega
  inn:=fun i hi=>h.lt i ((h.iff i).1 hi)
end Go.Proofs.YtljfoohaapckeaaGreatDoor
namespace Go.Proofs.YtljfoohaapckeaaGreatDoor
set_option linter.unusedVariables false
set_option maxHeartbeats 4000000
set_option maxRecDepth 100000
theorem lK {s:Nat} {t:List Dm}:t∈gV s↔Til 0 s.testBit t:=Aj 64 0 s.testBit t rfl
theorem Til.part {s:Nat} {t:List Dm} (h:Til 0 s.testBit t):jQ s t:=
 ⟨fun d hd=>by obtain⟨a,_,c,e⟩:=h.ok d hd;exact Ai.2 ⟨a,c,e⟩,h.ord,h.ap⟩
theorem nM {s:Nat} {t:List Dm} (h:t∈gV s):jQ s t:=(lK.1 h).part
theorem rV {s:Nat} {t:List Dm} (h:t∈gV s):∀d∈t,aH d=true:=fun d hd=>(Ai.1 ((nM h).1 d hd)).1
theorem Gt {s:Nat} {d:Dm}:eT s d=true↔aH d=true/\s.testBit (dM d)=true/\s.testBit (fU d)=true:=by
 constructor
 . intro h;unfold eT at h;rw[Bool.and_eq_true,decide_eq_true_iff]at h;exact⟨h.1,nP h.2 _ (by rw[aR h.1];simp),nP h.2 _ (by rw[aR h.1];simp)⟩
 . rintro⟨a,b,c⟩;unfold eT;rw[a,Bool.true_and,decide_eq_true_iff];refine uU fun j hj=> ?_
   rw[aR a,Bool.or_eq_true,decide_eq_true_iff,decide_eq_true_iff]at hj;rcases hj with rfl|rfl
   . exact b
   . exact c
theorem Ko {s:Nat} {t:List Dm} (h:t∈gV s) {d:Dm} (hd:d∈t):eT s d=true:=Gt.2 (Ai.1 ((nM h).1 d hd))
theorem Li {s:Nat} (hs:s<U64) {t:List Dm} (h:t∈gV s):fP 0 t=s:=by
 have T:=lK.1 h;refine Nat.eq_of_testBit_eq fun j=> ?_
 rw[kG];rcases q:s.testBit j with _|_
 . rw[List.any_eq_false];intro d hd;have:=Ko h hd;obtain⟨a,b,c⟩:=Gt.1 this;rw[a,Bool.true_and,aR a];by_cases e1:dM d=j
   . rw[e1,q]at b;cases b
   . by_cases e2:fU d=j
     . rw[e2,q]at c;cases c
     . simp[e1,e2]
 . have hj:j<64:=by
    rcases Nat.lt_or_ge j 64 with h|h
    . exact h
    . rw[Nat.testBit_lt_two_pow (Nat.lt_of_lt_of_le hs (by unfold U64;exact Nat.pow_le_pow_right (by decide) h))]at q;cases q
   obtain⟨d,hd,e⟩:=T.all j (zero_le _) hj q;rw[List.any_eq_true];refine⟨d,hd,?_⟩;have a:=rV h d hd;rw[a,Bool.true_and,aR a];rcases e with e|e<;>simp[e]
theorem zN {rows:List Int} (hr:dJ rows) {t:List Dm} (h:t∈gV (setOf rows)):dP rows t=true:=by
 have hp:isPartial rows t=true:=pG.2 ⟨hr,nM h⟩;rw[nI hp,Li (dX hr) h,decide_eq_true rfl]
theorem Lj {s:Nat} {t:List Dm} (h:t∈gV s):t.length<=64:=Ak _ _ _ _ h
theorem Iz {rows:List Int} (hr:dJ rows):bG rows=((gV (setOf rows)).length:Nat):=by
 unfold bG;rw[if_pos (aN.2 hr),uL (dX hr)]
end Go.Proofs.YtljfoohaapckeaaGreatDoor
namespace Go.Proofs.YtljfoohaapckeaaGreatDoor
set_option linter.unusedVariables false
set_option linter.unusedSimpArgs false
set_option maxHeartbeats 4000000
set_option maxRecDepth 100000
theorem xE:∀(n i:Nat) (S:Nat->Bool),(tl n i S).Nodup
  |0,_,_=>by simp[tl]
  | n + 1, i, S => by
   have hc : ∀ (d : Dm) (l : List (List Dm)), l.Nodup -> (l.map (d :: ·)).Nodup := fun d l hl => by
    unfold List.Nodup at hl⊢;rw[List.pairwise_map];exact hl.imp fun{a b} h e=>h (List.cons.inj e).2
   have hd : dW i ≠ eY i := fun e => by
    have:=congrArg (fun x:Dm=>x.2.2) e;exact absurd this (by simp[dW,eY])
   rw[pM];split
   . rw[List.nodup_append];refine⟨?_,?_,fun a ha b hb e=> ?_⟩
     . split
       . exact hc _ _ (xE n _ _)
       . exact nodup_nil
     . split
       . exact hc _ _ (xE n _ _)
       . exact nodup_nil
     . subst e;split at ha
       . split at hb
         . obtain⟨x,_,rfl⟩:=List.mem_map.1 ha;obtain⟨y,_,e⟩:=List.mem_map.1 hb;exact hd (List.cons.inj e).1.symm
         . cases hb
       . cases ha
   . exact xE n _ _
theorem zP {s:Nat} {t:List Dm} (hp:jQ s t) (hall:∀j,j<64->s.testBit j=true->∃d∈t,(aK d).testBit j=true):t∈gV s:=by
 refine lK.2 ⟨fun d hd=> ?_,hp.2.1,hp.2.2,fun j _ h2 h3=> ?_⟩
 . obtain⟨a,b,c⟩:=Ai.1 (hp.1 d hd);exact⟨a,zero_le _,b,c⟩
 . obtain⟨d,hd,e⟩:=hall j h2 h3;refine⟨d,hd,?_⟩;rw[aR (Ai.1 (hp.1 d hd)).1,Bool.or_eq_true,decide_eq_true_iff,decide_eq_true_iff]at e;exact e
theorem Gu {s:Nat} {t:List Dm} (h:t∈gV s) {j:Nat} (hj:j<64) (hs:s.testBit j=true):∃d∈t,(aK d).testBit j=true:=by
 obtain⟨d,hd,e⟩:=(lK.1 h).all j (zero_le _) hj hs;refine⟨d,hd,?_⟩;rw[aR (rV h d hd),Bool.or_eq_true,decide_eq_true_iff,decide_eq_true_iff];exact e
theorem Gv {s:Nat} {t:List Dm} {c:Cl} (h:t∈gV s) (hk:kindOf t c≠0):aS t c∈gV s:=by
 have hp:=nM h;obtain⟨h1,h2,h3⟩:=Jl hp hk;obtain⟨hsq,g1,g2⟩:=Jk hk;refine zP h1 fun j hj hs=> ?_
 obtain⟨d,hd,hb⟩:=Gu h hj hs;have hm:∀x,x∈aS t c↔x∈iF t (lT (kindOf t c) c) (nJ (kindOf t c) c)/\aH x=true:=fun x=>DX _ x
 have hn : ∀ x, (x = (nJ (kindOf t c) c).1 ∨ x = (nJ (kindOf t c) c).2) -> x ∈ aS t c := fun x hx => by
  refine(hm x).2 ⟨(sS _ _ _ x).2 (hx.elim .inl fun q=> .inr (.inl q)),?_⟩;rcases hx with rfl|rfl
  . exact hsq.ok.2.2.1
  . exact hsq.ok.2.2.2
 by_cases e1:d=(lT (kindOf t c) c).1
 . rcases Da hsq.symm (j := j) (.inl (by rw [<- e1]; exact hb)) with q | q
   . exact⟨_,hn _ (.inl rfl),q⟩
   . exact⟨_,hn _ (.inr rfl),q⟩
 . by_cases e2:d=(lT (kindOf t c) c).2
   . rcases Da hsq.symm (j := j) (.inr (by rw [<- e2]; exact hb)) with q | q
     . exact⟨_,hn _ (.inl rfl),q⟩
     . exact⟨_,hn _ (.inr rfl),q⟩
   . exact⟨d,(hm d).2 ⟨(sS _ _ _ d).2 (.inr (.inr ⟨hd,e1,e2⟩)),rV h d hd⟩,hb⟩
def dQ (l:List Dm):List Cl:=((range 64).map gI).filter fun c=>decide (kindOf l c≠0)
theorem kL {l:List Dm} {c:Cl}:c∈dQ l↔kindOf l c≠0:=by
 unfold dQ;rw[List.mem_filter,decide_eq_true_iff];refine⟨fun h=>h.2,fun h=>⟨?_,h⟩⟩;have hi:=E8 h;unfold jP at hi;rw[Bool.and_eq_true,decide_eq_true_iff,decide_eq_true_iff]at hi;obtain⟨x,y⟩:=c;simp only at hi;refine List.mem_map.2 ⟨(y*8+x).toNat,List.mem_range.2 (by omega),?_⟩;unfold gI;apply Prod.ext
 . simp only;omega
 . simp only;omega
def ix:List (List Dm)->List Dm->Nat
  |[],_=>0
  |a::r,m=>if a=m then 0 else ix r m+1
theorem lX:∀{T:List (List Dm)} {m:List Dm},m∈T->∃h:ix T m<T.length,T[ix T m]=m
  | a :: r, m, h => by
   by_cases e:a=m
   . have:ix (a::r) m=0:=if_pos e;refine⟨by rw[this];simp,?_⟩;simp only[this];exact e
   . have e2:ix (a::r) m=ix r m+1:=if_neg e;obtain⟨h1,h2⟩:=lX ((List.mem_cons.1 h).resolve_left (fun q=>e q.symm));refine⟨by rw[e2,List.length_cons];omega,?_⟩;simp only[e2,List.getElem_cons_succ];exact h2
theorem Nv {T:List (List Dm)} (hd:T.Nodup) {i:Nat} (hi:i<T.length):ix T T[i]=i:=by
 obtain⟨h1,h2⟩:=lX (getElem_mem hi);exact(List.getElem_inj hd).1 h2
def lY (T:List (List Dm)) (m:List Dm):Int:=if m∈T then((ix T m:Nat):Int)else-1
theorem Gw : ∀ {T : List (List Dm)} {m : List Dm} {k : Nat} (hk : k < T.length), (∀ j (h : j < k), T[j]'(by omega) ≠ m) -> T[k] = m -> ix T m = k
  |[],m,k,hk,_,_=>by simp at hk
  | a :: r, m, 0, hk, _, e => by
   have e':a=m:=e;exact if_pos e'
  | a :: r, m, k + 1, hk, h, e => by
   have e1:¬a=m:=h 0 (Nat.succ_pos _);have e2:ix (a::r) m=ix r m+1:=if_neg e1;rw[e2,Gw (k:=k) (by simpa using hk) (fun j hj=>h (j+1) (by omega)) (by simpa using e)]
theorem index_hit {T : List (List Dm)} {m : List Dm} {k : Nat} (hk : k < T.length) (h : ∀ j (h : j < k), T[j]'(by omega) ≠ m) (e : T[k] = m) : lY T m = (k : Int) := by
 unfold lY;rw[if_pos (e▸getElem_mem hk),Gw hk h e]
theorem BC {T:List (List Dm)} {m:List Dm} (h:∀j (h:j<T.length),T[j]≠m):lY T m= -1:=by
 unfold lY;rw[if_neg];intro hm;obtain⟨j,hj,e⟩:=List.getElem_of_mem hm;exact h j hj e
def til (T:List (List Dm)) (i:Nat):List Dm:=T.getD i []
theorem iE {T:List (List Dm)} {i:Nat} (hi:i<T.length):til T i=T[i]:=by unfold til;rw[List.getD_eq_getElem?_getD,List.getElem?_eq_getElem hi];rfl
def links (T:List (List Dm)) (j:Nat):List Nat:=(dQ (til T j)).map fun c=>ix T (aS (til T j) c)
def Edge (T:List (List Dm)) (j i:Nat):Prop:=j<T.length/\i∈links T j
structure mX (T:List (List Dm)):Prop where
  nd:T.Nodup
  cl:∀t∈T,∀c,kindOf t c≠0->aS t c∈T/\kindOf (aS t c) c≠0/\aS (aS t c) c=t
  sm:T.length<=300
theorem Cy (rows:List Int):mX (aF rows):=by
 unfold aF;split
 . rename_i h
   have hr:dJ rows:=by
    by_cases hr:aZ rows=true
    . exact aN.1 hr
    . unfold bG at h;rw[if_neg hr]at h;simp[inB]at h
   refine⟨xE _ _ _,fun t ht c hk=>⟨Gv ht hk,?_⟩,?_⟩
   . obtain⟨_,h2,h3⟩:=Jl (nM ht) hk;exact⟨h2,h3⟩
   . have:=Iz hr;simp[inB]at h;omega
 . exact⟨nodup_nil,(fun t ht=>by cases ht),by decide⟩
theorem xS {T:List (List Dm)} (hT:mX T) {j i:Nat} (h:Edge T j i):i<T.length:=by
 obtain⟨hj,hi⟩:=h;obtain⟨c,hc,rfl⟩:=List.mem_map.1 hi;rw[iE hj]at hc⊢;exact(lX (hT.cl _ (getElem_mem hj) c (kL.1 hc)).1).1
theorem Kq {T:List (List Dm)} (hT:mX T) {j i:Nat} (h:Edge T j i):Edge T i j:=by
 have hlt:=xS hT h;obtain⟨hj,hi⟩:=h;obtain⟨c,hc,rfl⟩:=List.mem_map.1 hi;rw[iE hj]at hc hlt⊢;obtain⟨h1,h2,h3⟩:=hT.cl _ (getElem_mem hj) c (kL.1 hc);obtain⟨h4,h5⟩:=lX h1;refine⟨hlt,List.mem_map.2 ⟨c,?_,?_⟩⟩
 . rw[iE h4,h5];exact kL.2 h2
 . rw[iE h4,h5,h3];exact Nv hT.nd hj
def Fz (T:List (List Dm)) (f:Nat->Int) (i:Nat):Option Cl:=(dQ (til T i)).find? fun c=>decide (f (ix T (aS (til T i) c))=f i-1)
def rO (T:List (List Dm)) (i:Nat) (c:Cl):Nat:=ix T (aS (til T i) c)
def rP (T:List (List Dm)) (f:Nat->Int):Nat->Nat->List Cl
  |0,_=>[]
  | m + 1, i => match Fz T f i with
    |some c=>c::rP T f m (rO T i c)
    |none=>[]
theorem En {T:List (List Dm)} (hT:mX T) {k n:Nat} {f:Nat->Int} (hd:jU (Edge T) k n f) {i:Nat} {m:Nat} (hf:f i=m+1):∃c,Fz T f i=some c/\kindOf (til T i) c≠0/\f (rO T i c)=m/\rO T i c<T.length/\i<T.length:=by
 obtain⟨j,hj,he⟩:=hd.pre i m (by omega) hf;have hs:=Kq hT he;have hi:=xS hT he;obtain⟨_,hm⟩:=hs;obtain⟨c,hc,rfl⟩:=List.mem_map.1 hm;cases h:Fz T f i with
 |none=>
  have:=List.find?_eq_none.1 h c hc;simp only[decide_eq_true_eq]at this;exact absurd (by rw[hj,hf];omega) this
 |some d=>
  have h1:=List.find?_some h;have h2:=List.mem_of_find?_eq_some h;simp only[decide_eq_true_eq]at h1;have hk:=kL.1 h2;refine⟨d,rfl,hk,?_,?_,hi⟩
  . unfold rO;rw[h1,hf];omega
  . exact xS hT ⟨hi,List.mem_map.2 ⟨d,h2,rfl⟩⟩
theorem Gx {T:List (List Dm)} {f:Nat->Int} {m i:Nat} {c:Cl} (h:Fz T f i=some c):rP T f (m+1) i=c::rP T f m (rO T i c):=by
 rw[rP,h]
theorem JB (T:List (List Dm)) (f:Nat->Int):∀(m i:Nat),(rP T f m i).length<=m
  |0,_=>zero_le _
  | m + 1, i => by
   rw[rP];split
   . rename_i c _;rw[List.length_cons];have:=JB T f m (rO T i c);omega
   . exact zero_le _
open Classical in
noncomputable def pY (T:List (List Dm)) (k:Nat):Nat->Int:=if h:∃f,jU (Edge T) k T.length f then h.choose else fun _=> -1
theorem JC {T:List (List Dm)} {k:Nat} {f:Nat->Int} (h:jU (Edge T) k T.length f):pY T k=f:=by
 have hx:∃f,jU (Edge T) k T.length f:=⟨f,h⟩;unfold pY;rw[dif_pos hx];funext i
 exact hx.choose_spec.same h i
noncomputable def Eo (rows:List Int) (a b:List Dm):Bool:=decide (a∈aF rows)&&decide (b∈aF rows)&&decide (0<=pY (aF rows) (ix (aF rows) b) (ix (aF rows) a))
noncomputable def BD (rows:List Int) (a b:List Dm):List Cl:=if Eo rows a b=true then rP (aF rows) (pY (aF rows) (ix (aF rows) b)) (pY (aF rows) (ix (aF rows) b) (ix (aF rows) a)).toNat (ix (aF rows) a)else[]
def sD (a b:List Dm) (k:Nat):Nat:=((a.take k).filter fun d=> !b.contains d).length
def chg (a b:List Dm):Nat:=(a.filter fun d=> !b.contains d).length
theorem Ep (a b:List Dm):sD a b a.length=chg a b:=by unfold sD chg;rw[take_length]
theorem BG {a b:List Dm} {k:Nat} (h:k<a.length):sD a b (k+1)=sD a b k+(if b.contains a[k]=true then 0 else 1):=by
 unfold sD;rw[List.take_succ_eq_append_getElem h,List.filter_append,List.length_append];congr 1
 by_cases hc:b.contains a[k]=true
 . rw[if_pos hc,List.filter_cons_of_neg (by rw[hc];simp)];rfl
 . rw[if_neg hc,List.filter_cons_of_pos (by simpa using hc)];rfl
theorem Gy (a b:List Dm) (k:Nat):sD a b k<=k:=by
 unfold sD;refine Nat.le_trans (List.length_filter_le _ _) ?_;rw[List.length_take];omega
theorem I7 (a b:List Dm):chg a b<=a.length:=List.length_filter_le _ _
def iH (list:List Dm) (d:Dm) (b:Option (List Dm)) (t:List Dm):Option (List Dm):=
 if t.contains d = true then b else match b with
   |none=>some t
   |some m=>if chg list t<chg list m then some t else some m
def kH (T:List (List Dm)) (list:List Dm) (d:Dm) (k:Nat):Option (List Dm):=(T.take k).foldl (iH list d) none
def fH (T:List (List Dm)) (list:List Dm) (d:Dm):Option (List Dm):=T.foldl (iH list d) none
theorem BH (T:List (List Dm)) (list:List Dm) (d:Dm):kH T list d T.length=fH T list d:=by unfold kH fH;rw[take_length]
theorem zQ {T:List (List Dm)} {list:List Dm} {d:Dm} {k:Nat} (h:k<T.length):kH T list d (k+1)=iH list d (kH T list d k) T[k]:=by
 unfold kH;rw[List.take_succ_eq_append_getElem h,List.foldl_append];rfl
def wK (rows:List Int) (l:List Dm) (d:Dm):Bool:=decide (l∈aF rows)&&(fH (aF rows) l d).isSome
def zS (rows:List Int) (l:List Dm) (d:Dm):List Dm:=if l∈aF rows then(fH (aF rows) l d).getD []else[]
theorem MZ {s:Nat} {t u:List Dm} (ht:t∈gV s) (hu:u∈gV s) (h:t≠[]):u≠[]:=by
 intro e;subst e;obtain⟨d,hd⟩:=List.exists_mem_of_ne_nil t h;have h1:=nM ht;obtain⟨a,b,c⟩:=Ai.1 (h1.1 d hd)
 have hlt:dM d<64:=by
  have:=(dG (dC a).1).2;unfold dM;omega
 obtain⟨e,he,_⟩:=Gu hu hlt b;cases he
theorem M0 {rows:List Int} {t u:List Dm} (ht:t∈aF rows) (hu:u∈aF rows) (h:t≠[]):u≠[]:=by
 unfold aF at ht hu;split at ht
 . rename_i q;rw[if_pos q]at hu;exact MZ ht hu h
 . cases ht
theorem M5 {rows:List Int} {t:List Dm} (ht:t∈aF rows):∀d∈t,aH d=true:=by
 unfold aF at ht;split at ht
 . exact rV ht
 . cases ht
theorem Gz {list:List Dm} {d:Dm}:∀(T:List (List Dm)) (b:Option (List Dm)) (m:List Dm),T.foldl (iH list d) b=some m->b=some m∨m∈T
  |[],b,m,h=> .inl h
  | t :: T, b, m, h => by
   rw[List.foldl_cons]at h;rcases Gz T _ m h with h|h
   . unfold iH at h;split at h
     . exact .inl h
     . split at h
       . injection h with h;subst h;exact .inr mem_cons_self
       . split at h
         . injection h with h;subst h;exact .inr mem_cons_self
         . exact .inl h
   . exact .inr (mem_cons_of_mem _ h)
end Go.Proofs.YtljfoohaapckeaaGreatDoor
namespace Go.Proofs
open Go.Shelf
set_option maxHeartbeats 4000000
set_option maxRecDepth 100000
def Tryz.zT:Go.Shelf.Ren:=⟨fun|156=>116|165=>171|166=>172|169=>173|240=>207|241=>208|276=>231|277=>232|n=>n,fun|31=>42|9=>9|3=>3|4=>4|0=>0|20=>20|72=>171|76=>167|70=>169|37=>22|75=>166|127=>195|164=>216|5=>5|80=>173|n=>n,fun|n=>n⟩
theorem Tryz.JD : Go.Proofs.Lays.n156 prog Tryz.zT := {
  mixed:=by kernel_rfl
  f156:=Tryz.func116.trans (congrArg some (by kernel_rfl))
  f165:=Tryz.func171.trans (congrArg some (by kernel_rfl))
  f166:=Tryz.func172.trans (congrArg some (by kernel_rfl))
  f169:=Tryz.func173.trans (congrArg some (by kernel_rfl))
  f240:=Tryz.func207.trans (congrArg some (by kernel_rfl))
  f241:=Tryz.func208.trans (congrArg some (by kernel_rfl))
  f276:=Tryz.func231.trans (congrArg some (by kernel_rfl))
  f277:=Tryz.func232.trans (congrArg some (by kernel_rfl))
  t0:=Tryz.underlying0
  a0:=isAgg0
  z0:=sizeOf0
  v0:=Tryz.zeroValue0
  t3:=Tryz.underlying3
  a3:=isAgg3
  z3:=sizeOf3
  v3:=Tryz.zeroValue3
  t4:=Tryz.underlying4
  a4:=isAgg4
  z4:=sizeOf4
  v4:=Tryz.zeroValue4
  t9:=Tryz.underlying9
  a9:=isAgg9
  z9:=sizeOf9
  v9:=Tryz.zeroValue9
  t20:=Tryz.underlying20
  a20:=isAgg20
  z20:=sizeOf20
  v20:=Tryz.zeroValue20
  t31:=Tryz.underlying42
  a31:=Tryz.isAgg42
  z31:=Tryz.sizeOf42
  v31:=Tryz.zeroValue42
  t37:=Tryz.underlying22
  a37:=isAgg22
  z37:=sizeOf22
  v37:=Tryz.zeroValue22
  t70:=Tryz.underlying169
  a70:=Tryz.isAgg169
  z70:=Tryz.sizeOf169
  v70:=Tryz.zeroValue169
  t72:=Tryz.underlying171
  a72:=Tryz.isAgg171
  z72:=Tryz.sizeOf171
  v72:=Tryz.zeroValue171
  t75:=Tryz.underlying166
  a75:=Tryz.isAgg166
  z75:=Tryz.sizeOf166
  v75:=Tryz.zeroValue166
  t76:=Tryz.underlying167
  a76:=Tryz.isAgg167
  z76:=Tryz.sizeOf167
  v76:=Tryz.zeroValue167
  t127:=Tryz.underlying195
  a127:=Tryz.isAgg195
  z127:=Tryz.sizeOf195
  v127:=Tryz.zeroValue195
  t164:=Tryz.underlying216
  a164:=Tryz.isAgg216
  z164:=Tryz.sizeOf216
  v164:=Tryz.zeroValue216}
theorem Tryz.nZ : Builder.Extra prog Tryz.zT := {
  sizeBuilder:=by kernel_rfl
  liesBuilder:=by kernel_rfl
  t5:=Tryz.underlying5
  a5:=isAgg5
  z5:=sizeOf5
  v5:=Tryz.zeroValue5
  infoByte:=by kernel_rfl
  cellsByte:=by kernel_rfl
  sizeByte:=by kernel_rfl
  neB5:=by decide}
open Go.RowKit in
theorem Tryz.strings_Join_none (a:Option Addr) (c:Nat) (sep:ByteArray) (w:World):
 Calls prog 116 #[.slice a 0 c,.string sep] w fun e w'=>e= .returned (.string ⟨#[]⟩)/\w'=w:=Any.strings_Join_none Tryz.JD Tryz.nZ a c sep w
open Go.RowKit in
theorem Tryz.strings_Join (bk o c:Nat) (xs:List ByteArray) (sep:ByteArray) (w:World) (hcells:∀(j:Nat) x,xs[j]? =some x->w.cell? ⟨bk,o+j,none⟩=some (.string x)) (hbk:bk<w.heap.size) (hN:xs.length<=140737488355328) (hcap:xs.length<=c) (hlen:(join (xs.map (·.data.toList)) sep.data.toList).length<=140737488355328):
 Calls prog 116 #[.slice (some ⟨bk,o,none⟩) xs.length c,.string sep] w fun e w'=>e= .returned (.string ⟨(join (xs.map (·.data.toList)) sep.data.toList).toArray⟩)/\Below w.heap.size w w':=Any.strings_Join Tryz.JD Tryz.nZ bk o c xs sep w hcells hbk hN hcap hlen
def Tryz.laysM171_ren:Go.Shelf.Ren:=⟨fun|171=>113|243=>169|246=>204|283=>222|284=>223|285=>224|286=>225|129=>240|317=>239|318=>241|319=>242|320=>243|337=>252|338=>253|n=>n,fun|3=>3|9=>9|2=>2|4=>4|171=>205|0=>0|53=>124|37=>22|5=>5|173=>208|212=>225|51=>226|20=>20|213=>227|46=>177|232=>247|233=>248|n=>n,fun|17=>0|18=>6|19=>7|n=>n⟩
theorem Tryz.laysM171 : Go.Proofs.LaysM.n171 prog Tryz.laysM171_ren := {
  mixed:=by kernel_rfl
  f129:=Tryz.func240.trans (congrArg some (by kernel_rfl))
  f171:=Tryz.func113.trans (congrArg some (by kernel_rfl))
  f243:=Tryz.func169.trans (congrArg some (by kernel_rfl))
  f246:=Tryz.func204.trans (congrArg some (by kernel_rfl))
  f283:=Tryz.func222.trans (congrArg some (by kernel_rfl))
  f284:=Tryz.func223.trans (congrArg some (by kernel_rfl))
  f285:=Tryz.func224.trans (congrArg some (by kernel_rfl))
  f286:=Tryz.func225.trans (congrArg some (by kernel_rfl))
  f317:=Tryz.func239.trans (congrArg some (by kernel_rfl))
  f318:=Tryz.func241.trans (congrArg some (by kernel_rfl))
  f319:=Tryz.func242.trans (congrArg some (by kernel_rfl))
  f320:=Tryz.func243.trans (congrArg some (by kernel_rfl))
  f337:=Tryz.func252.trans (congrArg some (by kernel_rfl))
  f338:=Tryz.func253.trans (congrArg some (by kernel_rfl))
  t0:=Tryz.underlying0
  a0:=isAgg0
  z0:=sizeOf0
  v0:=Tryz.zeroValue0
  t2:=Tryz.underlying2
  a2:=Tryz.isAgg2
  z2:=Tryz.sizeOf2
  v2:=Tryz.zeroValue2
  t3:=Tryz.underlying3
  a3:=isAgg3
  z3:=sizeOf3
  v3:=Tryz.zeroValue3
  t4:=Tryz.underlying4
  a4:=isAgg4
  z4:=sizeOf4
  v4:=Tryz.zeroValue4
  t5:=Tryz.underlying5
  a5:=isAgg5
  z5:=sizeOf5
  v5:=Tryz.zeroValue5
  t9:=Tryz.underlying9
  a9:=isAgg9
  z9:=sizeOf9
  v9:=Tryz.zeroValue9
  t20:=Tryz.underlying20
  a20:=isAgg20
  z20:=sizeOf20
  v20:=Tryz.zeroValue20
  t37:=Tryz.underlying22
  a37:=isAgg22
  z37:=sizeOf22
  v37:=Tryz.zeroValue22
  t46:=Tryz.underlying177
  a46:=Tryz.isAgg177
  z46:=Tryz.sizeOf177
  v46:=Tryz.zeroValue177
  t51:=Tryz.underlying226
  a51:=Tryz.isAgg226
  z51:=Tryz.sizeOf226
  v51:=Tryz.zeroValue226
  t53:=Tryz.underlying124
  a53:=Tryz.isAgg124
  z53:=Tryz.sizeOf124
  v53:=Tryz.zeroValue124
  t171:=Tryz.underlying205
  a171:=Tryz.isAgg205
  z171:=Tryz.sizeOf205
  v171:=Tryz.zeroValue205
  t173:=Tryz.underlying208
  a173:=Tryz.isAgg208
  z173:=Tryz.sizeOf208
  v173:=Tryz.zeroValue208
  t212:=Tryz.underlying225
  a212:=Tryz.isAgg225
  z212:=Tryz.sizeOf225
  v212:=Tryz.zeroValue225
  t213:=Tryz.underlying227
  a213:=Tryz.isAgg227
  z213:=Tryz.sizeOf227
  t232:=Tryz.underlying247
  a232:=Tryz.isAgg247
  z232:=Tryz.sizeOf247
  v232:=Tryz.zeroValue247
  t233:=Tryz.underlying248
  a233:=Tryz.isAgg248
  z233:=Tryz.sizeOf248
  v233:=Tryz.zeroValue248
  g17:=by kernel_rfl
  g18:=by kernel_rfl
  g19:=by kernel_rfl
  i0:=by kernel_rfl
  i2:=by kernel_rfl
  i3:=by kernel_rfl
  i4:=by kernel_rfl
  i5:=by kernel_rfl
  i9:=by kernel_rfl
  i20:=by kernel_rfl
  i37:=by kernel_rfl
  i46:=by kernel_rfl
  i51:=by kernel_rfl
  i53:=by kernel_rfl
  i171:=by kernel_rfl
  i173:=by kernel_rfl
  i212:=by kernel_rfl
  i232:=by kernel_rfl
  i233:=by kernel_rfl
  m17:=by kernel_rfl
  m18:=by kernel_rfl
  m19:=by kernel_rfl}
open Go.RowKit Go.Sort Go.Lib in
theorem Tryz.strconv_Itoa (n:Int) (h0: -9223372036854775808<=n) (h1:n<=9223372036854775807) (w:World) (htab:TabIs prog w "internal/strconv.uint64pow10" .u64 Lib.pow10Tab):
 Calls prog 113 #[.int .i64 n] w fun e w'=>e= .returned (.string ⟨(itoa n).toArray⟩)/\∃k os,w'=grow (w.drewN k) os:=Any.strconv_Itoa Tryz.laysM171 n h0 h1 w htab
end Go.Proofs
namespace Go.Proofs.YtljfoohaapckeaaGreatDoor
open Go.ChangeShapes Go.WideShapes Go.ChangeAt Go.RowKit
set_option linter.unusedVariables false
set_option linter.unusedSimpArgs false
set_option maxHeartbeats 4000000
set_option maxRecDepth 100000
def Tab (w:World):Prop:=TabIs prog w "internal/strconv.uint64pow10" .u64 Lib.pow10Tab
theorem Tab.below {w w':World} (h:Tab w) (hb:Below w.heap.size w w'):Tab w':=by
 unfold Tab TabIs World.var? at h⊢;have hg:Tryz.prog.globalNamed "internal/strconv.uint64pow10" =some 0:=(by kernel_rfl);rw[hg]at h⊢;simp only[Option.bind_some]at h⊢
 have hlt:0<w.heap.size:=by
  rcases Nat.lt_or_ge 0 w.heap.size with h'|h'
  . exact h'
  . rw[Array.getElem?_eq_none h']at h;cases h
 rw[hb.block 0 hlt];exact h
def GA (n:Int):ByteArray:=⟨(Lib.decDigits n.toNat).toArray⟩
theorem Ll {n:Int} (h:0<=n):itoa n=Lib.decDigits n.toNat:=by unfold itoa;rw[if_neg (by omega)]
theorem IA (w:World) (k:Nat) (os:Array Obj):Below w.heap.size w (Sort.grow (w.drewN k) os):=Lib.below_grow w.heap.size w (le_refl _) k os
theorem Lm (n:Int) (w:World) (h0:0<=n) (h1:n<=9223372036854775807) (ht:Tab w):Calls prog 113 #[.int .i64 n] w (Ret (.string (GA n)) w):=by
 refine(Tryz.strconv_Itoa n (by omega) h1 w ht).mono ?_;rintro e w' ⟨rfl,k,os,rfl⟩;exact⟨by rw[Ll h0];rfl,IA w k os⟩
theorem xG (n:Int) (w:World) (h0:0<=n) (h1:n<=9223372036854775807) (ht:Tab w):Calls prog 50 #[.int .i64 n] w (Ret (.string (GA n)) w):=by
 go_enter Tryz.func50,Tryz.ntmps50
 go_wp2_with fail
 refine(Lm n _ h0 h1 ht).mono ?_;rintro e w1 ⟨rfl,hb1⟩;go_wp2;go_ret;exact⟨rfl,hb1⟩
theorem JE {α:Type} {E:TypeId} {enc:α->List Value} (w:World) (x:α) {u:Value} (h:enc x=[u]):aC E 1 enc w.heap.size (w.alloc (.cells #[u] E)) (.slice (some ⟨w.heap.size,0,none⟩) 1 1) [x]:=by
 have e:[x].flatMap enc=[u]:=(by simp[h]);unfold aC;rw[e];exact⟨by simp,.inr ⟨w.heap.size,1,#[u],rfl,le_refl _,heap_alloc_new w _,by simp,by simp[maxLen],by simp,by simp⟩⟩
end Go.Proofs.YtljfoohaapckeaaGreatDoor
namespace Go.Proofs.YtljfoohaapckeaaGreatDoor
open Go.RowKit
set_option linter.unusedVariables false
set_option linter.unusedSimpArgs false
set_option maxHeartbeats 4000000
set_option maxRecDepth 100000
abbrev Bs:=List UInt8
def fg:Bs->Bs->List Bs
  |cur,[]=>if cur=[]then[]else[cur]
  |cur,c::r=>if c=32 then(if cur=[]then fg [] r else cur::fg [] r)else fg (cur++[c]) r
def Nw (l:Bs):Prop:=∀b∈l,b≠32
theorem Ff:∀(x cur r:Bs),Nw x->fg cur (x++r)=fg (cur++x) r
  |[],cur,r,_=>by simp
  | c :: x, cur, r, h => by
   rw[List.cons_append,fg,if_neg (h c mem_cons_self),Ff x (cur++[c]) r (fun b hb=>h b (mem_cons_of_mem _ hb)),List.append_assoc];rfl
theorem JF:∀(xs:List Bs) (cur:Bs),cur≠[]->(∀x∈xs,x≠[]/\Nw x)->fg cur (joinTail [32] xs)=cur::xs
  | [], cur, hc, _ => by
   show fg cur []=[cur];rw[fg,if_neg hc]
  | y :: xs, cur, hc, h => by
   have e:joinTail [32] (y::xs)=32::(y++joinTail [32] xs):=(by simp[joinTail]);have hy:=h y mem_cons_self;rw[e,fg,if_pos rfl,if_neg hc,Ff y [] _ hy.2,List.nil_append,JF xs y hy.1 (fun x hx=>h x (mem_cons_of_mem _ hx))]
theorem JG:∀(xs:List Bs),(∀x∈xs,x≠[]/\Nw x)->fg [] (join xs [32])=xs
  |[],_=>rfl
  | y :: xs, h => by
   have hy:=h y mem_cons_self;rw[Lib.join_cons,Ff y [] _ hy.2,List.nil_append,JF xs y hy.1 (fun x hx=>h x (mem_cons_of_mem _ hx))]
def toB (l:Bs):ByteArray:=⟨l.toArray⟩
theorem GD (l:Bs):(toB l).data.toList=l:=rfl
theorem M6 {a b:Bs} (h:toB a=toB b):a=b:=by
 have:=congrArg (fun x:ByteArray=>x.data.toList) h;exact this
end Go.Proofs.YtljfoohaapckeaaGreatDoor
