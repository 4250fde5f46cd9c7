/- ChooseBoxes of both sides, for all arguments, and the law FnExactChooseBoxes. No conditions. Boxes bought, on both sides: the walks. Conditions: sizes. Acts done to a workshop: plain laws, and the words that the walks share. No program in sight but its types. DoAct of the program: the walk. Conditions: sizes; the library's table of powers, as its text lays it. DoAct of the reference: the walk. Conditions: sizes. The laws FnExactUndoFlip and FnExactUndoAll: the walks. No conditions. What an act leaves: sizes; the same result in slices. Plain lemmas. Acts done one after another: plain laws, and the words that the walks share. A new floor, by the program: the walk. Conditions: sizes. A workshop stays valid: by acts, by purchases, by breaks, by turns. Plain laws; no program in sight. -/
import Derived.Test.YtljfoohaapckeaaGreatDoorCChooseS
import Derived.Test.YtljfoohaapckeaaGreatDoorCK3
import Derived.Test.YtljfoohaapckeaaGreatDoorCG23
import Derived.Test.YtljfoohaapckeaaGreatDoorCG25
import Derived.Test.YtljfoohaapckeaaGreatDoorCBrk
import Derived.Test.YtljfoohaapckeaaGreatDoorCG21
import Derived.Test.YtljfoohaapckeaaGreatDoorCG6
import Derived.Test.YtljfoohaapckeaaGreatDoorCFirstI
import Derived.Test.YtljfoohaapckeaaGreatDoorCG19
open _root_.Go.Value (oneCell')
open _root_.Go.Proofs.Tryz (prog results99)
namespace Go.Proofs.YtljfoohaapckeaaGreatDoor
open Go.ChangeShapes Go.WideShapes Go.ChangeAt Go.RowKit
set_option linter.unusedVariables false
set_option maxHeartbeats 4000000
set_option maxRecDepth 100000
theorem Jf {l:List (Int×Int)} (hok:iI l l.length=true) {n:Nat} (hn:n<=500):cheapest l n=lp l n:=by
 rw[vG hok hn];unfold lp;rw[List.getD_eq_getElem?_getD,List.getElem?_eq_getElem (by rw[jI];omega)];rfl
theorem KW {l:List (Int×Int)} (hok:iI l l.length=true) {n:Nat} (hn:n<=500):chosen l n=choose l n (lp l n):=by
 obtain⟨hall,h1,h5⟩:=qZ _ _ hok;have hne:l≠[]:=by rintro rfl;simp at h1
 have:=pX hall hne n;unfold chosen;rw[Jf hok hn,if_pos this,Int.toNat_natCast]
theorem Ci {l:List (Int×Int)} {n:Int} (h:(iI l l.length&&inB n 0 500)=false):cheapest l n= -1:=by
 unfold cheapest;rw[h];rfl
theorem Nw {l:List (Int×Int)} {n:Int} (h:(iI l l.length&&inB n 0 500)=false):chosen l n=[]:=by
 unfold chosen;rw[Ci h];rfl
theorem Jg (v:Value) (l:List (Int×Int)) (n:Int) (w:World) (h:Rd 2 eD w v l):
 Calls prog 28 #[v,.int .i64 n] w (jV 3 1 bT (chosen l n) w):=by
 rcases hc:(iI l l.length&&inB n 0 500)with _|_
 . rw[Nw hc];have hch:=Ci hc;have Hch:=SQ hch;clear hch hc;go_enter Tryz.func28,Tryz.ntmps28
   go_wp2_with fail
   refine(xW _ l n _ h).mono ?_;rintro e w1 ⟨rfl,hb1⟩;rw[Hch.out];go_wp2;go_ret;exact⟨some ⟨w1.heap.size,0,none⟩,0,rfl,iA _ _ rfl _ hb1.size,hb1.al _⟩
 . rw[Bool.and_eq_true]at hc;have hn0:0<=n/\n<=500:=(by simpa[inB]using hc.2);obtain⟨n,rfl⟩:=Int.eq_ofNat_of_zero_le hn0.1;rw[KW hc.1 (by omega)];exact Je v l n w h hc.1 (by omega)
end Go.Proofs.YtljfoohaapckeaaGreatDoor
namespace Go.Proofs.YtljfoohaapckeaaGreatDoor
open Go.ChangeShapes Go.WideShapes Go.ChangeAt Go.RowKit
set_option linter.unusedVariables false
set_option linter.unusedSimpArgs false
set_option maxHeartbeats 4000000
set_option maxRecDepth 100000
def Fz (y:Wk) (l:List (Int×Int)) (n:Int):Int×Int:=(IntKind.i64.wrap (y.2.1+(hold l (chosen l n)).1),IntKind.i64.wrap (y.2.2.1+(hold l (chosen l n)).2))
def FB (y:Wk) (l:List (Int×Int)) (n:Int):Bool:=dW y&&decide (0<=cheapest l n)&&dW (y.1,(Fz y l n).1,(Fz y l n).2,y.2.2.2)
def KX (y:Wk) (l:List (Int×Int)) (n:Int):Int:=if FB y l n=true then(Fz y l n).1 else y.2.1
def KY (y:Wk) (l:List (Int×Int)) (n:Int):Int:=if FB y l n=true then(Fz y l n).2 else y.2.2.1
theorem Ao (v1 v2 v3 v4 u:Value) (x:Fl) (s p r:Int) (l:List (Int×Int)) (n:Int) (w:World) (h1:Rd 1 bV w v1 x.1) (h2:Rd 3 bG w v2 x.2.1) (h3:Rd 3 bG w v3 x.2.2.1) (h4:Rd 2 eD w v4 x.2.2.2) (h5:Rd 2 eD w u l) (hs:dG x):
 Calls prog 99 #[.agg #[v1,v2,v3,v4,.int .i64 s,.int .i64 p,.int .i64 r],u,.int .i64 n] w (Cy x (KX (x,s,p,r) l n) (KY (x,s,p,r) l n) r (FB (x,s,p,r) l n) w):=by
 obtain⟨A1,c1,rfl,hc1,hm1⟩:=h1.form;obtain⟨A2,c2,rfl,hc2,hm2⟩:=h2.form;obtain⟨A3,c3,rfl,hc3,hm3⟩:=h3.form;obtain⟨A4,c4,rfl,hc4,hm4⟩:=h4.form;obtain⟨AU,cU,rfl,hcU,hmU⟩:=h5.form;obtain⟨k,hk⟩:=SL (dW (x,s,p,r));obtain⟨ch,hch⟩:=SL (cheapest l n);obtain⟨cs,hcs⟩:=SL (chosen l n);obtain⟨t1,t2,hh⟩:∃t1 t2,hold l cs=(t1,t2):=⟨_,_,rfl⟩;obtain⟨s2,hs2⟩:=SL (IntKind.i64.wrap (s+t1));obtain⟨p2,hp2⟩:=SL (IntKind.i64.wrap (p+t2));obtain⟨k2,hk2⟩:=SL (dW (x,s2,p2,r));have hB:FB (x,s,p,r) l n=(k&&decide (0<=ch)&&k2):=by unfold FB Fz;simp only;rw[<-hk,<-hch,<-hcs,hh];simp only;rw[<-hs2,<-hp2,<-hk2]
 have hS:KX (x,s,p,r) l n=if(k&&decide (0<=ch)&&k2)=true then s2 else s:=by unfold KX;rw[hB];unfold Fz;simp only;rw[<-hcs,hh];subst hs2;rfl
 have hP:KY (x,s,p,r) l n=if(k&&decide (0<=ch)&&k2)=true then p2 else p:=by unfold KY;rw[hB];unfold Fz;simp only;rw[<-hcs,hh];subst hp2;rfl
 obtain⟨bb,hbb⟩:∃q,q=(k&&decide (0<=ch)&&k2):=⟨_,rfl⟩;obtain⟨ss,hss⟩:∃q,q=if(k&&decide (0<=ch)&&k2)=true then s2 else s:=⟨_,rfl⟩
 obtain⟨pp,hpp⟩:∃q,q=if(k&&decide (0<=ch)&&k2)=true then p2 else p:=⟨_,rfl⟩
 rw[hB,hS,hP,<-hss,<-hpp,<-hbb];have CK:∀(a1 a2 a3 a4:Value) (w:World),Rd 1 bV w a1 x.1->Rd 3 bG w a2 x.2.1->Rd 3 bG w a3 x.2.2.1->Rd 2 eD w a4 x.2.2.2->Calls prog 95 #[.agg #[a1,a2,a3,a4,.int .i64 s,.int .i64 p,.int .i64 r]] w (Ret (.bool k) w):=fun a1 a2 a3 a4 w k1 k2 k3 k4=>by rw[hk];exact lC a1 a2 a3 a4 (x,s,p,r) w k1 k2 k3 k4 hs.2.1
 have CK2:∀(a1 a2 a3 a4:Value) (w:World),Rd 1 bV w a1 x.1->Rd 3 bG w a2 x.2.1->Rd 3 bG w a3 x.2.2.1->Rd 2 eD w a4 x.2.2.2->Calls prog 95 #[.agg #[a1,a2,a3,a4,.int .i64 s2,.int .i64 p2,.int .i64 r]] w (Ret (.bool k2) w):=fun a1 a2 a3 a4 w k1 k2 k3 k4=>by rw[hk2];exact lC a1 a2 a3 a4 (x,s2,p2,r) w k1 k2 k3 k4 hs.2.1
 have CC:∀(w:World),Rd 2 eD w (.slice AU l.length cU) l->Calls prog 74 #[.slice AU l.length cU,.int .i64 n] w (Ret (.int .i64 ch) w):=fun w k1=>by rw[hch];exact xW _ l n w k1
 have CH:∀(w:World),Rd 2 eD w (.slice AU l.length cU) l->Calls prog 28 #[.slice AU l.length cU,.int .i64 n] w (jV 3 1 bT cs w):=fun w k1=>by rw[hcs];exact Jg _ l n w k1
 have CO:∀(v:Value) (w:World),Rd 2 eD w (.slice AU l.length cU) l->Rd 1 bV w v cs->Calls prog 27 #[.slice AU l.length cU,v] w (Ret (.tuple #[.int .i64 t1,.int .i64 t2]) w):=fun v w k1 k2=>by have:=ML _ v l cs w k1 k2;rw[hh]at this;exact this
 have hw1:IntKind.i64.wrap (s+t1)=s2:=hs2.symm;have hw2:IntKind.i64.wrap (p+t2)=p2:=hp2.symm;have HB:=SQ hbb;have HS:=SQ hss;have HP:=SQ hpp;clear hB hS hP hbb hss hpp hk hch hcs hh hs2 hp2 hk2;have B0:=((Below.refl w.heap.size w).al (.cells #[.slice A1 x.1.length c1,.slice A2 x.2.1.length c2,.slice A3 x.2.2.1.length c3,.slice A4 x.2.2.2.length c4,.int .i64 s,.int .i64 p,.int .i64 r] 32)).al (.cells #[.slice none 0 0,.slice none 0 0,.slice none 0 0,.slice none 0 0,.int .i64 0,.int .i64 0,.int .i64 0] 32);have bP:=(Blk.aY w 32 #[.slice A1 x.1.length c1,.slice A2 x.2.1.length c2,.slice A3 x.2.2.1.length c3,.slice A4 x.2.2.2.length c4,.int .i64 s,.int .i64 p,.int .i64 r]).alloc (.cells #[.slice none 0 0,.slice none 0 0,.slice none 0 0,.slice none 0 0,.int .i64 0,.int .i64 0,.int .i64 0] 32);have bR:=Blk.iX (w.alloc (.cells #[.slice A1 x.1.length c1,.slice A2 x.2.1.length c2,.slice A3 x.2.2.1.length c3,.slice A4 x.2.2.2.length c4,.int .i64 s,.int .i64 p,.int .i64 r] 32)) 32 #[.slice none 0 0,.slice none 0 0,.slice none 0 0,.slice none 0 0,.int .i64 0,.int .i64 0,.int .i64 0] (w.heap.size+1) (by simp);go_enter Tryz.func99,Tryz.ntmps99
 go_wp2_with fail
 obtain⟨W0,hW0⟩:=SL ((w.alloc (.cells #[.slice A1 x.1.length c1,.slice A2 x.2.1.length c2,.slice A3 x.2.2.1.length c3,.slice A4 x.2.2.2.length c4,.int .i64 s,.int .i64 p,.int .i64 r] 32)).alloc (.cells #[.slice none 0 0,.slice none 0 0,.slice none 0 0,.slice none 0 0,.int .i64 0,.int .i64 0,.int .i64 0] 32));obtain⟨gP,hgP⟩:=SL w.heap.size;obtain⟨gR,hgR'⟩:=SL (w.heap.size+1);rw[<-hW0]at B0 bP bR⊢;rw[<-hgR']at bR⊢;rw[<-hgP]at bP⊢;have hgR:w.heap.size<=gR:=(by omega);clear hW0 hgP hgR';obtain⟨y_0,y_1,y_2,y_3,y_4,y_5,y_6⟩:=bP.n7;refine(nU _ _ _ _ x s p r _ (h1.SN B0) (h2.SN B0) (h3.SN B0) (h4.SN B0) hs).mono ?_;rintro e w1 ⟨C1,c1',C2,c2',C3,c3',C4,c4',rfl,oO,hb1⟩;have oO:=oO.mono B0.size;have hgO:w.heap.size<=w1.heap.size:=(B0.tr hb1).size;have bO1:=Blk.aY w1 32 #[.slice C1 x.1.length c1',.slice C2 x.2.1.length c2',.slice C3 x.2.2.1.length c3',.slice C4 x.2.2.2.length c4',.int .i64 s,.int .i64 p,.int .i64 r];have oO1:=oO.alloc (.cells #[.slice C1 x.1.length c1',.slice C2 x.2.1.length c2',.slice C3 x.2.2.1.length c3',.slice C4 x.2.2.2.length c4',.int .i64 s,.int .i64 p,.int .i64 r] 32);have B1:=(B0.tr hb1).al (.cells #[.slice C1 x.1.length c1',.slice C2 x.2.1.length c2',.slice C3 x.2.2.1.length c3',.slice C4 x.2.2.2.length c4',.int .i64 s,.int .i64 p,.int .i64 r] 32);have bP1:=(bP.bl hb1).alloc (.cells #[.slice C1 x.1.length c1',.slice C2 x.2.1.length c2',.slice C3 x.2.2.1.length c3',.slice C4 x.2.2.2.length c4',.int .i64 s,.int .i64 p,.int .i64 r] 32);have bR1:=(bR.bl hb1).alloc (.cells #[.slice C1 x.1.length c1',.slice C2 x.2.1.length c2',.slice C3 x.2.2.1.length c3',.slice C4 x.2.2.2.length c4',.int .i64 s,.int .i64 p,.int .i64 r] 32);have hRl:=(bR.bl hb1).lt;have hPl:=(bP.bl hb1).lt;have hPn:gP≠w1.heap.size:=(by omega);clear oO y_0 y_1 y_2 y_3 y_4 y_5 y_6 hb1 B0 bP bR;go_upto_region 2 with(fail)
 obtain⟨W1,hW1⟩:=SL (w1.alloc (.cells #[.slice C1 x.1.length c1',.slice C2 x.2.1.length c2',.slice C3 x.2.2.1.length c3',.slice C4 x.2.2.2.length c4',.int .i64 s,.int .i64 p,.int .i64 r] 32));obtain⟨gO,hgO'⟩:=SL w1.heap.size;rw[<-hW1]at bO1 oO1 B1 bP1 bR1⊢;rw[<-hgO']at bO1 hPn hgO⊢;have hRO:gR≠gO:=(by omega);have hOR:=hRO.symm;clear hW1 hgO' hRl hPl;obtain⟨y_0,y_1,y_2,y_3,y_4,y_5,y_6⟩:=bP1.n7;go_wp2_with fail
 refine(CK _ _ _ _ _ (h1.SN B1) (h2.SN B1) (h3.SN B1) (h4.SN B1)).mono ?_;rintro e w3 ⟨rfl,hb3⟩;have B3:=B1.tr hb3;have bR3:=bR1.bl hb3;have bO3:=bO1.bl hb3;have bP3:=bP1.bl hb3;have oO3:=oO1.below hb3;clear y_0 y_1 y_2 y_3 y_4 y_5 y_6 B1 bR1 bO1 bP1 oO1 hb3;cases k
 . obtain rfl : bb = false := by rw [HB.out]; rfl
   obtain rfl:s=ss:=by rw[HS.out];rfl
   obtain rfl:p=pp:=by rw[HP.out];rfl
   obtain⟨y_0,y_1,y_2,y_3,y_4,y_5,y_6⟩:=bO3.n7;go_wp2_with (refine aA rfl 32 _ _ rfl gR #[.slice C1 x.1.length c1',.slice C2 x.2.1.length c2',.slice C3 x.2.2.1.length c3',.slice C4 x.2.2.2.length c4',.int .i64 s,.int .i64 p,.int .i64 r] rfl rfl _ _ bR3 (by kernel_rfl) rfl (by simp[oneCell']) ?_;intro wE bE hgE)
   have oE:aF w.heap.size wE _ _ _ _ _:=aF.dZ oO3 bR3 (by decide) (by decide) (by decide) hgE;have BE:=B3.grown hgE B3.size (fun k hk=>by injection hk with hk;subst hk;exact hgR);obtain⟨q_0,q_1,q_2,q_3,q_4,q_5,q_6⟩:=bE.n7;refine bodyPost_ret (v:= .tuple #[.agg #[.slice C1 x.1.length c1',.slice C2 x.2.1.length c2',.slice C3 x.2.2.1.length c3',.slice C4 x.2.2.2.length c4',.int .i64 s,.int .i64 p,.int .i64 r],.bool false]) (by simp[results,results99,go_sem,q_0,q_1,q_2,q_3,q_4,q_5,q_6]) rfl ⟨C1,c1',C2,c2',C3,c3',C4,c4',rfl,oE,BE⟩
 . go_wp2_with fail
   refine(CC _ (h5.SN B3)).mono ?_;rintro e w4 ⟨rfl,hb4⟩;have B4:=B3.tr hb4;have bR4:=bR3.bl hb4;have bO4:=bO3.bl hb4;have bP4:=bP3.bl hb4;have oO4:=oO3.below hb4;clear B3 bR3 bO3 bP3 oO3 hb4;by_cases hc:ch<0
   . have hc1:decide (ch<0)=true:=decide_eq_true hc;have hc2:decide (0<=ch)=false:=decide_eq_false (by omega);obtain rfl:bb=false:=by rw[HB.out,hc2];rfl
     obtain rfl:s=ss:=by rw[HS.out,hc2];rfl
     obtain rfl:p=pp:=by rw[HP.out,hc2];rfl
     obtain⟨y_0,y_1,y_2,y_3,y_4,y_5,y_6⟩:=bO4.n7;go_wp2_with (refine aA rfl 32 _ _ rfl gR #[.slice C1 x.1.length c1',.slice C2 x.2.1.length c2',.slice C3 x.2.2.1.length c3',.slice C4 x.2.2.2.length c4',.int .i64 s,.int .i64 p,.int .i64 r] rfl rfl _ _ bR4 (by kernel_rfl) rfl (by simp[oneCell']) ?_;intro wE bE hgE)
     have oE:aF w.heap.size wE _ _ _ _ _:=aF.dZ oO4 bR4 (by decide) (by decide) (by decide) hgE;have BE:=B4.grown hgE B4.size (fun k hk=>by injection hk with hk;subst hk;exact hgR);obtain⟨q_0,q_1,q_2,q_3,q_4,q_5,q_6⟩:=bE.n7;refine bodyPost_ret (v:= .tuple #[.agg #[.slice C1 x.1.length c1',.slice C2 x.2.1.length c2',.slice C3 x.2.2.1.length c3',.slice C4 x.2.2.2.length c4',.int .i64 s,.int .i64 p,.int .i64 r],.bool false]) (by simp[results,results99,go_sem,q_0,q_1,q_2,q_3,q_4,q_5,q_6]) rfl ⟨C1,c1',C2,c2',C3,c3',C4,c4',rfl,oE,BE⟩
   . have hc1:decide (ch<0)=false:=decide_eq_false hc;have hc2:decide (0<=ch)=true:=decide_eq_true (by omega);go_wp2_with fail
     refine(CH _ (h5.SN B4)).mono ?_;rintro e w5 ⟨AI,cI,rfl,oI,hb5⟩;have B5:=B4.tr hb5;have bR5:=bR4.bl hb5;have bO5:=bO4.bl hb5;have bP5:=bP4.bl hb5;have oO5:=oO4.below hb5;clear B4 bR4 bO4 bP4 oO4 hb5;go_wp2_with fail
     refine(CO _ _ (h5.SN B5) (oI.rd aN (by decide))).mono ?_;rintro e w6 ⟨rfl,hb6⟩;have B6:=B5.tr hb6;have bR6:=bR5.bl hb6;have bO6:=bO5.bl hb6;have bP6:=bP5.bl hb6;have oO6:=oO5.below hb6;clear B5 bR5 bO5 bP5 oO5 hb6 oI;obtain⟨y_0,y_1,y_2,y_3,y_4,y_5,y_6⟩:=bO6.n7;have fO:=fun j=>bO6.frozen j
     have hgg:=eF (eF (World.grownBy.refl w6 (some gO)) 4 (.int .i64 s2)) 5 (.int .i64 p2);have bO7:=(bO6.st 4 (.int .i64 s2) #[.slice C1 x.1.length c1',.slice C2 x.2.1.length c2',.slice C3 x.2.2.1.length c3',.slice C4 x.2.2.2.length c4',.int .i64 s2,.int .i64 p,.int .i64 r] rfl).st 5 (.int .i64 p2) #[.slice C1 x.1.length c1',.slice C2 x.2.1.length c2',.slice C3 x.2.2.1.length c3',.slice C4 x.2.2.2.length c4',.int .i64 s2,.int .i64 p2,.int .i64 r] rfl;have bR7:=bR6.grown hgg (by simp;omega);have bP7:=bP6.grown hgg (by simp;omega);have oO7:=aF.dZ oO6 bO6 (by decide) (by decide) (by decide) hgg;have B7:=B6.grown hgg B6.size (fun k hk=>by injection hk with hk;subst hk;exact hgO);go_upto_region 7 with(fail)
     obtain⟨W7,hW7⟩:=SL ((w6.setCell ⟨gO,4,none⟩ (.int .i64 s2)).setCell ⟨gO,5,none⟩ (.int .i64 p2));rw[<-hW7]at bO7 bR7 bP7 oO7 B7⊢;clear hW7 hgg y_0 y_1 y_2 y_3 y_4 y_5 y_6 fO B6 bR6 bO6 bP6 oO6;obtain⟨y_0,y_1,y_2,y_3,y_4,y_5,y_6⟩:=bO7.n7;go_wp2_with fail
     refine(CK2 _ _ _ _ _ oO7.ra oO7.rb oO7.rc oO7.rd).mono ?_;rintro e w8 ⟨rfl,hb8⟩;have B8:=B7.tr hb8;have bR8:=bR7.bl hb8;have bO8:=bO7.bl hb8;have bP8:=bP7.bl hb8;have oO8:=oO7.below hb8;clear y_0 y_1 y_2 y_3 y_4 y_5 y_6 B7 bR7 bO7 bP7 oO7 hb8;cases k2
     . obtain rfl : bb = false := by rw [HB.out, hc2]; rfl
       obtain rfl:s=ss:=by rw[HS.out,hc2];rfl
       obtain rfl:p=pp:=by rw[HP.out,hc2];rfl
       obtain⟨y_0,y_1,y_2,y_3,y_4,y_5,y_6⟩:=bP8.n7;go_wp2_with fail
       refine(nU _ _ _ _ x s p r _ (h1.SN B8) (h2.SN B8) (h3.SN B8) (h4.SN B8) hs).mono ?_;rintro e w9 ⟨D1,d1,D2,d2,D3,d3,D4,d4,rfl,oD,hb9⟩;have oD:=oD.mono B8.size;have B9:=B8.tr hb9;have bR9:=bR8.bl hb9;go_wp2_with (refine aA rfl 32 _ _ rfl gR #[.slice D1 x.1.length d1,.slice D2 x.2.1.length d2,.slice D3 x.2.2.1.length d3,.slice D4 x.2.2.2.length d4,.int .i64 s,.int .i64 p,.int .i64 r] rfl rfl _ _ bR9 (by kernel_rfl) rfl (by simp[oneCell']) ?_;intro wE bE hgE)
       have oE:aF w.heap.size wE _ _ _ _ _:=aF.dZ oD bR9 (by decide) (by decide) (by decide) hgE;have BE:=B9.grown hgE B9.size (fun k hk=>by injection hk with hk;subst hk;exact hgR);obtain⟨q_0,q_1,q_2,q_3,q_4,q_5,q_6⟩:=bE.n7;refine bodyPost_ret (v:= .tuple #[.agg #[.slice D1 x.1.length d1,.slice D2 x.2.1.length d2,.slice D3 x.2.2.1.length d3,.slice D4 x.2.2.2.length d4,.int .i64 s,.int .i64 p,.int .i64 r],.bool false]) (by simp[results,results99,go_sem,q_0,q_1,q_2,q_3,q_4,q_5,q_6]) rfl ⟨D1,d1,D2,d2,D3,d3,D4,d4,rfl,oE,BE⟩
     . obtain rfl : bb = true := by rw [HB.out, hc2]; rfl
       obtain rfl:s2=ss:=by rw[HS.out,hc2];rfl
       obtain rfl:p2=pp:=by rw[HP.out,hc2];rfl
       obtain⟨y_0,y_1,y_2,y_3,y_4,y_5,y_6⟩:=bO8.n7;go_wp2_with (refine aA rfl 32 _ _ rfl gR #[.slice C1 x.1.length c1',.slice C2 x.2.1.length c2',.slice C3 x.2.2.1.length c3',.slice C4 x.2.2.2.length c4',.int .i64 s2,.int .i64 p2,.int .i64 r] rfl rfl _ _ bR8 (by kernel_rfl) rfl (by simp[oneCell']) ?_;intro wE bE hgE)
       have oE:aF w.heap.size wE _ _ _ _ _:=aF.dZ oO8 bR8 (by decide) (by decide) (by decide) hgE;have BE:=B8.grown hgE B8.size (fun k hk=>by injection hk with hk;subst hk;exact hgR);obtain⟨q_0,q_1,q_2,q_3,q_4,q_5,q_6⟩:=bE.n7;refine bodyPost_ret (v:= .tuple #[.agg #[.slice C1 x.1.length c1',.slice C2 x.2.1.length c2',.slice C3 x.2.2.1.length c3',.slice C4 x.2.2.2.length c4',.int .i64 s2,.int .i64 p2,.int .i64 r],.bool true]) (by simp[results,results99,go_sem,q_0,q_1,q_2,q_3,q_4,q_5,q_6]) rfl ⟨C1,c1',C2,c2',C3,c3',C4,c4',rfl,oE,BE⟩
def bI (b:Bool):Int:=if b=true then 1 else 0
abbrev Ac:=Int×Int×Int
structure R4 (w:World) (u1 u2 u3 u4:Value) (x:Fl):Prop where
  a:Rd 1 bV w u1 x.1
  b:Rd 3 bG w u2 x.2.1
  c:Rd 3 bG w u3 x.2.2.1
  d:Rd 2 eD w u4 x.2.2.2
section
variable {W w w' : World} {gP gA gR : Nat} {cP cA cR : Array Value} {u1 u2 u3 u4 : Value} {x : Fl}
theorem R4.bl (h:R4 w u1 u2 u3 u4 x) (hb:Below w.heap.size w w'):R4 w' u1 u2 u3 u4 x:=⟨h.a.SN hb,h.b.SN hb,h.c.SN hb,h.d.SN hb⟩
theorem aF.r4 {B:Nat} (h:aF B w u1 u2 u3 u4 x):R4 w u1 u2 u3 u4 x:=⟨h.ra,h.rb,h.rc,h.rd⟩
theorem aF.alg {B:Nat} {t:TypeId} {cs:Array Value} (h:aF B w u1 u2 u3 u4 x) (h1:3≠t) (h2:60≠t) (h3:70≠t) (hg:(w.alloc (.cells cs t)).grownBy w' (some w.heap.size)):aF B w' u1 u2 u3 u4 x:=
 (h.alloc _).dZ (Blk.aY w t cs) h1 h2 h3 hg
structure DA (W w:World) (gP gA gR:Nat) (cP cA cR:Array Value):Prop where
  B:Below W.heap.size W w
  p:Blk w gP 32 cP
  a:Blk w gA 73 cA
  r:Blk w gR 32 cR
theorem DA.bl (h:DA W w gP gA gR cP cA cR) (hb:Below w.heap.size w w'):DA W w' gP gA gR cP cA cR:=⟨h.B.tr hb,h.p.bl hb,h.a.bl hb,h.r.bl hb⟩
theorem DA.al (h:DA W w gP gA gR cP cA cR) (o:Obj):DA W (w.alloc o) gP gA gR cP cA cR:=⟨h.B.al o,h.p.alloc o,h.a.alloc o,h.r.alloc o⟩
theorem DA.gr {g:Nat} (h:DA W w gP gA gR cP cA cR) (hg:w.grownBy w' (some g)) (hW:W.heap.size<=g) (h1:gP≠g) (h2:gA≠g) (h3:gR≠g):DA W w' gP gA gR cP cA cR:=
 ⟨h.B.grown hg h.B.size (fun k hk=>by injection hk with hk;subst hk;exact hW),h.p.grown hg (by simp;exact h1),h.a.grown hg (by simp;exact h2),h.r.grown hg (by simp;exact h3)⟩
theorem DA.alg {o:Obj} (h:DA W w gP gA gR cP cA cR) (hg:(w.alloc o).grownBy w' (some w.heap.size)):DA W w' gP gA gR cP cA cR:=
 (h.al o).gr hg h.B.size (Nat.ne_of_lt h.p.lt) (Nat.ne_of_lt h.a.lt) (Nat.ne_of_lt h.r.lt)
end
theorem R4.one {w:World} {u1 u2 u3 u4:Value} {x:Fl} (h:R4 w u1 u2 u3 u4 x):u1.oneCell'=true/\u2.oneCell'=true/\u3.oneCell'=true/\u4.oneCell'=true:=by
 obtain⟨A1,c1,rfl,_⟩:=h.a.form;obtain⟨A2,c2,rfl,_⟩:=h.b.form;obtain⟨A3,c3,rfl,_⟩:=h.c.form;obtain⟨A4,c4,rfl,_⟩:=h.d.form;exact⟨rfl,rfl,rfl,rfl⟩
theorem aF.one {B:Nat} {w:World} {u1 u2 u3 u4:Value} {x:Fl} (h:aF B w u1 u2 u3 u4 x):u1.oneCell'=true/\u2.oneCell'=true/\u3.oneCell'=true/\u4.oneCell'=true:=h.r4.one
theorem CG {u1 u2 u3 u4:Value} {s p r:Int} (h:u1.oneCell'=true/\u2.oneCell'=true/\u3.oneCell'=true/\u4.oneCell'=true):(#[u1,u2,u3,u4,.int .i64 s,.int .i64 p,.int .i64 r]:Array Value).all (·.oneCell')=true:=by
 obtain⟨a,b,c,d⟩:=h;simp only[List.all_toArray,List.all_cons,a,b,c,d,List.all_nil,Bool.and_true,Bool.true_and];rfl
section
variable {W w w' : World} {gP gR : Nat} {cP cR : Array Value} {u1 u2 u3 u4 v : Value} {x : Fl} {B B' : Nat} {ns : List Int}
structure DB (W w:World) (gP gR:Nat) (cP cR:Array Value):Prop where
  B:Below W.heap.size W w
  p:Blk w gP 32 cP
  r:Blk w gR 32 cR
theorem DB.bl (h:DB W w gP gR cP cR) (hb:Below w.heap.size w w'):DB W w' gP gR cP cR:=⟨h.B.tr hb,h.p.bl hb,h.r.bl hb⟩
theorem DB.al (h:DB W w gP gR cP cR) (o:Obj):DB W (w.alloc o) gP gR cP cR:=⟨h.B.al o,h.p.alloc o,h.r.alloc o⟩
theorem DB.gr {g:Nat} (h:DB W w gP gR cP cR) (hg:w.grownBy w' (some g)) (hW:W.heap.size<=g) (h1:gP≠g) (h3:gR≠g):DB W w' gP gR cP cR:=
 ⟨h.B.grown hg h.B.size (fun k hk=>by injection hk with hk;subst hk;exact hW),h.p.grown hg (by simp;exact h1),h.r.grown hg (by simp;exact h3)⟩
theorem DB.alg {o:Obj} (h:DB W w gP gR cP cR) (hg:(w.alloc o).grownBy w' (some w.heap.size)):DB W w' gP gR cP cR:=
 (h.al o).gr hg h.B.size (Nat.ne_of_lt h.p.lt) (Nat.ne_of_lt h.r.lt)
theorem DB.app {o:Obj} (h:DB W w gP gR cP cR) (oS:aC 3 1 bT B' w v ns) (hg:(w.alloc o).grownBy w' v.ownBlock) (hB:Below W.heap.size W w'):DB W w' gP gR cP cR:=
 ⟨hB,(h.p.alloc o).grown hg (fun e=>oS.apart h.p (by decide) e.symm),(h.r.alloc o).grown hg (fun e=>oS.apart h.r (by decide) e.symm)⟩
end
def fM (rows:List Int):Fl:=if aU rows=0 then([],[],[],[])else(rows,dD rows,dD rows,[])
theorem nP {rows:List Int} (h:Small rows.length):dG (fM rows):=by
 have:=nO rows;unfold fM;split
 . exact⟨by unfold Small;simp,by unfold Small;simp,by unfold Small;simp,by unfold Small;simp⟩
 . exact⟨h,by unfold Small;simp only;omega,by unfold Small;simp only;omega,by unfold Small;simp⟩
theorem bZ {P:Program} {ops:Array Oper} {rest:List Oper} {o:Oper} {a:Act} {w:World} {Q:Exit->Act->World->Prop} (hgd:o.guard=none) (ty:TypeId) (x y:Operand) (ho:o.op= .store ty x y)
    (g:Nat) (cells:Array Value) (hx:a.eval x= .pointer (some ⟨g,0,none⟩)) (hy:a.eval y= .agg cells)
    (t:TypeId) (old:Array Value) (hg:Blk w g t old) (hi:(P.info? ty).map (·.size)=some cells.size) (hold:old.size=cells.size) (h1:cells.all (·.oneCell')=true)
    (h:∀w',Blk w' g t cells->w.grownBy w' (some g)->wpList P ops Q rest (a.put o.dst undef) w'):wpList P ops Q (o::rest) a w:=
 wpList_store_row hgd ty x y ho g cells hx hy t old hg hi hold h1 (h _ (setRow_heap w g old cells t (0,0) hg) (Ik cells))
theorem wK (B:Nat) (w:World):aF B w (.slice none 0 0) (.slice none 0 0) (.slice none 0 0) (.slice none 0 0) ([],[],[],[]):=
 ⟨aC.FD,aC.FD,aC.FD,aC.FD,fun g q=>by simp[Value.ownBlock]at q⟩
theorem O7 (v:Value) (rows:List Int) (w:World) (h:Rd 1 bV w v rows) (hl:Small rows.length):Calls prog 37 #[.agg #[v]] w (mE (fM rows) (lZ rows) w):=by
 obtain⟨A,c,rfl,hc,hm⟩:=h.form;have B0:=((Below.refl w.heap.size w).al (.cells #[.slice A rows.length c] 26)).al (.cells #[.slice none 0 0,.slice none 0 0,.slice none 0 0,.slice none 0 0] 30);have bX:=(Blk.aY w 26 #[.slice A rows.length c]).alloc (.cells #[.slice none 0 0,.slice none 0 0,.slice none 0 0,.slice none 0 0] 30);have bR:=Blk.iX (w.alloc (.cells #[.slice A rows.length c] 26)) 30 #[.slice none 0 0,.slice none 0 0,.slice none 0 0,.slice none 0 0] (w.heap.size+1) (by simp);obtain⟨F,hF⟩:=SL (dD rows);obtain⟨b,hb⟩:=SL (lZ rows);have hFl:F.length<=64:=by rw[hF];exact nO rows
 have hFs:Small F.length:=by unfold Small;omega
 have CF:∀(u:Value) (w:World),Rd 1 bV w u rows->Calls prog 86 #[.agg #[u]] w (NN F b w):=fun u w k1=>by rw[hF,hb];exact Jc u rows w k1
 have hN0 : b = false -> fM rows = ([], [], [], []) := fun q => by
  rw[hb]at q;unfold lZ at q;unfold fM;rw[if_pos (by simpa using q)]
 have hN1 : b = true -> fM rows = (rows, F, F, []) := fun q => by
  rw[hb]at q;unfold lZ at q;unfold fM;rw[if_neg (by simpa using q),<-hF]
 obtain⟨y,hy⟩:=SL (fM rows);rw[<-hy]at hN0 hN1⊢;rw[<-hb];have HN0:=SQ hN0;have HN1:=SQ hN1;clear hF hb hN0 hN1 hy;go_enter Tryz.func37,Tryz.ntmps37
 go_wp2_with fail
 refine(CF _ _ (h.SN B0)).mono ?_;rintro e w1 ⟨F1,f1,rfl,oF,hb1⟩;have B1:=B0.tr hb1;have bX1:=bX.bl hb1;have bR1:=bR.bl hb1;have oF:=oF.mono B0.size;obtain⟨gX,hgX⟩:=SL w.heap.size;obtain⟨gR,hgR'⟩:=SL (w.heap.size+1);have hgR:w.heap.size<=gR:=(by omega);rw[<-hgR']at bR1⊢;rw[<-hgX]at bX1⊢;clear hgX hgR' hb1 B0 bX bR;cases b
 . obtain rfl:([],[],[],[])=y:=(HN0.out rfl).symm;go_wp2_with (refine bZ rfl 30 _ _ rfl gR #[.slice none 0 0,.slice none 0 0,.slice none 0 0,.slice none 0 0] rfl rfl _ _ bR1 (by kernel_rfl) rfl (by simp[oneCell']) ?_;intro wE bE hgE)
   have BE:=B1.grown hgE B1.size (fun k hk=>by injection hk with hk;subst hk;exact hgR);obtain⟨q_0,q_1,q_2,q_3⟩:=bE.n4;refine bodyPost_ret (v:= .tuple #[.agg #[.slice none 0 0,.slice none 0 0,.slice none 0 0,.slice none 0 0],.bool false]) (by simp[results,Tryz.results37,go_sem,q_0,q_1,q_2,q_3]) rfl ⟨none,0,none,0,none,0,none,0,rfl,wK _ _,BE⟩
 . obtain rfl:(rows,F,F,[])=y:=(HN1.out rfl).symm;have z0:=bX1.c1;go_wp2_with fail
   refine(xZ _ rows _ (h.SN B1) hl).mono ?_;rintro e w2 ⟨D1,d1,rfl,o1,hb2⟩;have o1:=o1.mono B1.size;have oF2:=oF.below hb2;have B2:=B1.tr hb2;have bR2:=bR1.bl hb2;go_wp2_with fail
   refine(dE _ F _ (oF2.rd aB (by decide)) hFs).mono ?_;rintro e w3 ⟨D3,d3,rfl,o3,hb3⟩;have ap:∀g,(Value.slice F1 F.length f1).ownBlock=some g->(Value.slice D3 F.length d3).ownBlock≠some g:=fun g hg=>oF2.early o3 (Nat.le_refl _) hg
   have o3:=o3.mono B2.size;have B3:=(B2.tr hb3).al (.cells #[] 70);have bR3:=(bR2.bl hb3).alloc (.cells #[] 70);have o4:aC 70 2 dH w.heap.size (w3.alloc (.cells #[] 70)) (.slice (some ⟨w3.heap.size,0,none⟩) 0 0) ([]:List Cl):=(eY w3).mono (B2.tr hb3).size
   have oA:aF w.heap.size (w3.alloc (.cells #[] 70)) (.slice D1 rows.length d1) (.slice F1 F.length f1) (.slice D3 F.length d3) (.slice (some ⟨w3.heap.size,0,none⟩) 0 0) (rows,F,F,[]):=
    ⟨(o1.below hb3).alloc _,(oF2.below hb3).alloc _,o3.alloc _,o4,ap⟩
   clear z0 hb2 hb3 o1 oF oF2 o3 o4 B1 B2 bX1 bR1 bR2;go_wp2_with (refine bZ rfl 30 _ _ rfl gR #[.slice D1 rows.length d1,.slice F1 F.length f1,.slice D3 F.length d3,.slice (some ⟨w3.heap.size,0,none⟩) 0 0] rfl rfl _ _ bR3 (by kernel_rfl) rfl (by simp[oneCell']) ?_;intro wE bE hgE)
   have oE:=aF.dZ oA bR3 (by decide) (by decide) (by decide) hgE;have BE:=B3.grown hgE B3.size (fun k hk=>by injection hk with hk;subst hk;exact hgR);obtain⟨q_0,q_1,q_2,q_3⟩:=bE.n4;refine bodyPost_ret (v:= .tuple #[.agg #[.slice D1 rows.length d1,.slice F1 F.length f1,.slice D3 F.length d3,.slice (some ⟨w3.heap.size,0,none⟩) 0 0],.bool true]) (by simp[results,Tryz.results37,go_sem,q_0,q_1,q_2,q_3]) rfl ⟨D1,d1,F1,f1,D3,d3,some ⟨w3.heap.size,0,none⟩,0,rfl,oE,BE⟩
theorem Ic {x:Fl} (c:Cl) (h:iL x=true):iL (pI x c).1=true:=by
 unfold pI;split
 . rename_i q;obtain⟨h1,h2,h3⟩:=lU.1 h;refine lU.2 ⟨h1,?_,(by show eX x.2.1 (x.2.2.2++[c])=some (aR x.2.2.1 c);rw[BC,h3,Option.bind_some,if_neg q.2.2])⟩;show(x.2.2.2++[c]).length<=60;rw[List.length_append,List.length_singleton];have:=q.2.1;omega
 . exact h
theorem uO {y:Wk}:dW y=true↔iL y.1=true/\(inB y.2.1 0 10000&&inB y.2.2.1 0 10000&&inB y.2.2.2 0 10000)=true:=by
 unfold dW iL;rw[Bool.and_eq_true]
theorem AL {y:Wk} (c:Cl) (h:dW y=true):dW (oZ y c,y.2)=true:=by
 obtain⟨h1,h2⟩:=uO.1 h;refine uO.2 ⟨?_,h2⟩;show iL (oZ y c)=true;unfold oZ;split
 . exact Ic c h1
 . exact h1
theorem II {y:Wk} (l:List (Int×Int)) (n:Int) (h:dW y=true):dW (y.1,KX y l n,KY y l n,y.2.2.2)=true:=by
 unfold KX KY;by_cases q:FB y l n=true
 . rw[if_pos q,if_pos q];unfold FB at q;rw[Bool.and_eq_true]at q;exact q.2
 . rw[if_neg q,if_neg q];exact h
theorem CB {y:Wk} (i:Int) (h:dW y=true):dW (uM y i)=true:=by
 unfold uM;split
 . rename_i q;unfold IG at q;rw[Bool.and_eq_true]at q;exact q.2
 . exact h
theorem KZ {rows:List Int} (hr:dK rows) (h:Ag rows):(eT rows).length<=58:=by
 unfold eT;rw[if_pos (aO.2 hr),yE]
 have hb : ∀ j, 58 <= j -> (setOf rows).testBit j = false := fun j hj => by
  rw[wM hr];by_cases hk:j/8<rows.length
  . have h7 : j / 8 = 7 := by have := hr.1; omega
    have hv:=h.2 _ hk (by omega);have hp:=hr.2 _ (List.getElem_mem hk);rw[List.getD_eq_getElem?_getD,List.getElem?_eq_getElem hk];obtain⟨n,hn⟩:∃n:Nat,n=(rows[j/8]).toNat:=⟨_,rfl⟩;show(rows[j/8]).toNat.testBit (j%8)=false;rw[<-hn];have hn3:n<2^2:=(by omega);refine Nat.testBit_lt_two_pow (Nat.lt_of_lt_of_le hn3 (Nat.pow_le_pow_right (by omega) (by omega)))
  . rw [List.getD_eq_getElem?_getD, List.getElem?_eq_none (by omega)];simp
 have hle : ∀ f : Nat -> Bool, ∀ k, cntF f k <= k := fun f k => by
  induction k with
  |zero=>exact Nat.le_refl _
  |succ k ih=>rw[iN];have:=Bool.toNat_le (f k);omega
 show cntF _ (58+1+1+1+1+1+1)<=58;simp only[iN _ (58+1+1+1+1+1),iN _ (58+1+1+1+1),iN _ (58+1+1+1),iN _ (58+1+1),iN _ (58+1),iN _ 58,hb 58 (by omega),hb (58+1) (by omega),hb (58+1+1) (by omega),hb (58+1+1+1) (by omega),hb (58+1+1+1+1) (by omega),hb (58+1+1+1+1+1) (by omega),Bool.toNat_false,Nat.add_zero];exact hle _ _
theorem P6 {rows:List Int} (h:dK rows):aU rows=fF (setOf rows):=by unfold aU;rw[if_pos (aO.2 h)]
theorem rW {rows:List Int} (h:R12 rows):lZ rows=true/\fM rows=(rows,dD rows,dD rows,[])/\dN rows (dD rows)=true/\(dD rows).length<=29:=by
 obtain⟨h1,h2,h3,h4⟩:=h;have hne:aU rows≠0:=by omega
 have ht:dN rows (dD rows)=true:=by
  unfold dD;rw[if_neg hne];exact BP h1 (DJ (dM h1) (by rw[<-P6 h1];exact hne))
 refine⟨by unfold lZ;exact decide_eq_true hne,by unfold fM;rw[if_neg hne],ht,?_⟩;have hc:=KZ h1 h4;unfold dN at ht;rw[Bool.and_eq_true,decide_eq_true_iff]at ht;omega
theorem Lu {rows:List Int} (h:R12 rows):iL (fM rows)=true:=by
 obtain⟨h1,h2,h3,h4⟩:=rW h;rw[h2];exact lU.2 ⟨h3,by simp,by simp[eX]⟩
theorem Ms {rows:List Int} {stock:Int} (h:R12 rows) (hs:30<=stock/\stock<=49):dW (fM rows,stock-((fM rows).2.2.1.length:Int),0,0)=true:=by
 have hf:=Lu h;obtain⟨h1,h2,h3,h4⟩:=rW h;refine uO.2 ⟨hf,?_⟩;rw[h2];unfold inB;simp;omega
end Go.Proofs.YtljfoohaapckeaaGreatDoor
