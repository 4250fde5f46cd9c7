/- Small words for the walks of laws: objects made one after the other share no block. Plain lemmas. The laws FnExactFloorOk and FnExactWorkshopOk: the walks. No conditions. Workshops copied, on both sides. Conditions: sizes. Workshops copied, a place turned, a workshop audited: the program's side. Conditions: sizes. -/
import Derived.Test.YtljfoohaapckeaaGreatDoorCG6
import Derived.Test.YtljfoohaapckeaaGreatDoorCK3
import Derived.Deep.DeepCutAuto
import Derived.Test.YtljfoohaapckeaaGreatDoorCK7
import Derived.Test.YtljfoohaapckeaaGreatDoorCG8
import Derived.Test.YtljfoohaapckeaaGreatDoorCG19
import Derived.Test.YtljfoohaapckeaaGreatDoorCG21
import Derived.Test.YtljfoohaapckeaaGreatDoorCFlDo2
namespace Go.Proofs.YtljfoohaapckeaaGreatDoor
open Go.ChangeShapes Go.WideShapes Go.ChangeAt Go.RowKit
set_option linter.unusedVariables false
set_option maxHeartbeats 4000000
set_option maxRecDepth 100000
theorem EP {x z:Fl} {c:Cl} {b:Bool} (hs:dG x) (h:pI x c=(z,b)):dG z:=by
 unfold pI at h;split at h
 . rename_i q;injection h with h _;rw[<-h];have h1:=yI q.1;have h2:=Dw x.2.2.1 c;refine⟨hs.1,hs.2.1,?_,?_⟩
   . unfold Small;simp only;omega
   . unfold Small;simp only[List.length_append,List.length_cons,List.length_nil];omega
 . injection h with h _;rw[<-h];exact hs
def Qh (z:Fl) (s p r:Int) (w:World) (e:Ending) (w':World):Prop:=∃A1 c1 A2 c2 A3 c3 A4 c4,e= .returned (.agg #[.slice A1 z.1.length c1,.slice A2 z.2.1.length c2,.slice A3 z.2.2.1.length c3,.slice A4 z.2.2.2.length c4,.int .i64 s,.int .i64 p,.int .i64 r])/\
  aF w.heap.size w' (.slice A1 z.1.length c1) (.slice A2 z.2.1.length c2) (.slice A3 z.2.2.1.length c3) (.slice A4 z.2.2.2.length c4) z/\Below w.heap.size w w'
def Cy (z:Fl) (s p r:Int) (b:Bool) (w:World) (e:Ending) (w':World):Prop:=∃A1 c1 A2 c2 A3 c3 A4 c4,e= .returned (.tuple #[.agg #[.slice A1 z.1.length c1,.slice A2 z.2.1.length c2,.slice A3 z.2.2.1.length c3,.slice A4 z.2.2.2.length c4,.int .i64 s,.int .i64 p,.int .i64 r],.bool b])/\
  aF w.heap.size w' (.slice A1 z.1.length c1) (.slice A2 z.2.1.length c2) (.slice A3 z.2.2.1.length c3) (.slice A4 z.2.2.2.length c4) z/\Below w.heap.size w w'
end Go.Proofs.YtljfoohaapckeaaGreatDoor
namespace Go.Proofs.YtljfoohaapckeaaGreatDoor
open Go.ChangeShapes Go.WideShapes Go.ChangeAt Go.RowKit
set_option linter.unusedVariables false
set_option linter.unusedSimpArgs false
set_option maxHeartbeats 4000000
set_option maxRecDepth 100000
def dW (y:Wk):Bool:=dC y.1.1 y.1.2.1 y.1.2.2.1 y.1.2.2.2&&(inB y.2.1 0 10000&&inB y.2.2.1 0 10000&&inB y.2.2.2 0 10000)
theorem RY (s p r:Int):allIn 0 10000 [s,p,r]=(inB s 0 10000&&inB p 0 10000&&inB r 0 10000):=by
 simp[allIn,inB,Bool.and_assoc]
theorem Na (W:World) (a b c:Int):aC 3 1 bT W.heap.size (W.alloc (.cells #[.int .i64 a,.int .i64 b,.int .i64 c] 3)) (.slice (some ⟨W.heap.size,0,none⟩) 3 3) [a,b,c]:=
 World.ownsRow_lit (e:=3) (size:=1) W #[.int .i64 a,.int .i64 b,.int .i64 c] 3 (Nat.le_refl _) (by simp[maxLen]) (by simp)
theorem BN (v1 v2 v3 v4:Value) (y:Wk) (w:World) (h1:Rd 1 bV w v1 y.1.1) (h2:Rd 3 bG w v2 y.1.2.1) (h3:Rd 3 bG w v3 y.1.2.2.1) (h4:Rd 2 eD w v4 y.1.2.2.2) (hl:Small y.1.2.1.length):
 Calls Tryz.prog 16 #[.agg #[v1,v2,v3,v4,.int .i64 y.2.1,.int .i64 y.2.2.1,.int .i64 y.2.2.2]] w (Ret (.bool (dW y)) w):=by
 obtain⟨⟨rows,f,n,fl⟩,s,p,r⟩:=y;simp only at h1 h2 h3 h4 hl⊢;obtain⟨P1,q1,rfl,_,_⟩:=h1.form;obtain⟨P2,q2,rfl,_,_⟩:=h2.form;obtain⟨P3,q3,rfl,_,_⟩:=h3.form;obtain⟨P4,q4,rfl,_,_⟩:=h4.form;have hA:=(Below.refl w.heap.size w).al (.cells #[.slice P1 rows.length q1,.slice P2 f.length q2,.slice P3 n.length q3,.slice P4 fl.length q4,.int .i64 s,.int .i64 p,.int .i64 r] 32);have bA:=Blk.aY w 32 #[.slice P1 rows.length q1,.slice P2 f.length q2,.slice P3 n.length q3,.slice P4 fl.length q4,.int .i64 s,.int .i64 p,.int .i64 r];have e:dW ((rows,f,n,fl),s,p,r)=(dC rows f n fl&&allIn 0 10000 [s,p,r]):=by unfold dW;rw[RY]
 rw[e];obtain⟨F,hF⟩:=SL (dC rows f n fl);rw[<-hF];have HF:=SQ hF;clear hF e;go_enter Tryz.func16,Tryz.ntmps16
 go_wp2_with fail
 refine(jC _ _ _ _ rows f n fl _ (h1.SN hA) (h2.SN hA) (h3.SN hA) (h4.SN hA) hl).mono ?_;rintro e w1 ⟨rfl,hb1⟩;rw[<-HF.out];have bA1:=bA.bl hb1;have z4:=bA1.cell 4;have z5:=bA1.cell 5;have z6:=bA1.cell 6;simp at z4 z5 z6;have B1:=hA.tr hb1;cases F
 . go_wp2;go_ret;exact⟨rfl,B1⟩
 . go_wp2_with fail
   refine(xB _ [s,p,r] _ _ _ ((Na w1 s p r).rd aN (by decide))).mono ?_;rintro e w2 ⟨rfl,rfl⟩;obtain⟨R,hR⟩:=SL (allIn 0 10000 [s,p,r]);rw[<-hR];have HR:Hid (R=(true&&allIn 0 10000 [s,p,r])):=SQ (by rw[hR,Bool.true_and]);clear hR;go_wp2;go_ret;exact⟨lD HR.out,B1.al _⟩
theorem lC (v1 v2 v3 v4:Value) (y:Wk) (w:World) (h1:Rd 1 bV w v1 y.1.1) (h2:Rd 3 bG w v2 y.1.2.1) (h3:Rd 3 bG w v3 y.1.2.2.1) (h4:Rd 2 eD w v4 y.1.2.2.2) (hl:Small y.1.2.1.length):
 Calls Tryz.prog 95 #[.agg #[v1,v2,v3,v4,.int .i64 y.2.1,.int .i64 y.2.2.1,.int .i64 y.2.2.2]] w (Ret (.bool (dW y)) w):=by
 obtain⟨⟨rows,f,n,fl⟩,s,p,r⟩:=y;simp only at h1 h2 h3 h4 hl⊢;obtain⟨P1,q1,rfl,_,_⟩:=h1.form;obtain⟨P2,q2,rfl,_,_⟩:=h2.form;obtain⟨P3,q3,rfl,_,_⟩:=h3.form;obtain⟨P4,q4,rfl,_,_⟩:=h4.form;have hA:=(Below.refl w.heap.size w).al (.cells #[.slice P1 rows.length q1,.slice P2 f.length q2,.slice P3 n.length q3,.slice P4 fl.length q4,.int .i64 s,.int .i64 p,.int .i64 r] 32);have bA:=Blk.aY w 32 #[.slice P1 rows.length q1,.slice P2 f.length q2,.slice P3 n.length q3,.slice P4 fl.length q4,.int .i64 s,.int .i64 p,.int .i64 r];have e:dW ((rows,f,n,fl),s,p,r)=(dC rows f n fl&&(inB s 0 10000&&inB p 0 10000&&inB r 0 10000)):=rfl;rw[e];obtain⟨F,hF⟩:=SL (dC rows f n fl);obtain⟨b1,hb1'⟩:=SL (inB s 0 10000);obtain⟨b2,hb2'⟩:=SL (inB p 0 10000);obtain⟨b3,hb3'⟩:=SL (inB r 0 10000);rw[<-hF,<-hb1',<-hb2',<-hb3'];have HF:=SQ hF;have H1:=SQ hb1';have H2:=SQ hb2';have H3:=SQ hb3';clear hF e hb1' hb2' hb3';go_enter Tryz.func95,Tryz.ntmps95
 go_wp2_with fail
 refine(uE _ _ _ _ rows f n fl _ (h1.SN hA) (h2.SN hA) (h3.SN hA) (h4.SN hA) hl).mono ?_;rintro e w1 ⟨rfl,hb1⟩;rw[<-HF.out];have bA1:=bA.bl hb1;have z4:=bA1.cell 4;have z5:=bA1.cell 5;have z6:=bA1.cell 6;simp at z4 z5 z6;have B1:=hA.tr hb1;cases F
 . go_wp2;go_ret;exact⟨rfl,B1⟩
 . go_wp2_with fail
   refine(iT _ _ _ _).mono ?_;rintro e w2 ⟨rfl,rfl⟩;rw[<-H1.out];cases b1
   . go_wp2;go_ret;exact⟨by simp,B1⟩
   . go_wp2_with fail
     refine(iT _ _ _ _).mono ?_;rintro e w3 ⟨rfl,rfl⟩;rw[<-H2.out];cases b2
     . go_wp2;go_ret;exact⟨by simp,B1⟩
     . go_wp2_with fail
       refine(iT _ _ _ _).mono ?_;rintro e w4 ⟨rfl,rfl⟩;rw[<-H3.out];cases b3
       . go_wp2;go_ret;exact⟨by simp,B1⟩
       . go_wp2;go_ret;exact⟨by simp,B1⟩
theorem nU (v1 v2 v3 v4:Value) (x:Fl) (s p r:Int) (w:World) (h1:Rd 1 bV w v1 x.1) (h2:Rd 3 bG w v2 x.2.1) (h3:Rd 3 bG w v3 x.2.2.1) (h4:Rd 2 eD w v4 x.2.2.2) (hs:dG x):
 Calls Tryz.prog 94 #[.agg #[v1,v2,v3,v4,.int .i64 s,.int .i64 p,.int .i64 r]] w (Qh x s p r w):=by
 obtain⟨A1,c1,rfl,hc1,hm1⟩:=h1.form;obtain⟨A2,c2,rfl,hc2,hm2⟩:=h2.form;obtain⟨A3,c3,rfl,hc3,hm3⟩:=h3.form;obtain⟨A4,c4,rfl,hc4,hm4⟩:=h4.form;have B0:=((Below.refl w.heap.size w).al (.cells #[.slice A1 x.1.length c1,.slice A2 x.2.1.length c2,.slice A3 x.2.2.1.length c3,.slice A4 x.2.2.2.length c4,.int .i64 s,.int .i64 p,.int .i64 r] 32)).al (.cells #[.slice none 0 0,.slice none 0 0,.slice none 0 0,.slice none 0 0,.int .i64 0,.int .i64 0,.int .i64 0] 32);have bP:=(Blk.aY w 32 #[.slice A1 x.1.length c1,.slice A2 x.2.1.length c2,.slice A3 x.2.2.1.length c3,.slice A4 x.2.2.2.length c4,.int .i64 s,.int .i64 p,.int .i64 r]).alloc (.cells #[.slice none 0 0,.slice none 0 0,.slice none 0 0,.slice none 0 0,.int .i64 0,.int .i64 0,.int .i64 0] 32);have bR:=Blk.iX (w.alloc (.cells #[.slice A1 x.1.length c1,.slice A2 x.2.1.length c2,.slice A3 x.2.2.1.length c3,.slice A4 x.2.2.2.length c4,.int .i64 s,.int .i64 p,.int .i64 r] 32)) 32 #[.slice none 0 0,.slice none 0 0,.slice none 0 0,.slice none 0 0,.int .i64 0,.int .i64 0,.int .i64 0] (w.heap.size+1) (by simp);go_enter Tryz.func94,Tryz.ntmps94
 go_wp2_with fail
 obtain⟨W0,hW0⟩:=SL ((w.alloc (.cells #[.slice A1 x.1.length c1,.slice A2 x.2.1.length c2,.slice A3 x.2.2.1.length c3,.slice A4 x.2.2.2.length c4,.int .i64 s,.int .i64 p,.int .i64 r] 32)).alloc (.cells #[.slice none 0 0,.slice none 0 0,.slice none 0 0,.slice none 0 0,.int .i64 0,.int .i64 0,.int .i64 0] 32));obtain⟨gP,hgP⟩:=SL w.heap.size;obtain⟨gR,hgR'⟩:=SL (w.heap.size+1);rw[<-hW0]at B0 bP bR⊢;rw[<-hgR']at bR⊢;rw[<-hgP]at bP⊢;have hgR:w.heap.size<=gR:=(by omega);have hPR:gP≠gR:=(by omega);have hp0:=bP.lt;have hr0:=bR.lt;clear hW0 hgP hgR';obtain⟨z_0,z_1,z_2,z_3,z_4,z_5,z_6⟩:=bP.n7;have Bw:Below W0.heap.size W0 W0.drew:=(Below.refl _ _).drew;have hz:W0.heap.size<=W0.drew.heap.size:=(by simp);refine rB (fun w'=>w'.cell? ⟨gP,0,none⟩=some (.slice A1 x.1.length c1)/\w'.cell? ⟨gP,1,none⟩=some (.slice A2 x.2.1.length c2)/\w'.cell? ⟨gP,2,none⟩=some (.slice A3 x.2.2.1.length c3)/\w'.cell? ⟨gP,3,none⟩=some (.slice A4 x.2.2.2.length c4)/\w'.cell? ⟨gP,4,none⟩=some (.int .i64 s)/\w'.cell? ⟨gP,5,none⟩=some (.int .i64 p)/\w'.cell? ⟨gP,6,none⟩=some (.int .i64 r)) fun hHeld=>(tW 0)<|(tW 1)<|(tW 3)<|(tW 4)<|(tW 5)<|(tW 6)<|(tW 7)<|(tW 8)<|(tR [2])<|tL fun K hK=>?_
 go_simp
 (first|(go_at_call 151;go_must (refine(rF _ _ _ _ x _ (h1.SN (B0.tr Bw)) (h2.SN (B0.tr Bw)) (h3.SN (B0.tr Bw)) (h4.SN (B0.tr Bw)) hs).mono ?_;rintro e wX ⟨D1,d1,D2,d2,D3,d3,D4,d4,rfl,oF,hbX⟩;have bR1:=(bR.bl Bw).bl hbX;have oF1:=oF.mono (B0.tr Bw).size;obtain⟨hcX,hfX,hzX⟩:=bkn hbX W0.heap.size hz;have hz:=hzX;have Bw:=Bw.tr hbX);(try go_wp2_with fail)))
 refine tK hK fun hHeld=>?_
 clear hK K;refine(tW 9)<|(tR [10])<|tL fun K hK=>?_
 (refine aI rfl 32 _ _ rfl gR #[.slice D1 x.1.length d1,.slice D2 x.2.1.length d2,.slice D3 x.2.2.1.length d3,.slice D4 x.2.2.2.length d4,.int .i64 s,.int .i64 p,.int .i64 r] rfl rfl _ _ bR1 (by kernel_rfl) rfl (by simp[Value.oneCell']) ?_;intro wE bE hgE;have oE:=aF.dZ oF1 bR1 (by decide) (by decide) (by decide) hgE;have BE:=(B0.tr Bw).grown hgE (B0.tr Bw).size (fun k hk=>by injection hk with hk;subst hk;exact hgR);have bPE:=(bP.bl Bw).grown hgE (by simp;omega);obtain⟨c_0,c_1,c_2,c_3,c_4,c_5,c_6⟩:=bPE.n7)
 refine tK hK fun hHeld=>?_
 clear hK K;refine tD ?_;go_wp2_with fail
 obtain⟨q_0,q_1,q_2,q_3,q_4,q_5,q_6⟩:=bE.n7;refine bodyPost_ret (v:= .agg #[.slice D1 x.1.length d1,.slice D2 x.2.1.length d2,.slice D3 x.2.2.1.length d3,.slice D4 x.2.2.2.length d4,.int .i64 s,.int .i64 p,.int .i64 r]) (by simp[results,Tryz.results94,go_sem,q_0,q_1,q_2,q_3,q_4,q_5,q_6]) rfl ⟨D1,d1,D2,d2,D3,d3,D4,d4,rfl,oE,BE⟩
def vC (y:Wk) (c:Cl):Bool:=dW y&&(pI y.1 c).2
def oZ (y:Wk) (c:Cl):Fl:=if vC y c then(pI y.1 c).1 else y.1
theorem qG {y:Wk} (c:Cl) (hs:dG y.1):dG (oZ y c):=by
 unfold oZ;split
 . exact EP (b:=(pI y.1 c).2) hs rfl
 . exact hs
theorem Nb {y:Wk} (h:dW y=true):iL y.1=true:=by
 unfold dW at h;rw[Bool.and_eq_true]at h;exact h.1
theorem Nc {x:Fl} (h:iL x=true):(eO x).2.2.1=x.2.1:=by
 unfold eO;rw[if_pos h];unfold xG dO;rw[List.take_zero];simp[eX]
theorem NL {α:Type} {size:Nat} {R:World->List Value->α->Prop} {w:World} {v:Value} {l m:List α} (h:Rd size R w v l) (e:l=m):Rd size R w v m:=e▸h
theorem nJ (u v:Value) (l:List Dm) (w:World) (h:Rd 3 bG w u l) (h':Rd 3 bG w v l):Calls Tryz.prog 31 #[u,v] w (Ret (.bool true) w):=by
 have:=pG u v l l w h h';rw[decide_eq_true (rfl:l=l)]at this;exact this
end Go.Proofs.YtljfoohaapckeaaGreatDoor
