/- A new floor, by the reference: the walk. Conditions: sizes. A drawn floor. No conditions but sizes. A workshop opened, on both sides: the walk, with WorkshopOk's answer as given. Conditions: sizes. Plain laws for FnBoxes: the best box, what chosen boxes hold and cost. Conditions: valid boxes. Small purchases: plain laws. No program in sight. -/
import Derived.Test.YtljfoohaapckeaaGreatDoorDG39
import Derived.Test.YtljfoohaapckeaaGreatDoorDFirstS
import Derived.Test.YtljfoohaapckeaaGreatDoorDG21
import Derived.Test.YtljfoohaapckeaaGreatDoorDFlDoS
import Derived.Test.YtljfoohaapckeaaGreatDoorDG23
import Derived.Test.YtljfoohaapckeaaGreatDoorDChooseL
import Derived.Test.YtljfoohaapckeaaGreatDoorDK3
open _root_.Go.Value (oneCell')
open _root_.Go.Proofs.Tryz (prog results128)
namespace Go.Proofs.YtljfoohaapckeaaGreatDoor
open Go.ChangeShapes Go.WideShapes Go.ChangeAt Go.RowKit
set_option linter.unusedVariables false
set_option linter.unusedSimpArgs false
set_option maxHeartbeats 4000000
set_option maxRecDepth 100000
theorem LZ (v:Value) (rows:List Int) (w:World) (h:Rd 1 bH w v rows) (hl:Small rows.length):Calls prog 137 #[.agg #[v]] w (rY (jL rows) (oZ rows) w):=by
 obtain⟨A,c,rfl,hc,hm⟩:=h.form;have B0:=((Below.refl w.heap.size w).al (.cells #[.slice A rows.length c] 26)).al (.cells #[.slice none 0 0,.slice none 0 0,.slice none 0 0,.slice none 0 0] 30);have bX:=(Blk.bK w 26 #[.slice A rows.length c]).alloc (.cells #[.slice none 0 0,.slice none 0 0,.slice none 0 0,.slice none 0 0] 30);have bR:=Blk.iV (w.alloc (.cells #[.slice A rows.length c] 26)) 30 #[.slice none 0 0,.slice none 0 0,.slice none 0 0,.slice none 0 0] (w.heap.size+1) (by simp);obtain⟨F,hF⟩:=Oy (fE rows);obtain⟨b,hb⟩:=Oy (oZ rows);have hFl:F.length<=64:=by rw[hF];exact pJ rows
 have hFs:Small F.length:=by unfold Small;omega
 have hsx:dZ (rows,F,F,[]):=⟨hl,hFs,hFs,by unfold Small;simp⟩;have CF:∀(u:Value) (w:World),Rd 1 bH w u rows->Calls prog 189 #[.agg #[u]] w (Ny F b w):=fun u w k1=>by rw[hF,hb];exact F8 u rows w k1
 have hN0 : b = false -> jL rows = ([], [], [], []) := fun q => by
  rw[hb]at q;unfold oZ at q;unfold jL;rw[if_pos (by simpa using q)]
 have hN1 : b = true -> jL rows = (rows, F, F, []) := fun q => by
  rw[hb]at q;unfold oZ at q;unfold jL;rw[if_neg (by simpa using q),<-hF]
 obtain⟨y,hy⟩:=Oy (jL rows);rw[<-hy]at hN0 hN1⊢;rw[<-hb];have HN0:=OA hN0;have HN1:=OA hN1;clear hF hb hN0 hN1 hy;have H0:∀w:World,Rd 2 bT w (.slice none 0 0) ([]:List Cl):=fun w=>(aC.CV (E:=70) (size:=2) (enc:=dE) (B:=0) (w:=w)).rd dS (by decide)
 go_enter Tryz.func137,Tryz.ntmps137
 go_wp2_with fail
 refine(CF _ _ (h.Oz B0)).mono ?_;rintro e w1 ⟨F1,f1,rfl,oF,hb1⟩;have B1:=B0.tr hb1;have bX1:=bX.bl hb1;have bR1:=bR.bl hb1;have oF:=oF.mono B0.size;obtain⟨gX,hgX⟩:=Oy w.heap.size;obtain⟨gR,hgR'⟩:=Oy (w.heap.size+1);have hgR:w.heap.size<=gR:=(by omega);rw[<-hgR']at bR1⊢;rw[<-hgX]at bX1⊢;clear hgX hgR' hb1 B0 bX bR;cases b
 . obtain rfl:([],[],[],[])=y:=(HN0.out rfl).symm;go_wp2_with (refine dH rfl 30 _ _ rfl gR #[.slice none 0 0,.slice none 0 0,.slice none 0 0,.slice none 0 0] rfl rfl _ _ bR1 (by kernel_rfl) rfl (by simp[oneCell']) ?_;intro wE bE hgE)
   have BE:=B1.grown hgE B1.size (fun k hk=>by injection hk with hk;subst hk;exact hgR);obtain⟨q_0,q_1,q_2,q_3⟩:=bE.n4;refine bodyPost_ret (v:= .tuple #[.agg #[.slice none 0 0,.slice none 0 0,.slice none 0 0,.slice none 0 0],.bool false]) (by simp[results,Tryz.results137,go_sem,q_0,q_1,q_2,q_3]) rfl ⟨none,0,none,0,none,0,none,0,rfl,xK _ _,BE⟩
 . obtain rfl:(rows,F,F,[])=y:=(HN1.out rfl).symm;have z0:=bX1.c1;go_wp2_with fail
   refine(oK _ _ _ _ (rows,F,F,[]) _ (h.Oz B1) (oF.rd aB (by decide)) (oF.rd aB (by decide)) (H0 _) hsx).mono ?_;rintro e w2 ⟨A1,e1,A2,e2,A3,e3,A4,e4,rfl,oA,hb2⟩;have oA:=oA.mono B1.size;have B2:=B1.tr hb2;have bR2:=bR1.bl hb2;clear z0 hb2 oF B1 bX1 bR1;go_wp2_with (refine dH rfl 30 _ _ rfl gR #[.slice A1 rows.length e1,.slice A2 F.length e2,.slice A3 F.length e3,.slice A4 0 e4] rfl rfl _ _ bR2 (by kernel_rfl) rfl (by simp[oneCell']) ?_;intro wE bE hgE)
   have oE:=aD.eD oA bR2 (by decide) (by decide) (by decide) hgE;have BE:=B2.grown hgE B2.size (fun k hk=>by injection hk with hk;subst hk;exact hgR);obtain⟨q_0,q_1,q_2,q_3⟩:=bE.n4;refine bodyPost_ret (v:= .tuple #[.agg #[.slice A1 rows.length e1,.slice A2 F.length e2,.slice A3 F.length e3,.slice A4 0 e4],.bool true]) (by simp[results,Tryz.results137,go_sem,q_0,q_1,q_2,q_3]) rfl ⟨A1,e1,A2,e2,A3,e3,A4,e4,rfl,oE,BE⟩
theorem qA {n:Nat} {y:Int} (h:dR n y) (hn:¬n=0):∃i:Nat,i<n/\y=(i:Int):=by
 unfold dR at h;exact⟨y.toNat,by omega,by omega⟩
def Jb (b:Bool) (rows:List Int):Fl:=if b=true then jL rows else([],[],[],[])
def Jc (b:Bool) (rows:List Int) (stock:Int):Int:=if b=true then stock-((jL rows).2.2.1.length:Int)else 0
def Ob (y1:List Int) (y2 y3:List Dm) (y4:List Cl) (b:Bool) (w:World) (e:Ending) (w':World):Prop:=∃A1 c1 A2 c2 A3 c3 A4 c4,e= .returned (.tuple #[.agg #[.slice A1 y1.length c1,.slice A2 y2.length c2,.slice A3 y3.length c3,.slice A4 y4.length c4],.bool b])/\
  aD w.heap.size w' (.slice A1 y1.length c1) (.slice A2 y2.length c2) (.slice A3 y3.length c3) (.slice A4 y4.length c4) (y1,y2,y3,y4)/\Below w.heap.size w w'
theorem KC (v:Value) (rows:List Int) (stock:Int) (k:Bool) (w:World) (h:Rd 1 bH w v rows) (hl:Small rows.length)
    (CW0:∀(u1 u2 u3 u4:Value) (w:World),Rd 1 bH w u1 (jL rows).1->Rd 3 aU w u2 (jL rows).2.1->Rd 3 aU w u3 (jL rows).2.2.1->Rd 2 bT w u4 (jL rows).2.2.2->Calls prog 95 #[.agg #[u1,u2,u3,u4,.int .i64 (stock-((jL rows).2.2.1.length:Int)),.int .i64 0,.int .i64 0]] w (Ret (.bool k) w)):
    Calls prog 128 #[.agg #[v],.int .i64 stock] w (Ao (Jb (oZ rows&&inB stock 0 20000&&k) rows) (Jc (oZ rows&&inB stock 0 20000&&k) rows stock) 0 0 (oZ rows&&inB stock 0 20000&&k) w):=by
 have CN0:=fun(u:Value) (w:World) (k1:Rd 1 bH w u rows)=>LZ u rows w k1 hl
 have hs0:=yO hl;obtain⟨bb,hbb⟩:=Oy ((oZ rows&&inB stock 0 20000&&k));rw[<-hbb];obtain⟨zz,hzz⟩:=Oy (Jb bb rows);obtain⟨ss,hss⟩:=Oy (Jc bb rows stock);rw[<-hzz,<-hss];unfold Jb at hzz;unfold Jc at hss;obtain⟨b,hb⟩:=Oy (oZ rows);obtain⟨i,hi⟩:=Oy (inB stock 0 20000);have CI:∀(w:World),Calls prog 73 #[.int .i64 stock,.int .i64 0,.int .i64 20000] w (Pure (.bool i) w):=fun w=>by rw[hi];exact iI stock 0 20000 w
 have hI:i=true->0<=stock/\stock<=20000:=fun q=>by rw[hi]at q;simpa[inB]using q
 rw[<-hb,<-hi]at hbb;rw[<-hb]at CN0
 have h64:(jL rows).2.2.1.length<=64:=by
  unfold jL;split
  . simp
  . exact pJ rows
 obtain⟨y,hy⟩:=Oy (jL rows);rw[<-hy]at CN0 CW0 hzz hss hs0 h64;obtain⟨y1,y2,y3,y4⟩:=y;have CN:∀(u:Value) (w:World),Rd 1 bH w u rows->Calls prog 137 #[.agg #[u]] w (Ob y1 y2 y3 y4 b w):=fun u w k1=>CN0 u w k1
 have H64:y3.length<=64:=h64;obtain⟨st,hst⟩:=Oy (stock-(y3.length:Int));have CW:∀(u1 u2 u3 u4:Value) (w:World),Rd 1 bH w u1 y1->Rd 3 aU w u2 y2->Rd 3 aU w u3 y3->Rd 2 bT w u4 y4->Calls prog 95 #[.agg #[u1,u2,u3,u4,.int .i64 st,.int .i64 0,.int .i64 0]] w (Ret (.bool k) w):=fun u1 u2 u3 u4 w k1 k2 k3 k4=>by rw[hst];exact CW0 u1 u2 u3 u4 w k1 k2 k3 k4
 have hW : i = true -> IntKind.i64.wrap (stock - (y3.length : Int)) = st := fun q => by
  have:=hI q;rw[hst];exact IntWalk.i64_in _ (by omega)
 have hz0:bb=false->zz=([],[],[],[])/\ss=0:=fun q=>by subst q;exact⟨hzz,hss⟩
 have hz1:bb=true->zz=(y1,y2,y3,y4)/\ss=st:=fun q=>by subst q;exact⟨hzz,by rw[hss,hst];rfl⟩
 have HW:=OA hW;have HB:=OA hbb;have HZ0:=OA hz0;have HZ1:=OA hz1;clear CN0 CW0 hzz hss hs0 h64 hst hW hbb hz0 hz1 hy hi hb hI H64;obtain⟨A,c,rfl,hc,hm⟩:=h.form;have B0:=((Below.refl w.heap.size w).al (.cells #[.slice A rows.length c] 26)).al (.cells #[.slice none 0 0,.slice none 0 0,.slice none 0 0,.slice none 0 0,.int .i64 0,.int .i64 0,.int .i64 0] 32);have bX:=(Blk.bK w 26 #[.slice A rows.length c]).alloc (.cells #[.slice none 0 0,.slice none 0 0,.slice none 0 0,.slice none 0 0,.int .i64 0,.int .i64 0,.int .i64 0] 32);have bR:=Blk.iV (w.alloc (.cells #[.slice A rows.length c] 26)) 32 #[.slice none 0 0,.slice none 0 0,.slice none 0 0,.slice none 0 0,.int .i64 0,.int .i64 0,.int .i64 0] (w.heap.size+1) (by simp);go_enter Tryz.func128,Tryz.ntmps128
 go_wp2_with fail
 refine(CN _ _ (h.Oz B0)).mono ?_;rintro e w1 ⟨A1,c1,A2,c2,A3,c3,A4,c4,rfl,oY,hb1⟩;have oY:=(oY.mono B0.size).alloc (.cells #[.slice none 0 0,.slice none 0 0,.slice none 0 0,.slice none 0 0] 30);have B1:=(B0.tr hb1).al (.cells #[.slice none 0 0,.slice none 0 0,.slice none 0 0,.slice none 0 0] 30);have bR1:=(bR.bl hb1).alloc (.cells #[.slice none 0 0,.slice none 0 0,.slice none 0 0,.slice none 0 0] 30);have bO:=Blk.bK w1 30 #[.slice none 0 0,.slice none 0 0,.slice none 0 0,.slice none 0 0];have hgO:w.heap.size<=w1.heap.size:=(B0.tr hb1).size;have hRl:=(bR.bl hb1).lt;obtain⟨gR,hgR'⟩:=Oy (w.heap.size+1);have hgR:w.heap.size<=gR:=(by omega);rw[<-hgR']at bR1 hRl⊢;clear hgR' hb1 B0 bX bR;cases b
 . obtain rfl : bb = false := by rw [HB.out]; rfl
   obtain rfl:([],[],[],[])=zz:=(HZ0.out rfl).1.symm;obtain rfl:0=ss:=(HZ0.out rfl).2.symm;go_wp2_with (first|(refine dH rfl 30 _ _ rfl w1.heap.size #[.slice A1 y1.length c1,.slice A2 y2.length c2,.slice A3 y3.length c3,.slice A4 y4.length c4] rfl rfl _ _ bO (by kernel_rfl) rfl (by simp[oneCell']) ?_;intro wS bS hgS;have oS:=aD.eD oY bO (by decide) (by decide) (by decide) hgS;have bRS:=bR1.grown hgS (by simp;omega);have BS:=B1.grown hgS B1.size (fun k hk=>by injection hk with hk;subst hk;exact hgO);obtain⟨y_0,y_1,y_2,y_3⟩:=bS.n4)|(refine dH rfl 32 _ _ rfl gR #[.slice none 0 0,.slice none 0 0,.slice none 0 0,.slice none 0 0,.int .i64 0,.int .i64 0,.int .i64 0] rfl rfl _ _ bRS (by kernel_rfl) rfl (by simp[oneCell']) ?_;intro wE bE hgE))
   have oE:aD w.heap.size wE _ _ _ _ _:=aD.eD (xK w.heap.size wS) bRS (by decide) (by decide) (by decide) hgE;have BE:=BS.grown hgE BS.size (fun k hk=>by injection hk with hk;subst hk;exact hgR);obtain⟨q_0,q_1,q_2,q_3,q_4,q_5,q_6⟩:=bE.n7;refine bodyPost_ret (v:= .tuple #[.agg #[.slice none 0 0,.slice none 0 0,.slice none 0 0,.slice none 0 0,.int .i64 0,.int .i64 0,.int .i64 0],.bool false]) (by simp[results,results128,go_sem,q_0,q_1,q_2,q_3,q_4,q_5,q_6]) rfl ⟨none,0,none,0,none,0,none,0,rfl,oE,BE⟩
 . cases i
   . obtain rfl : bb = false := by rw [HB.out]; rfl
     obtain rfl:([],[],[],[])=zz:=(HZ0.out rfl).1.symm;obtain rfl:0=ss:=(HZ0.out rfl).2.symm;go_wp2_with (first|(refine dH rfl 30 _ _ rfl w1.heap.size #[.slice A1 y1.length c1,.slice A2 y2.length c2,.slice A3 y3.length c3,.slice A4 y4.length c4] rfl rfl _ _ bO (by kernel_rfl) rfl (by simp[oneCell']) ?_;intro wS bS hgS;have oS:=aD.eD oY bO (by decide) (by decide) (by decide) hgS;have bRS:=bR1.grown hgS (by simp;omega);have BS:=B1.grown hgS B1.size (fun k hk=>by injection hk with hk;subst hk;exact hgO);obtain⟨y_0,y_1,y_2,y_3⟩:=bS.n4)|(go_at_call 73;(with_reducible refine(CI _).mono ?_);rintro e w' ⟨rfl,rfl⟩)|(refine dH rfl 32 _ _ rfl gR #[.slice none 0 0,.slice none 0 0,.slice none 0 0,.slice none 0 0,.int .i64 0,.int .i64 0,.int .i64 0] rfl rfl _ _ bRS (by kernel_rfl) rfl (by simp[oneCell']) ?_;intro wE bE hgE))
     have oE:aD w.heap.size wE _ _ _ _ _:=aD.eD (xK w.heap.size wS) bRS (by decide) (by decide) (by decide) hgE;have BE:=BS.grown hgE BS.size (fun k hk=>by injection hk with hk;subst hk;exact hgR);obtain⟨q_0,q_1,q_2,q_3,q_4,q_5,q_6⟩:=bE.n7;refine bodyPost_ret (v:= .tuple #[.agg #[.slice none 0 0,.slice none 0 0,.slice none 0 0,.slice none 0 0,.int .i64 0,.int .i64 0,.int .i64 0],.bool false]) (by simp[results,results128,go_sem,q_0,q_1,q_2,q_3,q_4,q_5,q_6]) rfl ⟨none,0,none,0,none,0,none,0,rfl,oE,BE⟩
   . have hw:=HW.out rfl;go_wp2_with (first|(refine dH rfl 30 _ _ rfl w1.heap.size #[.slice A1 y1.length c1,.slice A2 y2.length c2,.slice A3 y3.length c3,.slice A4 y4.length c4] rfl rfl _ _ bO (by kernel_rfl) rfl (by simp[oneCell']) ?_;intro wS bS hgS;have oS:=aD.eD oY bO (by decide) (by decide) (by decide) hgS;have bRS:=bR1.grown hgS (by simp;omega);have BS:=B1.grown hgS B1.size (fun k hk=>by injection hk with hk;subst hk;exact hgO);obtain⟨y_0,y_1,y_2,y_3⟩:=bS.n4)|(go_at_call 73;(with_reducible refine(CI _).mono ?_);rintro e w' ⟨rfl,rfl⟩)|(refine dH rfl 32 _ _ rfl wS.heap.size #[.slice A1 y1.length c1,.slice A2 y2.length c2,.slice A3 y3.length c3,.slice A4 y4.length c4,.int .i64 st,.int .i64 0,.int .i64 0] rfl rfl _ _ (Blk.bK wS 32 #[.slice none 0 0,.slice none 0 0,.slice none 0 0,.slice none 0 0,.int .i64 0,.int .i64 0,.int .i64 0]) (by kernel_rfl) rfl (by simp[oneCell']) ?_;intro wU bU hgU;have oU:=aD.eD (oS.alloc (.cells #[.slice none 0 0,.slice none 0 0,.slice none 0 0,.slice none 0 0,.int .i64 0,.int .i64 0,.int .i64 0] 32)) (Blk.bK wS 32 #[.slice none 0 0,.slice none 0 0,.slice none 0 0,.slice none 0 0,.int .i64 0,.int .i64 0,.int .i64 0]) (by decide) (by decide) (by decide) hgU;have bRU:=(bRS.alloc (.cells #[.slice none 0 0,.slice none 0 0,.slice none 0 0,.slice none 0 0,.int .i64 0,.int .i64 0,.int .i64 0] 32)).grown hgU (by have:=bRS.lt;simp;omega);have BU:=(BS.al (.cells #[.slice none 0 0,.slice none 0 0,.slice none 0 0,.slice none 0 0,.int .i64 0,.int .i64 0,.int .i64 0] 32)).grown hgU (BS.al (.cells #[.slice none 0 0,.slice none 0 0,.slice none 0 0,.slice none 0 0,.int .i64 0,.int .i64 0,.int .i64 0] 32)).size (fun k hk=>by injection hk with hk;subst hk;exact BS.size);obtain⟨p_0,p_1,p_2,p_3,p_4,p_5,p_6⟩:=bU.n7))
     refine(CW _ _ _ _ _ (oU.ra) (oU.rb) (oU.rc) (oU.rd)).mono ?_;rintro e w2 ⟨rfl,hb2⟩;have B2:=BU.tr hb2;have bR2:=bRU.bl hb2;have bW2:=bU.bl hb2;have oY2:=oU.below hb2;clear p_0 p_1 p_2 p_3 p_4 p_5 p_6 y_0 y_1 y_2 y_3 BU bRU bU oU hb2 BS bRS bS oS bR1 bO B1 oY;cases k
     . obtain rfl : bb = false := by rw [HB.out]; rfl
       obtain rfl:([],[],[],[])=zz:=(HZ0.out rfl).1.symm;obtain rfl:0=ss:=(HZ0.out rfl).2.symm;go_wp2_with (refine dH rfl 32 _ _ rfl gR #[.slice none 0 0,.slice none 0 0,.slice none 0 0,.slice none 0 0,.int .i64 0,.int .i64 0,.int .i64 0] rfl rfl _ _ bR2 (by kernel_rfl) rfl (by simp[oneCell']) ?_;intro wE bE hgE)
       have oE:aD w.heap.size wE _ _ _ _ _:=aD.eD (xK w.heap.size w2) bR2 (by decide) (by decide) (by decide) hgE;have BE:=B2.grown hgE B2.size (fun k hk=>by injection hk with hk;subst hk;exact hgR);obtain⟨q_0,q_1,q_2,q_3,q_4,q_5,q_6⟩:=bE.n7;refine bodyPost_ret (v:= .tuple #[.agg #[.slice none 0 0,.slice none 0 0,.slice none 0 0,.slice none 0 0,.int .i64 0,.int .i64 0,.int .i64 0],.bool false]) (by simp[results,results128,go_sem,q_0,q_1,q_2,q_3,q_4,q_5,q_6]) rfl ⟨none,0,none,0,none,0,none,0,rfl,oE,BE⟩
     . obtain rfl : bb = true := by rw [HB.out]; rfl
       obtain rfl:(y1,y2,y3,y4)=zz:=(HZ1.out rfl).1.symm;obtain rfl:st=ss:=(HZ1.out rfl).2.symm;obtain⟨p_0,p_1,p_2,p_3,p_4,p_5,p_6⟩:=bW2.n7;go_wp2_with (refine dH rfl 32 _ _ rfl gR #[.slice A1 y1.length c1,.slice A2 y2.length c2,.slice A3 y3.length c3,.slice A4 y4.length c4,.int .i64 st,.int .i64 0,.int .i64 0] rfl rfl _ _ bR2 (by kernel_rfl) rfl (by simp[oneCell']) ?_;intro wE bE hgE)
       have oE:aD w.heap.size wE _ _ _ _ _:=aD.eD (oY2) bR2 (by decide) (by decide) (by decide) hgE;have BE:=B2.grown hgE B2.size (fun k hk=>by injection hk with hk;subst hk;exact hgR);obtain⟨q_0,q_1,q_2,q_3,q_4,q_5,q_6⟩:=bE.n7;refine bodyPost_ret (v:= .tuple #[.agg #[.slice A1 y1.length c1,.slice A2 y2.length c2,.slice A3 y3.length c3,.slice A4 y4.length c4,.int .i64 st,.int .i64 0,.int .i64 0],.bool true]) (by simp[results,results128,go_sem,q_0,q_1,q_2,q_3,q_4,q_5,q_6]) rfl ⟨A1,c1,A2,c2,A3,c3,A4,c4,rfl,oE,BE⟩
end Go.Proofs.YtljfoohaapckeaaGreatDoor
namespace Go.Proofs.YtljfoohaapckeaaGreatDoor
open Go.ChangeShapes Go.WideShapes Go.ChangeAt Go.RowKit
set_option linter.unusedVariables false
set_option maxHeartbeats 4000000
set_option maxRecDepth 100000
def bS (l:List (Int×Int)) (i:Nat):Int:=(l.getD i (0,0)).1
def bP (l:List (Int×Int)) (i:Nat):Int:=(l.getD i (0,0)).2
theorem JU (f : Int × Int -> Int) : ∀ (c : List Int) (l : List (Int × Int)), c.length = l.length -> ((List.range l.length).map fun i => c.getD i 0 * f (l.getD i (0, 0))).sum = (List.zipWith (fun c b => c * f b) c l).sum := by
 intro c;induction c with
 |nil=>intro l h;have:l=[]:=List.eq_nil_of_length_eq_zero (by simpa using h.symm);subst this;rfl
 |cons x c ih=>
  intro l h;cases l with
  |nil=>simp at h
  |cons b l=>
   have:=ih l (by simpa using h);rw[List.zipWith_cons_cons,List.sum_cons,<-this,List.length_cons,List.range_succ_eq_map,List.map_cons,List.map_map,List.sum_cons];rfl
theorem F9 {l:List (Int×Int)} (hok:bV l l.length=true) {n:Nat} (hn:n<=500):n<=(hold l (chosen l n)).1/\(hold l (chosen l n)).2=cheapest l n:=by
 obtain⟨hall,h1,h5⟩:=jG _ _ hok;have hF:sK l:=hall;have hne:l≠[]:=by rintro rfl;simp at h1
 rw[vV hok hn,Ad hok hn];obtain⟨g1,g2,g3⟩:=FZ l n hF (kM hF hne n);have hlen:=IM l n (lp l n);have hin:allIn 0 500 (choose l n (lp l n))=true:=uF.2 fun x hx=>by have:=g1 x hx;omega
 have e:hold l (choose l n (lp l n))=(Dt l (choose l n (lp l n)) l.length,Du l (choose l n (lp l n)) l.length):=by
  unfold hold;rw[hok,hin,hlen];simp
 have s1:=JU (fun b=>b.1) (choose l n (lp l n)) l hlen;have s2:=JU (fun b=>b.2) (choose l n (lp l n)) l hlen;rw[e];unfold Dt Du;simp only;rw[s1,s2];exact⟨g2,g3⟩
theorem IQ {l:List (Int×Int)} (hl:∀x∈l,eU x):∀n:Int,1<=n->n<=5->bV l n=true:=by
 induction l with
 |nil=>intro n h1 h5;simp[bV,inB];omega
 |cons x r ih=>
  intro n h1 h5;have F:=hl x List.mem_cons_self;unfold eU at F;unfold bV;have:(!inB x.1 1 50|| !inB x.2 1 1000)=false:=by simp[inB];omega
  rw[this];exact ih (fun y hy=>hl y (List.mem_cons_of_mem _ hy)) n h1 h5
end Go.Proofs.YtljfoohaapckeaaGreatDoor
namespace Go.Proofs.YtljfoohaapckeaaGreatDoor
open Go.ChangeShapes Go.WideShapes Go.ChangeAt Go.RowKit
set_option linter.unusedVariables false
set_option linter.unusedSimpArgs false
set_option maxHeartbeats 4000000
set_option maxRecDepth 100000
theorem L6 {l:List (Int×Int)} (hs:∀x∈l,jE x) (h1:1<=l.length) (n:Nat):0<=lp l n/\lp l n<=21*n:=by
 have hf:sK l:=fun x hx=>(hs x hx).fine
 have hne:l≠[]:=fun e=>by rw[e]at h1;simp at h1
 refine⟨kM hf hne n,?_⟩;induction n using Nat.strongRecOn with
 |_ n ih=>
  rcases n with _|n
  . rw[nV];omega
  . obtain⟨b,hb⟩:=List.exists_mem_of_ne_nil l hne;have h2:=KL hf hb (n+1);have h3:=hs b hb;unfold jE at h3;have h4:=KM (n:=n+1) (s:=b.1) (by omega) (by omega);have h5:=ih _ h4;omega
theorem Mq {l:List (Int×Int)} {c:List Int} (hl:∀x∈l,x.1<=x.2) (hc:∀k∈c,0<=k) (he:c.length=l.length):∀k,k<=l.length->Dt l c k<=Du l c k
  |0,_=>by simp[Dt,Du]
  | k + 1, h => by
   have ih:=Mq hl hc he k (by omega);rw[Dv l c k (by omega) (by omega),Dw l c k (by omega) (by omega)];have h1:=hl l[k] (List.getElem_mem (by omega));have h2:=hc (c[k]'(by omega)) (List.getElem_mem (by omega));have:=Int.mul_le_mul_of_nonneg_left h1 h2;omega
theorem Nl {l:List (Int×Int)} (c:List Int) (hl:∀x∈l,x.1<=x.2):(hold l c).1<=(hold l c).2:=by
 unfold hold;split
 . rename_i q;simp only[Bool.and_eq_true,beq_iff_eq]at q;exact Mq hl (fun k hk=>(uF.1 q.2 k hk).1) q.1.2 _ (Nat.le_refl _)
 . exact Int.le_refl _
theorem ED {l:List (Int×Int)} (hs:∀x∈l,jE x) (h1:1<=l.length) (h4:l.length<=4) {n:Nat} (hn:n<=29):
 0<=cheapest l n/\0<=(hold l (chosen l n)).1/\(hold l (chosen l n)).1<=21*n/\0<=(hold l (chosen l n)).2/\(hold l (chosen l n)).2<=21*n:=by
 have hok:bV l l.length=true:=IQ (fun x hx=>(hs x hx).fine) _ (by omega) (by omega);obtain⟨a,b⟩:=F9 hok (n:=n) (by omega)
 have hc:cheapest l n=lp l n:=by
  rw[kT hok (by omega)];unfold lp;rw[List.getD_eq_getElem?_getD,List.getElem?_eq_getElem (by rw[eH];omega)];rfl
 have hle:=Nl (l:=l) (chosen l n) (fun x hx=>by have:=hs x hx;unfold jE at this;omega);obtain⟨p1,p2⟩:=L6 hs h1 n;rw[hc]at b⊢;refine⟨p1,?_,?_,?_,?_⟩<;>omega
def nH (k:Nat) (s p:Int):Prop:=s<=49+399*k/\p<=399*k
theorem uD {k j:Nat} {s p:Int} (h:nH k s p) (hk:k<=j):nH j s p:=by unfold nH at*;omega
theorem CQ {x:Fl} {s p r:Int} (h:dB (x,s,p,r)=true):0<=s/\s<=10000/\0<=p/\p<=10000/\0<=r/\r<=10000:=by
 have:=(mE.1 h).2;unfold inB at this;simp at this;omega
theorem Cc {x:Fl} {s p r:Int} {l:List (Int×Int)} {n:Int} {k:Nat} (h:dB (x,s,p,r)=true) (hf:nH k s p) (hb:(∀x∈l,jE x)/\1<=l.length/\l.length<=4) (hn:dR 20 n):nH (k+1) (vW (x,s,p,r) l n) (vX (x,s,p,r) l n):=by
 obtain⟨n',rfl⟩:∃n':Nat,n=n':=⟨n.toNat,by unfold dR at hn;omega⟩;have hn':n'<=19:=by unfold dR at hn;omega
 obtain⟨_,a1,a2,a3,a4⟩:=ED hb.1 hb.2.1 hb.2.2 (n:=n') (by omega);have hw:=CQ h;unfold vW vX;split
 . unfold uS;simp only;rw[IntWalk.i64_in _ (by omega),IntWalk.i64_in _ (by omega)];unfold nH at hf⊢;omega
 . exact uD hf (by omega)
theorem vD {x:Fl} {s p r:Int} {k:Nat} (i:Int) (hf:nH k s p):nH (k+1) (iX (x,s,p,r) i).2.1 (iX (x,s,p,r) i).2.2.1:=by
 unfold iX;split
 . unfold sG nH at*;simp only;omega
 . exact uD hf (by omega)
end Go.Proofs.YtljfoohaapckeaaGreatDoor
