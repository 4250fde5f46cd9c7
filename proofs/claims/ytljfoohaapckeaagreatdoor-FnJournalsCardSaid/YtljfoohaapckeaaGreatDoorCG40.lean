/- Floors, workshops and boxes drawn; a number out of the code. Conditions: sizes. ShortenFlips of both sides: the walks. Conditions: sizes; the library's table of powers, as its text lays it. A shortest journal leads to the same floor. Plain laws; no program in sight. -/
import Derived.Test.YtljfoohaapckeaaGreatDoorCDrawW
import Derived.Test.YtljfoohaapckeaaGreatDoorCG32
import Derived.Test.YtljfoohaapckeaaGreatDoorCG19
import Derived.Test.YtljfoohaapckeaaGreatDoorCG8
import Derived.Test.YtljfoohaapckeaaGreatDoorCG23
import Derived.Test.YtljfoohaapckeaaGreatDoorCG6
import Derived.Test.YtljfoohaapckeaaGreatDoorCG38
open _root_.Go.Proofs.Tryz (prog func25 ntmps25 func35 ntmps35 results35)
namespace Go.Proofs.YtljfoohaapckeaaGreatDoor
open Go.ChangeShapes Go.WideShapes Go.ChangeAt Go.RowKit
set_option linter.unusedVariables false
set_option linter.unusedSimpArgs false
set_option maxHeartbeats 4000000
set_option maxRecDepth 100000
def Sc (w:World) (e:Ending) (w':World):Prop:=∃(x:Fl) (V1 V2 V3 V4:Value),e= .returned (.agg #[V1,V2,V3,V4])/\aF w.heap.size w' V1 V2 V3 V4 x/\tO 0 x/\dG x/\Below w.heap.size w w'
theorem Fv (v : Value) (l : List Int) (w : World) (h : Rd 1 kT w v l) (ok : lV (fun x => 0 <= x /\ x <= 255) l) (hl : l.length <= 1048576) : Calls prog 33 #[v] w (Sc w) := by
 have Hok:=SQ ok;have hX:=Blk.aY w 30 #[.slice none 0 0,.slice none 0 0,.slice none 0 0,.slice none 0 0];have hA:=(Below.refl w.heap.size w).al (.cells #[.slice none 0 0,.slice none 0 0,.slice none 0 0,.slice none 0 0] 30);go_enter Tryz.func33,Tryz.ntmps33
 go_wp2_with fail
 refine(GV _ l _ (h.SN hA) ok hl).mono ?_;rintro e w1 ⟨g,rfl,hg,hcur,hb1⟩;have hgw:w.heap.size<=g:=by simp at hg;omega
 have D:DS w w w1 g v l.length:=⟨hcur,hA.tr hb1,NK (World.grownBy.refl w (some g)) (hA.tr hb1)⟩;replace hX:=hX.bl hb1;have hW:w.heap.size<=w.heap.size:=Nat.le_refl _;clear hcur hb1 hA;obtain⟨gX,hgX'⟩:=SL w.heap.size;have HgX:=SQ hgX';rw[<-hgX']at hX;have hgX:w.heap.size<=gX:=(by omega);have hne:=(D.cur.ne hX (by decide)).symm;clear hgX' hg;go_wp2_with fail
 refine(Fu w g v l _ h Hok hgw D.B D.cur).mono ?_;rintro e w2 ⟨x,V1,V2,V3,V4,rfl,own,hf,hsm,D2⟩;replace hX:=hX.ds D.cur D2.gr (by decide);replace own:=own.mono (B':=w.heap.size) D.gr.size;replace D:=D.tr D2;have Hf:=SQ hf;have Hs:=SQ hsm;clear hf hsm D2;go_wp2_with (rw[<-HgX.out];refine aA rfl 30 _ _ rfl gX #[V1,V2,V3,V4] rfl rfl _ _ hX (by kernel_rfl) rfl (sG own.one) ?_;intro wE bE hgE)
 have oE:=aF.dZ own hX (by decide) (by decide) (by decide) hgE;obtain⟨q_0,q_1,q_2,q_3⟩:=bE.n4;refine bodyPost_ret (v:= .agg #[V1,V2,V3,V4]) (by simp[results,Tryz.results33,go_sem,q_0,q_1,q_2,q_3]) rfl ⟨x,V1,V2,V3,V4,rfl,oE,Hf.out,Hs.out,(D.st hgE hgX hW hne).B⟩
def xP (l:List Int) (i:Int):Int:=if l.length=0 then 0 else l.getD ((i*5+1)%(l.length:Int)).toNat 0
theorem Nz {l : List Int} (ok : lV (fun x => 0 <= x /\ x <= 255) l) (i : Int) : 0 <= xP l i /\ xP l i <= 255 := by
 unfold xP;split
 . exact⟨Int.le_refl _,by decide⟩
 . rw[List.getD_eq_getElem?_getD];rcases h:l[((i*5+1)%(l.length:Int)).toNat]? with _|x
   . exact⟨Int.le_refl _,by decide⟩
   . exact ok x (List.mem_of_getElem? h)
theorem K7 (i : Int) (hi : 0 <= i /\ i <= 1000) (v : Value) (l : List Int) (w : World) (h : Rd 1 kT w v l) (Hok : Hid (lV (fun x => 0 <= x /\ x <= 255) l)) (hl : l.length <= 1048576) : Calls prog 25 #[v, .int .i64 i] w (Pure (.int .i64 (xP l i)) w) := by
 obtain⟨A,c,rfl,hc,hm⟩:=h.form;obtain⟨R,hR⟩:=SL (xP l i);rw[<-hR];by_cases h0:l.length=0
 . have h0I : (l.length : Int) = 0 := by omega
   obtain rfl:R=0:=by rw[hR];unfold xP;rw[if_pos h0]
   clear hR;go_enter func25,ntmps25
   go_wp2;go_ret;exact⟨rfl,rfl⟩
 . have h0I : ¬ (l.length : Int) = 0 := by omega
   have hpos:0<(l.length:Int):=(by omega);obtain⟨k,hk⟩:∃k:Nat,(i*5+1)%(l.length:Int)=(k:Int):=⟨((i*5+1)%(l.length:Int)).toNat,by have:=Int.emod_nonneg (i*5+1) h0I;omega⟩;have hkl:k<l.length:=by have:=Int.emod_lt_of_pos (i*5+1) hpos;omega
   have hki:(k:Int)<(l.length:Int):=(by omega);obtain⟨b,off,rfl,hb,h1⟩:=h.Li hkl;have hbyte:=Hok.out l[k] (List.getElem_mem hkl)
   have hRk:R=l[k]:=by
    rw[hR];unfold xP;rw[if_neg h0,hk,Int.toNat_natCast,List.getD_eq_getElem?_getD,List.getElem?_eq_getElem hkl];rfl
   rw[<-hRk]at h1 hbyte;have hy1:=hbyte.1;have hy2:=hbyte.2;have e1:IntKind.i64.wrap (i*5)=i*5:=IntWalk.i64_in _ (by omega);have e2:IntKind.i64.wrap (i*5+1)=i*5+1:=IntWalk.i64_in _ (by omega);have e3:IntKind.i64.wrap R=R:=IntWalk.i64_in _ (by omega);clear hR hRk hbyte;have hi0:0<=i*5+1:=(by omega);go_enter func25,ntmps25
   go_wp2;go_ret;exact⟨by simp_all,rfl⟩
noncomputable def J2 (x:Fl):Fl:=if iL x=true/\sS x.1 x.2.1 x.2.2.1=true then(x.1,x.2.1,x.2.2.1,uS x.1 x.2.1 x.2.2.1)else x
noncomputable def shB (x:Fl):Bool:=iL x&&sS x.1 x.2.1 x.2.2.1
theorem NA (v1 v2 v3 v4:Value) (x:Fl) (w:World) (h1:Rd 1 bV w v1 x.1) (h2:Rd 3 bG w v2 x.2.1) (h3:Rd 3 bG w v3 x.2.2.1) (h4:Rd 2 eD w v4 x.2.2.2) (hs:dG x) (ht:Tab w)
    (hno:iL x=false∨(iL x=true/\sS x.1 x.2.1 x.2.2.1=false)):Calls prog 35 #[.agg #[v1,v2,v3,v4]] w (mE x false w):=by
 have HT:=SQ ht;clear ht;have hs4:=hs;obtain⟨rows,f,n,cs⟩:=x;simp only at h1 h2 h3 h4;obtain⟨s1,s2,s3,s4⟩:=hs;simp only at s1 s2 s3 s4;obtain⟨A1,c1,rfl,hc1,hm1⟩:=h1.form;obtain⟨A2,c2,rfl,hc2,hm2⟩:=h2.form;obtain⟨A3,c3,rfl,hc3,hm3⟩:=h3.form;obtain⟨A4,c4,rfl,hc4,hm4⟩:=h4.form;have B0:=((Below.refl w.heap.size w).al (.cells #[.slice A1 rows.length c1,.slice A2 f.length c2,.slice A3 n.length c3,.slice A4 cs.length c4] 30)).al (.cells #[.slice none 0 0,.slice none 0 0,.slice none 0 0,.slice none 0 0] 30);have bP:=(Blk.aY w 30 #[.slice A1 rows.length c1,.slice A2 f.length c2,.slice A3 n.length c3,.slice A4 cs.length c4]).alloc (.cells #[.slice none 0 0,.slice none 0 0,.slice none 0 0,.slice none 0 0] 30);have bR:=Blk.iX (w.alloc (.cells #[.slice A1 rows.length c1,.slice A2 f.length c2,.slice A3 n.length c3,.slice A4 cs.length c4] 30)) 30 #[.slice none 0 0,.slice none 0 0,.slice none 0 0,.slice none 0 0] (w.heap.size+1) (by simp);go_enter func35,ntmps35
 go_wp2_with fail
 obtain⟨W0,hW0⟩:=SL ((w.alloc (.cells #[.slice A1 rows.length c1,.slice A2 f.length c2,.slice A3 n.length c3,.slice A4 cs.length c4] 30)).alloc (.cells #[.slice none 0 0,.slice none 0 0,.slice none 0 0,.slice none 0 0] 30));obtain⟨gP,hgP⟩:=SL w.heap.size;obtain⟨gR,hgR'⟩:=SL (w.heap.size+1);rw[<-hW0]at B0 bP bR⊢;rw[<-hgR']at bR⊢;rw[<-hgP]at bP⊢;have hgR:w.heap.size<=gR:=(by omega);have hPR:gP≠gR:=(by omega);have hw0:w.heap.size<=W0.heap.size:=B0.size;clear hW0 hgP hgR';obtain⟨z_0,z_1,z_2,z_3⟩:=bP.n4;have hp0:=bP.lt;have hr0:=bR.lt;go_wp2_with fail
 refine(jG _ _ _ _ (rows,f,n,cs) _ (h1.SN B0) (h2.SN B0) (h3.SN B0) (h4.SN B0) hs4).mono ?_;rintro e w1 ⟨C1,e1,C2,e2,C3,e3,C4,e4,rfl,oF,hb1⟩;have oF:=(oF.mono hw0).alloc (.cells #[.slice none 0 0,.slice none 0 0,.slice none 0 0,.slice none 0 0] 30);have B1:=(B0.tr hb1).al (.cells #[.slice none 0 0,.slice none 0 0,.slice none 0 0,.slice none 0 0] 30);have bP1:=(bP.bl hb1).alloc (.cells #[.slice none 0 0,.slice none 0 0,.slice none 0 0,.slice none 0 0] 30);have bR1:=(bR.bl hb1).alloc (.cells #[.slice none 0 0,.slice none 0 0,.slice none 0 0,.slice none 0 0] 30);have bO:=Blk.aY w1 30 #[.slice none 0 0,.slice none 0 0,.slice none 0 0,.slice none 0 0];have hgO:w.heap.size<=w1.heap.size:=(B0.tr hb1).size;have hPl:=(bP.bl hb1).lt;have hRl:=(bR.bl hb1).lt;clear z_0 z_1 z_2 z_3;go_wp2_with (refine aA rfl 30 _ _ rfl w1.heap.size #[.slice C1 rows.length e1,.slice C2 f.length e2,.slice C3 n.length e3,.slice C4 cs.length e4] rfl rfl _ _ bO (by kernel_rfl) rfl (by simp[Value.oneCell']) ?_;intro wS bS hgS;have oS:=aF.dZ oF bO (by decide) (by decide) (by decide) hgS;have bPS:=bP1.grown hgS (by simp;omega);have bRS:=bR1.grown hgS (by simp;omega);have BS:=B1.grown hgS B1.size (fun k hk=>by injection hk with hk;subst hk;exact hgO);obtain⟨c_0,c_1,c_2,c_3⟩:=bPS.n4)
 refine(jC _ _ _ _ rows f n cs _ (h1.SN BS) (h2.SN BS) (h3.SN BS) (h4.SN BS) s2).mono ?_;rintro e w2 ⟨rfl,hb2⟩;have B2:=BS.tr hb2;have bR2:=bRS.bl hb2;have bO2:=bS.bl hb2;have bP2:=bPS.bl hb2;have oF2:=oS.below hb2;clear c_0 c_1 c_2 c_3;rcases hno with hno|⟨hok,hw⟩
 . rw[show dC rows f n cs=false from hno];obtain⟨y_0,y_1,y_2,y_3⟩:=bO2.n4;go_wp2_with (refine aA rfl 30 _ _ rfl gR #[.slice C1 rows.length e1,.slice C2 f.length e2,.slice C3 n.length e3,.slice C4 cs.length e4] rfl rfl _ _ bR2 (by kernel_rfl) rfl (by simp[Value.oneCell']) ?_;intro wE bE hgE)
   have oE:aF w.heap.size wE _ _ _ _ _:=aF.dZ oF2 bR2 (by decide) (by decide) (by decide) hgE;have BE:=B2.grown hgE B2.size (fun k hk=>by injection hk with hk;subst hk;exact hgR);obtain⟨q_0,q_1,q_2,q_3⟩:=bE.n4;refine bodyPost_ret (v:= .tuple #[.agg #[.slice C1 rows.length e1,.slice C2 f.length e2,.slice C3 n.length e3,.slice C4 cs.length e4],.bool false]) (by simp[results,results35,go_sem,q_0,q_1,q_2,q_3]) rfl ⟨C1,e1,C2,e2,C3,e3,C4,e4,rfl,oE,BE⟩
 . skip;rw[show dC rows f n cs=true from hok];obtain⟨c_0,c_1,c_2,c_3⟩:=bP2.n4;go_wp2_with fail
   refine(JU _ _ _ rows f n _ (h1.SN B2) (h2.SN B2) (h3.SN B2) (HT.out.below B2)).mono ?_;rintro e w3 ⟨D,d,rfl,oW,hb3⟩;have B3:=B2.tr hb3;have bR3:=bR2.bl hb3;have bO3:=bO2.bl hb3;have oF3:=oF2.below hb3;clear c_0 c_1 c_2 c_3;rw[show sS rows f n=false from hw];obtain⟨y_0,y_1,y_2,y_3⟩:=bO3.n4;go_wp2_with (refine aA rfl 30 _ _ rfl gR #[.slice C1 rows.length e1,.slice C2 f.length e2,.slice C3 n.length e3,.slice C4 cs.length e4] rfl rfl _ _ bR3 (by kernel_rfl) rfl (by simp[Value.oneCell']) ?_;intro wE bE hgE)
   have oE:aF w.heap.size wE _ _ _ _ _:=aF.dZ oF3 bR3 (by decide) (by decide) (by decide) hgE;have BE:=B3.grown hgE B3.size (fun k hk=>by injection hk with hk;subst hk;exact hgR);obtain⟨q_0,q_1,q_2,q_3⟩:=bE.n4;refine bodyPost_ret (v:= .tuple #[.agg #[.slice C1 rows.length e1,.slice C2 f.length e2,.slice C3 n.length e3,.slice C4 cs.length e4],.bool false]) (by simp[results,results35,go_sem,q_0,q_1,q_2,q_3]) rfl ⟨C1,e1,C2,e2,C3,e3,C4,e4,rfl,oE,BE⟩
theorem K8 (v1 v2 v3 v4:Value) (x:Fl) (w:World) (h1:Rd 1 bV w v1 x.1) (h2:Rd 3 bG w v2 x.2.1) (h3:Rd 3 bG w v3 x.2.2.1) (h4:Rd 2 eD w v4 x.2.2.2) (hs:dG x) (ht:Tab w)
    (hok:iL x=true) (hw:sS x.1 x.2.1 x.2.2.1=true):Calls prog 35 #[.agg #[v1,v2,v3,v4]] w (mE (x.1,x.2.1,x.2.2.1,uS x.1 x.2.1 x.2.2.1) true w):=by
 have HT:=SQ ht;clear ht;obtain⟨y,hy⟩:=SL (((x.1,x.2.1,x.2.2.1,uS x.1 x.2.1 x.2.2.1):Fl));rw[<-hy];have hs4:=hs;obtain⟨rows,f,n,cs⟩:=x;simp only at h1 h2 h3 h4;obtain⟨s1,s2,s3,s4⟩:=hs;simp only at s1 s2 s3 s4;obtain⟨A1,c1,rfl,hc1,hm1⟩:=h1.form;obtain⟨A2,c2,rfl,hc2,hm2⟩:=h2.form;obtain⟨A3,c3,rfl,hc3,hm3⟩:=h3.form;obtain⟨A4,c4,rfl,hc4,hm4⟩:=h4.form;have B0:=((Below.refl w.heap.size w).al (.cells #[.slice A1 rows.length c1,.slice A2 f.length c2,.slice A3 n.length c3,.slice A4 cs.length c4] 30)).al (.cells #[.slice none 0 0,.slice none 0 0,.slice none 0 0,.slice none 0 0] 30);have bP:=(Blk.aY w 30 #[.slice A1 rows.length c1,.slice A2 f.length c2,.slice A3 n.length c3,.slice A4 cs.length c4]).alloc (.cells #[.slice none 0 0,.slice none 0 0,.slice none 0 0,.slice none 0 0] 30);have bR:=Blk.iX (w.alloc (.cells #[.slice A1 rows.length c1,.slice A2 f.length c2,.slice A3 n.length c3,.slice A4 cs.length c4] 30)) 30 #[.slice none 0 0,.slice none 0 0,.slice none 0 0,.slice none 0 0] (w.heap.size+1) (by simp);go_enter func35,ntmps35
 go_wp2_with fail
 obtain⟨W0,hW0⟩:=SL ((w.alloc (.cells #[.slice A1 rows.length c1,.slice A2 f.length c2,.slice A3 n.length c3,.slice A4 cs.length c4] 30)).alloc (.cells #[.slice none 0 0,.slice none 0 0,.slice none 0 0,.slice none 0 0] 30));obtain⟨gP,hgP⟩:=SL w.heap.size;obtain⟨gR,hgR'⟩:=SL (w.heap.size+1);rw[<-hW0]at B0 bP bR⊢;rw[<-hgR']at bR⊢;rw[<-hgP]at bP⊢;have hgR:w.heap.size<=gR:=(by omega);have hPR:gP≠gR:=(by omega);have hw0:w.heap.size<=W0.heap.size:=B0.size;clear hW0 hgP hgR';obtain⟨z_0,z_1,z_2,z_3⟩:=bP.n4;have hp0:=bP.lt;have hr0:=bR.lt;go_wp2_with fail
 refine(jG _ _ _ _ (rows,f,n,cs) _ (h1.SN B0) (h2.SN B0) (h3.SN B0) (h4.SN B0) hs4).mono ?_;rintro e w1 ⟨C1,e1,C2,e2,C3,e3,C4,e4,rfl,oF,hb1⟩;have oF:=(oF.mono hw0).alloc (.cells #[.slice none 0 0,.slice none 0 0,.slice none 0 0,.slice none 0 0] 30);have B1:=(B0.tr hb1).al (.cells #[.slice none 0 0,.slice none 0 0,.slice none 0 0,.slice none 0 0] 30);have bP1:=(bP.bl hb1).alloc (.cells #[.slice none 0 0,.slice none 0 0,.slice none 0 0,.slice none 0 0] 30);have bR1:=(bR.bl hb1).alloc (.cells #[.slice none 0 0,.slice none 0 0,.slice none 0 0,.slice none 0 0] 30);have bO:=Blk.aY w1 30 #[.slice none 0 0,.slice none 0 0,.slice none 0 0,.slice none 0 0];have hgO:w.heap.size<=w1.heap.size:=(B0.tr hb1).size;have hPl:=(bP.bl hb1).lt;have hRl:=(bR.bl hb1).lt;clear z_0 z_1 z_2 z_3;go_wp2_with (refine aA rfl 30 _ _ rfl w1.heap.size #[.slice C1 rows.length e1,.slice C2 f.length e2,.slice C3 n.length e3,.slice C4 cs.length e4] rfl rfl _ _ bO (by kernel_rfl) rfl (by simp[Value.oneCell']) ?_;intro wS bS hgS;have oS:=aF.dZ oF bO (by decide) (by decide) (by decide) hgS;have bPS:=bP1.grown hgS (by simp;omega);have bRS:=bR1.grown hgS (by simp;omega);have BS:=B1.grown hgS B1.size (fun k hk=>by injection hk with hk;subst hk;exact hgO);obtain⟨c_0,c_1,c_2,c_3⟩:=bPS.n4)
 refine(jC _ _ _ _ rows f n cs _ (h1.SN BS) (h2.SN BS) (h3.SN BS) (h4.SN BS) s2).mono ?_;rintro e w2 ⟨rfl,hb2⟩;have B2:=BS.tr hb2;have bR2:=bRS.bl hb2;have bO2:=bS.bl hb2;have bP2:=bPS.bl hb2;have oF2:=oS.below hb2;clear c_0 c_1 c_2 c_3;rw[show dC rows f n cs=true from hok];obtain⟨c_0,c_1,c_2,c_3⟩:=bP2.n4;go_wp2_with fail
 refine(JU _ _ _ rows f n _ (h1.SN B2) (h2.SN B2) (h3.SN B2) (HT.out.below B2)).mono ?_;rintro e w3 ⟨D,d,rfl,oW,hb3⟩;have B3:=B2.tr hb3;have bR3:=bR2.bl hb3;have bO3:=bO2.bl hb3;have oF3:=oF2.below hb3;clear c_0 c_1 c_2 c_3;rw[show sS rows f n=true from hw];obtain⟨t,ht⟩:=SL (uS rows f n);rw[<-ht]at oW⊢;have hy':y=(rows,f,n,t):=(by rw[hy,ht]);have HY:=SQ hy';clear hy hy' ht;obtain⟨y_0,y_1,y_2,y_3⟩:=bO3.n4;have fO:∀j,w3.frozen? ⟨w1.heap.size,j,none⟩=false:=fun j=>bO3.frozen j
 have oG:=oF3.Sw (oW.mono B2.size) (World.grownBy.refl w3 _);have hgh:=eF (World.grownBy.refl w3 (some w1.heap.size)) 3 (.slice D t.length d);have bO4:=bO3.st 3 (.slice D t.length d) #[.slice C1 rows.length e1,.slice C2 f.length e2,.slice C3 n.length e3,.slice D t.length d] rfl;have oF4:=aF.dZ oG bO3 (by decide) (by decide) (by decide) hgh;have bR4:=bR3.grown hgh (by simp;omega);have B4:=B3.grown hgh B3.size (fun k hk=>by injection hk with hk;subst hk;exact hgO);go_wp2_with (refine aA rfl 30 _ _ rfl gR #[.slice C1 rows.length e1,.slice C2 f.length e2,.slice C3 n.length e3,.slice D t.length d] rfl rfl _ _ bR4 (by kernel_rfl) rfl (by simp[Value.oneCell']) ?_;intro wE bE hgE)
 have oE:aF w.heap.size wE _ _ _ _ _:=aF.dZ oF4 bR4 (by decide) (by decide) (by decide) hgE;have BE:=B4.grown hgE B4.size (fun k hk=>by injection hk with hk;subst hk;exact hgR);obtain⟨q_0,q_1,q_2,q_3⟩:=bE.n4;refine bodyPost_ret (v:= .tuple #[.agg #[.slice C1 rows.length e1,.slice C2 f.length e2,.slice C3 n.length e3,.slice D t.length d],.bool true]) (by simp[results,results35,go_sem,q_0,q_1,q_2,q_3]) rfl (by rw[HY.out];exact⟨C1,e1,C2,e2,C3,e3,D,d,rfl,oE,BE⟩)
theorem Q0 {T:List (List Dm)} (hT:jR T) (k i:Nat):nV T k i<=300:=by
 unfold nV;split
 . rename_i h;have h1:=h.choose_spec.top i;have h2:=hT.sm;omega
 . exact(by decide:(-1:Int)<=300)
theorem Pd (rows:List Int) (a b:List Dm):(uS rows a b).length<=300:=by
 unfold uS;split
 . have h1:=Q0 (wG rows) (ix (aD rows) b) (ix (aD rows) a);have h2:=Ee (aD rows) (nV (aD rows) (ix (aD rows) b)) (nV (aD rows) (ix (aD rows) b) (ix (aD rows) a)).toNat (ix (aD rows) a);omega
 . exact Nat.zero_le _
theorem Pe {x:Fl} (hs:dG x):dG (J2 x):=by
 unfold J2;split
 . have:=Pd x.1 x.2.1 x.2.2.1;exact⟨hs.1,hs.2.1,hs.2.2.1,by unfold Small;simp only;omega⟩
 . exact hs
theorem LA {x:Fl} (h:iL x=true/\sS x.1 x.2.1 x.2.2.1=true):J2 x=(x.1,x.2.1,x.2.2.1,uS x.1 x.2.1 x.2.2.1)/\shB x=true:=⟨if_pos h,by unfold shB;rw[h.1,h.2];rfl⟩
theorem Ql {x:Fl} (h:¬(iL x=true/\sS x.1 x.2.1 x.2.2.1=true)):J2 x=x/\shB x=false/\(iL x=false∨(iL x=true/\sS x.1 x.2.1 x.2.2.1=false)):=by
 refine⟨if_neg h,?_,?_⟩
 . unfold shB;cases q:iL x
   . rfl
   . cases q2:sS x.1 x.2.1 x.2.2.1
     . rfl
     . exact absurd ⟨q,q2⟩ h
 . cases q:iL x
   . exact .inl rfl
   . cases q2:sS x.1 x.2.1 x.2.2.1
     . exact .inr ⟨rfl,rfl⟩
     . exact absurd ⟨q,q2⟩ h
theorem K9 (v1 v2 v3 v4:Value) (x:Fl) (w:World) (h1:Rd 1 bV w v1 x.1) (h2:Rd 3 bG w v2 x.2.1) (h3:Rd 3 bG w v3 x.2.2.1) (h4:Rd 2 eD w v4 x.2.2.2) (hs:dG x) (ht:Tab w):Calls prog 35 #[.agg #[v1,v2,v3,v4]] w (mE (J2 x) (shB x) w):=by
 by_cases h:iL x=true/\sS x.1 x.2.1 x.2.2.1=true
 . rw[(LA h).1,(LA h).2];exact K8 v1 v2 v3 v4 x w h1 h2 h3 h4 hs ht h.1 h.2
 . rw[(Ql h).1,(Ql h).2.1];exact NA v1 v2 v3 v4 x w h1 h2 h3 h4 hs ht (Ql h).2.2
theorem Ie {T:List (List Dm)} (hT:jR T) {k:Nat}:∀(m:Nat) (f:Nat->Int) (q:List Nat) (p:Nat),Bfs (Edge T) k T.length f q p->p<=q.length->2*(T.length-q.length)+(q.length-p)<=m->∃f,jL (Edge T) k T.length f
  | 0, f, q, p, h, hp, hm => by
   have e:p=q.length:=(by omega);subst e;exact⟨f,Eb h⟩
  | m + 1, f, q, p, h, hp, hm => by
   by_cases hlt:p<q.length
   . by_cases hx:∃i,Edge T q[p] i/\f i<0
     . obtain⟨i,he,hn⟩:=hx;have hi:=xN hT he;have h2:=HV h hlt hi he hn;have hl:=h2.len;rw[List.length_append,List.length_singleton]at hl;exact Ie hT m _ _ p h2 (by rw[List.length_append,List.length_singleton];omega) (by rw[List.length_append,List.length_singleton];omega)
     . refine Ie hT m f q (p + 1) (ER h hlt fun i he => ?_) hlt (by omega);refine Int.not_lt.1 fun hn=>hx ⟨i,he,hn⟩
   . have e : p = q.length := by omega
     subst e;exact⟨f,Eb h⟩
theorem Q5 {T:List (List Dm)} (hT:jR T) {k:Nat} (hk:k<T.length):jL (Edge T) k T.length (nV T k):=by
 obtain⟨f,hf⟩:=Ie hT (k:=k) (2*T.length+1) (f0 k) [k] 0 (Bl _ hk) (Nat.zero_le _) (by simp;omega);rw[H5 hf];exact hf
theorem Gr {T:List (List Dm)} (hT:jR T) {a:List Dm} {c:Cl} (ha:a∈T) (hk:kindOf a c≠0):aR a c∈T/\Edge T (ix T (aR a c)) (ix T a):=by
 obtain⟨h1,h2⟩:=mF ha;refine⟨(hT.cl a ha c hk).1,Gc hT ⟨h1,List.mem_map.2 ⟨c,?_,?_⟩⟩⟩
 . rw[fI h1,h2];exact jS.2 hk
 . rw[fI h1,h2]
theorem go_mem {T:List (List Dm)} (hT:jR T):∀(cs:List Cl) {a b:List Dm},a∈T->eX a cs=some b->b∈T
  | [], a, b, ha, h => by
   have e:a=b:=Option.some.inj h;exact e▸ha
  | c :: r, a, b, ha, h => by
   unfold eX at h;split at h
   . cases h
   . rename_i q;exact go_mem hT r (Gr hT ha q).1 h
theorem Mw {T:List (List Dm)} (hT:jR T) {k n:Nat} {f:Nat->Int} (hd:jL (Edge T) k n f):∀(cs:List Cl) {a b:List Dm},a∈T->eX a cs=some b->0<=f (ix T b)->0<=f (ix T a)/\f (ix T a)<=f (ix T b)+cs.length
  | [], a, b, ha, h, hb => by
   have e:a=b:=Option.some.inj h;subst e;exact⟨hb,by simp⟩
  | c :: r, a, b, ha, h, hb => by
   unfold eX at h;split at h
   . cases h
   . rename_i q;obtain⟨h1,h2⟩:=Gr hT ha q;obtain⟨h4,h5⟩:=Mw hT hd r h1 h hb;obtain⟨h6,h7⟩:=hd.edge _ _ h4 h2;refine⟨h6,?_⟩;rw[List.length_cons];omega
theorem P7 {T:List (List Dm)} (hT:jR T) {k n:Nat} {f:Nat->Int} (hd:jL (Edge T) k n f):∀(m i:Nat),f i=m->i<T.length->eX (til T i) (rH T f m i)=some (til T k)
  | 0, i, h, hi => by
   obtain rfl:=hd.zero i h;rfl
  | m + 1, i, h, hi => by
   obtain⟨c,h1,h2,h3,h4,h5⟩:=Bn hT hd (i:=i) (m:=m) (by rw[h];rfl)
   have e:aR (til T i) c=til T (rZ T i c):=by
    rw[fI h4];have h6:=(hT.cl _ (List.getElem_mem h5) c (by rw[<-fI h5];exact h2)).1;rw[<-fI h5]at h6;exact(mF h6).2.symm
   rw[ES h1];unfold eX;rw[if_neg h2,e];exact P7 hT hd m _ h3 h4
theorem Pf {rows:List Int} (h:R12 rows):aD rows=iM (setOf rows)/\dD rows∈aD rows:=by
 obtain⟨h1,h2,h3,h4⟩:=h;have hne:aU rows≠0:=(by omega);have e:aD rows=iM (setOf rows):=by unfold aD;rw[if_pos (by unfold inB;simp;omega)]
 refine⟨e,?_⟩;rw[e];unfold dD;rw[if_neg hne];exact DJ (dM h1) (by rw[<-P6 h1];exact hne)
theorem Q6 {x:Fl} (h:tO 0 x):shB x=true/\iL (J2 x)=true/\J2 x=(x.1,x.2.1,x.2.2.1,(J2 x).2.2.2)/\(J2 x).2.2.2.length<=x.2.2.2.length:=by
 obtain⟨h1,h2,h3,h4⟩:=h;obtain⟨f1,f2,f3⟩:=lU.1 h1;have hT:=wG x.1;have ha:x.2.1∈aD x.1:=by rw[h3];exact(Pf h2).2
 have hb:=go_mem hT x.2.2.2 ha f3;obtain⟨k1,k2⟩:=mF hb;obtain⟨i1,i2⟩:=mF ha;have hd:=Q5 hT k1;have h0:=hd.st;obtain⟨d1,d2⟩:=Mw hT hd x.2.2.2 ha f3 (by rw[h0];exact Int.le_refl _);rw[h0]at d2;have hw:sS x.1 x.2.1 x.2.2.1=true:=by unfold sS;rw[decide_eq_true ha,decide_eq_true hb,decide_eq_true d1];rfl
 have hs:=LA ⟨h1,hw⟩;have hwl:uS x.1 x.2.1 x.2.2.1=rH (aD x.1) (nV (aD x.1) (ix (aD x.1) x.2.2.1)) (nV (aD x.1) (ix (aD x.1) x.2.2.1) (ix (aD x.1) x.2.1)).toNat (ix (aD x.1) x.2.1):=by unfold uS;rw[if_pos hw]
 have hg:=P7 hT hd (nV (aD x.1) (ix (aD x.1) x.2.2.1) (ix (aD x.1) x.2.1)).toNat (ix (aD x.1) x.2.1) (by omega) i1;rw[fI i1,fI k1,i2,k2,<-hwl]at hg
 have hl:(uS x.1 x.2.1 x.2.2.1).length<=x.2.2.2.length:=by
  rw[hwl];refine Nat.le_trans (Ee _ _ _ _) ?_;omega
 refine⟨hs.2,?_,by rw[hs.1],by rw[hs.1];exact hl⟩;rw[hs.1];exact lU.2 ⟨f1,Nat.le_trans hl f2,hg⟩
theorem NB {x:Fl} {c:Cl} (h:tO 0 x) (hc:kindOf x.2.2.1 c≠0):(pI x c).2=true/\iL (pI x c).1=true/\(pI x c).1.2.2.2.length=x.2.2.2.length+1/\sV (pI x c).1=(x,true):=by
 obtain⟨h1,h2,h3,h4⟩:=h;have e:=N7 (c:=c) h1 (by omega) hc;have h5:=Ic c h1;rw[e]at h5⊢;refine⟨rfl,h5,by simp,?_⟩;have hl:(x.1,x.2.1,aR x.2.2.1 c,x.2.2.2++[c]).2.2.2.length=x.2.2.2.length+1:=(by simp);unfold sV;rw[if_pos ⟨h5,by rw[hl];omega⟩,hl];have hs:=FU h1;refine Prod.ext ?_ rfl;show xG (x.1,x.2.1,aR x.2.2.1 c,x.2.2.2++[c]) (x.2.2.2.length+1-1)=x;rw[show x.2.2.2.length+1-1=x.2.2.2.length from rfl];conv=>rhs;rw[<-hs]
 unfold xG;simp only[List.take_append_of_le_length (Nat.le_refl _)]
end Go.Proofs.YtljfoohaapckeaaGreatDoor
