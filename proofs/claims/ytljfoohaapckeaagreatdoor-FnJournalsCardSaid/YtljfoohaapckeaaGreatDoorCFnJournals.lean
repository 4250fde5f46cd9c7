/- FnJournals: the law's walk. No conditions but sizes; the library's table of powers. -/
import Derived.Test.YtljfoohaapckeaaGreatDoorCG40
import Derived.Test.YtljfoohaapckeaaGreatDoorCG21
import Derived.Test.YtljfoohaapckeaaGreatDoorCG36
import Derived.Test.YtljfoohaapckeaaGreatDoorCFlDo2
namespace Go.Proofs.YtljfoohaapckeaaGreatDoor
open Go.ChangeShapes Go.WideShapes Go.ChangeAt Go.RowKit
set_option linter.unusedVariables false
set_option linter.unusedSimpArgs false
set_option maxHeartbeats 4000000
set_option maxRecDepth 100000
theorem J3 (v:Value) (l:List Int) (w:World) (h:Rd 1 kT w v l):Calls Tryz.prog 13 #[v] w (Pure (.bool (decide (1048576<l.length))) w):=by
 obtain⟨A,c,rfl,hc,hm⟩:=h.form;go_enter Tryz.func13,Tryz.ntmps13
 go_wp2;go_ret;exact⟨by simp;omega,rfl⟩
theorem Ap {u1 u2 u3 u4:Value} {y:Fl} (hk:iL y=true) (hs:dG y) (W:World) {B:Nat} (h:aF B W u1 u2 u3 u4 y):Calls Tryz.prog 38 #[.agg #[u1,u2,u3,u4]] W (Ret (.bool true) W):=by
 have:=jC u1 u2 u3 u4 y.1 y.2.1 y.2.2.1 y.2.2.2 W h.ra h.rb h.rc h.rd hs.2.1;rw[show dC y.1 y.2.1 y.2.2.1 y.2.2.2=true from hk]at this;exact this
theorem alB {w w':World} {o:Obj} (hg:(w.alloc o).grownBy w' (some w.heap.size)):Below w.heap.size w w':=((Below.refl w.heap.size w).al o).grown hg ((Below.refl w.heap.size w).al o).size (fun k hk=>by injection hk with hk;subst hk;exact Nat.le_refl _)
theorem Ji {x:Fl} (h:iL x=true) (hs:dG x):iL (eO x)=true/\(eO x).2.2.2.length=0/\dG (eO x)/\(eO x).2.2.1=x.2.1:=by
 have e:eO x=xG x 0:=by unfold eO;rw[if_pos h]
 refine⟨by rw[e];exact LM h 0,by rw[e];exact Jp (Nat.zero_le _),by rw[e];exact Ea hs h 0,Nc h⟩
theorem Cn (w : World) (tab : Tab w) (v : Value) (l : List Int) (h : Rd 1 kT w v l) (ok : lV (fun x => 0 <= x /\ x <= 255) l) : Calls Tryz.prog 7 #[v] w (Ret (.bool true) w) := by
 by_cases hsz:1048576<l.length
 . have hd : decide (1048576 < l.length) = true := by simpa using hsz
   have Hd:=SQ hd;clear hd;go_enter Tryz.func7,Tryz.ntmps7
   go_wp2_with fail
   refine(J3 _ l _ h).mono ?_;rintro e w0 ⟨rfl,rfl⟩;rw[Hd.out];go_wp2;go_ret;exact⟨rfl,Below.refl _ _⟩
 . have hd : decide (1048576 < l.length) = false := by simpa using hsz
   have Hd:=SQ hd;clear hd;have hl:l.length<=1048576:=(by omega);have Hok:=SQ ok;have HTB:=SQ tab;clear ok tab;go_enter Tryz.func7,Tryz.ntmps7
   go_wp2_with fail
   refine(J3 _ l _ h).mono ?_;rintro e w0 ⟨rfl,rfl⟩;rw[Hd.out];go_wp2_with fail
   refine(Fv _ l _ h Hok.out hl).mono ?_;rintro e w1 ⟨x,V1,V2,V3,V4,rfl,oF,hg0,hs0,hb1⟩;have HG:=SQ hg0;have HS:=SQ hs0;clear hg0 hs0;obtain⟨F1,f1,rfl,_,_⟩:=oF.a.form;obtain⟨F2,f2,rfl,_,_⟩:=oF.b.form;obtain⟨F3,f3,rfl,_,_⟩:=oF.c.form;obtain⟨F4,f4,rfl,_,_⟩:=oF.d.form;go_upto_region 4 with(refine aA rfl 30 _ _ rfl w1.heap.size #[.slice F1 x.1.length f1,.slice F2 x.2.1.length f2,.slice F3 x.2.2.1.length f3,.slice F4 x.2.2.2.length f4] rfl rfl _ _ (Blk.aY w1 30 #[.slice none 0 0,.slice none 0 0,.slice none 0 0,.slice none 0 0]) (by kernel_rfl) rfl (sG oF.one) ?_;intro w2 bF hg2)
   have oF2:=aF.alg oF (by decide) (by decide) (by decide) hg2;have B2:=hb1.tr (alB hg2);clear oF hb1 hg2;obtain⟨gF,hgF⟩:=SL w1.heap.size;rw[<-hgF]at bF⊢;clear hgF;obtain⟨y_0,y_1,y_2,y_3⟩:=bF.n4;have CU:=GD _ _ _ _ x w2 oF2.ra oF2.rb oF2.rc oF2.rd HS.out;have HU:=SQ (Ji HG.out.1 HS.out);obtain⟨xu,hxu⟩:=SL (eO x);rw[<-hxu]at CU HU;clear hxu;go_wp2_with fail
   refine CU.mono ?_;rintro e w3 ⟨A1,a1,A2,a2,A3,a3,A4,a4,rfl,oU,hb3⟩;clear y_0 y_1 y_2 y_3 CU;go_upto_region 5 with(refine aA rfl 30 _ _ rfl w3.heap.size #[.slice A1 xu.1.length a1,.slice A2 xu.2.1.length a2,.slice A3 xu.2.2.1.length a3,.slice A4 xu.2.2.2.length a4] rfl rfl _ _ (Blk.aY w3 30 #[.slice none 0 0,.slice none 0 0,.slice none 0 0,.slice none 0 0]) (by kernel_rfl) rfl (sG oU.one) ?_;intro w4 bU hg4)
   have oU4:=aF.alg oU (by decide) (by decide) (by decide) hg4;have B4:=hb3.tr (alB hg4);clear oU hb3 hg4;obtain⟨gU,hgU⟩:=SL w3.heap.size;rw[<-hgU]at bU⊢;clear hgU;obtain⟨y_0,y_1,y_2,y_3⟩:=(bF.bl B4).n4;have CS:=K9 _ _ _ _ x w4 (oF2.below B4).ra (oF2.below B4).rb (oF2.below B4).rc (oF2.below B4).rd HS.out (HTB.out.below (B2.tr B4));have HSh:=SQ (Q6 HG.out);have HSm:=SQ (Pe HS.out);rw[HSh.out.1]at CS;obtain⟨xs,hxs⟩:=SL (J2 x);rw[<-hxs]at CS HSh HSm;clear hxs;go_wp2_with fail
   refine CS.mono ?_;rintro e w5 ⟨E1,e1,E2,e2,E3,e3,E4,e4,rfl,oS,hb5⟩;clear y_0 y_1 y_2 y_3 CS;go_upto_region 6 with(refine aA rfl 30 _ _ rfl w5.heap.size #[.slice E1 xs.1.length e1,.slice E2 xs.2.1.length e2,.slice E3 xs.2.2.1.length e3,.slice E4 xs.2.2.2.length e4] rfl rfl _ _ (Blk.aY w5 30 #[.slice none 0 0,.slice none 0 0,.slice none 0 0,.slice none 0 0]) (by kernel_rfl) rfl (sG oS.one) ?_;intro w6 bS hg6)
   have oS6:=aF.alg oS (by decide) (by decide) (by decide) hg6;have D6:=hb5.tr (alB hg6);have B6:=B4.tr D6;have bU6:=bU.bl D6;have oU6:=oU4.below D6;clear oS hb5 hg6 oU4 bU B4 D6;obtain⟨gS,hgS⟩:=SL w5.heap.size;rw[<-hgS]at bS⊢;clear hgS;obtain⟨y_0,y_1,y_2,y_3⟩:=(bF.bl B6).n4;go_wp2_with fail
   refine(qM _ x.2.2.1 _ (oF2.below B6).rc).mono ?_;rintro e w7 ⟨A7,c7,rfl,oL,hb7⟩;have HL:=SQ (fun c (hc:c∈dP x.2.2.1)=>jS.1 hc);obtain⟨L,hL⟩:=SL (dP x.2.2.1);rw[<-hL]at oL HL⊢;have B7:=B6.tr hb7;have bU7:=bU6.bl hb7;have oU7:=oU6.below hb7;have bS7:=bS.bl hb7;have oS7:=oS6.below hb7;clear y_0 y_1 y_2 y_3 hb7 B6 bU6 oU6 bS oS6 hL;obtain⟨y_0,y_1,y_2,y_3⟩:=(bF.bl B7).n4;have hsm:Small x.1.length:=HS.out.1;have CN:=O7 _ x.1 w7 (oF2.below B7).ra hsm;have HN:=SQ (rW HG.out.2.1).2.1;rw[(rW HG.out.2.1).1]at CN;have HNs:=SQ (nP hsm);obtain⟨xn,hxn⟩:=SL (fM x.1);rw[<-hxn]at CN HN HNs;clear hxn;go_wp2_with fail
   refine CN.mono ?_;rintro e w8 ⟨N1,n1,N2,n2,N3,n3,N4,n4,rfl,oN,hb8⟩;clear y_0 y_1 y_2 y_3 CN;go_upto_region 8 with(refine aA rfl 30 _ _ rfl w8.heap.size #[.slice N1 xn.1.length n1,.slice N2 xn.2.1.length n2,.slice N3 xn.2.2.1.length n3,.slice N4 xn.2.2.2.length n4] rfl rfl _ _ (Blk.aY w8 30 #[.slice none 0 0,.slice none 0 0,.slice none 0 0,.slice none 0 0]) (by kernel_rfl) rfl (sG oN.one) ?_;intro w9 bN hg9)
   have oN9:=aF.alg oN (by decide) (by decide) (by decide) hg9;have D9:=hb8.tr (alB hg9);have B9:=B7.tr D9;have bU9:=bU7.bl D9;have oU9:=oU7.below D9;have bS9:=bS7.bl D9;have oS9:=oS7.below D9;have oL9:=oL.below D9;clear oN hb8 hg9 bU7 oU7 bS7 oS7 oL B7 D9;obtain⟨gN,hgN⟩:=SL w8.heap.size;rw[<-hgN]at bN⊢;clear hgN;have bF9:=bF.bl B9;have oF9:=oF2.below B9;have K0:=Below.refl w9.heap.size w9;have hu0:(xu.2.2.2.length:Int)=0:=by have:=HU.out.2.1;omega
   have hsl:¬((x.2.2.2.length:Int)<(xs.2.2.2.length:Int)):=by have:=HSh.out.2.2.2;omega
   obtain⟨y_0,y_1,y_2,y_3⟩:=(bF9.bl K0).n4;obtain⟨u_0,u_1,u_2,u_3⟩:=(bU9.bl K0).n4;obtain⟨s_0,s_1,s_2,s_3⟩:=(bS9.bl K0).n4;obtain⟨n_0,n_1,n_2,n_3⟩:=(bN.bl K0).n4;go_wp2_with fail
   refine(Ap HG.out.1 HS.out _ (oF9.below K0)).mono ?_;rintro e wa ⟨rfl,hb⟩;have K1:=K0.tr hb;clear hb K0 y_0 y_1 y_2 y_3 u_0 u_1 u_2 u_3 s_0 s_1 s_2 s_3 n_0 n_1 n_2 n_3;obtain⟨y_0,y_1,y_2,y_3⟩:=(bF9.bl K1).n4;obtain⟨u_0,u_1,u_2,u_3⟩:=(bU9.bl K1).n4;obtain⟨s_0,s_1,s_2,s_3⟩:=(bS9.bl K1).n4;obtain⟨n_0,n_1,n_2,n_3⟩:=(bN.bl K1).n4;go_wp2_with fail
   refine(Ap HU.out.1 HU.out.2.2.1 _ (oU9.below K1)).mono ?_;rintro e wb ⟨rfl,hb⟩;have K2:=K1.tr hb;clear hb K1 y_0 y_1 y_2 y_3 u_0 u_1 u_2 u_3 s_0 s_1 s_2 s_3 n_0 n_1 n_2 n_3;obtain⟨y_0,y_1,y_2,y_3⟩:=(bF9.bl K2).n4;obtain⟨u_0,u_1,u_2,u_3⟩:=(bU9.bl K2).n4;obtain⟨s_0,s_1,s_2,s_3⟩:=(bS9.bl K2).n4;obtain⟨n_0,n_1,n_2,n_3⟩:=(bN.bl K2).n4;go_wp2_with fail
   refine(nJ _ _ x.2.1 _ (NL (oU9.below K2).rc HU.out.2.2.2) (oF9.below K2).rb).mono ?_;rintro e wc ⟨rfl,hb⟩;have K3:=K2.tr hb;clear hb K2 y_0 y_1 y_2 y_3 u_0 u_1 u_2 u_3 s_0 s_1 s_2 s_3 n_0 n_1 n_2 n_3;obtain⟨y_0,y_1,y_2,y_3⟩:=(bF9.bl K3).n4;obtain⟨u_0,u_1,u_2,u_3⟩:=(bU9.bl K3).n4;obtain⟨s_0,s_1,s_2,s_3⟩:=(bS9.bl K3).n4;obtain⟨n_0,n_1,n_2,n_3⟩:=(bN.bl K3).n4;go_wp2_with fail
   refine(Ap HSh.out.2.1 HSm.out _ (oS9.below K3)).mono ?_;rintro e wd ⟨rfl,hb⟩;have K4:=K3.tr hb;clear hb K3 y_0 y_1 y_2 y_3 u_0 u_1 u_2 u_3 s_0 s_1 s_2 s_3 n_0 n_1 n_2 n_3;obtain⟨y_0,y_1,y_2,y_3⟩:=(bF9.bl K4).n4;obtain⟨u_0,u_1,u_2,u_3⟩:=(bU9.bl K4).n4;obtain⟨s_0,s_1,s_2,s_3⟩:=(bS9.bl K4).n4;obtain⟨n_0,n_1,n_2,n_3⟩:=(bN.bl K4).n4;go_wp2_with fail
   refine(nJ _ _ x.2.2.1 _ (NL (oS9.below K4).rc (by rw[HSh.out.2.2.1])) (oF9.below K4).rc).mono ?_;rintro e we ⟨rfl,hb⟩;have K5:=K4.tr hb;clear hb K4 y_0 y_1 y_2 y_3 u_0 u_1 u_2 u_3 s_0 s_1 s_2 s_3 n_0 n_1 n_2 n_3;obtain⟨y_0,y_1,y_2,y_3⟩:=(bF9.bl K5).n4;obtain⟨u_0,u_1,u_2,u_3⟩:=(bU9.bl K5).n4;obtain⟨s_0,s_1,s_2,s_3⟩:=(bS9.bl K5).n4;obtain⟨n_0,n_1,n_2,n_3⟩:=(bN.bl K5).n4;go_wp2_with fail
   refine(nJ _ _ xn.2.1 _ (oN9.below K5).rb (NL (oN9.below K5).rc (by rw[HN.out]))).mono ?_;rintro e wf ⟨rfl,hb⟩;have K6:=K5.tr hb;clear hb K5 y_0 y_1 y_2 y_3 u_0 u_1 u_2 u_3 s_0 s_1 s_2 s_3 n_0 n_1 n_2 n_3;obtain⟨y_0,y_1,y_2,y_3⟩:=(bF9.bl K6).n4;obtain⟨u_0,u_1,u_2,u_3⟩:=(bU9.bl K6).n4;obtain⟨s_0,s_1,s_2,s_3⟩:=(bS9.bl K6).n4;obtain⟨n_0,n_1,n_2,n_3⟩:=(bN.bl K6).n4;clear y_0 y_1 y_2 y_3 u_0 u_1 u_2 u_3 s_0 s_1 s_2 s_3 n_0 n_1 n_2 n_3 hu0 hsl;have BZ:=B9.tr K6;have oLZ:=oL9.below K6;have bFZ:=bF9.bl K6;have oFZ:=oF9.below K6;by_cases hl0:L.length=0
   . have hl0I : (L.length : Int) = 0 := by omega
     go_wp2;go_ret;exact⟨rfl,B2.tr BZ⟩
   . have hl0I : ¬ (L.length : Int) = 0 := by omega
     have hLp:0<(L.length:Int):=(by omega);obtain⟨gL,rfl,hgL1,hgL2⟩:=oLZ.split (k:=0) (by omega);go_upto_region 12 with(fail)
     obtain⟨WZ,hWZ⟩:=SL wf;rw[<-hWZ]at BZ oLZ bFZ oFZ⊢;clear K6 hWZ oL9 bF9 oF9 bU9 oU9 bS9 oS9 bN oN9;obtain⟨y_0,y_1,y_2,y_3⟩:=bFZ.n4;have hFl:=bFZ.lt;obtain⟨n,hn⟩:=SL (xP l 0);have hn1:0<=n:=by rw[hn];exact(Nz Hok.out 0).1
     have CA:∀w',Below WZ.heap.size WZ w'->Calls Tryz.prog 25 #[v,.int .i64 0] w' (Pure (.int .i64 n) w'):=fun w' hb=>by rw[hn];exact K7 0 (by decide) v l w' (h.SN (B2.tr (BZ.tr hb))) Hok hl
     obtain⟨i,hi,hiL⟩:∃i:Nat,n.tmod (L.length:Int)=(i:Int)/\i<L.length:=⟨(n%(L.length:Int)).toNat,by rw[Int.tmod_eq_emod_of_nonneg hn1];have:=Int.emod_nonneg n hl0I;omega,by have:=Int.emod_nonneg n hl0I;have:=Int.emod_lt_of_pos n hLp;omega⟩;have hiI:(i:Int)<(L.length:Int):=Int.ofNat_lt.2 hiL;obtain⟨b,off,hA,hb,k0,k1⟩:=(oLZ.rd dY (by decide)).fE hiL;have hkc:=HL.out L[i] (List.getElem_mem hiL);obtain⟨⟨cx,cy⟩,hcx⟩:∃q,q=L[i]:=⟨_,rfl⟩;rw[<-hcx]at k0 k1 hkc;simp only at k0 k1;injection hA with hA;injection hA with hA1 hA2;subst hA1;subst hA2;simp only[Nat.zero_add]at k0 k1;have HB:=SQ (NB HG.out hkc);have HBs:=SQ (show dG (pI x (cx,cy)).1 from EP HS.out rfl)
     have CD : ∀ w', Below WZ.heap.size WZ w' -> Calls Tryz.prog 39 #[.agg #[.slice F1 x.1.length f1, .slice F2 x.2.1.length f2, .slice F3 x.2.2.1.length f3, .slice F4 x.2.2.2.length f4], .agg #[.int .i64 cx, .int .i64 cy]] w' (mE (pI x (cx, cy)).1 true w') := fun w' hb => by
      have:=QI _ _ _ _ x cx cy w' (oFZ.below hb).ra (oFZ.below hb).rb (oFZ.below hb).rc (oFZ.below hb).rd HS.out;rw[HB.out.1]at this;exact this
     obtain⟨xg,hxg⟩:=SL ((pI x (cx,cy)).1);rw[<-hxg]at CD HB HBs;clear hn hcx hkc hxg oLZ;clear HU HSh HSm HN HNs;have HA:=SQ CA;have HD:=SQ CD;clear CA CD;have Bw:Below WZ.heap.size WZ WZ.drew:=(Below.refl _ _).drew;have hz:WZ.heap.size<=WZ.drew.heap.size:=(by simp);refine rB (fun w'=>w'.cell? ⟨gF,0,none⟩=some (.slice F1 x.1.length f1)/\w'.cell? ⟨gF,1,none⟩=some (.slice F2 x.2.1.length f2)/\w'.cell? ⟨gF,2,none⟩=some (.slice F3 x.2.2.1.length f3)/\w'.cell? ⟨gF,3,none⟩=some (.slice F4 x.2.2.2.length f4)/\w'.cell? ⟨gL,i*2,none⟩=some (.int .i64 cx)/\w'.cell? ⟨gL,i*2+1,none⟩=some (.int .i64 cy)) fun hHeld=>(tW 0)<|(tW 1)<|(tW 2)<|(tW 4)<|(tW 5)<|(tR [3,13])<|tC (fun K hK=>?_) ?_
     go_simp
     (first|(go_at_call 25;go_must (refine(HA.out _ Bw).mono ?_;rintro e wX ⟨rfl,rfl⟩))|(go_at_call 39;go_must (refine(HD.out _ Bw).mono ?_;rintro e wX ⟨G1,g1,G2,g2,G3,g3,G4,g4,rfl,oG,hbX⟩;have oG:=oG.mono hz;(try replace bM:=bM.bl hbX);obtain⟨hcX,hfX,hzX⟩:=bkn hbX WZ.heap.size hz;have hz:=hzX;have Bw:=Bw.tr hbX)))
     refine tK hK fun hHeld=>?_
     clear hK K;refine(tW 6)<|(tW 7)<|(tW 8)<|(tR [9,13])<|tC (fun K hK=>?_) ?_;go_simp
     (first|(go_at_call 25;go_must (refine(HA.out _ Bw).mono ?_;rintro e wX ⟨rfl,rfl⟩))|(go_at_call 39;go_must (refine(HD.out _ Bw).mono ?_;rintro e wX ⟨G1,g1,G2,g2,G3,g3,G4,g4,rfl,oG,hbX⟩;have oG:=oG.mono hz;(try replace bM:=bM.bl hbX);obtain⟨hcX,hfX,hzX⟩:=bkn hbX WZ.heap.size hz;have hz:=hzX;have Bw:=Bw.tr hbX)))
     refine tK hK fun hHeld=>?_
     clear hK K;refine(tW 10)<|(tW 11)<|(tW 12)<|(tR [13])<|tL fun K hK=>?_
     (refine kE rfl 30 _ rfl Tryz.zeroValue30 ?_;intro gM wX bM hbX hgN1 hgN2 hgN3;have hgM:WZ.heap.size<=gM:=(by omega);obtain⟨hcX,hfX,hzX⟩:=bkn hbX WZ.heap.size hz;replace hz:=hzX;replace Bw:=Bw.tr hbX;(try replace oG:=oG.below hbX))
     refine tK hK fun hHeld=>?_
     clear hK K;refine(tR [14])<|tL fun K hK=>?_
     (refine aI rfl 30 _ _ rfl gM #[.slice G1 xg.1.length g1,.slice G2 xg.2.1.length g2,.slice G3 xg.2.2.1.length g3,.slice G4 xg.2.2.2.length g4] rfl rfl _ _ bM (by kernel_rfl) rfl (sG oG.one) ?_;intro wX bM5 hgX;have oG5:=aF.dZ oG bM (by decide) (by decide) (by decide) hgX;replace Bw:=Bw.grown hgX hz (fun k hk=>by injection hk with hk;subst hk;omega);obtain⟨hcX,hfX,hzX⟩:=bk Bw;have hz:=hzX)
     refine tK hK fun hHeld=>?_
     clear hK K;refine(tW 15)<|tD ?_
     rotate_left 1
     refine tL fun K hK=>?_
     (refine kE rfl 30 _ rfl Tryz.zeroValue30 ?_;intro gM wX bM hbX hgN1 hgN2 hgN3;have hgM:WZ.heap.size<=gM:=(by omega);obtain⟨hcX,hfX,hzX⟩:=bkn hbX WZ.heap.size hz;replace hz:=hzX;replace Bw:=Bw.tr hbX;(try replace oG:=oG.below hbX))
     refine tK hK fun hHeld=>?_
     clear hK K;refine(tR [9])<|tL fun K hK=>?_
     go_simp
     (first|(go_at_call 25;go_must (refine(HA.out _ Bw).mono ?_;rintro e wX ⟨rfl,rfl⟩))|(go_at_call 39;go_must (refine(HD.out _ Bw).mono ?_;rintro e wX ⟨G1,g1,G2,g2,G3,g3,G4,g4,rfl,oG,hbX⟩;have oG:=oG.mono hz;(try replace bM:=bM.bl hbX);obtain⟨hcX,hfX,hzX⟩:=bkn hbX WZ.heap.size hz;have hz:=hzX;have Bw:=Bw.tr hbX)))
     refine tK hK fun hHeld=>?_
     clear hK K;refine(tW 10)<|(tW 11)<|(tW 12)<|(tR [14])<|tL fun K hK=>?_
     (refine aI rfl 30 _ _ rfl gM #[.slice G1 xg.1.length g1,.slice G2 xg.2.1.length g2,.slice G3 xg.2.2.1.length g3,.slice G4 xg.2.2.2.length g4] rfl rfl _ _ bM (by kernel_rfl) rfl (sG oG.one) ?_;intro wX bM5 hgX;have oG5:=aF.dZ oG bM (by decide) (by decide) (by decide) hgX;replace Bw:=Bw.grown hgX hz (fun k hk=>by injection hk with hk;subst hk;omega);obtain⟨hcX,hfX,hzX⟩:=bk Bw;have hz:=hzX)
     refine tK hK fun hHeld=>?_
     clear hK K;refine(tW 15)<|tD ?_
     rotate_left 1
     refine tL fun K hK=>?_
     (refine kE rfl 30 _ rfl Tryz.zeroValue30 ?_;intro gM wX bM hbX hgN1 hgN2 hgN3;have hgM:WZ.heap.size<=gM:=(by omega);obtain⟨hcX,hfX,hzX⟩:=bkn hbX WZ.heap.size hz;replace hz:=hzX;replace Bw:=Bw.tr hbX;(try replace oG:=oG.below hbX))
     refine tK hK fun hHeld=>?_
     clear hK K;refine(tR [3])<|tL fun K hK=>?_
     go_simp
     (first|(go_at_call 25;go_must (refine(HA.out _ Bw).mono ?_;rintro e wX ⟨rfl,rfl⟩))|(go_at_call 39;go_must (refine(HD.out _ Bw).mono ?_;rintro e wX ⟨G1,g1,G2,g2,G3,g3,G4,g4,rfl,oG,hbX⟩;have oG:=oG.mono hz;(try replace bM:=bM.bl hbX);obtain⟨hcX,hfX,hzX⟩:=bkn hbX WZ.heap.size hz;have hz:=hzX;have Bw:=Bw.tr hbX)))
     refine tK hK fun hHeld=>?_
     clear hK K;refine(tW 6)<|(tW 7)<|(tW 8)<|(tR [9])<|tL fun K hK=>?_
     go_simp
     (first|(go_at_call 25;go_must (refine(HA.out _ Bw).mono ?_;rintro e wX ⟨rfl,rfl⟩))|(go_at_call 39;go_must (refine(HD.out _ Bw).mono ?_;rintro e wX ⟨G1,g1,G2,g2,G3,g3,G4,g4,rfl,oG,hbX⟩;have oG:=oG.mono hz;(try replace bM:=bM.bl hbX);obtain⟨hcX,hfX,hzX⟩:=bkn hbX WZ.heap.size hz;have hz:=hzX;have Bw:=Bw.tr hbX)))
     refine tK hK fun hHeld=>?_
     clear hK K;refine(tW 10)<|(tW 11)<|(tW 12)<|(tR [14])<|tL fun K hK=>?_
     (refine aI rfl 30 _ _ rfl gM #[.slice G1 xg.1.length g1,.slice G2 xg.2.1.length g2,.slice G3 xg.2.2.1.length g3,.slice G4 xg.2.2.2.length g4] rfl rfl _ _ bM (by kernel_rfl) rfl (sG oG.one) ?_;intro wX bM5 hgX;have oG5:=aF.dZ oG bM (by decide) (by decide) (by decide) hgX;replace Bw:=Bw.grown hgX hz (fun k hk=>by injection hk with hk;subst hk;omega);obtain⟨hcX,hfX,hzX⟩:=bk Bw;have hz:=hzX)
     refine tK hK fun hHeld=>?_
     clear hK K;refine(tW 15)<|tD ?_
     all_goals
       have bF5:=bFZ.bl Bw;have oF5:=oFZ.below Bw;have BV:=BZ.tr Bw;clear hHeld hcX hfX hzX hz Bw y_0 y_1 y_2 y_3 k0 k1 oG bM hFl hb bFZ oFZ BZ hi hiI hiL;obtain⟨g_0,g_1,g_2,g_3⟩:=bM5.n4;have CUU:=FW _ _ _ _ xg _ oG5.ra oG5.rb oG5.rc oG5.rd HBs.out;rw[HB.out.2.2.2]at CUU;go_wp2_with fail
       refine CUU.mono ?_;rintro e wu ⟨P1,p1,P2,p2,P3,p3,P4,p4,rfl,oH,hbu⟩;clear g_0 g_1 g_2 g_3 CUU;go_upto_region 14 with(refine aA rfl 30 _ _ rfl wu.heap.size #[.slice P1 x.1.length p1,.slice P2 x.2.1.length p2,.slice P3 x.2.2.1.length p3,.slice P4 x.2.2.2.length p4] rfl rfl _ _ (Blk.aY wu 30 #[.slice none 0 0,.slice none 0 0,.slice none 0 0,.slice none 0 0]) (by kernel_rfl) rfl (sG oH.one) ?_;intro wv bH hgv)
       have oHv:=aF.alg oH (by decide) (by decide) (by decide) hgv;have Dv:=hbu.tr (alB hgv);have bMv:=bM5.bl Dv;have bFv:=bF5.bl Dv;have oFv:=oF5.below Dv;have oGv:=oG5.below Dv;have BV2:=BV.tr Dv;clear oH hbu hgv bM5 bF5 oF5 oG5 BV Dv;obtain⟨gH,hgH⟩:=SL wu.heap.size;rw[<-hgH]at bH⊢;clear hgH;obtain⟨g_0,g_1,g_2,g_3⟩:=bMv.n4;obtain⟨y_0,y_1,y_2,y_3⟩:=bFv.n4;obtain⟨u_0,u_1,u_2,u_3⟩:=bH.n4;have h9:=HG.out.2.2.2
       have eL:IntKind.i64.wrap ((x.2.2.2.length:Int)+1)=(xg.2.2.2.length:Int):=by
        rw[HB.out.2.2.1,IntWalk.i64_in _ (by omega)];simp
       clear h9;go_wp2_with fail
       refine(Ap HB.out.2.1 HBs.out _ oGv).mono ?_;rintro e wk ⟨rfl,hbk⟩;clear g_0 g_1 g_2 g_3 y_0 y_1 y_2 y_3 u_0 u_1 u_2 u_3;obtain⟨g_0,g_1,g_2,g_3⟩:=(bMv.bl hbk).n4;obtain⟨y_0,y_1,y_2,y_3⟩:=(bFv.bl hbk).n4;obtain⟨u_0,u_1,u_2,u_3⟩:=(bH.bl hbk).n4;go_wp2_with fail
       refine(nJ _ _ x.2.2.1 _ (oHv.below hbk).rc (oFv.below hbk).rc).mono ?_;rintro e wl ⟨rfl,hbl⟩;go_wp2;go_ret;exact⟨rfl,(B2.tr BV2).tr (hbk.tr hbl)⟩
end Go.Proofs.YtljfoohaapckeaaGreatDoor
