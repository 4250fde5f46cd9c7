/- FnActParts: the law's walk. No conditions but sizes; the library's table of powers. -/
import Derived.Test.YtljfoohaapckeaaGreatDoorBG8
import Derived.Test.YtljfoohaapckeaaGreatDoorBG40
import Derived.Test.YtljfoohaapckeaaGreatDoorBG44
import Derived.Test.YtljfoohaapckeaaGreatDoorBG46
open _root_.Go.Proofs.Tryz (prog func5 ntmps5 zeroValue32)
namespace Go.Proofs.YtljfoohaapckeaaGreatDoor
open Go.ChangeShapes Go.WideShapes Go.ChangeAt Go.RowKit
set_option linter.unusedVariables false
set_option linter.unusedSimpArgs false
set_option maxHeartbeats 4000000
set_option maxRecDepth 100000
theorem IY (v:Value) (l:List Int) (w:World) (h:Rd 1 mE w v l):Calls prog 13 #[v] w (Pure (.bool (decide (1048576<l.length))) w):=by
 obtain⟨A,c,rfl,hc,hm⟩:=h.form;go_enter Tryz.func13,Tryz.ntmps13
 go_wp2;go_ret;exact⟨by simp;omega,rfl⟩
theorem alP {w w':World} {o:Obj} (hg:(w.alloc o).grownBy w' (some w.heap.size)):Below w.heap.size w w':=((Below.refl w.heap.size w).al o).grown hg ((Below.refl w.heap.size w).al o).size (fun k hk=>by injection hk with hk;subst hk;exact Nat.le_refl _)
theorem C8 {y:Wk} {l:List Ac} (hs:dA y.1):dA (qR y l).1.1:=by
 have h:∀(l:List Ac) (y:Wk) (ns:List Int),dA y.1->dA (goR y ns l).1.1:=by
  intro l;induction l with
  |nil=>intro y ns hs;exact hs
  |cons a l ih=>intro y ns hs;exact ih _ _ (Ff a hs)
 unfold qR;split
 . exact h _ _ _ hs
 . exact hs
theorem O3 {y:Wk} (h:aY y=true):0<(pK y).length:=by
 unfold pK;rw[if_pos h,List.length_append];have:(NR y).length=4:=rfl;omega
theorem Qg (x:Fl) (s p r:Int) (T:List ByteArray) (hs:dA x) (hT:T=pK (x,s,p,r)) {u1 u2 u3 u4:Value} {w:World} (h:R4 w u1 u2 u3 u4 x) (ht:Tab w):Calls prog 20 #[.agg #[u1,u2,u3,u4,.int .i64 s,.int .i64 p,.int .i64 r]] w (gH 9 1 pW T w):=by
 rw[hT];obtain⟨rows,fd,nd,fl⟩:=x;exact JP u1 u2 u3 u4 rows fd nd fl s p r w h.a h.b h.c h.d hs ht
theorem yU (u v:Value) (l:List ByteArray) (w:World) (h:Rd 1 (RE pW) w u l) (h':Rd 1 (RE pW) w v l):Calls prog 21 #[u,v] w (Ret (.bool true) w):=by
 have:=Bn u v l l w h h';rw[decide_eq_true (rfl:l=l)]at this;exact this
theorem Eh (u v:Value) (l:List Int) (w:World) (h:Rd 1 bH w u l) (h':Rd 1 bH w v l):Calls prog 22 #[u,v] w (Ret (.bool true) w):=by
 have:=Eg u v l l w h h';rw[beq_self_eq_true]at this;exact this
theorem AQ (w : World) (tab : Tab w) (v : Value) (l : List Int) (h : Rd 1 mE w v l) (ok : mK (fun x => 0 <= x /\ x <= 255) l) : Calls prog 5 #[v] w (Ret (.bool true) w) := by
 by_cases hsz:1048576<l.length
 . have hd : decide (1048576 < l.length) = true := by simpa using hsz
   have Hd:=Qk hd;clear hd;go_enter func5,ntmps5
   go_wp2_with fail
   refine(IY _ l _ h).mono ?_;rintro e w0 ⟨rfl,rfl⟩;rw[Hd.out];go_wp2;go_ret;exact⟨rfl,Below.refl _ _⟩
 . have hd : decide (1048576 < l.length) = false := by simpa using hsz
   have Hd:=Qk hd;clear hd;have hl:l.length<=1048576:=(by omega);have Hok:=Qk ok;have HTB:=Qk tab;clear ok tab;go_enter func5,ntmps5
   go_wp2_with fail
   refine(IY _ l _ h).mono ?_;rintro e w0 ⟨rfl,rfl⟩;rw[Hd.out];go_wp2_with fail
   refine(FI _ l _ h Hok.out hl).mono ?_;rintro e w1 ⟨x,s,p,r,V1,V2,V3,V4,al,A,c,rfl,oF,hk,hs,oA,hal,hac,hb1⟩;have HK:=Qk hk;have HS:=Qk hs;clear hk hs hac;go_upto_region 4 with(refine aA rfl 32 _ _ rfl w1.heap.size #[V1,V2,V3,V4,.int .i64 s,.int .i64 p,.int .i64 r] rfl rfl _ _ (Blk.aZ w1 32 #[.slice none 0 0,.slice none 0 0,.slice none 0 0,.slice none 0 0,.int .i64 0,.int .i64 0,.int .i64 0]) (by kernel_rfl) rfl (lN oF.one) ?_;intro w2 bO hg2)
   have oF2:=aC.alg oF (by decide) (by decide) (by decide) hg2;have oA2:=aD.uG (oA.alloc (.cells #[.slice none 0 0,.slice none 0 0,.slice none 0 0,.slice none 0 0,.int .i64 0,.int .i64 0,.int .i64 0] 32)) (Blk.aZ w1 32 #[.slice none 0 0,.slice none 0 0,.slice none 0 0,.slice none 0 0,.int .i64 0,.int .i64 0,.int .i64 0]) (by decide) hg2;have B2:=hb1.tr (alP hg2);clear oF oA hb1 hg2;obtain⟨gO,hgO⟩:=Qi w1.heap.size;rw[<-hgO]at bO⊢;clear hgO;go_wp2_with fail
   refine(Jf _ l _ (h.Qj B2) Hok.out hl).mono ?_;rintro e w3 ⟨ps,A7,c7,rfl,oP,hpl,hpb,hb3⟩;have h0:0<ps.length:=(by omega);obtain⟨b,off,rfl,hb,k1⟩:=(oP.rd aI (by decide)).pY h0;simp only[Nat.add_zero]at k1;have hp:=hpb ps[0] (List.getElem_mem h0);obtain⟨p0,hp0⟩:=Qi (ps[0]);rw[<-hp0]at k1 hp;have hnz:¬((al.length:Int)+1=0):=(by omega);have hw1:IntKind.i64.wrap ((al.length:Int)+1)=(al.length:Int)+1:=IntWalk.i64_in _ (by omega);obtain⟨k,hk,hkl⟩:∃k:Nat,p0%((al.length:Int)+1)=(k:Int)/\k<=al.length:=⟨(p0%((al.length:Int)+1)).toNat,by have:=Int.emod_nonneg p0 hnz;omega,by have:=Int.emod_nonneg p0 hnz;have:=Int.emod_lt_of_pos p0 (show(0:Int)<(al.length:Int)+1 by omega);omega⟩;have hp1:0<=p0:=hp.1;clear hpl hpb hp hp0 oP;obtain⟨y_0,y_1,y_2,y_3,y_4,y_5,y_6⟩:=(bO.bl hb3).n7;obtain⟨e1,e2⟩:=JL HK.out (show al.length<=40 by omega) k;have CT:=DC V1 V2 V3 V4 (.slice A al.length c) x s p r al w3 (oF2.below hb3).ra (oF2.below hb3).rb (oF2.below hb3).rc (oF2.below hb3).rd ((oA2.below hb3).rd (fun _=>rfl) (by decide)) HS.out (HTB.out.below (B2.tr hb3));have hR1:=OZ al HK.out;have hR2:=C8 (l:=al) (y:=(x,s,p,r)) HS.out;have CY:∀(u:Value) (W:World),Below w2.heap.size w2 W->Rd 3 (RE tZ) W u (al.take k)->Calls prog 15 #[.agg #[V1,V2,V3,V4,.int .i64 s,.int .i64 p,.int .i64 r],u] W (J4 (qR (x,s,p,r) (al.take k)) W):=fun u W hb q=>DC V1 V2 V3 V4 u x s p r (al.take k) W (oF2.below hb).ra (oF2.below hb).rb (oF2.below hb).rc (oF2.below hb).rd q HS.out (HTB.out.below (B2.tr hb))
   have hY2:=C8 (l:=al.take k) (y:=(x,s,p,r)) HS.out;obtain⟨⟨⟨X,S,P,Q⟩,N⟩,hR⟩:∃R,R=qR (x,s,p,r) al:=⟨_,rfl⟩;obtain⟨⟨⟨Y,YS,YP,YQ⟩,N1⟩,hY⟩:∃R,R=qR (x,s,p,r) (al.take k):=⟨_,rfl⟩;rw[<-hY]at e1 e2 CY hY2;rw[<-hR]at e1 e2 CT hR1 hR2;obtain⟨⟨Z,N2⟩,hZ⟩:∃R,R=qR (Y,YS,YP,YQ) (al.drop k):=⟨_,rfl⟩;simp only at e1 e2 hR1 hR2 hY2;rw[<-hZ]at e1 e2;simp only at e1 e2;subst e1;have HR1:=Qk hR1;have HR2:=Qk hR2;have HY2:=Qk hY2;have HN:=Qk e2;have HZ:=Qk hZ;have HN40:Hid (N.length<=40):=Qk (by have:=Nk (l:=al) HK.out (by omega);rw[<-hR]at this;simp only at this;omega);clear hR1 hR2 hY2 e2 hZ hR hY;have HCY:=Qk CY;clear CY;go_upto_region 6 with(fail)
   go_wp2_with fail
   refine CT.mono ?_;rintro e w4 ⟨U1,U2,U3,U4,A5,c5,rfl,oX,oN,_,hb4⟩;simp only at oN oX;clear y_0 y_1 y_2 y_3 y_4 y_5 y_6 CT k1 hb hw1;go_upto_region 7 with(refine aA rfl 32 _ _ rfl w4.heap.size #[U1,U2,U3,U4,.int .i64 S,.int .i64 P,.int .i64 Q] rfl rfl _ _ (Blk.aZ w4 32 #[.slice none 0 0,.slice none 0 0,.slice none 0 0,.slice none 0 0,.int .i64 0,.int .i64 0,.int .i64 0]) (by kernel_rfl) rfl (lN oX.one) ?_;intro w5 bX hg5)
   have oX5:=aC.alg oX (by decide) (by decide) (by decide) hg5;have oN5:=oN.Qd (by decide) hg5;have B5:=hb3.tr (hb4.tr (alP hg5));clear hg5 oX hb3 hb4 oN;obtain⟨gX,hgX⟩:=Qi w4.heap.size;rw[<-hgX]at bX⊢;clear hgX;obtain⟨y_0,y_1,y_2,y_3,y_4,y_5,y_6⟩:=(bO.bl B5).n7;have hgl:=(bO.bl B5).lt;have oA5:=oA2.below B5
   have hcA:al.length<=c:=by
    obtain⟨A',c',e',h',_⟩:=oA5.form;injection e' with _ _ e3;omega
   have hs2:k<=c:=(by omega);have hs3:(k:Int)<=(c:Int):=(by omega);have rT5:Rd 3 (RE tZ) w5 (.slice A k c) (al.take k):=(oA5.takeA (fun _=>rfl) hkl).rd (fun _=>rfl) (by decide);have Bw:Below w5.heap.size w5 w5.drew:=(Below.refl _ _).drew;have hz:w5.heap.size<=w5.drew.heap.size:=(by simp);refine rB (fun w'=>w'.cell? ⟨gO,0,none⟩=some V1/\w'.cell? ⟨gO,1,none⟩=some V2/\w'.cell? ⟨gO,2,none⟩=some V3/\w'.cell? ⟨gO,3,none⟩=some V4/\w'.cell? ⟨gO,4,none⟩=some (.int .i64 s)/\w'.cell? ⟨gO,5,none⟩=some (.int .i64 p)/\w'.cell? ⟨gO,6,none⟩=some (.int .i64 r)) fun hHeld=>(tW 0)<|(tW 1)<|(tW 2)<|(tW 3)<|(tR [4,8])<|tC (fun K hK=>?_) ?_
   go_simp
   (go_at_call 15;go_must (refine(HCY.out _ _ (B5.tr Bw) (rT5.Qj Bw)).mono ?_;rintro e wX ⟨E1,E2,E3,E4,A6,c6,rfl,oT,oM,_,hbX⟩;simp only at oM oT;have oT:=oT.mono hz;have oM:=oM.mono hz;(try replace bM:=bM.bl hbX);obtain⟨hcX,hfX,hzX⟩:=bkn hbX w5.heap.size hz;have hz:=hzX;have Bw:=Bw.tr hbX))
   refine tK hK fun hHeld=>?_
   clear hK K;refine(tW 5)<|(tW 6)<|(tW 7)<|(tR [8])<|tL fun K hK=>?_
   (refine iR rfl 32 _ rfl zeroValue32 ?_;intro gM wX bM hbX hgN1 hgN2 hgN3;have hgM:w5.heap.size<=gM:=(by omega);obtain⟨hcX,hfX,hzX⟩:=bkn hbX w5.heap.size hz;replace hz:=hzX;replace Bw:=Bw.tr hbX;(try replace oT:=oT.below hbX);(try replace oM:=oM.below hbX))
   refine tK hK fun hHeld=>?_
   clear hK K;refine(tR [9])<|tL fun K hK=>?_
   (refine aG rfl 32 _ _ rfl gM #[E1,E2,E3,E4,.int .i64 YS,.int .i64 YP,.int .i64 YQ] rfl rfl _ _ bM (by kernel_rfl) rfl (lN oT.one) ?_;intro wX bM5 hgX;have oT5:=aC.dB oT bM (by decide) (by decide) (by decide) hgX;have oM5:=aD.uG oM bM (by decide) hgX;replace Bw:=Bw.grown hgX hz (fun k hk=>by injection hk with hk;subst hk;omega);obtain⟨hcX,hfX,hzX⟩:=bk Bw;have hz:=hzX)
   refine tK hK fun hHeld=>?_
   clear hK K;refine(tW 10)<|tD ?_
   rotate_left 1
   refine tL fun K hK=>?_
   (refine iR rfl 32 _ rfl zeroValue32 ?_;intro gM wX bM hbX hgN1 hgN2 hgN3;have hgM:w5.heap.size<=gM:=(by omega);obtain⟨hcX,hfX,hzX⟩:=bkn hbX w5.heap.size hz;replace hz:=hzX;replace Bw:=Bw.tr hbX;(try replace oT:=oT.below hbX);(try replace oM:=oM.below hbX))
   refine tK hK fun hHeld=>?_
   clear hK K;refine(tR [4])<|tL fun K hK=>?_
   go_simp
   (go_at_call 15;go_must (refine(HCY.out _ _ (B5.tr Bw) (rT5.Qj Bw)).mono ?_;rintro e wX ⟨E1,E2,E3,E4,A6,c6,rfl,oT,oM,_,hbX⟩;simp only at oM oT;have oT:=oT.mono hz;have oM:=oM.mono hz;(try replace bM:=bM.bl hbX);obtain⟨hcX,hfX,hzX⟩:=bkn hbX w5.heap.size hz;have hz:=hzX;have Bw:=Bw.tr hbX))
   refine tK hK fun hHeld=>?_
   clear hK K;refine(tW 5)<|(tW 6)<|(tW 7)<|(tR [9])<|tL fun K hK=>?_
   (refine aG rfl 32 _ _ rfl gM #[E1,E2,E3,E4,.int .i64 YS,.int .i64 YP,.int .i64 YQ] rfl rfl _ _ bM (by kernel_rfl) rfl (lN oT.one) ?_;intro wX bM5 hgX;have oT5:=aC.dB oT bM (by decide) (by decide) (by decide) hgX;have oM5:=aD.uG oM bM (by decide) hgX;replace Bw:=Bw.grown hgX hz (fun k hk=>by injection hk with hk;subst hk;omega);obtain⟨hcX,hfX,hzX⟩:=bk Bw;have hz:=hzX)
   refine tK hK fun hHeld=>?_
   clear hK K;refine(tW 10)<|tD ?_
   all_goals
     obtain⟨w6,rfl⟩:=Qi wX;obtain⟨gY,rfl⟩:=Qi gM;have D6:=B5.tr Bw;have bX6:=bX.bl Bw;have oX6:=oX5.below Bw;have oN6:=oN5.below Bw;have oA6:=oA5.below Bw;have bY6:=bM5;have oY6:=oT5;have oM6:=oM5;clear y_0 y_1 y_2 y_3 y_4 y_5 y_6 hHeld hcX hfX hzX hz Bw bM bM5 oT oT5 oM oM5 hgM hs2 hs3 hcA rT5 oA5 oX5 oN5 bX B5 hgl HCY
     have HCZ : Hid (∀ (u : Value) (W : World), Below w6.heap.size w6 W -> Rd 3 (RE tZ) W u (al.drop k) -> Calls prog 15 #[.agg #[E1, E2, E3, E4, .int .i64 YS, .int .i64 YP, .int .i64 YQ], u] W (J4 ((X, S, P, Q), N2) W)) := Qk (fun u W hb q => by
      rw[HZ.out];exact DC E1 E2 E3 E4 u Y YS YP YQ (al.drop k) W (oY6.below hb).ra (oY6.below hb).rb (oY6.below hb).rc (oY6.below hb).rd q HY2.out (HTB.out.below (B2.tr (D6.tr hb))))
     obtain⟨y_0,y_1,y_2,y_3,y_4,y_5,y_6⟩:=bY6.n7;have hgl:=bY6.lt;have hki:(k:Int)<=(al.length:Int):=(by omega);go_upto_region 8 with(fail)
     have Bw:Below w6.heap.size w6 w6.drew:=(Below.refl _ _).drew;have hz:w6.heap.size<=w6.drew.heap.size:=(by simp);refine rB (fun w'=>w'.cell? ⟨gY,0,none⟩=some E1/\w'.cell? ⟨gY,1,none⟩=some E2/\w'.cell? ⟨gY,2,none⟩=some E3/\w'.cell? ⟨gY,3,none⟩=some E4/\w'.cell? ⟨gY,4,none⟩=some (.int .i64 YS)/\w'.cell? ⟨gY,5,none⟩=some (.int .i64 YP)/\w'.cell? ⟨gY,6,none⟩=some (.int .i64 YQ)) fun hHeld=>(tW 0)<|(tW 1)<|(tW 2)<|(tR [3,8])<|tC (fun K hK=>?_) ?_
     (refine CZ JU ((oA6.below Bw).rd AX (by decide)) k hkl rfl _ _ rfl rfl rfl ?_;intro A8 c8 e8)
     refine tK hK fun hHeld=>?_
     clear hK K;refine(tR [4,8])<|tC (fun K hK=>?_) ?_;go_simp
     (go_at_call 15;go_must (refine(HCZ.out _ _ Bw (Dz (oA6.below Bw) AX (by decide) hkl e8)).mono ?_;rintro e wX ⟨G1,G2,G3,G4,A9,c9,rfl,oT,oM,_,hbX⟩;simp only at oM oT;have oT:=oT.mono hz;have oM:=oM.mono hz;(try replace bM:=bM.bl hbX);obtain⟨hcX,hfX,hzX⟩:=bkn hbX w6.heap.size hz;have hz:=hzX;have Bw:=Bw.tr hbX))
     refine tK hK fun hHeld=>?_
     clear hK K;refine(tW 5)<|(tW 6)<|(tW 7)<|(tR [8])<|tL fun K hK=>?_
     (refine iR rfl 32 _ rfl zeroValue32 ?_;intro gM wX bM hbX hgN1 hgN2 hgN3;have hgM:w6.heap.size<=gM:=(by omega);obtain⟨hcX,hfX,hzX⟩:=bkn hbX w6.heap.size hz;replace hz:=hzX;replace Bw:=Bw.tr hbX;(try replace oT:=oT.below hbX);(try replace oM:=oM.below hbX))
     refine tK hK fun hHeld=>?_
     clear hK K;refine(tR [9])<|tL fun K hK=>?_
     (refine aG rfl 32 _ _ rfl gM #[G1,G2,G3,G4,.int .i64 S,.int .i64 P,.int .i64 Q] rfl rfl _ _ bM (by kernel_rfl) rfl (lN oT.one) ?_;intro wX bM5 hgX;have oT5:=aC.dB oT bM (by decide) (by decide) (by decide) hgX;have oM5:=aD.uG oM bM (by decide) hgX;replace Bw:=Bw.grown hgX hz (fun k hk=>by injection hk with hk;subst hk;omega);obtain⟨hcX,hfX,hzX⟩:=bk Bw;have hz:=hzX)
     refine tK hK fun hHeld=>?_
     clear hK K;refine(tW 10)<|tD ?_
     rotate_left 1
     refine tL fun K hK=>?_
     (refine iR rfl 32 _ rfl zeroValue32 ?_;intro gM wX bM hbX hgN1 hgN2 hgN3;have hgM:w6.heap.size<=gM:=(by omega);obtain⟨hcX,hfX,hzX⟩:=bkn hbX w6.heap.size hz;replace hz:=hzX;replace Bw:=Bw.tr hbX;(try replace oT:=oT.below hbX);(try replace oM:=oM.below hbX))
     refine tK hK fun hHeld=>?_
     clear hK K;refine(tR [4])<|tL fun K hK=>?_
     go_simp
     (go_at_call 15;go_must (refine(HCZ.out _ _ Bw (Dz (oA6.below Bw) AX (by decide) hkl e8)).mono ?_;rintro e wX ⟨G1,G2,G3,G4,A9,c9,rfl,oT,oM,_,hbX⟩;simp only at oM oT;have oT:=oT.mono hz;have oM:=oM.mono hz;(try replace bM:=bM.bl hbX);obtain⟨hcX,hfX,hzX⟩:=bkn hbX w6.heap.size hz;have hz:=hzX;have Bw:=Bw.tr hbX))
     refine tK hK fun hHeld=>?_
     clear hK K;refine(tW 5)<|(tW 6)<|(tW 7)<|(tR [9])<|tL fun K hK=>?_
     (refine aG rfl 32 _ _ rfl gM #[G1,G2,G3,G4,.int .i64 S,.int .i64 P,.int .i64 Q] rfl rfl _ _ bM (by kernel_rfl) rfl (lN oT.one) ?_;intro wX bM5 hgX;have oT5:=aC.dB oT bM (by decide) (by decide) (by decide) hgX;have oM5:=aD.uG oM bM (by decide) hgX;replace Bw:=Bw.grown hgX hz (fun k hk=>by injection hk with hk;subst hk;omega);obtain⟨hcX,hfX,hzX⟩:=bk Bw;have hz:=hzX)
     refine tK hK fun hHeld=>?_
     clear hK K;refine(tW 10)<|tD ?_
     rotate_left 1
     refine tL fun K hK=>?_
     (refine iR rfl 32 _ rfl zeroValue32 ?_;intro gM wX bM hbX hgN1 hgN2 hgN3;have hgM:w6.heap.size<=gM:=(by omega);obtain⟨hcX,hfX,hzX⟩:=bkn hbX w6.heap.size hz;replace hz:=hzX;replace Bw:=Bw.tr hbX;(try replace oT:=oT.below hbX);(try replace oM:=oM.below hbX))
     refine tK hK fun hHeld=>?_
     clear hK K;refine(tR [3])<|tL fun K hK=>?_
     (refine CZ JU ((oA6.below Bw).rd AX (by decide)) k hkl rfl _ _ rfl rfl rfl ?_;intro A8 c8 e8)
     refine tK hK fun hHeld=>?_
     clear hK K;refine(tR [4])<|tL fun K hK=>?_
     go_simp
     (go_at_call 15;go_must (refine(HCZ.out _ _ Bw (Dz (oA6.below Bw) AX (by decide) hkl e8)).mono ?_;rintro e wX ⟨G1,G2,G3,G4,A9,c9,rfl,oT,oM,_,hbX⟩;simp only at oM oT;have oT:=oT.mono hz;have oM:=oM.mono hz;(try replace bM:=bM.bl hbX);obtain⟨hcX,hfX,hzX⟩:=bkn hbX w6.heap.size hz;have hz:=hzX;have Bw:=Bw.tr hbX))
     refine tK hK fun hHeld=>?_
     clear hK K;refine(tW 5)<|(tW 6)<|(tW 7)<|(tR [9])<|tL fun K hK=>?_
     (refine aG rfl 32 _ _ rfl gM #[G1,G2,G3,G4,.int .i64 S,.int .i64 P,.int .i64 Q] rfl rfl _ _ bM (by kernel_rfl) rfl (lN oT.one) ?_;intro wX bM5 hgX;have oT5:=aC.dB oT bM (by decide) (by decide) (by decide) hgX;have oM5:=aD.uG oM bM (by decide) hgX;replace Bw:=Bw.grown hgX hz (fun k hk=>by injection hk with hk;subst hk;omega);obtain⟨hcX,hfX,hzX⟩:=bk Bw;have hz:=hzX)
     refine tK hK fun hHeld=>?_
     clear hK K;refine(tW 10)<|tD ?_
     all_goals
       obtain⟨w7,rfl⟩:=Qi wX;obtain⟨gZ,rfl⟩:=Qi gM;have D7:=D6.tr Bw;have bX7:=bX6.bl Bw;have rX7:=(oX6.below Bw).r4;have oN7:=oN6.below Bw;have oM7:=oM6.below Bw;have bZ7:=bM5;have rZ7:=oT5.r4;have oK7:=oM5;clear y_0 y_1 y_2 y_3 y_4 y_5 y_6 hHeld hcX hfX hzX hz Bw bM bM5 oT oT5 oM oM5 hgM oA6 oX6 oN6 bX6 D6 hgl HCZ oY6 oM6 bY6 hki HZ e8;obtain⟨T,hT⟩:=Qi (pK (X,S,P,Q));have hTI:(0:Int)<(T.length:Int):=by rw[hT];have:=O3 HR1.out;omega
       have hTN:0<T.length:=(by omega);have hTd:decide ((0:Int)<(T.length:Int))=true:=decide_eq_true hTI;have HF:Hid (∀{u1 u2 u3 u4:Value} {W:World},R4 W u1 u2 u3 u4 X->Tab W->Calls prog 20 #[.agg #[u1,u2,u3,u4,.int .i64 S,.int .i64 P,.int .i64 Q]] W (gH 9 1 pW T W)):=Qk (fun q ht=>Qg X S P Q T HR2.out hT q ht);have hNl:N1.length+N2.length<=40:=by have h1:=HN40.out;rw[<-HN.out,List.length_append]at h1;exact h1
       have H8a:Hid ((([]:List Int).length+N1.length)*8<=140737488355328):=Qk (by simp;omega);have HMa:Hid (([]:List Int).length+N1.length<=maxLen):=Qk (by unfold maxLen;simp;omega);have H8b:Hid ((([]++N1:List Int).length+N2.length)*8<=140737488355328):=Qk (by simp;omega);have HMb:Hid (([]++N1:List Int).length+N2.length<=maxLen):=Qk (by unfold maxLen;simp;omega);have HNC:Hid (([]++N1)++N2=N):=Qk (by rw[List.nil_append];exact HN.out);obtain⟨y_0,y_1,y_2,y_3,y_4,y_5,y_6⟩:=bX7.n7;obtain⟨z_0,z_1,z_2,z_3,z_4,z_5,z_6⟩:=bZ7.n7;have hgl:=bX7.lt;have hgm:=bZ7.lt;clear hT hNl bX7 bZ7;go_upto_region 9 with(fail)
       have Bw:Below w7.heap.size w7 w7.drew:=(Below.refl _ _).drew;have hz:w7.heap.size<=w7.drew.heap.size:=(by simp);refine rB (fun w'=>w'.cell? ⟨gX,0,none⟩=some U1/\w'.cell? ⟨gX,1,none⟩=some U2/\w'.cell? ⟨gX,2,none⟩=some U3/\w'.cell? ⟨gX,3,none⟩=some U4/\w'.cell? ⟨gX,4,none⟩=some (.int .i64 S)/\w'.cell? ⟨gX,5,none⟩=some (.int .i64 P)/\w'.cell? ⟨gX,6,none⟩=some (.int .i64 Q)/\w'.cell? ⟨gZ,0,none⟩=some G1/\w'.cell? ⟨gZ,1,none⟩=some G2/\w'.cell? ⟨gZ,2,none⟩=some G3/\w'.cell? ⟨gZ,3,none⟩=some G4/\w'.cell? ⟨gZ,4,none⟩=some (.int .i64 S)/\w'.cell? ⟨gZ,5,none⟩=some (.int .i64 P)/\w'.cell? ⟨gZ,6,none⟩=some (.int .i64 Q)) fun hHeld=>(tW 0)<|(tR [1])<|tL fun K hK=>?_
       go_simp
       (first|(go_at_call 20;go_must (refine(HF.out (by first|exact rX7.bl Bw|exact rZ7.bl Bw) (HTB.out.below (B2.tr (D7.tr Bw)))).mono ?_;rintro e wX ⟨A3,a3,rfl,oQ,hbX⟩;(first|(replace oQ1:=oQ1.below hbX;(first|(replace oQ2:=oQ2.below hbX;have oQ3:=oQ)|have oQ2:=oQ))|have oQ1:=oQ);obtain⟨hcX,hfX,hzX⟩:=bkn hbX w7.heap.size hz;have hz:=hzX;have Bw:=Bw.tr hbX))|(go_at_call 21;go_must (refine(yU _ _ T _ (by first|exact oQ2.rd iF (by decide)|exact oQ3.rd iF (by decide)) (by first|exact oQ3.rd iF (by decide)|exact oQ2.rd iF (by decide))).mono ?_;rintro e wX ⟨rfl,hbX⟩;obtain⟨hcX,hfX,hzX⟩:=bkn hbX w7.heap.size hz;have hz:=hzX;have Bw:=Bw.tr hbX))|(go_at_call 22;go_must (refine(Eh _ _ N _ ((oN7.below Bw).rd aI (by decide)) (Gd (oC.rd aI (by decide)) HNC.out)).mono ?_;rintro e wX ⟨rfl,hbX⟩;obtain⟨hcX,hfX,hzX⟩:=bkn hbX w7.heap.size hz;have hz:=hzX;have Bw:=Bw.tr hbX)))
       refine tK hK fun hHeld=>?_
       clear hK K;refine(tW 2)<|(tW 3)<|(tW 4)<|(tW 5)<|(tW 7)<|(tR [6])<|tL fun K hK=>?_
       go_simp
       (first|(go_at_call 20;go_must (refine(HF.out (by first|exact rX7.bl Bw|exact rZ7.bl Bw) (HTB.out.below (B2.tr (D7.tr Bw)))).mono ?_;rintro e wX ⟨A3,a3,rfl,oQ,hbX⟩;(first|(replace oQ1:=oQ1.below hbX;(first|(replace oQ2:=oQ2.below hbX;have oQ3:=oQ)|have oQ2:=oQ))|have oQ1:=oQ);obtain⟨hcX,hfX,hzX⟩:=bkn hbX w7.heap.size hz;have hz:=hzX;have Bw:=Bw.tr hbX))|(go_at_call 21;go_must (refine(yU _ _ T _ (by first|exact oQ2.rd iF (by decide)|exact oQ3.rd iF (by decide)) (by first|exact oQ3.rd iF (by decide)|exact oQ2.rd iF (by decide))).mono ?_;rintro e wX ⟨rfl,hbX⟩;obtain⟨hcX,hfX,hzX⟩:=bkn hbX w7.heap.size hz;have hz:=hzX;have Bw:=Bw.tr hbX))|(go_at_call 22;go_must (refine(Eh _ _ N _ ((oN7.below Bw).rd aI (by decide)) (Gd (oC.rd aI (by decide)) HNC.out)).mono ?_;rintro e wX ⟨rfl,hbX⟩;obtain⟨hcX,hfX,hzX⟩:=bkn hbX w7.heap.size hz;have hz:=hzX;have Bw:=Bw.tr hbX)))
       refine tK hK fun hHeld=>?_
       clear hK K;refine(tR [8])<|tL fun K hK=>?_
       go_simp
       (first|(go_at_call 20;go_must (refine(HF.out (by first|exact rX7.bl Bw|exact rZ7.bl Bw) (HTB.out.below (B2.tr (D7.tr Bw)))).mono ?_;rintro e wX ⟨A3,a3,rfl,oQ,hbX⟩;(first|(replace oQ1:=oQ1.below hbX;(first|(replace oQ2:=oQ2.below hbX;have oQ3:=oQ)|have oQ2:=oQ))|have oQ1:=oQ);obtain⟨hcX,hfX,hzX⟩:=bkn hbX w7.heap.size hz;have hz:=hzX;have Bw:=Bw.tr hbX))|(go_at_call 21;go_must (refine(yU _ _ T _ (by first|exact oQ2.rd iF (by decide)|exact oQ3.rd iF (by decide)) (by first|exact oQ3.rd iF (by decide)|exact oQ2.rd iF (by decide))).mono ?_;rintro e wX ⟨rfl,hbX⟩;obtain⟨hcX,hfX,hzX⟩:=bkn hbX w7.heap.size hz;have hz:=hzX;have Bw:=Bw.tr hbX))|(go_at_call 22;go_must (refine(Eh _ _ N _ ((oN7.below Bw).rd aI (by decide)) (Gd (oC.rd aI (by decide)) HNC.out)).mono ?_;rintro e wX ⟨rfl,hbX⟩;obtain⟨hcX,hfX,hzX⟩:=bkn hbX w7.heap.size hz;have hz:=hzX;have Bw:=Bw.tr hbX)))
       refine tK hK fun hHeld=>?_
       clear hK K;refine(tR [9])<|tL fun K hK=>?_
       go_simp
       (first|(go_at_call 20;go_must (refine(HF.out (by first|exact rX7.bl Bw|exact rZ7.bl Bw) (HTB.out.below (B2.tr (D7.tr Bw)))).mono ?_;rintro e wX ⟨A3,a3,rfl,oQ,hbX⟩;(first|(replace oQ1:=oQ1.below hbX;(first|(replace oQ2:=oQ2.below hbX;have oQ3:=oQ)|have oQ2:=oQ))|have oQ1:=oQ);obtain⟨hcX,hfX,hzX⟩:=bkn hbX w7.heap.size hz;have hz:=hzX;have Bw:=Bw.tr hbX))|(go_at_call 21;go_must (refine(yU _ _ T _ (by first|exact oQ2.rd iF (by decide)|exact oQ3.rd iF (by decide)) (by first|exact oQ3.rd iF (by decide)|exact oQ2.rd iF (by decide))).mono ?_;rintro e wX ⟨rfl,hbX⟩;obtain⟨hcX,hfX,hzX⟩:=bkn hbX w7.heap.size hz;have hz:=hzX;have Bw:=Bw.tr hbX))|(go_at_call 22;go_must (refine(Eh _ _ N _ ((oN7.below Bw).rd aI (by decide)) (Gd (oC.rd aI (by decide)) HNC.out)).mono ?_;rintro e wX ⟨rfl,hbX⟩;obtain⟨hcX,hfX,hzX⟩:=bkn hbX w7.heap.size hz;have hz:=hzX;have Bw:=Bw.tr hbX)))
       refine tK hK fun hHeld=>?_
       clear hK K;refine(tW 10)<|(tW 11)<|(tW 12)<|(tW 14)<|(tW 16)<|(tR [13])<|tL fun K hK=>?_
       (refine G8 eB rfl ?_;intro gB wX bB hbX hgB hgz;have hgB2:w7.heap.size<=gB:=(by omega);obtain⟨hcX,hfX,hzX⟩:=bkn hbX w7.heap.size hz;replace hz:=hzX;replace Bw:=Bw.tr hbX)
       refine tK hK fun hHeld=>?_
       clear hK K;refine(tR [15])<|tL fun K hK=>?_
       (refine Fg eB aI iJ hz (LW (enc:=aX) bB hgB2) ((oM7.below Bw).rd aI (by decide)) H8a.out HMa.out _ _ rfl rfl rfl ?_;intro AB cB wX oB hbX;replace Bw:=Bw.trans hbX;obtain⟨hcX,hfX,hzX⟩:=bk Bw;replace hz:=hzX)
       refine tK hK fun hHeld=>?_
       clear hK K;refine(tR [17])<|tL fun K hK=>?_
       (refine Fg eB aI iJ hz oB ((oK7.below Bw).rd aI (by decide)) H8b.out HMb.out _ _ rfl rfl rfl ?_;intro AC cC wX oC hbX;replace Bw:=Bw.trans hbX;obtain⟨hcX,hfX,hzX⟩:=bk Bw;replace hz:=hzX)
       refine tK hK fun hHeld=>?_
       clear hK K;refine(tR [18])<|tL fun K hK=>?_
       go_simp
       (first|(go_at_call 20;go_must (refine(HF.out (by first|exact rX7.bl Bw|exact rZ7.bl Bw) (HTB.out.below (B2.tr (D7.tr Bw)))).mono ?_;rintro e wX ⟨A3,a3,rfl,oQ,hbX⟩;(first|(replace oQ1:=oQ1.below hbX;(first|(replace oQ2:=oQ2.below hbX;have oQ3:=oQ)|have oQ2:=oQ))|have oQ1:=oQ);obtain⟨hcX,hfX,hzX⟩:=bkn hbX w7.heap.size hz;have hz:=hzX;have Bw:=Bw.tr hbX))|(go_at_call 21;go_must (refine(yU _ _ T _ (by first|exact oQ2.rd iF (by decide)|exact oQ3.rd iF (by decide)) (by first|exact oQ3.rd iF (by decide)|exact oQ2.rd iF (by decide))).mono ?_;rintro e wX ⟨rfl,hbX⟩;obtain⟨hcX,hfX,hzX⟩:=bkn hbX w7.heap.size hz;have hz:=hzX;have Bw:=Bw.tr hbX))|(go_at_call 22;go_must (refine(Eh _ _ N _ ((oN7.below Bw).rd aI (by decide)) (Gd (oC.rd aI (by decide)) HNC.out)).mono ?_;rintro e wX ⟨rfl,hbX⟩;obtain⟨hcX,hfX,hzX⟩:=bkn hbX w7.heap.size hz;have hz:=hzX;have Bw:=Bw.tr hbX)))
       refine tK hK fun hHeld=>?_
       clear hK K;refine(tW 19)<|(tW 20)<|tD ?_
       all_goals
         go_wp2;go_ret;exact⟨rfl,B2.tr (D7.tr Bw)⟩
end Go.Proofs.YtljfoohaapckeaaGreatDoor
