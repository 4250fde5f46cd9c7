/- The law FnExactIsReplay: the walk. No conditions. -/
import Derived.Test.YtfdbcihcdjjdhaaGreatDoorYG48
import Derived.Test.YtfdbcihcdjjdhaaGreatDoorYG16
namespace Go.Proofs.YtfdbcihcdjjdhaaGreatDoor
open Go.ChangeShapes Go.WideShapes Go.ChangeAt Go.RowKit
set_option linter.unusedVariables false
set_option linter.unusedSimpArgs false
set_option maxHeartbeats 4000000
set_option maxRecDepth 100000
theorem eqActs_same (u v:Value) (l:List (Int×Int×Int)) (w:World) (h:Rd 3 (RE eTrip) w u l) (h':Rd 3 (RE eTrip) w v l):Calls Tryz.prog 32 #[u,v] w (Ret (.bool true) w):=by
 have:=eqActs_any u v l l w h h';rw[beq_self_eq_true]at this;exact this
theorem eqIntsQ (u v:Value) (l:List Int) (w:World) (h:Rd 1 RInt w u l) (h':Rd 1 RInt w v l):Calls Tryz.prog 31 #[u,v] w (Ret (.bool true) w):=by
 have:=eqInts_any u v l l w h h';rw[beq_self_eq_true]at this;exact this
theorem FnExactIsReplay_walk (w : World) (tab : Tab w) (cs0 : List Value) (x0 : Wk) (h0 : RWork w cs0 x0) (okx0 : WorkIn x0) (v5 : Value) (l : List Ac) (h5 : Rd 3 RTrip w v5 l) (ok5 : AllOk (fun x : Ac => I64 x.1 ∧ I64 x.2.1 ∧ I64 x.2.2) l) (v6 : Value) (ns : List Int) (h6 : Rd 1 RInt w v6 ns) (ok6 : AllOk I64 ns) :
 Calls Tryz.prog 6 #[.agg cs0.toArray,v5,v6] w (Ret (.bool true) w):=by
 have HT:=Lib.hid tab;clear tab;obtain⟨v1,v2,v3,v4,rfl,h1,h2,h3,h4⟩:=h0.form;obtain⟨x,s,p,r⟩:=x0;simp only at h1 h2 h3 h4⊢;obtain⟨P1,q1,rfl,_,_⟩:=h1.form;obtain⟨P2,q2,rfl,_,_⟩:=h2.form;obtain⟨P3,q3,rfl,_,_⟩:=h3.form;obtain⟨P4,q4,rfl,_,_⟩:=h4.form;obtain⟨A5,c5,rfl,_,_⟩:=h5.form;have B:=(Below.refl w.heap.size w).al (.cells #[.slice P1 x.1.length q1,.slice P2 x.2.1.length q2,.slice P3 x.2.2.1.length q3,.slice P4 x.2.2.2.length q4,.int .i64 s,.int .i64 p,.int .i64 r] 30);have bA:=Blk.new_ w 30 #[.slice P1 x.1.length q1,.slice P2 x.2.1.length q2,.slice P3 x.2.2.1.length q3,.slice P4 x.2.2.2.length q4,.int .i64 s,.int .i64 p,.int .i64 r];obtain⟨A6,c6,rfl,_,_⟩:=h6.form;by_cases hn:(ns.length:Int)≤1048576
 · have hn1 : decide ((1048576 : Int) < (ns.length : Int)) = false := decide_eq_false (by omega);have hsn:Small ns.length:=by unfold Small;omega
   by_cases hz0:(total x:Int)≤1048576
   · obtain⟨L,hL⟩:∃L:Int,L=1048576-x.1.length-x.2.1.length-x.2.2.1.length-x.2.2.2.length:=⟨_,rfl⟩;have hL0:0≤L∧L≤1048576:=by unfold total at hz0;omega
     have hLn:¬L<0:=(by omega);have hs4:Small4 x:=by unfold total at hz0;unfold Small4 Small;omega
     have HS:=Lib.hid hs4;have HZ0:=Lib.hid hz0;have HL:=Lib.hid hL;clear hs4 hz0;go_enter Tryz.func6,Tryz.ntmps6
     go_wp2_with fail
     refine(szWork_ok _ _ _ _ x s p r _ (h1.below RE.stays B) (h2.below RE.stays B) (h3.below RE.stays B) (h4.below RE.stays B) HZ0.out).mono ?_;rintro e w1 ⟨rfl,hb⟩;rw[←hL];clear hL;replace B:=B.tr hb;replace bA:=bA.bl hb;clear hb;by_cases hl:¬(l.length:Int)≤L
     · go_wp2_with fail
       refine(szActs_any _ l L _ (h5.below RE.stays B) hL0.1 hL0.2).mono ?_;rintro e w0 ⟨rfl,rfl⟩;rw[szOf_no (by omega)];go_wp2;go_ret;exact⟨rfl,B⟩
     have hl:(l.length:Int)≤L:=Classical.not_not.1 hl;have hsl:Small l.length:=by unfold Small;omega
     have hln:¬(L-(l.length:Int)<0):=(by omega);go_wp2_with fail
     refine(szActs_any _ l L _ (h5.below RE.stays B) hL0.1 hL0.2).mono ?_;rintro e w0 ⟨rfl,rfl⟩;rw[szOf_ok hl];clear hl hL0;obtain⟨bb,hbb⟩:∃b,b=isRep (x,s,p,r) l ns:=⟨_,rfl⟩;have hbn:(bb !=bb)=false:=(by simp);have CS:∀(a1 a2 a3 a4 a5 a6:Value) (w:World),R4 w a1 a2 a3 a4 x→Rd 3 (RE eTrip) w a5 l→Rd 1 RInt w a6 ns→Calls Tryz.prog 36 #[.agg #[a1,a2,a3,a4,.int .i64 s,.int .i64 p,.int .i64 r],a5,a6] w (Ret (.bool bb) w):=fun a1 a2 a3 a4 a5 a6 w k k5 k6=>by rw[hbb];exact rplS_any _ _ _ _ _ _ x s p r l ns w k.a k.b k.c k.d k5 k6 HS.out
     have CI:∀(a1 a2 a3 a4 a5 a6:Value) (w:World),R4 w a1 a2 a3 a4 x→Rd 3 (RE eTrip) w a5 l→Rd 1 RInt w a6 ns→Tab w→Calls Tryz.prog 38 #[.agg #[a1,a2,a3,a4,.int .i64 s,.int .i64 p,.int .i64 r],a5,a6] w (Ret (.bool bb) w):=fun a1 a2 a3 a4 a5 a6 w k k5 k6 t=>by rw[hbb];exact rplI_any _ _ _ _ _ _ x s p r l ns w k.a k.b k.c k.d k5 k6 HS.out t
     clear hbb;obtain⟨z_0,z_1,z_2,z_3,z_4,z_5,z_6⟩:=bA.n7;go_wp2_with fail
     refine(toWork_any _ _ _ _ (x,s,p,r) _ (h1.below RE.stays B) (h2.below RE.stays B) (h3.below RE.stays B) (h4.below RE.stays B) HS.out).mono ?_;rintro e w2 ⟨T1,t1,T2,t2,T3,t3,T4,t4,rfl,oT,hb⟩;clear z_0 z_1 z_2 z_3 z_4 z_5 z_6;replace B:=B.tr hb;replace bA:=bA.bl hb;go_wp2_with fail
     refine(toActs_any _ l _ (h5.below RE.stays B) hsl).mono ?_;rintro e w3 ⟨T5,t5,rfl,oT5,hb⟩;replace B:=B.tr hb;replace bA:=bA.bl hb;replace oT:=oT.below hb;go_wp2_with fail
     refine(toInts_any _ ns _ (h6.below RE.stays B) hsn).mono ?_;rintro e w4 ⟨T6,t6,rfl,oT6,hb'⟩;replace B:=B.tr hb';replace bA:=bA.bl hb';go_wp2_with fail
     refine(CS _ _ _ _ _ _ _ (oT.below hb').r4 ((oT5.below hb').rd lenAct (by decide)) (oT6.rd lenInt (by decide))).mono ?_;rintro e w5 ⟨rfl,hb⟩;replace B:=B.tr hb;replace bA:=bA.bl hb;clear oT oT5 oT6 hb hb';obtain⟨z_0,z_1,z_2,z_3,z_4,z_5,z_6⟩:=bA.n7;go_wp2_with fail
     refine(toWork_any _ _ _ _ (x,s,p,r) _ (h1.below RE.stays B) (h2.below RE.stays B) (h3.below RE.stays B) (h4.below RE.stays B) HS.out).mono ?_;rintro e w6 ⟨T1,t1,T2,t2,T3,t3,T4,t4,rfl,oT,hb⟩;clear z_0 z_1 z_2 z_3 z_4 z_5 z_6;replace B:=B.tr hb;replace bA:=bA.bl hb;have hX:=oT.r4;have bX:=Blk.new_ w6 38 #[.slice T1 x.1.length t1,.slice T2 x.2.1.length t2,.slice T3 x.2.2.1.length t3,.slice T4 x.2.2.2.length t4,.int .i64 s,.int .i64 p,.int .i64 r];have hX:=hX.bl ((Below.refl w6.heap.size w6).al (.cells #[.slice T1 x.1.length t1,.slice T2 x.2.1.length t2,.slice T3 x.2.2.1.length t3,.slice T4 x.2.2.2.length t4,.int .i64 s,.int .i64 p,.int .i64 r] 38));replace B:=B.al (.cells #[.slice T1 x.1.length t1,.slice T2 x.2.1.length t2,.slice T3 x.2.2.1.length t3,.slice T4 x.2.2.2.length t4,.int .i64 s,.int .i64 p,.int .i64 r] 38);replace bA:=bA.alloc (.cells #[.slice T1 x.1.length t1,.slice T2 x.2.1.length t2,.slice T3 x.2.2.1.length t3,.slice T4 x.2.2.2.length t4,.int .i64 s,.int .i64 p,.int .i64 r] 38);clear oT hb;go_wp2_with fail
     refine(toActs_any _ l _ (h5.below RE.stays B) hsl).mono ?_;rintro e w7 ⟨X5,x5,rfl,oX5,hb⟩;obtain⟨gX,hgX⟩:∃g,g=w6.heap.size:=⟨_,rfl⟩;rw[←hgX]at bX⊢;clear hgX;replace B:=B.tr hb;replace bA:=bA.bl hb;replace bX:=bX.bl hb;have hX:=hX.bl hb;clear hb;go_wp2_with fail
     refine(toInts_any _ ns _ (h6.below RE.stays B) hsn).mono ?_;rintro e w8 ⟨X6,x6,rfl,oX6,hb⟩;replace B:=B.tr hb;replace bA:=bA.bl hb;replace bX:=bX.bl hb;have hX:=hX.bl hb;have hX5:=(oX5.below hb).rd lenAct (by decide);have hX6:=oX6.rd lenInt (by decide);clear oX5 oX6 hb;obtain⟨x_0,x_1,x_2,x_3,x_4,x_5,x_6⟩:=bX.n7;go_wp2_with fail
     refine(CI _ _ _ _ _ _ _ hX hX5 hX6 (HT.out.below B)).mono ?_;rintro e w9 ⟨rfl,hb⟩;replace B:=B.tr hb;replace bA:=bA.bl hb;replace bX:=bX.bl hb;have hX:=hX.bl hb;have hX5:=hX5.below RE.stays hb;have hX6:=hX6.below RE.stays hb;clear x_0 x_1 x_2 x_3 x_4 x_5 x_6 hb;go_upto_region 17 with(fail)
     obtain⟨W,hW⟩:∃W,W=w9:=⟨_,rfl⟩;rw[←hW]at B bA bX hX hX5 hX6⊢;clear hW;obtain⟨z_0,z_1,z_2,z_3,z_4,z_5,z_6⟩:=bA.n7;obtain⟨x_0,x_1,x_2,x_3,x_4,x_5,x_6⟩:=bX.n7;have hlA:=bA.lt;have hlX:=bX.lt;have Bw:Below W.heap.size W W.drew:=(Below.refl _ _).drew;have hz:W.heap.size≤W.drew.heap.size:=(by simp);refine rB (fun w'=>w'.cell? ⟨gX,0,none⟩=some (.slice T1 x.1.length t1)∧w'.cell? ⟨gX,1,none⟩=some (.slice T2 x.2.1.length t2)∧w'.cell? ⟨gX,2,none⟩=some (.slice T3 x.2.2.1.length t3)∧w'.cell? ⟨gX,3,none⟩=some (.slice T4 x.2.2.2.length t4)∧w'.cell? ⟨gX,4,none⟩=some (.int .i64 s)∧w'.cell? ⟨gX,5,none⟩=some (.int .i64 p)∧w'.cell? ⟨gX,6,none⟩=some (.int .i64 r)∧w'.cell? ⟨w.heap.size,0,none⟩=some (.slice P1 x.1.length q1)∧w'.cell? ⟨w.heap.size,1,none⟩=some (.slice P2 x.2.1.length q2)∧w'.cell? ⟨w.heap.size,2,none⟩=some (.slice P3 x.2.2.1.length q3)∧w'.cell? ⟨w.heap.size,3,none⟩=some (.slice P4 x.2.2.2.length q4)∧w'.cell? ⟨w.heap.size,4,none⟩=some (.int .i64 s)∧w'.cell? ⟨w.heap.size,5,none⟩=some (.int .i64 p)∧w'.cell? ⟨w.heap.size,6,none⟩=some (.int .i64 r)) fun hHeld=>(tW 0)<|(tW 1)<|(tR [2])<|tL fun K hK=>?_
     go_simp
     (first|(go_at_call 19;go_must (refine(toWork_any _ _ _ _ (x,s,p,r) _ (h1.below RE.stays (B.tr Bw)) (h2.below RE.stays (B.tr Bw)) (h3.below RE.stays (B.tr Bw)) (h4.below RE.stays (B.tr Bw)) HS.out).mono ?_;rintro e wX ⟨U1,e1,U2,e2,U3,e3,U4,e4,rfl,oU,hbX⟩;obtain⟨hcX,hfX,hzX⟩:=bkn hbX W.heap.size hz;have hz:=hzX;have Bw:=Bw.tr hbX);(try go_wp2_with fail))|(go_at_call 21;go_must (refine(eqWork_same _ _ _ _ _ _ _ _ x s p r _ (hX.bl Bw).a (hX.bl Bw).b (hX.bl Bw).c (hX.bl Bw).d oU.ra oU.rb oU.rc oU.rd).mono ?_;rintro e wX ⟨rfl,hbX⟩;obtain⟨hcX,hfX,hzX⟩:=bkn hbX W.heap.size hz;have hz:=hzX;have Bw:=Bw.tr hbX);(try go_wp2_with fail)))
     refine tK hK fun hHeld=>?_
     clear hK K;refine(tR [3])<|tL fun K hK=>?_
     go_simp
     (first|(go_at_call 19;go_must (refine(toWork_any _ _ _ _ (x,s,p,r) _ (h1.below RE.stays (B.tr Bw)) (h2.below RE.stays (B.tr Bw)) (h3.below RE.stays (B.tr Bw)) (h4.below RE.stays (B.tr Bw)) HS.out).mono ?_;rintro e wX ⟨U1,e1,U2,e2,U3,e3,U4,e4,rfl,oU,hbX⟩;obtain⟨hcX,hfX,hzX⟩:=bkn hbX W.heap.size hz;have hz:=hzX;have Bw:=Bw.tr hbX);(try go_wp2_with fail))|(go_at_call 21;go_must (refine(eqWork_same _ _ _ _ _ _ _ _ x s p r _ (hX.bl Bw).a (hX.bl Bw).b (hX.bl Bw).c (hX.bl Bw).d oU.ra oU.rb oU.rc oU.rd).mono ?_;rintro e wX ⟨rfl,hbX⟩;obtain⟨hcX,hfX,hzX⟩:=bkn hbX W.heap.size hz;have hz:=hzX;have Bw:=Bw.tr hbX);(try go_wp2_with fail)))
     refine tK hK fun hHeld=>?_
     clear hK K;refine(tW 4)<|tD ?_;replace B:=B.tr Bw;have hX5:=hX5.below RE.stays Bw;have hX6:=hX6.below RE.stays Bw;clear z_0 z_1 z_2 z_3 z_4 z_5 z_6 x_0 x_1 x_2 x_3 x_4 x_5 x_6 hz hHeld hcX hfX hzX hX bX bA oU;go_wp2_with fail
     refine(toActs_any _ l _ (h5.below RE.stays B) hsl).mono ?_;rintro e w10 ⟨U5,u5,rfl,oU5,hb⟩;replace B:=B.tr hb;go_wp2_with fail
     refine(eqActs_same _ _ l _ (hX5.below RE.stays hb) (oU5.rd lenAct (by decide))).mono ?_;rintro e w11 ⟨rfl,hb'⟩;replace B:=B.tr hb';have hX6:=(hX6.below RE.stays hb).below RE.stays hb';go_wp2_with fail
     refine(toInts_any _ ns _ (h6.below RE.stays B) hsn).mono ?_;rintro e w12 ⟨U6,u6,rfl,oU6,hb2⟩;replace B:=B.tr hb2;go_wp2_with fail
     refine(eqIntsQ _ _ ns _ (hX6.below RE.stays hb2) (oU6.rd lenInt (by decide))).mono ?_;rintro e w13 ⟨rfl,hb3⟩;replace B:=B.tr hb3;go_wp2;go_ret;exact⟨rfl,B⟩
   · have HZ0:=Lib.hid hz0;clear hz0;go_enter Tryz.func6,Tryz.ntmps6
     go_wp2_with fail
     refine(szWork_no _ _ _ _ x s p r _ (h1.below RE.stays B) (h2.below RE.stays B) (h3.below RE.stays B) (h4.below RE.stays B) (by have:=HZ0.out;omega)).mono ?_;rintro e w1 ⟨rfl,hb⟩;go_wp2;go_ret;exact⟨rfl,B.tr hb⟩
 · have hn1 : decide ((1048576 : Int) < (ns.length : Int)) = true := decide_eq_true (by omega);go_enter Tryz.func6,Tryz.ntmps6
   go_wp2;go_ret;exact⟨rfl,B⟩
end Go.Proofs.YtfdbcihcdjjdhaaGreatDoor
