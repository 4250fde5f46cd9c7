/- The law FnExactBreakDomino: the walk. No conditions. -/
import Derived.Test.YtfdbcihcdjjdhaaGreatDoorZBrk
import Derived.Test.YtfdbcihcdjjdhaaGreatDoorZLawBase
namespace Go.Proofs.YtfdbcihcdjjdhaaGreatDoor
open Go.ChangeShapes Go.WideShapes Go.ChangeAt Go.RowKit
set_option linter.unusedVariables false
set_option linter.unusedSimpArgs false
set_option maxHeartbeats 4000000 in
set_option maxRecDepth 100000 in
theorem FnExactBreakDomino_walk (w:World) (tab:Tab w) (cs0:List Value) (x0:Wk) (h0:RWork w cs0 x0) (okx0:WorkIn x0) (ai:Int) (oki:I64 ai):Calls Tryz.prog 3 #[.agg cs0.toArray,.int .i64 ai] w (Ret (.bool true) w):=by
 obtain⟨v1,v2,v3,v4,rfl,h1,h2,h3,h4⟩:=h0.form
 obtain⟨⟨rows,f,n,fl⟩,s,p,r⟩:=x0
 simp only at h1 h2 h3 h4⊢
 obtain⟨P1,q1,rfl,_,_⟩:=h1.form
 obtain⟨P2,q2,rfl,_,_⟩:=h2.form
 obtain⟨P3,q3,rfl,_,_⟩:=h3.form
 obtain⟨P4,q4,rfl,_,_⟩:=h4.form
 have B:=((Below.refl w.heap.size w).al (.cells #[.slice P1 rows.length q1,.slice P2 f.length q2,.slice P3 n.length q3,.slice P4 fl.length q4,.int .i64 s,.int .i64 p,.int .i64 r] 30))
 have bA0:=Blk.new_ w 30 #[.slice P1 rows.length q1,.slice P2 f.length q2,.slice P3 n.length q3,.slice P4 fl.length q4,.int .i64 s,.int .i64 p,.int .i64 r]
 by_cases hsz0:(total (rows,f,n,fl):Int)≤1048576
 · skip
   have hs4:Small4 (rows,f,n,fl):=by unfold total at hsz0;unfold Small4 Small;simp only at hsz0⊢;omega
   have hk0:¬((1048576:Int)-rows.length-f.length-n.length-fl.length<0):=by unfold total at hsz0;simp only at hsz0;omega
   have HT:=Lib.hid tab;clear tab
   obtain⟨⟨y,ys,yp,yr⟩,hy⟩:∃y,brkWk ((rows,f,n,fl),s,p,r) ai=y:=⟨_,rfl⟩
   obtain⟨b,hbq⟩:∃b,brkN ((rows,f,n,fl),s,p,r) ai=b:=⟨_,rfl⟩
   have hsy:Small4 y:=by have:=brk_small (y:=((rows,f,n,fl),s,p,r)) ai hs4;rw[hy]at this;exact this
   have HY4:=Lib.hid hsy;clear hsy
   have hbb:(b !=b)=false:=by simp
   have CS : ∀ (a1 a2 a3 a4 : Value) (w : World), Rd 1 RInt w a1 rows → Rd 3 RDom w a2 f → Rd 3 RDom w a3 n → Rd 2 RPair w a4 fl → Calls Tryz.prog 18 #[.agg #[a1, a2, a3, a4, .int .i64 s, .int .i64 p, .int .i64 r], .int .i64 ai] w (RetWkI y ys yp yr b w) := fun a1 a2 a3 a4 w k1 k2 k3 k4 => by
    have:=brkS_any a1 a2 a3 a4 (rows,f,n,fl) s p r ai w k1 k2 k3 k4 hs4
    rw[hy,hbq]at this;exact this
   have CI : ∀ (a1 a2 a3 a4 : Value) (w : World), Rd 1 RInt w a1 rows → Rd 3 RDom w a2 f → Rd 3 RDom w a3 n → Rd 2 RPair w a4 fl → Tab w → Calls Tryz.prog 20 #[.agg #[a1, a2, a3, a4, .int .i64 s, .int .i64 p, .int .i64 r], .int .i64 ai] w (RetWkI y ys yp yr b w) := fun a1 a2 a3 a4 w k1 k2 k3 k4 q => by
    have:=brkI_any a1 a2 a3 a4 (rows,f,n,fl) s p r ai w k1 k2 k3 k4 hs4 q
    rw[hy,hbq]at this;exact this
   clear hy hbq
   have HS:=Lib.hid hs4
   have HZ0:=Lib.hid hsz0
   clear hs4 hsz0
   go_enter Tryz.func3,Tryz.ntmps3
   go_wp2_with fail
   refine(szWork_ok _ _ _ _ (rows,f,n,fl) s p r _ (h1.below RE.stays B) (h2.below RE.stays B) (h3.below RE.stays B) (h4.below RE.stays B) HZ0.out).mono ?_
   rintro e w0 ⟨rfl,hb⟩
   replace B:=B.tr hb
   replace bA0:=bA0.bl hb
   clear hb
   obtain⟨z0_0,z0_1,z0_2,z0_3,z0_4,z0_5,z0_6⟩:=bA0.n7
   go_wp2_with fail
   refine(toWork_any _ _ _ _ ((rows,f,n,fl),s,p,r) _ (h1.below RE.stays B) (h2.below RE.stays B) (h3.below RE.stays B) (h4.below RE.stays B) HS.out).mono ?_
   rintro e w1 ⟨T1,t1,T2,t2,T3,t3,T4,t4,rfl,oT,hb⟩
   clear z0_0 z0_1 z0_2 z0_3 z0_4 z0_5 z0_6
   replace B:=B.tr hb
   replace bA0:=bA0.bl hb
   clear hb
   go_wp2_with fail
   refine(CS _ _ _ _ _ oT.ra oT.rb oT.rc oT.rd).mono ?_
   rintro e w2 ⟨W1,cW1,W2,cW2,W3,cW3,W4,cW4,rfl,oW,hb⟩
   clear oT
   replace oW:=oW.mono B.size
   replace B:=B.tr hb
   replace bA0:=bA0.bl hb
   clear hb
   replace B:=B.al (.cells #[.slice W1 y.1.length cW1,.slice W2 y.2.1.length cW2,.slice W3 y.2.2.1.length cW3,.slice W4 y.2.2.2.length cW4,.int .i64 ys,.int .i64 yp,.int .i64 yr] 38)
   replace bA0:=bA0.alloc (.cells #[.slice W1 y.1.length cW1,.slice W2 y.2.1.length cW2,.slice W3 y.2.2.1.length cW3,.slice W4 y.2.2.2.length cW4,.int .i64 ys,.int .i64 yp,.int .i64 yr] 38)
   replace oW:=oW.alloc (.cells #[.slice W1 y.1.length cW1,.slice W2 y.2.1.length cW2,.slice W3 y.2.2.1.length cW3,.slice W4 y.2.2.2.length cW4,.int .i64 ys,.int .i64 yp,.int .i64 yr] 38)
   have bW:=Blk.new_ w2 38 #[.slice W1 y.1.length cW1,.slice W2 y.2.1.length cW2,.slice W3 y.2.2.1.length cW3,.slice W4 y.2.2.2.length cW4,.int .i64 ys,.int .i64 yp,.int .i64 yr]
   obtain⟨z0_0,z0_1,z0_2,z0_3,z0_4,z0_5,z0_6⟩:=bA0.n7
   go_wp2_with fail
   refine(toWork_any _ _ _ _ ((rows,f,n,fl),s,p,r) _ (h1.below RE.stays B) (h2.below RE.stays B) (h3.below RE.stays B) (h4.below RE.stays B) HS.out).mono ?_
   rintro e w3 ⟨X1,x1,X2,x2,X3,x3,X4,x4,rfl,oX,hb⟩
   obtain⟨gW,hgW⟩:∃g,g=w2.heap.size:=⟨_,rfl⟩
   rw[←hgW]at bW⊢
   clear hgW
   clear z0_0 z0_1 z0_2 z0_3 z0_4 z0_5 z0_6
   have ap_oW_oX:=apart_of (fun k hk=>(oW.lt hk).2) (fun k hk=>(oX.lt hk).1) (Nat.le_refl _)
   replace oX:=oX.mono B.size
   replace B:=B.tr hb
   replace bA0:=bA0.bl hb
   replace oW:=oW.below hb
   replace bW:=bW.bl hb
   clear hb
   replace B:=B.al (.cells #[.slice X1 rows.length x1,.slice X2 f.length x2,.slice X3 n.length x3,.slice X4 fl.length x4,.int .i64 s,.int .i64 p,.int .i64 r] 38)
   replace bA0:=bA0.alloc (.cells #[.slice X1 rows.length x1,.slice X2 f.length x2,.slice X3 n.length x3,.slice X4 fl.length x4,.int .i64 s,.int .i64 p,.int .i64 r] 38)
   replace oW:=oW.alloc (.cells #[.slice X1 rows.length x1,.slice X2 f.length x2,.slice X3 n.length x3,.slice X4 fl.length x4,.int .i64 s,.int .i64 p,.int .i64 r] 38)
   replace bW:=bW.alloc (.cells #[.slice X1 rows.length x1,.slice X2 f.length x2,.slice X3 n.length x3,.slice X4 fl.length x4,.int .i64 s,.int .i64 p,.int .i64 r] 38)
   replace oX:=oX.alloc (.cells #[.slice X1 rows.length x1,.slice X2 f.length x2,.slice X3 n.length x3,.slice X4 fl.length x4,.int .i64 s,.int .i64 p,.int .i64 r] 38)
   have bX:=Blk.new_ w3 38 #[.slice X1 rows.length x1,.slice X2 f.length x2,.slice X3 n.length x3,.slice X4 fl.length x4,.int .i64 s,.int .i64 p,.int .i64 r]
   obtain⟨x_0,x_1,x_2,x_3,x_4,x_5,x_6⟩:=bX.n7
   go_wp2_with fail
   refine(CI _ _ _ _ _ oX.ra oX.rb oX.rc oX.rd (HT.out.below B)).mono ?_
   rintro e w4 ⟨G1,cG1,G2,cG2,G3,cG3,G4,cG4,rfl,oG,hb⟩
   obtain⟨gX,hgX⟩:∃g,g=w3.heap.size:=⟨_,rfl⟩
   rw[←hgX]at bX⊢
   clear hgX
   clear x_0 x_1 x_2 x_3 x_4 x_5 x_6
   have ap_oX_oG:=apart_of (fun k hk=>(oX.lt hk).2) (fun k hk=>(oG.lt hk).1) (Nat.le_refl _)
   have ap_oW_oG:=apart_of (fun k hk=>(oW.lt hk).2) (fun k hk=>(oG.lt hk).1) (Nat.le_refl _)
   replace oG:=oG.mono B.size
   replace B:=B.tr hb
   replace bA0:=bA0.bl hb
   replace oW:=oW.below hb
   replace bW:=bW.bl hb
   replace oX:=oX.below hb
   replace bX:=bX.bl hb
   clear hb
   replace B:=B.al (.cells #[.slice G1 y.1.length cG1,.slice G2 y.2.1.length cG2,.slice G3 y.2.2.1.length cG3,.slice G4 y.2.2.2.length cG4,.int .i64 ys,.int .i64 yp,.int .i64 yr] 38)
   replace bA0:=bA0.alloc (.cells #[.slice G1 y.1.length cG1,.slice G2 y.2.1.length cG2,.slice G3 y.2.2.1.length cG3,.slice G4 y.2.2.2.length cG4,.int .i64 ys,.int .i64 yp,.int .i64 yr] 38)
   replace oW:=oW.alloc (.cells #[.slice G1 y.1.length cG1,.slice G2 y.2.1.length cG2,.slice G3 y.2.2.1.length cG3,.slice G4 y.2.2.2.length cG4,.int .i64 ys,.int .i64 yp,.int .i64 yr] 38)
   replace bW:=bW.alloc (.cells #[.slice G1 y.1.length cG1,.slice G2 y.2.1.length cG2,.slice G3 y.2.2.1.length cG3,.slice G4 y.2.2.2.length cG4,.int .i64 ys,.int .i64 yp,.int .i64 yr] 38)
   replace oX:=oX.alloc (.cells #[.slice G1 y.1.length cG1,.slice G2 y.2.1.length cG2,.slice G3 y.2.2.1.length cG3,.slice G4 y.2.2.2.length cG4,.int .i64 ys,.int .i64 yp,.int .i64 yr] 38)
   replace bX:=bX.alloc (.cells #[.slice G1 y.1.length cG1,.slice G2 y.2.1.length cG2,.slice G3 y.2.2.1.length cG3,.slice G4 y.2.2.2.length cG4,.int .i64 ys,.int .i64 yp,.int .i64 yr] 38)
   replace oG:=oG.alloc (.cells #[.slice G1 y.1.length cG1,.slice G2 y.2.1.length cG2,.slice G3 y.2.2.1.length cG3,.slice G4 y.2.2.2.length cG4,.int .i64 ys,.int .i64 yp,.int .i64 yr] 38)
   have bG:=Blk.new_ w4 38 #[.slice G1 y.1.length cG1,.slice G2 y.2.1.length cG2,.slice G3 y.2.2.1.length cG3,.slice G4 y.2.2.2.length cG4,.int .i64 ys,.int .i64 yp,.int .i64 yr]
   obtain⟨u_0,u_1,u_2,u_3,u_4,u_5,u_6⟩:=bG.n7
   obtain⟨v_0,v_1,v_2,v_3,v_4,v_5,v_6⟩:=bW.n7
   go_wp2_with fail
   refine(eqWork_same _ _ _ _ _ _ _ _ y ys yp yr _ oG.ra oG.rb oG.rc oG.rd oW.ra oW.rb oW.rc oW.rd).mono ?_
   rintro e w5 ⟨rfl,hb⟩
   obtain⟨gG,hgG⟩:∃g,g=w4.heap.size:=⟨_,rfl⟩
   rw[←hgG]at bG⊢
   clear hgG
   clear u_0 u_1 u_2 u_3 u_4 u_5 u_6 v_0 v_1 v_2 v_3 v_4 v_5 v_6
   replace B:=B.tr hb
   replace bA0:=bA0.bl hb
   replace oW:=oW.below hb
   replace bW:=bW.bl hb
   replace oX:=oX.below hb
   replace bX:=bX.bl hb
   replace oG:=oG.below hb
   replace bG:=bG.bl hb
   clear hb
   go_upto_region 10 with(fail)
   obtain⟨W,hW⟩:∃W,W=w5:=⟨_,rfl⟩
   rw[←hW]at B bA0 oW bW oX bX oG bG⊢
   clear hW
   obtain⟨z_0,z_1,z_2,z_3,z_4,z_5,z_6⟩:=bA0.n7
   obtain⟨x_0,x_1,x_2,x_3,x_4,x_5,x_6⟩:=bX.n7
   have hlA0:=bA0.lt
   have hlX:=bX.lt
   have Bw:Below W.heap.size W W.drew:=(Below.refl _ _).drew
   have hz:W.heap.size≤W.drew.heap.size:=by simp
   refine rB (fun w'=>w'.cell? ⟨gX,0,none⟩=some (.slice X1 rows.length x1)∧w'.cell? ⟨gX,1,none⟩=some (.slice X2 f.length x2)∧w'.cell? ⟨gX,2,none⟩=some (.slice X3 n.length x3)∧w'.cell? ⟨gX,3,none⟩=some (.slice X4 fl.length x4)∧w'.cell? ⟨gX,4,none⟩=some (.int .i64 s)∧w'.cell? ⟨gX,5,none⟩=some (.int .i64 p)∧w'.cell? ⟨gX,6,none⟩=some (.int .i64 r)∧w'.cell? ⟨w.heap.size,0,none⟩=some (.slice P1 rows.length q1)∧w'.cell? ⟨w.heap.size,1,none⟩=some (.slice P2 f.length q2)∧w'.cell? ⟨w.heap.size,2,none⟩=some (.slice P3 n.length q3)∧w'.cell? ⟨w.heap.size,3,none⟩=some (.slice P4 fl.length q4)∧w'.cell? ⟨w.heap.size,4,none⟩=some (.int .i64 s)∧w'.cell? ⟨w.heap.size,5,none⟩=some (.int .i64 p)∧w'.cell? ⟨w.heap.size,6,none⟩=some (.int .i64 r)) fun hHeld=>(tW 0)<|(tW 1)<|(tR [2])<|tL fun K hK=>?_
   go_simp
   (first|(go_at_call 19;go_must (refine(toWork_any _ _ _ _ ((rows,f,n,fl),s,p,r) _ (h1.below RE.stays (B.tr Bw)) (h2.below RE.stays (B.tr Bw)) (h3.below RE.stays (B.tr Bw)) (h4.below RE.stays (B.tr Bw)) HS.out).mono ?_;rintro e wX ⟨T1,t1,T2,t2,T3,t3,T4,t4,rfl,oT,hbX⟩;obtain⟨hcX,hfX,hzX⟩:=bkn hbX W.heap.size hz;have hz:=hzX;have Bw:=Bw.tr hbX);(try go_wp2_with fail))|(go_at_call 21;go_must (refine(eqWork_same _ _ _ _ _ _ _ _ (rows,f,n,fl) s p r _ (oX.below Bw).ra (oX.below Bw).rb (oX.below Bw).rc (oX.below Bw).rd oT.ra oT.rb oT.rc oT.rd).mono ?_;rintro e wX ⟨rfl,hbX⟩;obtain⟨hcX,hfX,hzX⟩:=bkn hbX W.heap.size hz;have hz:=hzX;have Bw:=Bw.tr hbX);(try go_wp2_with fail)))
   refine tK hK fun hHeld=>?_
   clear hK K
   refine(tR [3])<|tL fun K hK=>?_
   go_simp
   (first|(go_at_call 19;go_must (refine(toWork_any _ _ _ _ ((rows,f,n,fl),s,p,r) _ (h1.below RE.stays (B.tr Bw)) (h2.below RE.stays (B.tr Bw)) (h3.below RE.stays (B.tr Bw)) (h4.below RE.stays (B.tr Bw)) HS.out).mono ?_;rintro e wX ⟨T1,t1,T2,t2,T3,t3,T4,t4,rfl,oT,hbX⟩;obtain⟨hcX,hfX,hzX⟩:=bkn hbX W.heap.size hz;have hz:=hzX;have Bw:=Bw.tr hbX);(try go_wp2_with fail))|(go_at_call 21;go_must (refine(eqWork_same _ _ _ _ _ _ _ _ (rows,f,n,fl) s p r _ (oX.below Bw).ra (oX.below Bw).rb (oX.below Bw).rc (oX.below Bw).rd oT.ra oT.rb oT.rc oT.rd).mono ?_;rintro e wX ⟨rfl,hbX⟩;obtain⟨hcX,hfX,hzX⟩:=bkn hbX W.heap.size hz;have hz:=hzX;have Bw:=Bw.tr hbX);(try go_wp2_with fail)))
   refine tK hK fun hHeld=>?_
   clear hK K
   refine(tW 4)<|tD ?_
   clear z_0 z_1 z_2 z_3 z_4 z_5 z_6 x_0 x_1 x_2 x_3 x_4 x_5 x_6
   replace B:=B.tr Bw
   replace bA0:=bA0.bl Bw
   replace oW:=oW.below Bw
   replace bW:=bW.bl Bw
   replace oX:=oX.below Bw
   replace bX:=bX.bl Bw
   replace oG:=oG.below Bw
   replace bG:=bG.bl Bw
   clear Bw hz oT
   obtain⟨x_0,x_1,x_2,x_3,x_4,x_5,x_6⟩:=bX.n7
   have hmx:=mkEnd_pos (rows,f,n,fl)
   have hmy:=mkEnd_pos y
   go_wp2_with fail
   refine(markWork_any _ _ _ _ (rows,f,n,fl) s p r _ _ oX HS.out).mono ?_
   rintro e w7 ⟨rfl,oM,hG⟩
   clear x_0 x_1 x_2 x_3 x_4 x_5 x_6
   replace bA0:=bA0.grownS hG (oX.apart bA0 (by decide) (by decide) (by decide))
   replace oW:=oW.grownS hG (ap_oW_oX)
   replace bW:=bW.grownS hG (oX.apart bW (by decide) (by decide) (by decide))
   replace bX:=bX.grownS hG (oX.apart bX (by decide) (by decide) (by decide))
   replace oG:=oG.grownS hG (fun k hk hx=>ap_oX_oG k hx hk)
   replace bG:=bG.grownS hG (oX.apart bG (by decide) (by decide) (by decide))
   replace B:=Below.grownS B hG B.size (fun k hk=>(oX.lt hk).1)
   clear hG oM
   clear oX bX
   obtain⟨u_0,u_1,u_2,u_3,u_4,u_5,u_6⟩:=bG.n7
   obtain⟨v_0,v_1,v_2,v_3,v_4,v_5,v_6⟩:=bW.n7
   go_wp2_with fail
   refine(eqWork_same _ _ _ _ _ _ _ _ y ys yp yr _ oG.ra oG.rb oG.rc oG.rd oW.ra oW.rb oW.rc oW.rd).mono ?_
   rintro e w8 ⟨rfl,hb⟩
   clear u_0 u_1 u_2 u_3 u_4 u_5 u_6 v_0 v_1 v_2 v_3 v_4 v_5 v_6
   replace B:=B.tr hb
   replace bA0:=bA0.bl hb
   replace oW:=oW.below hb
   replace bW:=bW.bl hb
   replace oG:=oG.below hb
   replace bG:=bG.bl hb
   clear hb
   obtain⟨u_0,u_1,u_2,u_3,u_4,u_5,u_6⟩:=bG.n7
   go_wp2_with fail
   refine(markWork_any _ _ _ _ y ys yp yr _ _ oG HY4.out).mono ?_
   rintro e w9 ⟨rfl,oM,hG⟩
   clear u_0 u_1 u_2 u_3 u_4 u_5 u_6
   replace bA0:=bA0.grownS hG (oG.apart bA0 (by decide) (by decide) (by decide))
   replace oW:=oW.grownS hG (ap_oW_oG)
   replace bW:=bW.grownS hG (oG.apart bW (by decide) (by decide) (by decide))
   replace bG:=bG.grownS hG (oG.apart bG (by decide) (by decide) (by decide))
   replace B:=Below.grownS B hG B.size (fun k hk=>(oG.lt hk).1)
   clear hG oG
   have oG:=oM
   clear oM
   obtain⟨u_0,u_1,u_2,u_3,u_4,u_5,u_6⟩:=bG.n7
   go_wp2_with fail
   refine(heldWork_any _ _ _ _ y ys yp yr _ _ oG HY4.out).mono ?_
   rintro e w10 ⟨rfl,hb⟩
   clear u_0 u_1 u_2 u_3 u_4 u_5 u_6
   replace B:=B.tr hb
   replace bA0:=bA0.bl hb
   replace oW:=oW.below hb
   replace bW:=bW.bl hb
   replace oG:=oG.below hb
   replace bG:=bG.bl hb
   clear hb
   obtain⟨z0_0,z0_1,z0_2,z0_3,z0_4,z0_5,z0_6⟩:=bA0.n7
   go_wp2_with fail
   refine(toWork_any _ _ _ _ ((rows,f,n,fl),s,p,r) _ (h1.below RE.stays B) (h2.below RE.stays B) (h3.below RE.stays B) (h4.below RE.stays B) HS.out).mono ?_
   rintro e w11 ⟨T1,t1,T2,t2,T3,t3,T4,t4,rfl,oT,hb⟩
   clear z0_0 z0_1 z0_2 z0_3 z0_4 z0_5 z0_6
   replace B:=B.tr hb
   replace bA0:=bA0.bl hb
   replace oW:=oW.below hb
   replace bW:=bW.bl hb
   replace oG:=oG.below hb
   replace bG:=bG.bl hb
   clear hb
   go_wp2_with fail
   refine(CI _ _ _ _ _ oT.ra oT.rb oT.rc oT.rd (HT.out.below B)).mono ?_
   rintro e w12 ⟨H1,cH1,H2,cH2,H3,cH3,H4,cH4,rfl,oH,hb⟩
   clear oT
   replace oH:=oH.mono B.size
   replace B:=B.tr hb
   replace bA0:=bA0.bl hb
   replace oW:=oW.below hb
   replace bW:=bW.bl hb
   replace oG:=oG.below hb
   replace bG:=bG.bl hb
   clear hb
   replace B:=B.al (.cells #[.slice H1 y.1.length cH1,.slice H2 y.2.1.length cH2,.slice H3 y.2.2.1.length cH3,.slice H4 y.2.2.2.length cH4,.int .i64 ys,.int .i64 yp,.int .i64 yr] 38)
   replace bA0:=bA0.alloc (.cells #[.slice H1 y.1.length cH1,.slice H2 y.2.1.length cH2,.slice H3 y.2.2.1.length cH3,.slice H4 y.2.2.2.length cH4,.int .i64 ys,.int .i64 yp,.int .i64 yr] 38)
   replace oW:=oW.alloc (.cells #[.slice H1 y.1.length cH1,.slice H2 y.2.1.length cH2,.slice H3 y.2.2.1.length cH3,.slice H4 y.2.2.2.length cH4,.int .i64 ys,.int .i64 yp,.int .i64 yr] 38)
   replace bW:=bW.alloc (.cells #[.slice H1 y.1.length cH1,.slice H2 y.2.1.length cH2,.slice H3 y.2.2.1.length cH3,.slice H4 y.2.2.2.length cH4,.int .i64 ys,.int .i64 yp,.int .i64 yr] 38)
   replace oG:=oG.alloc (.cells #[.slice H1 y.1.length cH1,.slice H2 y.2.1.length cH2,.slice H3 y.2.2.1.length cH3,.slice H4 y.2.2.2.length cH4,.int .i64 ys,.int .i64 yp,.int .i64 yr] 38)
   replace bG:=bG.alloc (.cells #[.slice H1 y.1.length cH1,.slice H2 y.2.1.length cH2,.slice H3 y.2.2.1.length cH3,.slice H4 y.2.2.2.length cH4,.int .i64 ys,.int .i64 yp,.int .i64 yr] 38)
   replace oH:=oH.alloc (.cells #[.slice H1 y.1.length cH1,.slice H2 y.2.1.length cH2,.slice H3 y.2.2.1.length cH3,.slice H4 y.2.2.2.length cH4,.int .i64 ys,.int .i64 yp,.int .i64 yr] 38)
   have bH:=Blk.new_ w12 38 #[.slice H1 y.1.length cH1,.slice H2 y.2.1.length cH2,.slice H3 y.2.2.1.length cH3,.slice H4 y.2.2.2.length cH4,.int .i64 ys,.int .i64 yp,.int .i64 yr]
   obtain⟨u_0,u_1,u_2,u_3,u_4,u_5,u_6⟩:=bH.n7
   obtain⟨v_0,v_1,v_2,v_3,v_4,v_5,v_6⟩:=bW.n7
   go_wp2_with fail
   refine(eqWork_same _ _ _ _ _ _ _ _ y ys yp yr _ oH.ra oH.rb oH.rc oH.rd oW.ra oW.rb oW.rc oW.rd).mono ?_
   rintro e w13 ⟨rfl,hb⟩
   obtain⟨gH,hgH⟩:∃g,g=w12.heap.size:=⟨_,rfl⟩
   rw[←hgH]at bH⊢
   clear hgH
   clear u_0 u_1 u_2 u_3 u_4 u_5 u_6 v_0 v_1 v_2 v_3 v_4 v_5 v_6
   replace B:=B.tr hb
   replace bA0:=bA0.bl hb
   replace oW:=oW.below hb
   replace bW:=bW.bl hb
   replace oG:=oG.below hb
   replace bG:=bG.bl hb
   replace oH:=oH.below hb
   replace bH:=bH.bl hb
   clear hb
   obtain⟨u_0,u_1,u_2,u_3,u_4,u_5,u_6⟩:=bG.n7
   go_wp2_with fail
   refine(heldWork_any _ _ _ _ y ys yp yr _ _ oG HY4.out).mono ?_
   rintro e w14 ⟨rfl,hb⟩
   clear u_0 u_1 u_2 u_3 u_4 u_5 u_6
   replace B:=B.tr hb
   replace bA0:=bA0.bl hb
   replace oW:=oW.below hb
   replace bW:=bW.bl hb
   replace oG:=oG.below hb
   replace bG:=bG.bl hb
   replace oH:=oH.below hb
   replace bH:=bH.bl hb
   clear hb
   go_wp2
   go_ret
   exact⟨rfl,B⟩
 · skip
   have HZ0:=Lib.hid hsz0
   clear hsz0
   go_enter Tryz.func3,Tryz.ntmps3
   go_wp2_with fail
   refine(szWork_no _ _ _ _ (rows,f,n,fl) s p r _ (h1.below RE.stays B) (h2.below RE.stays B) (h3.below RE.stays B) (h4.below RE.stays B) (by have:=HZ0.out;omega)).mono ?_
   rintro e w0 ⟨rfl,hb⟩
   go_wp2
   go_ret
   exact⟨rfl,B.tr hb⟩
end Go.Proofs.YtfdbcihcdjjdhaaGreatDoor
