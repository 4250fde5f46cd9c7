/- The laws FnExactFloorOk and FnExactWorkshopOk: the walks. No conditions. -/
import Derived.Test.YtfdbcihcdjjdhaaGreatDoorZK8
import Derived.Test.YtfdbcihcdjjdhaaGreatDoorZK7
namespace Go.Proofs.YtfdbcihcdjjdhaaGreatDoor
open Go.ChangeShapes Go.WideShapes Go.ChangeAt Go.RowKit
set_option linter.unusedVariables false
set_option linter.unusedSimpArgs false
def workOk (y:Wk):Bool:=floorOk y.1.1 y.1.2.1 y.1.2.2.1 y.1.2.2.2&&(inB y.2.1 0 10000&&inB y.2.2.1 0 10000&&inB y.2.2.2 0 10000)
theorem allIn3 (s p r:Int):allIn 0 10000 [s,p,r]=(inB s 0 10000&&inB p 0 10000&&inB r 0 10000):=by
 simp[allIn,inB,Bool.and_assoc]
theorem own_ints3 (W:World) (a b c:Int):OwnL 3 1 eInt W.heap.size (W.alloc (.cells #[.int .i64 a,.int .i64 b,.int .i64 c] 3)) (.slice (some ⟨W.heap.size,0,none⟩) 3 3) [a,b,c]:=
 World.ownsRow_lit (e:=3) (size:=1) W #[.int .i64 a,.int .i64 b,.int .i64 c] 3 (Nat.le_refl _) (by simp[maxLen]) (by simp)
set_option maxHeartbeats 2000000 in
set_option maxRecDepth 100000 in
theorem workOkI_any (v1 v2 v3 v4:Value) (y:Wk) (w:World) (h1:Rd 1 RInt w v1 y.1.1) (h2:Rd 3 RDom w v2 y.1.2.1) (h3:Rd 3 RDom w v3 y.1.2.2.1) (h4:Rd 2 RPair w v4 y.1.2.2.2) (hl:Small y.1.2.1.length):
 Calls Tryz.prog 55 #[.agg #[v1,v2,v3,v4,.int .i64 y.2.1,.int .i64 y.2.2.1,.int .i64 y.2.2.2]] w (Ret (.bool (workOk y)) w):=by
 obtain⟨⟨rows,f,n,fl⟩,s,p,r⟩:=y
 simp only at h1 h2 h3 h4 hl⊢
 obtain⟨P1,q1,rfl,_,_⟩:=h1.form
 obtain⟨P2,q2,rfl,_,_⟩:=h2.form
 obtain⟨P3,q3,rfl,_,_⟩:=h3.form
 obtain⟨P4,q4,rfl,_,_⟩:=h4.form
 have hA:=(Below.refl w.heap.size w).al (.cells #[.slice P1 rows.length q1,.slice P2 f.length q2,.slice P3 n.length q3,.slice P4 fl.length q4,.int .i64 s,.int .i64 p,.int .i64 r] 38)
 have bA:=Blk.new_ w 38 #[.slice P1 rows.length q1,.slice P2 f.length q2,.slice P3 n.length q3,.slice P4 fl.length q4,.int .i64 s,.int .i64 p,.int .i64 r]
 have e:workOk ((rows,f,n,fl),s,p,r)=(floorOk rows f n fl&&allIn 0 10000 [s,p,r]):=by unfold workOk;rw[allIn3]
 rw[e]
 obtain⟨F,hF⟩:∃F,F=floorOk rows f n fl:=⟨_,rfl⟩
 rw[←hF]
 have HF:=Lib.hid hF;clear hF e
 go_enter Tryz.func55,Tryz.ntmps55
 go_wp2_with fail
 refine(floorOkI_any _ _ _ _ rows f n fl _ (h1.below RE.stays hA) (h2.below RE.stays hA) (h3.below RE.stays hA) (h4.below RE.stays hA) hl).mono ?_
 rintro e w1 ⟨rfl,hb1⟩
 rw[←HF.out]
 have bA1:=bA.bl hb1
 have z4:=bA1.cell 4
 have z5:=bA1.cell 5
 have z6:=bA1.cell 6
 simp at z4 z5 z6
 have B1:=hA.tr hb1
 cases F
 · go_wp2
   go_ret
   exact⟨rfl,B1⟩
 · go_wp2_with fail
   refine(allWithin_any _ [s,p,r] _ _ _ ((own_ints3 w1 s p r).rd lenInt (by decide))).mono ?_
   rintro e w2 ⟨rfl,rfl⟩
   obtain⟨R,hR⟩:∃R,R=allIn 0 10000 [s,p,r]:=⟨_,rfl⟩
   rw[←hR]
   have HR:Hid (R=(true&&allIn 0 10000 [s,p,r])):=Lib.hid (by rw[hR,Bool.true_and])
   clear hR
   go_wp2
   go_ret
   exact⟨retB HR.out,B1.al _⟩
set_option maxHeartbeats 2000000 in
set_option maxRecDepth 100000 in
theorem workOkS_any (v1 v2 v3 v4:Value) (y:Wk) (w:World) (h1:Rd 1 RInt w v1 y.1.1) (h2:Rd 3 RDom w v2 y.1.2.1) (h3:Rd 3 RDom w v3 y.1.2.2.1) (h4:Rd 2 RPair w v4 y.1.2.2.2) (hl:Small y.1.2.1.length):
 Calls Tryz.prog 82 #[.agg #[v1,v2,v3,v4,.int .i64 y.2.1,.int .i64 y.2.2.1,.int .i64 y.2.2.2]] w (Ret (.bool (workOk y)) w):=by
 obtain⟨⟨rows,f,n,fl⟩,s,p,r⟩:=y
 simp only at h1 h2 h3 h4 hl⊢
 obtain⟨P1,q1,rfl,_,_⟩:=h1.form
 obtain⟨P2,q2,rfl,_,_⟩:=h2.form
 obtain⟨P3,q3,rfl,_,_⟩:=h3.form
 obtain⟨P4,q4,rfl,_,_⟩:=h4.form
 have hA:=(Below.refl w.heap.size w).al (.cells #[.slice P1 rows.length q1,.slice P2 f.length q2,.slice P3 n.length q3,.slice P4 fl.length q4,.int .i64 s,.int .i64 p,.int .i64 r] 38)
 have bA:=Blk.new_ w 38 #[.slice P1 rows.length q1,.slice P2 f.length q2,.slice P3 n.length q3,.slice P4 fl.length q4,.int .i64 s,.int .i64 p,.int .i64 r]
 have e:workOk ((rows,f,n,fl),s,p,r)=(floorOk rows f n fl&&(inB s 0 10000&&inB p 0 10000&&inB r 0 10000)):=rfl
 rw[e]
 obtain⟨F,hF⟩:∃F,F=floorOk rows f n fl:=⟨_,rfl⟩
 obtain⟨b1,hb1'⟩:∃F,F=inB s 0 10000:=⟨_,rfl⟩
 obtain⟨b2,hb2'⟩:∃F,F=inB p 0 10000:=⟨_,rfl⟩
 obtain⟨b3,hb3'⟩:∃F,F=inB r 0 10000:=⟨_,rfl⟩
 rw[←hF,←hb1',←hb2',←hb3']
 have HF:=Lib.hid hF;have H1:=Lib.hid hb1';have H2:=Lib.hid hb2';have H3:=Lib.hid hb3';clear hF e hb1' hb2' hb3'
 go_enter Tryz.func82,Tryz.ntmps82
 go_wp2_with fail
 refine(floorOkS_any _ _ _ _ rows f n fl _ (h1.below RE.stays hA) (h2.below RE.stays hA) (h3.below RE.stays hA) (h4.below RE.stays hA) hl).mono ?_
 rintro e w1 ⟨rfl,hb1⟩
 rw[←HF.out]
 have bA1:=bA.bl hb1
 have z4:=bA1.cell 4
 have z5:=bA1.cell 5
 have z6:=bA1.cell 6
 simp at z4 z5 z6
 have B1:=hA.tr hb1
 cases F
 · go_wp2
   go_ret
   exact⟨rfl,B1⟩
 · go_wp2_with fail
   refine(in_any _ _ _ _).mono ?_
   rintro e w2 ⟨rfl,rfl⟩
   rw[←H1.out]
   cases b1
   · go_wp2
     go_ret
     exact⟨by simp,B1⟩
   · go_wp2_with fail
     refine(in_any _ _ _ _).mono ?_
     rintro e w3 ⟨rfl,rfl⟩
     rw[←H2.out]
     cases b2
     · go_wp2
       go_ret
       exact⟨by simp,B1⟩
     · go_wp2_with fail
       refine(in_any _ _ _ _).mono ?_
       rintro e w4 ⟨rfl,rfl⟩
       rw[←H3.out]
       cases b3
       · go_wp2
         go_ret
         exact⟨by simp,B1⟩
       · go_wp2
         go_ret
         exact⟨by simp,B1⟩
end Go.Proofs.YtfdbcihcdjjdhaaGreatDoor
