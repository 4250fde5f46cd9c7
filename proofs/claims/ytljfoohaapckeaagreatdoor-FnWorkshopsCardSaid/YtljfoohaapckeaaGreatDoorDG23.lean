/- A flip taken back by the reference: the walk. Conditions: sizes. All flips taken back, by the program and by the reference: the walks. Conditions: sizes. A flip made by the program: the walk. Conditions: sizes. Small words for the walks of laws: objects made one after the other share no block. Plain lemmas. The laws FnExactFloorOk and FnExactWorkshopOk: the walks. No conditions. Workshops copied, on both sides. Conditions: sizes. Workshops copied, a place turned, a workshop audited: the program's side. Conditions: sizes. -/
import Derived.Test.YtljfoohaapckeaaGreatDoorDFlDo1
import Derived.Test.YtljfoohaapckeaaGreatDoorDG21
import Derived.Test.YtljfoohaapckeaaGreatDoorDK7
import Derived.Test.YtljfoohaapckeaaGreatDoorDG6
import Derived.Test.YtljfoohaapckeaaGreatDoorDK3
import Derived.Deep.DeepCutAuto
import Derived.Test.YtljfoohaapckeaaGreatDoorDFlCopyI
open _root_.Go.Value (oneCell')
open _root_.Go.Proofs.Tryz (prog)
namespace Go.Proofs.YtljfoohaapckeaaGreatDoor
open Go.ChangeShapes Go.WideShapes Go.ChangeAt Go.RowKit
set_option linter.unusedVariables false
set_option linter.unusedSimpArgs false
set_option maxHeartbeats 4000000
set_option maxRecDepth 100000
theorem wJ:∀(cs:List Cl) {l m:List Dm},Small l.length->fJ l cs=some m->Small m.length
  |[],l,m,h,e=>by unfold fJ at e;injection e with e;rw[<-e];exact h
  | c :: r, l, m, h, e => by
   rw[sV]at e;split at e
   . cases e
   . exact wJ r (qV l c) e
theorem Ip {y:Fl} (hs:dZ y) (h:lH y=true) (j:Nat):dZ (xN y j):=
 ⟨hs.1, hs.2.1, wJ _ hs.2.1 (Fa h j), by
  have:=hs.2.2.2;unfold Small at this⊢;show(y.2.2.2.take j).length<=_;rw[List.length_take];omega⟩
theorem Kl {y z:Fl} (hs:dZ y) (h:uV y=(z,true)):iB z=iB y/\lH z=lH y/\z.2.2.2.length<y.2.2.2.length/\dZ z:=by
 unfold uV at h;split at h
 . rename_i q;injection h with h1 _;subst h1;have hk:=MH q.1 (y.2.2.2.length-1);refine⟨?_,by rw[hk,q.1],by rw[KW (by omega)];omega,Ip hs q.1 _⟩;unfold iB;rw[if_pos hk,if_pos q.1,MI y (Nat.zero_le _)]
 . cases h
theorem Iq {y:Fl} (h:lH y=false∨y.2.2.2.length=0):iB y=y:=by
 unfold iB;split
 . rename_i q;rcases h with h|h
   . rw[h]at q;cases q
   . have:=J9 q;rw[h]at this;exact this
 . rfl
theorem Ir {y z:Fl} (h:uV y=(z,false)):iB y=y:=by
 unfold uV at h;split at h
 . cases h
 . rename_i q;refine Iq ?_;rcases e:lH y with _|_
   . exact .inl rfl
   . exact .inr (by rcases Nat.eq_zero_or_pos y.2.2.2.length with k|k;exact k;exact absurd ⟨e,by omega⟩ q)
def Iu (w:World) (b:Nat):Nat:=match w.cell? ⟨b,3,none⟩with|some (.slice _ n _)=>n|_=>0
theorem Blk.Mk {w:World} {g:Nat} {t:TypeId} {a b c:Value} {A:Option Addr} {n k:Nat} (h:Blk w g t #[a,b,c,.slice A n k]):Iu w g=n:=by
 unfold Iu;rw[h.cell 3];rfl
theorem EO (v1 v2 v3 v4:Value) (x:Fl) (w:World) (h1:Rd 1 bH w v1 x.1) (h2:Rd 3 aU w v2 x.2.1) (h3:Rd 3 aU w v3 x.2.2.1) (h4:Rd 2 bT w v4 x.2.2.2) (hs:dZ x):Calls prog 34 #[.agg #[v1,v2,v3,v4]] w (wW (iB x) w):=by
 have hs4:=hs;obtain⟨F,hF⟩:=Oy (iB x);rw[<-hF];obtain⟨rows,f,n,cs⟩:=x;simp only at h1 h2 h3 h4;obtain⟨s1,s2,s3,s4⟩:=hs;simp only at s1 s2 s3 s4;obtain⟨A1,c1,rfl,hc1,hm1⟩:=h1.form;obtain⟨A2,c2,rfl,hc2,hm2⟩:=h2.form;obtain⟨A3,c3,rfl,hc3,hm3⟩:=h3.form;obtain⟨A4,c4,rfl,hc4,hm4⟩:=h4.form;have B0:=((Below.refl w.heap.size w).al (.cells #[.slice A1 rows.length c1,.slice A2 f.length c2,.slice A3 n.length c3,.slice A4 cs.length c4] 30)).al (.cells #[.slice none 0 0,.slice none 0 0,.slice none 0 0,.slice none 0 0] 30);have bP:=(Blk.bK w 30 #[.slice A1 rows.length c1,.slice A2 f.length c2,.slice A3 n.length c3,.slice A4 cs.length c4]).alloc (.cells #[.slice none 0 0,.slice none 0 0,.slice none 0 0,.slice none 0 0] 30);have bR:=Blk.iV (w.alloc (.cells #[.slice A1 rows.length c1,.slice A2 f.length c2,.slice A3 n.length c3,.slice A4 cs.length c4] 30)) 30 #[.slice none 0 0,.slice none 0 0,.slice none 0 0,.slice none 0 0] (w.heap.size+1) (by simp);have HF:=OA hF;clear hF;go_enter Tryz.func34,Tryz.ntmps34
 go_wp2_with fail
 obtain⟨W0,hW0⟩:=Oy ((w.alloc (.cells #[.slice A1 rows.length c1,.slice A2 f.length c2,.slice A3 n.length c3,.slice A4 cs.length c4] 30)).alloc (.cells #[.slice none 0 0,.slice none 0 0,.slice none 0 0,.slice none 0 0] 30));obtain⟨gP,hgP⟩:=Oy w.heap.size;obtain⟨gR,hgR'⟩:=Oy (w.heap.size+1);rw[<-hW0]at B0 bP bR⊢;rw[<-hgR']at bR⊢;rw[<-hgP]at bP⊢;have hgR:w.heap.size<=gR:=(by omega);have hPR:gP≠gR:=(by omega);have hw0:w.heap.size<=W0.heap.size:=B0.size;clear hW0 hgP hgR';obtain⟨z_0,z_1,z_2,z_3⟩:=bP.n4;have hp0:=bP.lt;have hr0:=bR.lt;go_wp2_with fail
 refine(kV _ _ _ _ (rows,f,n,cs) _ (h1.Oz B0) (h2.Oz B0) (h3.Oz B0) (h4.Oz B0) hs4).mono ?_;rintro e w1 ⟨C1,e1,C2,e2,C3,e3,C4,e4,rfl,oF,hb1⟩;have B1:=B0.tr hb1;have bP1:=bP.bl hb1;have bR1:=bR.bl hb1;have oF:=oF.mono hw0;have bO:=Blk.bK w1 30 #[.slice none 0 0,.slice none 0 0,.slice none 0 0,.slice none 0 0];have oFa:=oF.alloc (.cells #[.slice none 0 0,.slice none 0 0,.slice none 0 0,.slice none 0 0] 30);have bRa:=bR1.alloc (.cells #[.slice none 0 0,.slice none 0 0,.slice none 0 0,.slice none 0 0] 30);have bPa:=bP1.alloc (.cells #[.slice none 0 0,.slice none 0 0,.slice none 0 0,.slice none 0 0] 30);have Ba:=B1.al (.cells #[.slice none 0 0,.slice none 0 0,.slice none 0 0,.slice none 0 0] 30);have hgO:w.heap.size<=w1.heap.size:=B1.size;have hRO:gR<w1.heap.size:=bR1.lt;have hPO:gP<w1.heap.size:=bP1.lt;clear z_0 z_1 z_2 z_3;go_wp2_with (refine aA rfl 30 _ _ rfl w1.heap.size #[.slice C1 rows.length e1,.slice C2 f.length e2,.slice C3 n.length e3,.slice C4 cs.length e4] rfl rfl _ _ bO (by kernel_rfl) rfl (by simp[oneCell']) ?_;intro wS bS hgS;have oS:=aD.eD oFa bO (by decide) (by decide) (by decide) hgS;have bRS:=bRa.grown hgS (by simp;omega);have bPS:=bPa.grown hgS (by simp;omega);have BS:=Ba.grown hgS Ba.size (fun k hk=>by injection hk with hk;subst hk;exact hgO);obtain⟨c_0,c_1,c_2,c_3⟩:=bPS.n4)
 obtain⟨gO,hgO'⟩:=Oy w1.heap.size;rw[<-hgO']at bS hgS hgO hRO hPO⊢;clear hgO';simp only[Act.put];go_loopw [9] (fun _ wr=>∃(y:Fl) (C1 C2 C3 C4:Option Addr) (e1 e2 e3 e4:Nat),Hid (F=iB y)/\dZ y/\Blk wr gO 30 #[.slice C1 y.1.length e1,.slice C2 y.2.1.length e2,.slice C3 y.2.2.1.length e3,.slice C4 y.2.2.2.length e4]/\aD w.heap.size wr (.slice C1 y.1.length e1) (.slice C2 y.2.1.length e2) (.slice C3 y.2.2.1.length e3) (.slice C4 y.2.2.2.length e4) y/\Blk wr gR 30 #[.slice none 0 0,.slice none 0 0,.slice none 0 0,.slice none 0 0]/\Below w.heap.size w wr) (fun _ wr=>Iu wr gO)
 case atStart=>exact⟨(rows,f,n,cs),C1,C2,C3,C4,e1,e2,e3,e4,HF,hs4,bS,oS,bRS,BS⟩
 case round=>
  obtain⟨y,C1,C2,C3,C4,e1,e2,e3,e4,HFy,hsy,bY,oY,bRY,BY⟩:=hrel;clear bS oS bRS BS bPS c_0 c_1 c_2 c_3 hgS bO oFa bRa bPa Ba oF B1 bP1 bR1 HF;obtain⟨y_0,y_1,y_2,y_3⟩:=bY.n4;obtain⟨z,b,hz⟩:∃z b,uV y=(z,b):=⟨_,_,rfl⟩
  have CU : ∀ (u1 u2 u3 u4 : Value) (w : World), Rd 1 bH w u1 y.1 -> Rd 3 aU w u2 y.2.1 -> Rd 3 aU w u3 y.2.2.1 -> Rd 2 bT w u4 y.2.2.2 -> Calls prog 40 #[.agg #[u1, u2, u3, u4]] w (rY z b w) := fun u1 u2 u3 u4 w k1 k2 k3 k4 => by
   have:=Kb u1 u2 u3 u4 y w k1 k2 k3 k4 hsy;rw[hz]at this;exact this
  have HZ:=OA hz;clear hz;go_wp2_with fail
  refine(CU _ _ _ _ _ oY.ra oY.rb oY.rc oY.rd).mono ?_;rintro e w2 ⟨D1,d1,D2,d2,D3,d3,D4,d4,rfl,oN,hb2⟩;have B2:=BY.tr hb2;have bY2:=bY.bl hb2;have bR2:=bRY.bl hb2;have oY2:=oY.below hb2;have oN2:=oN.mono BY.size;have bN:=Blk.bK w2 30 #[.slice none 0 0,.slice none 0 0,.slice none 0 0,.slice none 0 0];have bYa:=bY2.alloc (.cells #[.slice none 0 0,.slice none 0 0,.slice none 0 0,.slice none 0 0] 30);have bRa:=bR2.alloc (.cells #[.slice none 0 0,.slice none 0 0,.slice none 0 0,.slice none 0 0] 30);have oYa:=oY2.alloc (.cells #[.slice none 0 0,.slice none 0 0,.slice none 0 0,.slice none 0 0] 30);have oNa:=oN2.alloc (.cells #[.slice none 0 0,.slice none 0 0,.slice none 0 0,.slice none 0 0] 30);have Ba:=B2.al (.cells #[.slice none 0 0,.slice none 0 0,.slice none 0 0,.slice none 0 0] 30);have hgN:w.heap.size<=w2.heap.size:=B2.size;have hRN:gR<w2.heap.size:=bR2.lt;have hYN:gO<w2.heap.size:=bY2.lt;have hz2:Hid (y.2.2.2.length=Iu wr gO):=OA (by rw[bY.Mk]);clear y_0 y_1 y_2 y_3;rcases b with _|_
  . have hFy : F = y := by rw [HFy.out]; exact Ir HZ.out
    have HFF:=OA hFy;clear hFy;go_wp2_with (first|(refine aA rfl 30 _ _ rfl w2.heap.size #[.slice D1 z.1.length d1,.slice D2 z.2.1.length d2,.slice D3 z.2.2.1.length d3,.slice D4 z.2.2.2.length d4] rfl rfl _ _ bN (by kernel_rfl) rfl (by simp[oneCell']) ?_;intro wS bS hgS;have bYS:=bYa.grown hgS (by simp;omega);have bRS:=bRa.grown hgS (by simp;omega);have oYS:=aD.eD oYa bN (by decide) (by decide) (by decide) hgS;have BS:=Ba.grown hgS Ba.size (fun k hk=>by injection hk with hk;subst hk;exact hgN);obtain⟨u_0,u_1,u_2,u_3⟩:=bYS.n4)|(refine aA rfl 30 _ _ rfl gR #[.slice C1 y.1.length e1,.slice C2 y.2.1.length e2,.slice C3 y.2.2.1.length e3,.slice C4 y.2.2.2.length e4] rfl rfl _ _ bRS (by kernel_rfl) rfl (by simp[oneCell']) ?_;intro wE bE hgE))
    have oE:=aD.eD oYS bRS (by decide) (by decide) (by decide) hgE;have BE:=BS.grown hgE BS.size (fun k hk=>by injection hk with hk;subst hk;exact hgR);obtain⟨q_0,q_1,q_2,q_3⟩:=bE.n4;refine bodyPost_ret (v:= .agg #[.slice C1 y.1.length e1,.slice C2 y.2.1.length e2,.slice C3 y.2.2.1.length e3,.slice C4 y.2.2.2.length e4]) (by simp[results,Tryz.results34,go_sem,q_0,q_1,q_2,q_3]) rfl (by rw[HFF.out];exact⟨C1,e1,C2,e2,C3,e3,C4,e4,rfl,oE,BE⟩)
  . obtain⟨k1,k2,k3,k4⟩:=Kl hsy HZ.out;have HFz:Hid (F=iB z):=OA (by rw[k1];exact HFy.out);have hm:Hid (z.2.2.2.length<Iu wr gO):=OA (by rw[<-hz2.out];exact k3);clear k1 k2 k3;go_wp2_with (first|(refine aA rfl 30 _ _ rfl w2.heap.size #[.slice D1 z.1.length d1,.slice D2 z.2.1.length d2,.slice D3 z.2.2.1.length d3,.slice D4 z.2.2.2.length d4] rfl rfl _ _ bN (by kernel_rfl) rfl (by simp[oneCell']) ?_;intro wS bS hgS;have bYS:=bYa.grown hgS (by simp;omega);have bRS:=bRa.grown hgS (by simp;omega);have oNS:=aD.eD oNa bN (by decide) (by decide) (by decide) hgS;have BS:=Ba.grown hgS Ba.size (fun k hk=>by injection hk with hk;subst hk;exact hgN);obtain⟨u_0,u_1,u_2,u_3⟩:=bS.n4)|(refine aA rfl 30 _ _ rfl gO #[.slice D1 z.1.length d1,.slice D2 z.2.1.length d2,.slice D3 z.2.2.1.length d3,.slice D4 z.2.2.2.length d4] rfl rfl _ _ bYS (by kernel_rfl) rfl (by simp[oneCell']) ?_;intro wE bE hgE))
    have oE:=aD.eD oNS bYS (by decide) (by decide) (by decide) hgE;have bRE:=bRS.grown hgE (by simp;omega);have BE:=BS.grown hgE BS.size (fun k hk=>by injection hk with hk;subst hk;exact hgO);simp only[Act.put];go_roundw
    case rel=>exact⟨z,D1,D2,D3,D4,d1,d2,d3,d4,HFz,k4,bE,oE,bRE,BE⟩
    case measure=>rw[bE.Mk];exact hm.out
end Go.Proofs.YtljfoohaapckeaaGreatDoor
namespace Go.Proofs.YtljfoohaapckeaaGreatDoor
open Go.ChangeShapes Go.WideShapes Go.ChangeAt Go.RowKit
set_option linter.unusedVariables false
set_option maxHeartbeats 4000000
set_option maxRecDepth 100000
theorem Lg {x z:Fl} {c:Cl} {b:Bool} (hs:dZ x) (h:E9 x c=(z,b)):dZ z:=by
 unfold E9 at h;split at h
 . rename_i q;injection h with h _;rw[<-h];have h1:=Bf q.1;have h2:=Bc x.2.2.1 c;refine⟨hs.1,hs.2.1,?_,?_⟩
   . unfold Small;simp only;omega
   . unfold Small;simp only[List.length_append,List.length_cons,List.length_nil];omega
 . injection h with h _;rw[<-h];exact hs
def Nu (z:Fl) (s p r:Int) (w:World) (e:Ending) (w':World):Prop:=∃A1 c1 A2 c2 A3 c3 A4 c4,e= .returned (.agg #[.slice A1 z.1.length c1,.slice A2 z.2.1.length c2,.slice A3 z.2.2.1.length c3,.slice A4 z.2.2.2.length c4,.int .i64 s,.int .i64 p,.int .i64 r])/\
  aD w.heap.size w' (.slice A1 z.1.length c1) (.slice A2 z.2.1.length c2) (.slice A3 z.2.2.1.length c3) (.slice A4 z.2.2.2.length c4) z/\Below w.heap.size w w'
def Ao (z:Fl) (s p r:Int) (b:Bool) (w:World) (e:Ending) (w':World):Prop:=∃A1 c1 A2 c2 A3 c3 A4 c4,e= .returned (.tuple #[.agg #[.slice A1 z.1.length c1,.slice A2 z.2.1.length c2,.slice A3 z.2.2.1.length c3,.slice A4 z.2.2.2.length c4,.int .i64 s,.int .i64 p,.int .i64 r],.bool b])/\
  aD w.heap.size w' (.slice A1 z.1.length c1) (.slice A2 z.2.1.length c2) (.slice A3 z.2.2.1.length c3) (.slice A4 z.2.2.2.length c4) z/\Below w.heap.size w w'
end Go.Proofs.YtljfoohaapckeaaGreatDoor
namespace Go.Proofs.YtljfoohaapckeaaGreatDoor
open Go.ChangeShapes Go.WideShapes Go.ChangeAt Go.RowKit
set_option linter.unusedVariables false
set_option linter.unusedSimpArgs false
set_option maxHeartbeats 4000000
set_option maxRecDepth 100000
def dB (y:Wk):Bool:=dV y.1.1 y.1.2.1 y.1.2.2.1 y.1.2.2.2&&(inB y.2.1 0 10000&&inB y.2.2.1 0 10000&&inB y.2.2.2 0 10000)
theorem NT (s p r:Int):allIn 0 10000 [s,p,r]=(inB s 0 10000&&inB p 0 10000&&inB r 0 10000):=by
 simp[allIn,inB,Bool.and_assoc]
theorem Km (W:World) (a b c:Int):aC 3 1 aY W.heap.size (W.alloc (.cells #[.int .i64 a,.int .i64 b,.int .i64 c] 3)) (.slice (some ⟨W.heap.size,0,none⟩) 3 3) [a,b,c]:=
 World.ownsRow_lit (e:=3) (size:=1) W #[.int .i64 a,.int .i64 b,.int .i64 c] 3 (Nat.le_refl _) (by simp[maxLen]) (by simp)
theorem kW (v1 v2 v3 v4:Value) (y:Wk) (w:World) (h1:Rd 1 bH w v1 y.1.1) (h2:Rd 3 aU w v2 y.1.2.1) (h3:Rd 3 aU w v3 y.1.2.2.1) (h4:Rd 2 bT w v4 y.1.2.2.2) (hl:Small y.1.2.1.length):
 Calls prog 16 #[.agg #[v1,v2,v3,v4,.int .i64 y.2.1,.int .i64 y.2.2.1,.int .i64 y.2.2.2]] w (Ret (.bool (dB y)) w):=by
 obtain⟨⟨rows,f,n,fl⟩,s,p,r⟩:=y;simp only at h1 h2 h3 h4 hl⊢;obtain⟨P1,q1,rfl,_,_⟩:=h1.form;obtain⟨P2,q2,rfl,_,_⟩:=h2.form;obtain⟨P3,q3,rfl,_,_⟩:=h3.form;obtain⟨P4,q4,rfl,_,_⟩:=h4.form;have hA:=(Below.refl w.heap.size w).al (.cells #[.slice P1 rows.length q1,.slice P2 f.length q2,.slice P3 n.length q3,.slice P4 fl.length q4,.int .i64 s,.int .i64 p,.int .i64 r] 32);have bA:=Blk.bK w 32 #[.slice P1 rows.length q1,.slice P2 f.length q2,.slice P3 n.length q3,.slice P4 fl.length q4,.int .i64 s,.int .i64 p,.int .i64 r];have e:dB ((rows,f,n,fl),s,p,r)=(dV rows f n fl&&allIn 0 10000 [s,p,r]):=by unfold dB;rw[NT]
 rw[e];obtain⟨F,hF⟩:=Oy (dV rows f n fl);rw[<-hF];have HF:=OA hF;clear hF e;go_enter Tryz.func16,Tryz.ntmps16
 go_wp2_with fail
 refine(qX _ _ _ _ rows f n fl _ (h1.Oz hA) (h2.Oz hA) (h3.Oz hA) (h4.Oz hA) hl).mono ?_;rintro e w1 ⟨rfl,hb1⟩;rw[<-HF.out];have bA1:=bA.bl hb1;have z4:=bA1.cell 4;have z5:=bA1.cell 5;have z6:=bA1.cell 6;simp at z4 z5 z6;have B1:=hA.tr hb1;cases F
 . go_wp2;go_ret;exact⟨rfl,B1⟩
 . go_wp2_with fail
   refine(lQ _ [s,p,r] _ _ _ ((Km w1 s p r).rd aL (by decide))).mono ?_;rintro e w2 ⟨rfl,rfl⟩;obtain⟨R,hR⟩:=Oy (allIn 0 10000 [s,p,r]);rw[<-hR];have HR:Hid (R=(true&&allIn 0 10000 [s,p,r])):=OA (by rw[hR,Bool.true_and]);clear hR;go_wp2;go_ret;exact⟨kN HR.out,B1.al _⟩
theorem kX (v1 v2 v3 v4:Value) (y:Wk) (w:World) (h1:Rd 1 bH w v1 y.1.1) (h2:Rd 3 aU w v2 y.1.2.1) (h3:Rd 3 aU w v3 y.1.2.2.1) (h4:Rd 2 bT w v4 y.1.2.2.2) (hl:Small y.1.2.1.length):
 Calls prog 95 #[.agg #[v1,v2,v3,v4,.int .i64 y.2.1,.int .i64 y.2.2.1,.int .i64 y.2.2.2]] w (Ret (.bool (dB y)) w):=by
 obtain⟨⟨rows,f,n,fl⟩,s,p,r⟩:=y;simp only at h1 h2 h3 h4 hl⊢;obtain⟨P1,q1,rfl,_,_⟩:=h1.form;obtain⟨P2,q2,rfl,_,_⟩:=h2.form;obtain⟨P3,q3,rfl,_,_⟩:=h3.form;obtain⟨P4,q4,rfl,_,_⟩:=h4.form;have hA:=(Below.refl w.heap.size w).al (.cells #[.slice P1 rows.length q1,.slice P2 f.length q2,.slice P3 n.length q3,.slice P4 fl.length q4,.int .i64 s,.int .i64 p,.int .i64 r] 32);have bA:=Blk.bK w 32 #[.slice P1 rows.length q1,.slice P2 f.length q2,.slice P3 n.length q3,.slice P4 fl.length q4,.int .i64 s,.int .i64 p,.int .i64 r];have e:dB ((rows,f,n,fl),s,p,r)=(dV rows f n fl&&(inB s 0 10000&&inB p 0 10000&&inB r 0 10000)):=rfl;rw[e];obtain⟨F,hF⟩:=Oy (dV rows f n fl);obtain⟨b1,hb1'⟩:=Oy (inB s 0 10000);obtain⟨b2,hb2'⟩:=Oy (inB p 0 10000);obtain⟨b3,hb3'⟩:=Oy (inB r 0 10000);rw[<-hF,<-hb1',<-hb2',<-hb3'];have HF:=OA hF;have H1:=OA hb1';have H2:=OA hb2';have H3:=OA hb3';clear hF e hb1' hb2' hb3';go_enter Tryz.func95,Tryz.ntmps95
 go_wp2_with fail
 refine(rC _ _ _ _ rows f n fl _ (h1.Oz hA) (h2.Oz hA) (h3.Oz hA) (h4.Oz hA) hl).mono ?_;rintro e w1 ⟨rfl,hb1⟩;rw[<-HF.out];have bA1:=bA.bl hb1;have z4:=bA1.cell 4;have z5:=bA1.cell 5;have z6:=bA1.cell 6;simp at z4 z5 z6;have B1:=hA.tr hb1;cases F
 . go_wp2;go_ret;exact⟨rfl,B1⟩
 . go_wp2_with fail
   refine(iI _ _ _ _).mono ?_;rintro e w2 ⟨rfl,rfl⟩;rw[<-H1.out];cases b1
   . go_wp2;go_ret;exact⟨by simp,B1⟩
   . go_wp2_with fail
     refine(iI _ _ _ _).mono ?_;rintro e w3 ⟨rfl,rfl⟩;rw[<-H2.out];cases b2
     . go_wp2;go_ret;exact⟨by simp,B1⟩
     . go_wp2_with fail
       refine(iI _ _ _ _).mono ?_;rintro e w4 ⟨rfl,rfl⟩;rw[<-H3.out];cases b3
       . go_wp2;go_ret;exact⟨by simp,B1⟩
       . go_wp2;go_ret;exact⟨by simp,B1⟩
theorem oV (v1 v2 v3 v4:Value) (x:Fl) (s p r:Int) (w:World) (h1:Rd 1 bH w v1 x.1) (h2:Rd 3 aU w v2 x.2.1) (h3:Rd 3 aU w v3 x.2.2.1) (h4:Rd 2 bT w v4 x.2.2.2) (hs:dZ x):
 Calls prog 62 #[.agg #[v1,v2,v3,v4,.int .i64 s,.int .i64 p,.int .i64 r]] w (Nu x s p r w):=by
 obtain⟨A1,c1,rfl,hc1,hm1⟩:=h1.form;obtain⟨A2,c2,rfl,hc2,hm2⟩:=h2.form;obtain⟨A3,c3,rfl,hc3,hm3⟩:=h3.form;obtain⟨A4,c4,rfl,hc4,hm4⟩:=h4.form;have B0:=(((Below.refl w.heap.size w).al (.cells #[.slice A1 x.1.length c1,.slice A2 x.2.1.length c2,.slice A3 x.2.2.1.length c3,.slice A4 x.2.2.2.length c4,.int .i64 s,.int .i64 p,.int .i64 r] 32)).al (.cells #[.slice none 0 0,.slice none 0 0,.slice none 0 0,.slice none 0 0,.int .i64 0,.int .i64 0,.int .i64 0] 32)).al (.cells #[.slice A1 x.1.length c1,.slice A2 x.2.1.length c2,.slice A3 x.2.2.1.length c3,.slice A4 x.2.2.2.length c4,.int .i64 s,.int .i64 p,.int .i64 r] 32);have bP:=((Blk.bK w 32 #[.slice A1 x.1.length c1,.slice A2 x.2.1.length c2,.slice A3 x.2.2.1.length c3,.slice A4 x.2.2.2.length c4,.int .i64 s,.int .i64 p,.int .i64 r]).alloc (.cells #[.slice none 0 0,.slice none 0 0,.slice none 0 0,.slice none 0 0,.int .i64 0,.int .i64 0,.int .i64 0] 32)).alloc (.cells #[.slice A1 x.1.length c1,.slice A2 x.2.1.length c2,.slice A3 x.2.2.1.length c3,.slice A4 x.2.2.2.length c4,.int .i64 s,.int .i64 p,.int .i64 r] 32);have bR:=(Blk.iV (w.alloc (.cells #[.slice A1 x.1.length c1,.slice A2 x.2.1.length c2,.slice A3 x.2.2.1.length c3,.slice A4 x.2.2.2.length c4,.int .i64 s,.int .i64 p,.int .i64 r] 32)) 32 #[.slice none 0 0,.slice none 0 0,.slice none 0 0,.slice none 0 0,.int .i64 0,.int .i64 0,.int .i64 0] (w.heap.size+1) (by simp)).alloc (.cells #[.slice A1 x.1.length c1,.slice A2 x.2.1.length c2,.slice A3 x.2.2.1.length c3,.slice A4 x.2.2.2.length c4,.int .i64 s,.int .i64 p,.int .i64 r] 32);have bO:=Blk.iV ((w.alloc (.cells #[.slice A1 x.1.length c1,.slice A2 x.2.1.length c2,.slice A3 x.2.2.1.length c3,.slice A4 x.2.2.2.length c4,.int .i64 s,.int .i64 p,.int .i64 r] 32)).alloc (.cells #[.slice none 0 0,.slice none 0 0,.slice none 0 0,.slice none 0 0,.int .i64 0,.int .i64 0,.int .i64 0] 32)) 32 #[.slice A1 x.1.length c1,.slice A2 x.2.1.length c2,.slice A3 x.2.2.1.length c3,.slice A4 x.2.2.2.length c4,.int .i64 s,.int .i64 p,.int .i64 r] (w.heap.size+1+1) (by simp);go_enter Tryz.func62,Tryz.ntmps62
 go_wp2_with fail
 obtain⟨W0,hW0⟩:=Oy (((w.alloc (.cells #[.slice A1 x.1.length c1,.slice A2 x.2.1.length c2,.slice A3 x.2.2.1.length c3,.slice A4 x.2.2.2.length c4,.int .i64 s,.int .i64 p,.int .i64 r] 32)).alloc (.cells #[.slice none 0 0,.slice none 0 0,.slice none 0 0,.slice none 0 0,.int .i64 0,.int .i64 0,.int .i64 0] 32)).alloc (.cells #[.slice A1 x.1.length c1,.slice A2 x.2.1.length c2,.slice A3 x.2.2.1.length c3,.slice A4 x.2.2.2.length c4,.int .i64 s,.int .i64 p,.int .i64 r] 32));obtain⟨gP,hgP⟩:=Oy w.heap.size;obtain⟨gR,hgR'⟩:=Oy (w.heap.size+1);obtain⟨gO,hgO'⟩:=Oy (w.heap.size+1+1);rw[<-hW0]at B0 bP bR bO⊢;rw[<-hgO']at bO⊢;rw[<-hgR']at bR⊢;rw[<-hgP]at bP⊢;have hgR:w.heap.size<=gR:=(by omega);have hgO:w.heap.size<=gO:=(by omega);have hPR:gP≠gR:=(by omega);have hPO:gP≠gO:=(by omega);have hRO:gR≠gO:=(by omega);have hOR:=hRO.symm;clear hW0 hgP hgR' hgO';obtain⟨z_0,z_1,z_2,z_3,z_4,z_5,z_6⟩:=bP.n7;refine(kV _ _ _ _ x _ (h1.Oz B0) (h2.Oz B0) (h3.Oz B0) (h4.Oz B0) hs).mono ?_;rintro e w1 ⟨D1,d1,D2,d2,D3,d3,D4,d4,rfl,oF,hb1⟩;have oF:=oF.mono B0.size;have B1:=B0.tr hb1;have bR1:=bR.bl hb1;have bO1:=bO.bl hb1;clear z_0 z_1 z_2 z_3 z_4 z_5 z_6;obtain⟨o_0,o_1,o_2,o_3,o_4,o_5,o_6⟩:=bO1.n7;have fO:∀j,w1.frozen? ⟨gO,j,none⟩=false:=fun j=>bO1.frozen j
 have hgg:=dI (dI (dI (dI (World.grownBy.refl w1 (some gO)) 0 (.slice D1 x.1.length d1)) 1 (.slice D2 x.2.1.length d2)) 2 (.slice D3 x.2.2.1.length d3)) 3 (.slice D4 x.2.2.2.length d4);have bR5:=bR1.grown hgg (by simp;omega);have oF5:=aD.eD oF bO1 (by decide) (by decide) (by decide) hgg;have B5:=B1.grown hgg B1.size (fun k hk=>by injection hk with hk;subst hk;exact hgO);go_wp2_with (refine aA rfl 32 _ _ rfl gR #[.slice D1 x.1.length d1,.slice D2 x.2.1.length d2,.slice D3 x.2.2.1.length d3,.slice D4 x.2.2.2.length d4,.int .i64 s,.int .i64 p,.int .i64 r] rfl rfl _ _ bR5 (by kernel_rfl) rfl (by simp[oneCell']) ?_;intro wE bE hgE)
 have oE:aD w.heap.size wE _ _ _ _ _:=aD.eD oF5 bR5 (by decide) (by decide) (by decide) hgE;have BE:=B5.grown hgE B5.size (fun k hk=>by injection hk with hk;subst hk;exact hgR);obtain⟨q_0,q_1,q_2,q_3,q_4,q_5,q_6⟩:=bE.n7;refine bodyPost_ret (v:= .agg #[.slice D1 x.1.length d1,.slice D2 x.2.1.length d2,.slice D3 x.2.2.1.length d3,.slice D4 x.2.2.2.length d4,.int .i64 s,.int .i64 p,.int .i64 r]) (by simp[results,Tryz.results62,go_sem,q_0,q_1,q_2,q_3,q_4,q_5,q_6]) rfl ⟨D1,d1,D2,d2,D3,d3,D4,d4,rfl,oE,BE⟩
theorem mK (v1 v2 v3 v4:Value) (x:Fl) (s p r:Int) (w:World) (h1:Rd 1 bH w v1 x.1) (h2:Rd 3 aU w v2 x.2.1) (h3:Rd 3 aU w v3 x.2.2.1) (h4:Rd 2 bT w v4 x.2.2.2) (hs:dZ x):
 Calls prog 94 #[.agg #[v1,v2,v3,v4,.int .i64 s,.int .i64 p,.int .i64 r]] w (Nu x s p r w):=by
 obtain⟨A1,c1,rfl,hc1,hm1⟩:=h1.form;obtain⟨A2,c2,rfl,hc2,hm2⟩:=h2.form;obtain⟨A3,c3,rfl,hc3,hm3⟩:=h3.form;obtain⟨A4,c4,rfl,hc4,hm4⟩:=h4.form;have B0:=((Below.refl w.heap.size w).al (.cells #[.slice A1 x.1.length c1,.slice A2 x.2.1.length c2,.slice A3 x.2.2.1.length c3,.slice A4 x.2.2.2.length c4,.int .i64 s,.int .i64 p,.int .i64 r] 32)).al (.cells #[.slice none 0 0,.slice none 0 0,.slice none 0 0,.slice none 0 0,.int .i64 0,.int .i64 0,.int .i64 0] 32);have bP:=(Blk.bK w 32 #[.slice A1 x.1.length c1,.slice A2 x.2.1.length c2,.slice A3 x.2.2.1.length c3,.slice A4 x.2.2.2.length c4,.int .i64 s,.int .i64 p,.int .i64 r]).alloc (.cells #[.slice none 0 0,.slice none 0 0,.slice none 0 0,.slice none 0 0,.int .i64 0,.int .i64 0,.int .i64 0] 32);have bR:=Blk.iV (w.alloc (.cells #[.slice A1 x.1.length c1,.slice A2 x.2.1.length c2,.slice A3 x.2.2.1.length c3,.slice A4 x.2.2.2.length c4,.int .i64 s,.int .i64 p,.int .i64 r] 32)) 32 #[.slice none 0 0,.slice none 0 0,.slice none 0 0,.slice none 0 0,.int .i64 0,.int .i64 0,.int .i64 0] (w.heap.size+1) (by simp);go_enter Tryz.func94,Tryz.ntmps94
 go_wp2_with fail
 obtain⟨W0,hW0⟩:=Oy ((w.alloc (.cells #[.slice A1 x.1.length c1,.slice A2 x.2.1.length c2,.slice A3 x.2.2.1.length c3,.slice A4 x.2.2.2.length c4,.int .i64 s,.int .i64 p,.int .i64 r] 32)).alloc (.cells #[.slice none 0 0,.slice none 0 0,.slice none 0 0,.slice none 0 0,.int .i64 0,.int .i64 0,.int .i64 0] 32));obtain⟨gP,hgP⟩:=Oy w.heap.size;obtain⟨gR,hgR'⟩:=Oy (w.heap.size+1);rw[<-hW0]at B0 bP bR⊢;rw[<-hgR']at bR⊢;rw[<-hgP]at bP⊢;have hgR:w.heap.size<=gR:=(by omega);have hPR:gP≠gR:=(by omega);have hp0:=bP.lt;have hr0:=bR.lt;clear hW0 hgP hgR';obtain⟨z_0,z_1,z_2,z_3,z_4,z_5,z_6⟩:=bP.n7;have Bw:Below W0.heap.size W0 W0.drew:=(Below.refl _ _).drew;have hz:W0.heap.size<=W0.drew.heap.size:=(by simp);refine rB (fun w'=>w'.cell? ⟨gP,0,none⟩=some (.slice A1 x.1.length c1)/\w'.cell? ⟨gP,1,none⟩=some (.slice A2 x.2.1.length c2)/\w'.cell? ⟨gP,2,none⟩=some (.slice A3 x.2.2.1.length c3)/\w'.cell? ⟨gP,3,none⟩=some (.slice A4 x.2.2.2.length c4)/\w'.cell? ⟨gP,4,none⟩=some (.int .i64 s)/\w'.cell? ⟨gP,5,none⟩=some (.int .i64 p)/\w'.cell? ⟨gP,6,none⟩=some (.int .i64 r)) fun hHeld=>(tW 0)<|(tW 1)<|(tW 3)<|(tW 4)<|(tW 5)<|(tW 6)<|(tW 7)<|(tW 8)<|(tR [2])<|tL fun K hK=>?_
 go_simp
 (first|(go_at_call 151;go_must (refine(oK _ _ _ _ x _ (h1.Oz (B0.tr Bw)) (h2.Oz (B0.tr Bw)) (h3.Oz (B0.tr Bw)) (h4.Oz (B0.tr Bw)) hs).mono ?_;rintro e wX ⟨D1,d1,D2,d2,D3,d3,D4,d4,rfl,oF,hbX⟩;have bR1:=(bR.bl Bw).bl hbX;have oF1:=oF.mono (B0.tr Bw).size;obtain⟨hcX,hfX,hzX⟩:=bkn hbX W0.heap.size hz;have hz:=hzX;have Bw:=Bw.tr hbX);(try go_wp2_with fail)))
 refine tK hK fun hHeld=>?_
 clear hK K;refine(tW 9)<|(tR [10])<|tL fun K hK=>?_
 (refine aJ rfl 32 _ _ rfl gR #[.slice D1 x.1.length d1,.slice D2 x.2.1.length d2,.slice D3 x.2.2.1.length d3,.slice D4 x.2.2.2.length d4,.int .i64 s,.int .i64 p,.int .i64 r] rfl rfl _ _ bR1 (by kernel_rfl) rfl (by simp[oneCell']) ?_;intro wE bE hgE;have oE:=aD.eD oF1 bR1 (by decide) (by decide) (by decide) hgE;have BE:=(B0.tr Bw).grown hgE (B0.tr Bw).size (fun k hk=>by injection hk with hk;subst hk;exact hgR);have bPE:=(bP.bl Bw).grown hgE (by simp;omega);obtain⟨c_0,c_1,c_2,c_3,c_4,c_5,c_6⟩:=bPE.n7)
 refine tK hK fun hHeld=>?_
 clear hK K;refine tD ?_;go_wp2_with fail
 obtain⟨q_0,q_1,q_2,q_3,q_4,q_5,q_6⟩:=bE.n7;refine bodyPost_ret (v:= .agg #[.slice D1 x.1.length d1,.slice D2 x.2.1.length d2,.slice D3 x.2.2.1.length d3,.slice D4 x.2.2.2.length d4,.int .i64 s,.int .i64 p,.int .i64 r]) (by simp[results,Tryz.results94,go_sem,q_0,q_1,q_2,q_3,q_4,q_5,q_6]) rfl ⟨D1,d1,D2,d2,D3,d3,D4,d4,rfl,oE,BE⟩
def rZ (y:Wk) (c:Cl):Bool:=dB y&&(E9 y.1 c).2
def nD (y:Wk) (c:Cl):Fl:=if rZ y c then(E9 y.1 c).1 else y.1
theorem nS {y:Wk} (c:Cl) (hs:dZ y.1):dZ (nD y c):=by
 unfold nD;split
 . exact Lg (b:=(E9 y.1 c).2) hs rfl
 . exact hs
theorem Ej {y:Wk} (h:dB y=true):lH y.1=true:=by
 unfold dB at h;rw[Bool.and_eq_true]at h;exact h.1
theorem Kn {x:Fl} (h:lH x=true):(iB x).2.2.1=x.2.1:=by
 unfold iB;rw[if_pos h];unfold xN dD;rw[List.take_zero];simp[fJ]
theorem Om {α:Type} {size:Nat} {R:World->List Value->α->Prop} {w:World} {v:Value} {l m:List α} (h:Rd size R w v l) (e:l=m):Rd size R w v m:=e▸h
theorem Dh (u v:Value) (l:List Dm) (w:World) (h:Rd 3 aU w u l) (h':Rd 3 aU w v l):Calls prog 80 #[u,v] w (Ret (.bool true) w):=by
 have:=qW u v l l w h h';rw[decide_eq_true (rfl:l=l)]at this;exact this
theorem Di (u v:Value) (l:List Dm) (w:World) (h:Rd 3 aU w u l) (h':Rd 3 aU w v l):Calls prog 31 #[u,v] w (Ret (.bool true) w):=by
 have:=nG u v l l w h h';rw[decide_eq_true (rfl:l=l)]at this;exact this
theorem Iw (v1 v2 v3 v4:Value) (x:Fl) (s p r:Int) (w:World) (h1:Rd 1 bH w v1 x.1) (h2:Rd 3 aU w v2 x.2.1) (h3:Rd 3 aU w v3 x.2.2.1) (h4:Rd 2 bT w v4 x.2.2.2) (hs:dZ x):
 Calls prog 30 #[.agg #[v1,v2,v3,v4,.int .i64 s,.int .i64 p,.int .i64 r]] w (Ret (.bool (dB (x,s,p,r))) w):=by
 obtain⟨A1,c1,rfl,hc1,hm1⟩:=h1.form;obtain⟨A2,c2,rfl,hc2,hm2⟩:=h2.form;obtain⟨A3,c3,rfl,hc3,hm3⟩:=h3.form;obtain⟨A4,c4,rfl,hc4,hm4⟩:=h4.form;have B0:=(Below.refl w.heap.size w).al (.cells #[.slice A1 x.1.length c1,.slice A2 x.2.1.length c2,.slice A3 x.2.2.1.length c3,.slice A4 x.2.2.2.length c4,.int .i64 s,.int .i64 p,.int .i64 r] 32);have bP:=Blk.bK w 32 #[.slice A1 x.1.length c1,.slice A2 x.2.1.length c2,.slice A3 x.2.2.1.length c3,.slice A4 x.2.2.2.length c4,.int .i64 s,.int .i64 p,.int .i64 r];obtain⟨k,hk⟩:=Oy (dB (x,s,p,r));have hfl:k=true->lH x=true:=fun q=>Ej (hk▸q)
 have HF:=OA hfl;rw[<-hk];have HK:=OA hk;clear hk hfl;go_enter Tryz.func30,Tryz.ntmps30
 go_wp2_with fail
 refine(kW _ _ _ _ (x,s,p,r) _ (h1.Oz B0) (h2.Oz B0) (h3.Oz B0) (h4.Oz B0) hs.2.1).mono ?_;rintro e w1 ⟨rfl,hb1⟩;rw[<-HK.out];have B1:=B0.tr hb1;have bP1:=bP.bl hb1;cases k
 . go_wp2;go_ret;exact⟨rfl,B1⟩
 . have hf:=HF.out rfl;obtain⟨z,hz⟩:=Oy (iB x);have hnow:z.2.2.1=x.2.1:=by rw[hz];exact Kn hf
   have CU : ∀ (a1 a2 a3 a4 : Value) (w : World), Rd 1 bH w a1 x.1 -> Rd 3 aU w a2 x.2.1 -> Rd 3 aU w a3 x.2.2.1 -> Rd 2 bT w a4 x.2.2.2 -> Calls prog 34 #[.agg #[a1, a2, a3, a4]] w (wW z w) := fun a1 a2 a3 a4 w k1 k2 k3 k4 => by
    rw[hz];exact EO a1 a2 a3 a4 x w k1 k2 k3 k4 hs
   clear hz hf;obtain⟨y_0,y_1,y_2,y_3,y_4,y_5,y_6⟩:=bP1.n7;go_wp2_with fail
   refine(CU _ _ _ _ _ (h1.Oz B1) (h2.Oz B1) (h3.Oz B1) (h4.Oz B1)).mono ?_;rintro e w2 ⟨D1,d1,D2,d2,D3,d3,D4,d4,rfl,oD,hb2⟩;have B2:=B1.tr hb2;have bP2:=(bP1.bl hb2).alloc (.cells #[.slice D1 z.1.length d1,.slice D2 z.2.1.length d2,.slice D3 z.2.2.1.length d3,.slice D4 z.2.2.2.length d4] 30);have B3:=B2.al (.cells #[.slice D1 z.1.length d1,.slice D2 z.2.1.length d2,.slice D3 z.2.2.1.length d3,.slice D4 z.2.2.2.length d4] 30);have rc:=Om (oD.alloc (.cells #[.slice D1 z.1.length d1,.slice D2 z.2.1.length d2,.slice D3 z.2.2.1.length d3,.slice D4 z.2.2.2.length d4] 30)).rc hnow;have HN:=OA hnow;clear hnow;have hp0:=(bP1.bl hb2).lt;have hn0:w.heap.size≠w2.heap.size:=(by omega);clear y_0 y_1 y_2 y_3 y_4 y_5 y_6;obtain⟨y_0,y_1,y_2,y_3,y_4,y_5,y_6⟩:=bP2.n7;go_wp2_with fail
   refine(Dh _ _ x.2.1 _ rc (h2.Oz B3)).mono ?_;rintro e w4 ⟨rfl,hb4⟩;go_wp2;go_ret;exact⟨rfl,B3.tr hb4⟩
end Go.Proofs.YtljfoohaapckeaaGreatDoor
