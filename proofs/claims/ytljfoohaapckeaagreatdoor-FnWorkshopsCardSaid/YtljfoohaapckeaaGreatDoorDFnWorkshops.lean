/- FnWorkshops: the law's walk. No conditions but sizes; the library's table of powers. -/
import Derived.Test.YtljfoohaapckeaaGreatDoorDG43
import Derived.Test.YtljfoohaapckeaaGreatDoorDBuy
import Derived.Test.YtljfoohaapckeaaGreatDoorDG23
import Derived.Test.YtljfoohaapckeaaGreatDoorDG39
open _root_.Go.Proofs.Tryz (prog func6 ntmps6)
namespace Go.Proofs.YtljfoohaapckeaaGreatDoor
open Go.ChangeShapes Go.WideShapes Go.ChangeAt Go.RowKit
set_option linter.unusedVariables false
set_option linter.unusedSimpArgs false
set_option maxHeartbeats 4000000
set_option maxRecDepth 100000
theorem G6 (v:Value) (l:List Int) (w:World) (h:Rd 1 mM w v l):Calls prog 13 #[v] w (Pure (.bool (decide (1048576<l.length))) w):=by
 obtain⟨A,c,rfl,hc,hm⟩:=h.form;go_enter Tryz.func13,Tryz.ntmps13
 go_wp2;go_ret;exact⟨by simp;omega,rfl⟩
theorem Aq {u1 u2 u3 u4:Value} {x:Fl} {s p r:Int} (hk:dB (x,s,p,r)=true) (hs:dZ x) {W:World} (h:R4 W u1 u2 u3 u4 x):Calls prog 16 #[.agg #[u1,u2,u3,u4,.int .i64 s,.int .i64 p,.int .i64 r]] W (Ret (.bool true) W):=by
 have:=kW u1 u2 u3 u4 (x,s,p,r) W h.a h.b h.c h.d hs.2.1;rw[hk]at this;exact this
theorem xW {u1 u2 u3 u4:Value} {x:Fl} {s p r:Int} (hk:dB (x,s,p,r)=true) (hs:dZ x) {W:World} (h:R4 W u1 u2 u3 u4 x):Calls prog 30 #[.agg #[u1,u2,u3,u4,.int .i64 s,.int .i64 p,.int .i64 r]] W (Ret (.bool true) W):=by
 have:=Iw u1 u2 u3 u4 x s p r W h.a h.b h.c h.d hs;rw[hk]at this;exact this
theorem alW {w w':World} {o:Obj} (hg:(w.alloc o).grownBy w' (some w.heap.size)):Below w.heap.size w w':=((Below.refl w.heap.size w).al o).grown hg ((Below.refl w.heap.size w).al o).size (fun k hk=>by injection hk with hk;subst hk;exact Nat.le_refl _)
theorem Ov (u v:Value) (l:List (Int×Int)) (n:Int) (t1 t2:Int) (ht:hold l (chosen l n)=(t1,t2)) (w:World) (h:Rd 2 bT w u l) (hv:Rd 1 bH w v (chosen l n)):Calls prog 27 #[u,v] w (Ret (.tuple #[.int .i64 t1,.int .i64 t2]) w):=by
 have:=Dx u v l (chosen l n) w h hv;rw[ht]at this;exact this
theorem Np {x:Fl} {s p r:Int} {l:List (Int×Int)} {n:Nat} (h:dB (x,s,p,r)=true) (hf:nH 7 s p) (hb:(∀x∈l,jE x)/\1<=l.length/\l.length<=4) (hn:n<=29):
 sH (x,s,p,r) l n=true/\vW (x,s,p,r) l n=IntKind.i64.wrap (s+(hold l (chosen l n)).1)/\vX (x,s,p,r) l n=IntKind.i64.wrap (p+(hold l (chosen l n)).2):=by
 obtain⟨a0,a1,a2,a3,a4⟩:=ED hb.1 hb.2.1 hb.2.2 hn;have hw:=CQ h;have hfl:=(mE.1 h).1
 have hk:sH (x,s,p,r) l n=true:=by
  unfold sH;rw[h,decide_eq_true a0,Bool.true_and,Bool.true_and];refine mE.2 ⟨hfl,?_⟩;unfold uS;simp only;rw[IntWalk.i64_in _ (by unfold nH at hf;omega),IntWalk.i64_in _ (by unfold nH at hf;omega)];unfold nH at hf;unfold inB;simp;omega
 refine⟨hk,?_,?_⟩
 . unfold vW;rw[if_pos hk];rfl
 . unfold vX;rw[if_pos hk];rfl
set_option maxHeartbeats 8000000 in
theorem xX (w : World) (tab : Tab w) (v : Value) (l : List Int) (h : Rd 1 mM w v l) (ok : mO (fun x => 0 <= x /\ x <= 255) l) : Calls prog 6 #[v] w (Ret (.bool true) w) := by
 by_cases hsz:1048576<l.length
 . have hd : decide (1048576 < l.length) = true := by simpa using hsz
   have Hd:=OA hd;clear hd;go_enter func6,ntmps6
   go_wp2_with fail
   refine(G6 _ l _ h).mono ?_;rintro e w0 ⟨rfl,rfl⟩;rw[Hd.out];go_wp2;go_ret;exact⟨rfl,Below.refl _ _⟩
 . have hd : decide (1048576 < l.length) = false := by simpa using hsz
   have Hd:=OA hd;clear hd;have hl:l.length<=1048576:=(by omega);have Hok:=OA ok;have HTB:=OA tab;clear ok tab;go_enter func6,ntmps6
   go_wp2_with fail
   refine(G6 _ l _ h).mono ?_;rintro e w0 ⟨rfl,rfl⟩;rw[Hd.out];go_wp2_with fail
   refine(ET _ l _ h Hok.out hl).mono ?_;rintro e w1 ⟨x,s,p,r,V1,V2,V3,V4,rfl,oF,hk,hfw,hs,hb1⟩;have HK:=OA hk;have HS:=OA hs;have HW:=OA hfw;clear hk hs hfw;obtain⟨F3,f3,rfl,_,_⟩:=oF.c.form;go_upto_region 4 with(refine aA rfl 32 _ _ rfl w1.heap.size #[V1,V2,.slice F3 x.2.2.1.length f3,V4,.int .i64 s,.int .i64 p,.int .i64 r] rfl rfl _ _ (Blk.bK w1 32 #[.slice none 0 0,.slice none 0 0,.slice none 0 0,.slice none 0 0,.int .i64 0,.int .i64 0,.int .i64 0]) (by kernel_rfl) rfl (Cb oF.one) ?_;intro w2 bO hg2)
   have oF2:=aD.alg oF (by decide) (by decide) (by decide) hg2;have B2:=hb1.tr (alW hg2);clear oF hb1 hg2;obtain⟨gO,hgO⟩:=Oy w1.heap.size;rw[<-hgO]at bO⊢;clear hgO;go_wp2_with fail
   refine(IU _ l _ (h.Oz B2) Hok.out hl).mono ?_;rintro e w3 ⟨bl,A,c,rfl,oB,hb1,hb4,hbx,hb3⟩;have HB:=OA (And.intro hbx (And.intro hb1 hb4));clear hbx hb1 hb4;obtain⟨c0,hc0⟩:=Oy (sI l 0);have hc0r:0<=c0/\c0<=255:=by rw[hc0];exact EE Hok.out 0
   have C0:=Ce 0 (by decide) v l w3 (h.Oz (B2.tr hb3)) Hok hl;rw[<-hc0]at C0;obtain⟨n,hn,hn29⟩:∃n:Nat,c0%30=(n:Int)/\n<=29:=⟨(c0%30).toNat,by omega,by omega⟩;have h00:=hc0r.1;clear hc0 hc0r;obtain⟨k1,k2,k3⟩:=Np (r:=r) HK.out HW.out HB.out hn29
   have CB : ∀ W, Below w3.heap.size w3 W -> Calls prog 26 #[.agg #[V1, V2, .slice F3 x.2.2.1.length f3, V4, .int .i64 s, .int .i64 p, .int .i64 r], .slice A bl.length c, .int .i64 n] W (Ao x (vW (x, s, p, r) bl n) (vX (x, s, p, r) bl n) r true W) := fun W hb => by
    have oF':=oF2.below (hb3.tr hb);have:=LY _ _ _ _ _ x s p r bl n W oF'.ra oF'.rb oF'.rc oF'.rd ((oB.below hb).rd mZ (by decide)) HS.out;rw[k1]at this;exact this
   have hokx:dB (x,vW (x,s,p,r) bl n,vX (x,s,p,r) bl n,r)=true:=Dn bl n HK.out;obtain⟨ss,hss⟩:=Oy (vW (x,s,p,r) bl n);obtain⟨pp,hpp⟩:=Oy (vX (x,s,p,r) bl n);rw[<-hss,<-hpp]at CB hokx;rw[<-hss]at k2;rw[<-hpp]at k3;obtain⟨⟨t1,t2⟩,ht⟩:∃t,t=hold bl (chosen bl n):=⟨_,rfl⟩;rw[<-ht]at k2 k3;simp only at k2 k3;have HKx:=OA hokx;have Hs1:=OA k2;have Hs2:=OA k3;have Ht:=OA ht;clear k1 k2 k3 hokx hss hpp ht;have HCB:=OA CB;clear CB;go_upto_region 5 with(fail)
   go_wp2_with fail
   refine C0.mono ?_;rintro e w4 ⟨rfl,rfl⟩;obtain⟨y_0,y_1,y_2,y_3,y_4,y_5,y_6⟩:=(bO.bl hb3).n7;go_upto_region 6 with(fail)
   go_wp2_with fail
   refine(HCB.out _ (Below.refl _ _)).mono ?_;rintro e w5 ⟨A1,a1,A2,a2,A3,a3,A4,a4,rfl,oX,hb5⟩;clear y_0 y_1 y_2 y_3 y_4 y_5 y_6 HCB;go_upto_region 7 with(refine aA rfl 32 _ _ rfl w5.heap.size #[.slice A1 x.1.length a1,.slice A2 x.2.1.length a2,.slice A3 x.2.2.1.length a3,.slice A4 x.2.2.2.length a4,.int .i64 ss,.int .i64 pp,.int .i64 r] rfl rfl _ _ (Blk.bK w5 32 #[.slice none 0 0,.slice none 0 0,.slice none 0 0,.slice none 0 0,.int .i64 0,.int .i64 0,.int .i64 0]) (by kernel_rfl) rfl (Cb oX.one) ?_;intro w6 bX hg6)
   have oX6:=aD.alg oX (by decide) (by decide) (by decide) hg6;have D6:=hb5.tr (alW hg6);have oB6:=oB.below D6;have B6:=hb3.tr D6;clear oX hb5 hg6 oB D6 hb3;obtain⟨gX,hgX⟩:=Oy w5.heap.size;rw[<-hgX]at bX⊢;clear hgX;go_wp2_with fail
   refine(Ae _ bl n _ (oB6.rd mZ (by decide))).mono ?_;rintro e w7 ⟨A5,a5,rfl,oC,hb7⟩;go_wp2_with fail
   refine(Ov _ _ bl n t1 t2 Ht.out.symm _ ((oB6.below hb7).rd mZ (by decide)) (oC.rd aL (by decide))).mono ?_;rintro e w8 ⟨rfl,hb8⟩;have K8:=hb7.tr hb8;have B8:=B6.tr K8;have bX8:=bX.bl K8;have oX8:=oX6.below K8;clear oB6 oC hb7 hb8 K8 bX oX6 B6;obtain⟨c1,hc1⟩:=Oy (sI l 1);have hc1r:0<=c1/\c1<=255:=by rw[hc1];exact EE Hok.out 1
   have C1:=Ce 1 (by decide) v l w8 (h.Oz (B2.tr B8)) Hok hl;rw[<-hc1]at C1;obtain⟨i,hi,hi11⟩:∃i:Nat,c1%12=(i:Int)/\i<=11:=⟨(c1%12).toNat,by omega,by omega⟩;have h01:=hc1r.1;clear hc1 hc1r;go_upto_region 8 with(fail)
   go_wp2_with fail
   refine C1.mono ?_;rintro e w9 ⟨rfl,rfl⟩;obtain⟨y_0,y_1,y_2,y_3,y_4,y_5,y_6⟩:=(bO.bl B8).n7;have CK:Calls prog 29 #[.agg #[V1,V2,.slice F3 x.2.2.1.length f3,V4,.int .i64 s,.int .i64 p,.int .i64 r],.int .i64 i] w8 (I8 (iX (x,s,p,r) i) (rX (x,s,p,r) i) w8):=LU _ _ _ _ x s p r i w8 (oF2.below B8).ra (oF2.below B8).rb (oF2.below B8).rc (oF2.below B8).rd HS.out (HTB.out.below (B2.tr B8));have hsz:=mG (y:=(x,s,p,r)) (i:Int) HS.out;have hkz:=wQ (y:=(x,s,p,r)) (i:Int) HK.out
   have hcs:(iX (x,s,p,r) i=(x,s,p,r)/\rX (x,s,p,r) i= -1)∨(∃hk:i<x.2.2.1.length,∃C:Nat,2<=C/\rX (x,s,p,r) i=(C:Int)/\chg x.2.2.1 (iX (x,s,p,r) i).1.2.2.1=C/\chg [x.2.2.1[i]] (iX (x,s,p,r) i).1.2.2.1=1/\(iX (x,s,p,r) i).2=(s-1,p,r+1)):=by
    rcases q:uQ (x,s,p,r) i with _|_
    . exact .inl (Og q)
    . obtain⟨f1,⟨k,hk1,hk2,hk3⟩,f3,f4,f5⟩:=KE q;obtain rfl:i=k:=by omega
      refine .inr ⟨hk2,_,f4,f5,?_,?_,?_⟩
      . rw[f1];rfl
      . rw[f1,hk3];exact f3
      . rw[f1];rfl
   obtain⟨⟨z,zs,zp,zr⟩,hz⟩:∃z,z=iX (x,s,p,r) i:=⟨_,rfl⟩;obtain⟨m,hm⟩:=Oy (rX (x,s,p,r) i);rw[<-hz,<-hm]at CK hcs;rw[<-hz]at hsz hkz;simp only at hsz hcs;have HKz:=OA hkz;have HSz:=OA hsz;have HCs:=OA hcs;clear hkz hsz hcs hz hm;go_upto_region 9 with(fail)
   go_wp2_with fail
   refine CK.mono ?_;rintro e w10 ⟨E1,e1v,E2,e2v,E3,e3,E4,e4,rfl,oY,hb10⟩;simp only at oY;clear y_0 y_1 y_2 y_3 y_4 y_5 y_6 CK;go_upto_region 10 with(refine aA rfl 32 _ _ rfl w10.heap.size #[.slice E1 z.1.length e1v,.slice E2 z.2.1.length e2v,.slice E3 z.2.2.1.length e3,.slice E4 z.2.2.2.length e4,.int .i64 zs,.int .i64 zp,.int .i64 zr] rfl rfl _ _ (Blk.bK w10 32 #[.slice none 0 0,.slice none 0 0,.slice none 0 0,.slice none 0 0,.int .i64 0,.int .i64 0,.int .i64 0]) (by kernel_rfl) rfl (Cb oY.one) ?_;intro w11 bY hg11)
   have oY11:=aD.alg oY (by decide) (by decide) (by decide) hg11;have D11:=hb10.tr (alW hg11);have bX11:=bX8.bl D11;have oX11:=oX8.below D11;have B11:=B8.tr D11;have bO11:=bO.bl B11;have oF11:=oF2.below B11;have BB:=B2.tr B11;clear oY hb10 hg11 D11 bX8 oX8 B8 B11 bO oF2 B2;obtain⟨gY,hgY⟩:=Oy w10.heap.size;rw[<-hgY]at bY⊢;clear hgY;have K0:=Below.refl w11.heap.size w11;have e1:=Hs1.out.symm;have e2:=Hs2.out.symm;obtain⟨y_0,y_1,y_2,y_3,y_4,y_5,y_6⟩:=(bO11.bl K0).n7;obtain⟨x_0,x_1,x_2,x_3,x_4,x_5,x_6⟩:=(bX11.bl K0).n7;obtain⟨n_0,n_1,n_2,n_3,n_4,n_5,n_6⟩:=(bY.bl K0).n7;go_wp2_with fail
   refine(Aq HK.out HS.out (oF11.below K0).r4).mono ?_;rintro e wa ⟨rfl,hb⟩;have K1:=K0.tr hb;clear hb K0 y_0 y_1 y_2 y_3 y_4 y_5 y_6 x_0 x_1 x_2 x_3 x_4 x_5 x_6 n_0 n_1 n_2 n_3 n_4 n_5 n_6;obtain⟨y_0,y_1,y_2,y_3,y_4,y_5,y_6⟩:=(bO11.bl K1).n7;obtain⟨x_0,x_1,x_2,x_3,x_4,x_5,x_6⟩:=(bX11.bl K1).n7;obtain⟨n_0,n_1,n_2,n_3,n_4,n_5,n_6⟩:=(bY.bl K1).n7;go_wp2_with fail
   refine(xW HK.out HS.out (oF11.below K1).r4).mono ?_;rintro e wb ⟨rfl,hb⟩;have K2:=K1.tr hb;clear hb K1 y_0 y_1 y_2 y_3 y_4 y_5 y_6 x_0 x_1 x_2 x_3 x_4 x_5 x_6 n_0 n_1 n_2 n_3 n_4 n_5 n_6;obtain⟨y_0,y_1,y_2,y_3,y_4,y_5,y_6⟩:=(bO11.bl K2).n7;obtain⟨x_0,x_1,x_2,x_3,x_4,x_5,x_6⟩:=(bX11.bl K2).n7;obtain⟨n_0,n_1,n_2,n_3,n_4,n_5,n_6⟩:=(bY.bl K2).n7;go_wp2_with fail
   refine(Aq HKx.out HS.out (oX11.below K2).r4).mono ?_;rintro e wc ⟨rfl,hb⟩;have K3:=K2.tr hb;clear hb K2 y_0 y_1 y_2 y_3 y_4 y_5 y_6 x_0 x_1 x_2 x_3 x_4 x_5 x_6 n_0 n_1 n_2 n_3 n_4 n_5 n_6;obtain⟨y_0,y_1,y_2,y_3,y_4,y_5,y_6⟩:=(bO11.bl K3).n7;obtain⟨x_0,x_1,x_2,x_3,x_4,x_5,x_6⟩:=(bX11.bl K3).n7;obtain⟨n_0,n_1,n_2,n_3,n_4,n_5,n_6⟩:=(bY.bl K3).n7;clear e1 e2;rcases HCs.out with⟨hq,rfl⟩|⟨hk,C,hC2,rfl,hCg,hC1,hq⟩
   . injection hq with q1 q2;injection q2 with q2 q3;injection q3 with q3 q4;subst q1;subst q2;subst q3;subst q4;go_wp2_with fail
     refine(Di _ _ z.2.2.1 _ (oY11.below K3).rc (oF11.below K3).rc).mono ?_;rintro e wd ⟨rfl,hbd⟩;go_wp2;go_ret;exact⟨rfl,BB.tr (K3.tr hbd)⟩
   . injection hq with q2 q3;injection q3 with q3 q4;have hw:=CQ HK.out;have e1:IntKind.i64.wrap (s-1)=zs:=by rw[IntWalk.i64_in _ (by omega)];exact q2.symm
     have e2:IntKind.i64.wrap (r+1)=zr:=by rw[IntWalk.i64_in _ (by omega)];exact q4.symm
     have hCn:¬((C:Int)<0):=(by omega);have hCg':decide ((2:Int)<=(C:Int))=true:=decide_eq_true (by omega);have hC2':(2:Int)<=(C:Int):=(by omega);clear q2 q3 q4 hw;obtain⟨b,off,hA,hb,k0,k1,k2⟩:=((oF11.below K3).rc).jJ hk;obtain⟨⟨dx,dy,dd⟩,hd⟩:∃q,q=x.2.2.1[i]:=⟨_,rfl⟩;rw[<-hd]at k0 k1 k2 hC1;simp only at k0 k1 k2;subst hA;have hki:(i:Int)<(x.2.2.1.length:Int):=(by omega);have hkd:decide ((i:Int)<(x.2.2.1.length:Int))=true:=decide_eq_true hki;have hc1:((chg [(dx,dy,dd)] z.2.2.1:Nat):Int)=1:=by rw[hC1];rfl
     have hc2:((chg x.2.2.1 z.2.2.1:Nat):Int)=(C:Int):=(by rw[hCg]);have Hl1:Hid ([(dx,dy,dd)].length<=1000):=OA (by simp)
     have Hl2 : Hid (x.2.2.1.length <= 1000) := OA (by
      have ht:=IV (Ej HK.out);have:=Lj (Cf ht).2;simp only at this;omega)
     clear hd hC1 hCg hC2;go_upto_region 14 with(fail)
     obtain⟨wz,hwz⟩:=Oy wc;have oYz:=oY11.below K3;have oFz:=oF11.below K3;have BZ:=BB.tr K3;have hl1:=(bO11.bl K3).lt;have hl2:=(bY.bl K3).lt;rw[<-hwz]at oYz oFz BZ hl1 hl2 hb k0 k1 k2 y_0 y_1 y_2 y_3 y_4 y_5 y_6 n_0 n_1 n_2 n_3 n_4 n_5 n_6⊢;clear hwz K3 oY11 oF11 BB bO11 bY bX11 oX11 x_0 x_1 x_2 x_3 x_4 x_5 x_6 HCs;have Bw:Below wz.heap.size wz wz.drew:=(Below.refl _ _).drew;have hz:wz.heap.size<=wz.drew.heap.size:=(by simp);refine rB (fun w'=>w'.cell? ⟨gO,0,none⟩=some V1/\w'.cell? ⟨gO,1,none⟩=some V2/\w'.cell? ⟨gO,2,none⟩=some (.slice (some ⟨b,off,none⟩) x.2.2.1.length f3)/\w'.cell? ⟨gO,3,none⟩=some V4/\w'.cell? ⟨gO,4,none⟩=some (.int .i64 s)/\w'.cell? ⟨gO,5,none⟩=some (.int .i64 p)/\w'.cell? ⟨gO,6,none⟩=some (.int .i64 r)/\w'.cell? ⟨gY,0,none⟩=some (.slice E1 z.1.length e1v)/\w'.cell? ⟨gY,1,none⟩=some (.slice E2 z.2.1.length e2v)/\w'.cell? ⟨gY,2,none⟩=some (.slice E3 z.2.2.1.length e3)/\w'.cell? ⟨gY,3,none⟩=some (.slice E4 z.2.2.2.length e4)/\w'.cell? ⟨gY,4,none⟩=some (.int .i64 zs)/\w'.cell? ⟨gY,5,none⟩=some (.int .i64 zp)/\w'.cell? ⟨gY,6,none⟩=some (.int .i64 zr)/\w'.cell? ⟨b,off+i*3,none⟩=some (.int .i64 dx)/\w'.cell? ⟨b,off+i*3+1,none⟩=some (.int .i64 dy)/\w'.cell? ⟨b,off+i*3+2,none⟩=some (.bool dd)) fun hHeld=>(tW 0)<|(tW 1)<|(tW 2)<|(tW 3)<|(tW 4)<|(tW 5)<|(tW 6)<|(tW 7)<|(tR [8])<|tL fun K hK=>?_
     go_simp
     (first|(go_at_call 16;go_must (refine(Aq HKz.out HSz.out (oYz.below Bw).r4).mono ?_;rintro e wX ⟨rfl,hbX⟩;obtain⟨hcX,hfX,hzX⟩:=bkn hbX wz.heap.size hz;have hz:=hzX;have Bw:=Bw.tr hbX);(try go_wp2_with fail))|(go_at_call 30;go_must (refine(xW HKz.out HSz.out (oYz.below Bw).r4).mono ?_;rintro e wX ⟨rfl,hbX⟩;obtain⟨hcX,hfX,hzX⟩:=bkn hbX wz.heap.size hz;have hz:=hzX;have Bw:=Bw.tr hbX);(try go_wp2_with fail))|(go_at_call 32;go_must (refine(qL _ _ _ z.2.2.1 _ (by first|exact oD.rd aB (by decide)|exact(oFz.below Bw).rc) (oYz.below Bw).rc (by first|exact Hl1.out|exact Hl2.out)).mono ?_;rintro e wX ⟨rfl,hbX⟩;obtain⟨hcX,hfX,hzX⟩:=bkn hbX wz.heap.size hz;have hz:=hzX;have Bw:=Bw.tr hbX);(try go_wp2_with fail)))
     refine tK hK fun hHeld=>?_
     clear hK K;refine(tW 9)<|(tW 10)<|(tW 11)<|(tR [12])<|tL fun K hK=>?_
     go_simp
     (first|(go_at_call 16;go_must (refine(Aq HKz.out HSz.out (oYz.below Bw).r4).mono ?_;rintro e wX ⟨rfl,hbX⟩;obtain⟨hcX,hfX,hzX⟩:=bkn hbX wz.heap.size hz;have hz:=hzX;have Bw:=Bw.tr hbX);(try go_wp2_with fail))|(go_at_call 30;go_must (refine(xW HKz.out HSz.out (oYz.below Bw).r4).mono ?_;rintro e wX ⟨rfl,hbX⟩;obtain⟨hcX,hfX,hzX⟩:=bkn hbX wz.heap.size hz;have hz:=hzX;have Bw:=Bw.tr hbX);(try go_wp2_with fail))|(go_at_call 32;go_must (refine(qL _ _ _ z.2.2.1 _ (by first|exact oD.rd aB (by decide)|exact(oFz.below Bw).rc) (oYz.below Bw).rc (by first|exact Hl1.out|exact Hl2.out)).mono ?_;rintro e wX ⟨rfl,hbX⟩;obtain⟨hcX,hfX,hzX⟩:=bkn hbX wz.heap.size hz;have hz:=hzX;have Bw:=Bw.tr hbX);(try go_wp2_with fail)))
     refine tK hK fun hHeld=>?_
     clear hK K;refine(tW 13)<|(tW 14)<|(tW 15)<|(tW 16)<|(tW 17)<|(tW 18)<|(tW 19)<|(tW 20)<|(tW 21)<|(tW 22)<|(tW 23)<|(tW 24)<|(tW 25)<|(tW 26)<|(tW 27)<|(tW 28)<|(tW 29)<|(tW 30)<|(tW 31)<|(tW 32)<|(tW 33)<|(tW 34)<|(tW 35)<|(tW 36)<|(tW 38)<|(tW 39)<|(tW 40)<|(tR [37])<|tL fun K hK=>?_
     (refine Ga _ rfl rfl ?_;intro gD wX hbX oD hgD hgz;obtain⟨hcX,hfX,hzX⟩:=bkn hbX wz.heap.size hz;replace hz:=hzX;replace Bw:=Bw.tr hbX)
     refine tK hK fun hHeld=>?_
     clear hK K;refine(tR [41])<|tL fun K hK=>?_
     go_simp
     (first|(go_at_call 16;go_must (refine(Aq HKz.out HSz.out (oYz.below Bw).r4).mono ?_;rintro e wX ⟨rfl,hbX⟩;obtain⟨hcX,hfX,hzX⟩:=bkn hbX wz.heap.size hz;have hz:=hzX;have Bw:=Bw.tr hbX);(try go_wp2_with fail))|(go_at_call 30;go_must (refine(xW HKz.out HSz.out (oYz.below Bw).r4).mono ?_;rintro e wX ⟨rfl,hbX⟩;obtain⟨hcX,hfX,hzX⟩:=bkn hbX wz.heap.size hz;have hz:=hzX;have Bw:=Bw.tr hbX);(try go_wp2_with fail))|(go_at_call 32;go_must (refine(qL _ _ _ z.2.2.1 _ (by first|exact oD.rd aB (by decide)|exact(oFz.below Bw).rc) (oYz.below Bw).rc (by first|exact Hl1.out|exact Hl2.out)).mono ?_;rintro e wX ⟨rfl,hbX⟩;obtain⟨hcX,hfX,hzX⟩:=bkn hbX wz.heap.size hz;have hz:=hzX;have Bw:=Bw.tr hbX);(try go_wp2_with fail)))
     refine tK hK fun hHeld=>?_
     clear hK K;refine(tW 42)<|(tW 43)<|(tW 44)<|(tW 45)<|(tW 46)<|(tW 47)<|(tW 48)<|(tW 49)<|(tW 50)<|(tW 51)<|(tR [52])<|tL fun K hK=>?_
     go_simp
     (first|(go_at_call 16;go_must (refine(Aq HKz.out HSz.out (oYz.below Bw).r4).mono ?_;rintro e wX ⟨rfl,hbX⟩;obtain⟨hcX,hfX,hzX⟩:=bkn hbX wz.heap.size hz;have hz:=hzX;have Bw:=Bw.tr hbX);(try go_wp2_with fail))|(go_at_call 30;go_must (refine(xW HKz.out HSz.out (oYz.below Bw).r4).mono ?_;rintro e wX ⟨rfl,hbX⟩;obtain⟨hcX,hfX,hzX⟩:=bkn hbX wz.heap.size hz;have hz:=hzX;have Bw:=Bw.tr hbX);(try go_wp2_with fail))|(go_at_call 32;go_must (refine(qL _ _ _ z.2.2.1 _ (by first|exact oD.rd aB (by decide)|exact(oFz.below Bw).rc) (oYz.below Bw).rc (by first|exact Hl1.out|exact Hl2.out)).mono ?_;rintro e wX ⟨rfl,hbX⟩;obtain⟨hcX,hfX,hzX⟩:=bkn hbX wz.heap.size hz;have hz:=hzX;have Bw:=Bw.tr hbX);(try go_wp2_with fail)))
     refine tK hK fun hHeld=>?_
     clear hK K;refine(tW 53)<|(tW 54)<|(tW 55)<|(tW 56)<|(tW 57)<|(tW 58)<|(tW 59)<|tD ?_
     all_goals
       go_wp2;go_ret;exact⟨rfl,BZ.tr Bw⟩
end Go.Proofs.YtljfoohaapckeaaGreatDoor
