/- All flips taken back, by the program and by the reference: the walks. Conditions: sizes. -/
import Derived.Test.YtljfoohaapckeaaGreatDoorAFlUnS
open _root_.Go.Value (oneCell')
namespace Go.Proofs.YtljfoohaapckeaaGreatDoor
open Go.ChangeShapes Go.WideShapes Go.ChangeAt Go.RowKit
set_option linter.unusedVariables false
set_option linter.unusedSimpArgs false
set_option maxHeartbeats 4000000
set_option maxRecDepth 100000
theorem wR:∀(cs:List Cl) {l m:List Dm},Small l.length->eH l cs=some m->Small m.length
  |[],l,m,h,e=>by unfold eH at e;injection e with e;rw[<-e];exact h
  | c :: r, l, m, h, e => by
   rw[uB]at e;split at e
   . cases e
   . exact wR r (rT l c) e
theorem Iw {y:Fl} (hs:cZ y) (h:jG y=true) (j:Nat):cZ (vE y j):=
 ⟨hs.1, hs.2.1, wR _ hs.2.1 (Bj h j), by
  have:=hs.2.2.2;unfold Small at this⊢;show(y.2.2.2.take j).length<=_;rw[List.length_take];omega⟩
theorem yO {y z:Fl} (hs:cZ y) (h:fF y=(z,true)):eB z=eB y/\jG z=jG y/\z.2.2.2.length<y.2.2.2.length/\cZ z:=by
 unfold fF at h;split at h
 . rename_i q;injection h with h1 _;subst h1;have hk:=JF q.1 (y.2.2.2.length-1);refine⟨?_,by rw[hk,q.1],by rw[Lj (by omega)];omega,Iw hs q.1 _⟩;unfold eB;rw[if_pos hk,if_pos q.1,Ni y (Nat.zero_le _)]
 . cases h
theorem Bp {y:Fl} (h:jG y=false∨y.2.2.2.length=0):eB y=y:=by
 unfold eB;split
 . rename_i q;rcases h with h|h
   . rw[h]at q;cases q
   . have:=Kz q;rw[h]at this;exact this
 . rfl
theorem Iy {y z:Fl} (h:fF y=(z,false)):eB y=y:=by
 unfold fF at h;split at h
 . cases h
 . rename_i q;refine Bp ?_;rcases e:jG y with _|_
   . exact .inl rfl
   . exact .inr (by rcases Nat.eq_zero_or_pos y.2.2.2.length with k|k;exact k;exact absurd ⟨e,by omega⟩ q)
def Bq (w:World) (b:Nat):Nat:=match w.cell? ⟨b,3,none⟩with|some (.slice _ n _)=>n|_=>0
theorem Blk.Fy {w:World} {g:Nat} {t:TypeId} {a b c:Value} {A:Option Addr} {n k:Nat} (h:Blk w g t #[a,b,c,.slice A n k]):Bq w g=n:=by
 unfold Bq;rw[h.cell 3];rfl
theorem wV (v1 v2 v3 v4:Value) (x:Fl) (w:World) (h1:Rd 1 aX w v1 x.1) (h2:Rd 3 aQ w v2 x.2.1) (h3:Rd 3 aQ w v3 x.2.2.1) (h4:Rd 2 bH w v4 x.2.2.2) (hs:cZ x):Calls Tryz.prog 34 #[.agg #[v1,v2,v3,v4]] w (rC (eB x) w):=by
 have hs4:=hs;obtain⟨F,hF⟩:=Pj (eB x);rw[<-hF];obtain⟨rows,f,n,cs⟩:=x;simp only at h1 h2 h3 h4;obtain⟨s1,s2,s3,s4⟩:=hs;simp only at s1 s2 s3 s4;obtain⟨A1,c1,rfl,hc1,hm1⟩:=h1.form;obtain⟨A2,c2,rfl,hc2,hm2⟩:=h2.form;obtain⟨A3,c3,rfl,hc3,hm3⟩:=h3.form;obtain⟨A4,c4,rfl,hc4,hm4⟩:=h4.form;have B0:=((Below.refl w.heap.size w).al (.cells #[.slice A1 rows.length c1,.slice A2 f.length c2,.slice A3 n.length c3,.slice A4 cs.length c4] 30)).al (.cells #[.slice none 0 0,.slice none 0 0,.slice none 0 0,.slice none 0 0] 30);have bP:=(Blk.aW w 30 #[.slice A1 rows.length c1,.slice A2 f.length c2,.slice A3 n.length c3,.slice A4 cs.length c4]).alloc (.cells #[.slice none 0 0,.slice none 0 0,.slice none 0 0,.slice none 0 0] 30);have bR:=Blk.gJ (w.alloc (.cells #[.slice A1 rows.length c1,.slice A2 f.length c2,.slice A3 n.length c3,.slice A4 cs.length c4] 30)) 30 #[.slice none 0 0,.slice none 0 0,.slice none 0 0,.slice none 0 0] (w.heap.size+1) (by simp);have HF:=Pm hF;clear hF;go_enter Tryz.func34,Tryz.ntmps34
 go_wp2_with fail
 obtain⟨W0,hW0⟩:=Pj ((w.alloc (.cells #[.slice A1 rows.length c1,.slice A2 f.length c2,.slice A3 n.length c3,.slice A4 cs.length c4] 30)).alloc (.cells #[.slice none 0 0,.slice none 0 0,.slice none 0 0,.slice none 0 0] 30));obtain⟨gP,hgP⟩:=Pj w.heap.size;obtain⟨gR,hgR'⟩:=Pj (w.heap.size+1);rw[<-hW0]at B0 bP bR⊢;rw[<-hgR']at bR⊢;rw[<-hgP]at bP⊢;have hgR:w.heap.size<=gR:=(by omega);have hPR:gP≠gR:=(by omega);have hw0:w.heap.size<=W0.heap.size:=B0.size;clear hW0 hgP hgR';obtain⟨z_0,z_1,z_2,z_3⟩:=bP.n4;have hp0:=bP.lt;have hr0:=bR.lt;go_wp2_with fail
 refine(jP _ _ _ _ (rows,f,n,cs) _ (h1.Pk B0) (h2.Pk B0) (h3.Pk B0) (h4.Pk B0) hs4).mono ?_;rintro e w1 ⟨C1,e1,C2,e2,C3,e3,C4,e4,rfl,oF,hb1⟩;have B1:=B0.tr hb1;have bP1:=bP.bl hb1;have bR1:=bR.bl hb1;have oF:=oF.mono hw0;have bO:=Blk.aW w1 30 #[.slice none 0 0,.slice none 0 0,.slice none 0 0,.slice none 0 0];have oFa:=oF.alloc (.cells #[.slice none 0 0,.slice none 0 0,.slice none 0 0,.slice none 0 0] 30);have bRa:=bR1.alloc (.cells #[.slice none 0 0,.slice none 0 0,.slice none 0 0,.slice none 0 0] 30);have bPa:=bP1.alloc (.cells #[.slice none 0 0,.slice none 0 0,.slice none 0 0,.slice none 0 0] 30);have Ba:=B1.al (.cells #[.slice none 0 0,.slice none 0 0,.slice none 0 0,.slice none 0 0] 30);have hgO:w.heap.size<=w1.heap.size:=B1.size;have hRO:gR<w1.heap.size:=bR1.lt;have hPO:gP<w1.heap.size:=bP1.lt;clear z_0 z_1 z_2 z_3;go_wp2_with (refine aA rfl 30 _ _ rfl w1.heap.size #[.slice C1 rows.length e1,.slice C2 f.length e2,.slice C3 n.length e3,.slice C4 cs.length e4] rfl rfl _ _ bO (by kernel_rfl) rfl (by simp[oneCell']) ?_;intro wS bS hgS;have oS:=aB.bZ oFa bO (by decide) (by decide) (by decide) hgS;have bRS:=bRa.grown hgS (by simp;omega);have bPS:=bPa.grown hgS (by simp;omega);have BS:=Ba.grown hgS Ba.size (fun k hk=>by injection hk with hk;subst hk;exact hgO);obtain⟨c_0,c_1,c_2,c_3⟩:=bPS.n4)
 obtain⟨gO,hgO'⟩:=Pj w1.heap.size;rw[<-hgO']at bS hgS hgO hRO hPO⊢;clear hgO';simp only[Act.put];go_loopw [9] (fun _ wr=>∃(y:Fl) (C1 C2 C3 C4:Option Addr) (e1 e2 e3 e4:Nat),Hid (F=eB y)/\cZ y/\Blk wr gO 30 #[.slice C1 y.1.length e1,.slice C2 y.2.1.length e2,.slice C3 y.2.2.1.length e3,.slice C4 y.2.2.2.length e4]/\aB w.heap.size wr (.slice C1 y.1.length e1) (.slice C2 y.2.1.length e2) (.slice C3 y.2.2.1.length e3) (.slice C4 y.2.2.2.length e4) y/\Blk wr gR 30 #[.slice none 0 0,.slice none 0 0,.slice none 0 0,.slice none 0 0]/\Below w.heap.size w wr) (fun _ wr=>Bq wr gO)
 case atStart=>exact⟨(rows,f,n,cs),C1,C2,C3,C4,e1,e2,e3,e4,HF,hs4,bS,oS,bRS,BS⟩
 case round=>
  obtain⟨y,C1,C2,C3,C4,e1,e2,e3,e4,HFy,hsy,bY,oY,bRY,BY⟩:=hrel;clear bS oS bRS BS bPS c_0 c_1 c_2 c_3 hgS bO oFa bRa bPa Ba oF B1 bP1 bR1 HF;obtain⟨y_0,y_1,y_2,y_3⟩:=bY.n4;obtain⟨z,b,hz⟩:∃z b,fF y=(z,b):=⟨_,_,rfl⟩
  have CU : ∀ (u1 u2 u3 u4 : Value) (w : World), Rd 1 aX w u1 y.1 -> Rd 3 aQ w u2 y.2.1 -> Rd 3 aQ w u3 y.2.2.1 -> Rd 2 bH w u4 y.2.2.2 -> Calls Tryz.prog 40 #[.agg #[u1, u2, u3, u4]] w (kF z b w) := fun u1 u2 u3 u4 w k1 k2 k3 k4 => by
   have:=DY u1 u2 u3 u4 y w k1 k2 k3 k4 hsy;rw[hz]at this;exact this
  have HZ:=Pm hz;clear hz;go_wp2_with fail
  refine(CU _ _ _ _ _ oY.ra oY.rb oY.rc oY.rd).mono ?_;rintro e w2 ⟨D1,d1,D2,d2,D3,d3,D4,d4,rfl,oN,hb2⟩;have B2:=BY.tr hb2;have bY2:=bY.bl hb2;have bR2:=bRY.bl hb2;have oY2:=oY.below hb2;have oN2:=oN.mono BY.size;have bN:=Blk.aW w2 30 #[.slice none 0 0,.slice none 0 0,.slice none 0 0,.slice none 0 0];have bYa:=bY2.alloc (.cells #[.slice none 0 0,.slice none 0 0,.slice none 0 0,.slice none 0 0] 30);have bRa:=bR2.alloc (.cells #[.slice none 0 0,.slice none 0 0,.slice none 0 0,.slice none 0 0] 30);have oYa:=oY2.alloc (.cells #[.slice none 0 0,.slice none 0 0,.slice none 0 0,.slice none 0 0] 30);have oNa:=oN2.alloc (.cells #[.slice none 0 0,.slice none 0 0,.slice none 0 0,.slice none 0 0] 30);have Ba:=B2.al (.cells #[.slice none 0 0,.slice none 0 0,.slice none 0 0,.slice none 0 0] 30);have hgN:w.heap.size<=w2.heap.size:=B2.size;have hRN:gR<w2.heap.size:=bR2.lt;have hYN:gO<w2.heap.size:=bY2.lt;have hz2:Hid (y.2.2.2.length=Bq wr gO):=Pm (by rw[bY.Fy]);clear y_0 y_1 y_2 y_3;rcases b with _|_
  . have hFy : F = y := by rw [HFy.out]; exact Iy HZ.out
    have HFF:=Pm hFy;clear hFy;go_wp2_with (first|(refine aA rfl 30 _ _ rfl w2.heap.size #[.slice D1 z.1.length d1,.slice D2 z.2.1.length d2,.slice D3 z.2.2.1.length d3,.slice D4 z.2.2.2.length d4] rfl rfl _ _ bN (by kernel_rfl) rfl (by simp[oneCell']) ?_;intro wS bS hgS;have bYS:=bYa.grown hgS (by simp;omega);have bRS:=bRa.grown hgS (by simp;omega);have oYS:=aB.bZ oYa bN (by decide) (by decide) (by decide) hgS;have BS:=Ba.grown hgS Ba.size (fun k hk=>by injection hk with hk;subst hk;exact hgN);obtain⟨u_0,u_1,u_2,u_3⟩:=bYS.n4)|(refine aA rfl 30 _ _ rfl gR #[.slice C1 y.1.length e1,.slice C2 y.2.1.length e2,.slice C3 y.2.2.1.length e3,.slice C4 y.2.2.2.length e4] rfl rfl _ _ bRS (by kernel_rfl) rfl (by simp[oneCell']) ?_;intro wE bE hgE))
    have oE:=aB.bZ oYS bRS (by decide) (by decide) (by decide) hgE;have BE:=BS.grown hgE BS.size (fun k hk=>by injection hk with hk;subst hk;exact hgR);obtain⟨q_0,q_1,q_2,q_3⟩:=bE.n4;refine bodyPost_ret (v:= .agg #[.slice C1 y.1.length e1,.slice C2 y.2.1.length e2,.slice C3 y.2.2.1.length e3,.slice C4 y.2.2.2.length e4]) (by simp[results,Tryz.results34,go_sem,q_0,q_1,q_2,q_3]) rfl (by rw[HFF.out];exact⟨C1,e1,C2,e2,C3,e3,C4,e4,rfl,oE,BE⟩)
  . obtain⟨k1,k2,k3,k4⟩:=yO hsy HZ.out;have HFz:Hid (F=eB z):=Pm (by rw[k1];exact HFy.out);have hm:Hid (z.2.2.2.length<Bq wr gO):=Pm (by rw[<-hz2.out];exact k3);clear k1 k2 k3;go_wp2_with (first|(refine aA rfl 30 _ _ rfl w2.heap.size #[.slice D1 z.1.length d1,.slice D2 z.2.1.length d2,.slice D3 z.2.2.1.length d3,.slice D4 z.2.2.2.length d4] rfl rfl _ _ bN (by kernel_rfl) rfl (by simp[oneCell']) ?_;intro wS bS hgS;have bYS:=bYa.grown hgS (by simp;omega);have bRS:=bRa.grown hgS (by simp;omega);have oNS:=aB.bZ oNa bN (by decide) (by decide) (by decide) hgS;have BS:=Ba.grown hgS Ba.size (fun k hk=>by injection hk with hk;subst hk;exact hgN);obtain⟨u_0,u_1,u_2,u_3⟩:=bS.n4)|(refine aA rfl 30 _ _ rfl gO #[.slice D1 z.1.length d1,.slice D2 z.2.1.length d2,.slice D3 z.2.2.1.length d3,.slice D4 z.2.2.2.length d4] rfl rfl _ _ bYS (by kernel_rfl) rfl (by simp[oneCell']) ?_;intro wE bE hgE))
    have oE:=aB.bZ oNS bYS (by decide) (by decide) (by decide) hgE;have bRE:=bRS.grown hgE (by simp;omega);have BE:=BS.grown hgE BS.size (fun k hk=>by injection hk with hk;subst hk;exact hgO);simp only[Act.put];go_roundw
    case rel=>exact⟨z,D1,D2,D3,D4,d1,d2,d3,d4,HFz,k4,bE,oE,bRE,BE⟩
    case measure=>rw[bE.Fy];exact hm.out
theorem EK (v1 v2 v3 v4:Value) (x:Fl) (w:World) (h1:Rd 1 aX w v1 x.1) (h2:Rd 3 aQ w v2 x.2.1) (h3:Rd 3 aQ w v3 x.2.2.1) (h4:Rd 2 bH w v4 x.2.2.2) (hs:cZ x):Calls Tryz.prog 157 #[.agg #[v1,v2,v3,v4]] w (rC (eB x) w):=by
 have hs4:=hs;obtain⟨F,hF⟩:=Pj (eB x);rw[<-hF];obtain⟨rows,f,n,cs⟩:=x;simp only at h1 h2 h3 h4;obtain⟨s1,s2,s3,s4⟩:=hs;simp only at s1 s2 s3 s4;obtain⟨A1,c1,rfl,hc1,hm1⟩:=h1.form;obtain⟨A2,c2,rfl,hc2,hm2⟩:=h2.form;obtain⟨A3,c3,rfl,hc3,hm3⟩:=h3.form;obtain⟨A4,c4,rfl,hc4,hm4⟩:=h4.form;have B0:=((Below.refl w.heap.size w).al (.cells #[.slice A1 rows.length c1,.slice A2 f.length c2,.slice A3 n.length c3,.slice A4 cs.length c4] 30)).al (.cells #[.slice none 0 0,.slice none 0 0,.slice none 0 0,.slice none 0 0] 30);have bP:=(Blk.aW w 30 #[.slice A1 rows.length c1,.slice A2 f.length c2,.slice A3 n.length c3,.slice A4 cs.length c4]).alloc (.cells #[.slice none 0 0,.slice none 0 0,.slice none 0 0,.slice none 0 0] 30);have bR:=Blk.gJ (w.alloc (.cells #[.slice A1 rows.length c1,.slice A2 f.length c2,.slice A3 n.length c3,.slice A4 cs.length c4] 30)) 30 #[.slice none 0 0,.slice none 0 0,.slice none 0 0,.slice none 0 0] (w.heap.size+1) (by simp);have HF:=Pm hF;clear hF;obtain⟨ok,hok⟩:=Pj (dE rows f n cs);have CO:∀(u1 u2 u3 u4:Value) (w:World),Rd 1 aX w u1 rows->Rd 3 aQ w u2 f->Rd 3 aQ w u3 n->Rd 2 bH w u4 cs->Calls Tryz.prog 152 #[.agg #[u1,u2,u3,u4]] w (Ret (.bool ok) w):=fun u1 u2 u3 u4 w k1 k2 k3 k4=>by rw[hok];exact kV u1 u2 u3 u4 rows f n cs w k1 k2 k3 k4 s2
 have HO:Hid (jG (rows,f,n,cs)=ok):=Pm hok.symm;clear hok;go_enter Tryz.func157,Tryz.ntmps157
 go_wp2_with fail
 obtain⟨W0,hW0⟩:=Pj ((w.alloc (.cells #[.slice A1 rows.length c1,.slice A2 f.length c2,.slice A3 n.length c3,.slice A4 cs.length c4] 30)).alloc (.cells #[.slice none 0 0,.slice none 0 0,.slice none 0 0,.slice none 0 0] 30));obtain⟨gP,hgP⟩:=Pj w.heap.size;obtain⟨gR,hgR'⟩:=Pj (w.heap.size+1);rw[<-hW0]at B0 bP bR⊢;rw[<-hgR']at bR⊢;rw[<-hgP]at bP⊢;have hgR:w.heap.size<=gR:=(by omega);have hPR:gP≠gR:=(by omega);have hw0:w.heap.size<=W0.heap.size:=B0.size;clear hW0 hgP hgR';obtain⟨z_0,z_1,z_2,z_3⟩:=bP.n4;have hp0:=bP.lt;have hr0:=bR.lt;go_wp2_with fail
 refine(kM _ _ _ _ (rows,f,n,cs) _ (h1.Pk B0) (h2.Pk B0) (h3.Pk B0) (h4.Pk B0) hs4).mono ?_;rintro e w1 ⟨C1,e1,C2,e2,C3,e3,C4,e4,rfl,oF,hb1⟩;have B1:=B0.tr hb1;have bP1:=bP.bl hb1;have bR1:=bR.bl hb1;have oF:=oF.mono hw0;have bO:=Blk.aW w1 30 #[.slice none 0 0,.slice none 0 0,.slice none 0 0,.slice none 0 0];have oFa:=oF.alloc (.cells #[.slice none 0 0,.slice none 0 0,.slice none 0 0,.slice none 0 0] 30);have bRa:=bR1.alloc (.cells #[.slice none 0 0,.slice none 0 0,.slice none 0 0,.slice none 0 0] 30);have bPa:=bP1.alloc (.cells #[.slice none 0 0,.slice none 0 0,.slice none 0 0,.slice none 0 0] 30);have Ba:=B1.al (.cells #[.slice none 0 0,.slice none 0 0,.slice none 0 0,.slice none 0 0] 30);have hgO:w.heap.size<=w1.heap.size:=B1.size;have hRO:gR<w1.heap.size:=bR1.lt;have hPO:gP<w1.heap.size:=bP1.lt;clear z_0 z_1 z_2 z_3;go_wp2_with (refine aA rfl 30 _ _ rfl w1.heap.size #[.slice C1 rows.length e1,.slice C2 f.length e2,.slice C3 n.length e3,.slice C4 cs.length e4] rfl rfl _ _ bO (by kernel_rfl) rfl (by simp[oneCell']) ?_;intro wS bS hgS;have oS:=aB.bZ oFa bO (by decide) (by decide) (by decide) hgS;have bRS:=bRa.grown hgS (by simp;omega);have bPS:=bPa.grown hgS (by simp;omega);have BS:=Ba.grown hgS Ba.size (fun k hk=>by injection hk with hk;subst hk;exact hgO);obtain⟨c_0,c_1,c_2,c_3⟩:=bPS.n4)
 obtain⟨gO,hgO'⟩:=Pj w1.heap.size;rw[<-hgO']at bS hgS hgO hRO hPO⊢;clear hgO';simp only[Act.put];go_loopw [9] (fun _ wr=>∃(y:Fl) (C1 C2 C3 C4:Option Addr) (e1 e2 e3 e4:Nat),Hid (F=eB y/\jG y=ok)/\cZ y/\Blk wr gO 30 #[.slice C1 y.1.length e1,.slice C2 y.2.1.length e2,.slice C3 y.2.2.1.length e3,.slice C4 y.2.2.2.length e4]/\aB w.heap.size wr (.slice C1 y.1.length e1) (.slice C2 y.2.1.length e2) (.slice C3 y.2.2.1.length e3) (.slice C4 y.2.2.2.length e4) y/\Blk wr gR 30 #[.slice none 0 0,.slice none 0 0,.slice none 0 0,.slice none 0 0]/\Blk wr gP 30 #[.slice A1 rows.length c1,.slice A2 f.length c2,.slice A3 n.length c3,.slice A4 cs.length c4]/\Below w.heap.size w wr) (fun _ wr=>Bq wr gO)
 case atStart=>exact⟨(rows,f,n,cs),C1,C2,C3,C4,e1,e2,e3,e4,Pm ⟨HF.out,HO.out⟩,hs4,bS,oS,bRS,bPS,BS⟩
 case round=>
  obtain⟨y,C1,C2,C3,C4,e1,e2,e3,e4,HFy,hsy,bY,oY,bRY,bPY,BY⟩:=hrel;clear bS oS bRS BS bPS c_0 c_1 c_2 c_3 hgS bO oFa bRa bPa Ba oF B1 bP1 bR1 HF HO;obtain⟨c_0,c_1,c_2,c_3⟩:=bPY.n4;go_wp2_with fail
  refine(CO _ _ _ _ _ (h1.Pk BY) (h2.Pk BY) (h3.Pk BY) (h4.Pk BY)).mono ?_;rintro e w2 ⟨rfl,hb2⟩;have B2:=BY.tr hb2;have bY2:=bY.bl hb2;have bR2:=bRY.bl hb2;have bP2:=bPY.bl hb2;have oY2:=oY.below hb2;have hz2:Hid (y.2.2.2.length=Bq wr gO):=Pm (by rw[bY.Fy]);clear c_0 c_1 c_2 c_3;obtain⟨u_0,u_1,u_2,u_3⟩:=bY2.n4;have hYR:gO≠gR:=by omega
  have hdone:(ok=false∨(ok=true/\y.2.2.2.length=0))∨(ok=true/\0<y.2.2.2.length):=by
   rcases ok with _|_
   . exact .inl (.inl rfl)
   . rcases Nat.eq_zero_or_pos y.2.2.2.length with q|q
     . exact .inl (.inr ⟨rfl,q⟩)
     . exact .inr ⟨rfl,q⟩
  rcases hdone with hd|⟨hd,hn⟩
  . have hFy:F=y:=by
     rw[HFy.out.1];refine Bp ?_;rcases hd with q|⟨_,q⟩
     . exact .inl (HFy.out.2.trans q)
     . exact .inr q
    have HFF:=Pm hFy;clear hFy;rcases hd with hd|⟨hd,hn⟩
    . subst hd;go_wp2_with (refine aA rfl 30 _ _ rfl gR #[.slice C1 y.1.length e1,.slice C2 y.2.1.length e2,.slice C3 y.2.2.1.length e3,.slice C4 y.2.2.2.length e4] rfl rfl _ _ bR2 (by kernel_rfl) rfl (by simp[oneCell']) ?_;intro wE bE hgE)
      have oE:=aB.bZ oY2 bR2 (by decide) (by decide) (by decide) hgE;have BE:=B2.grown hgE B2.size (fun k hk=>by injection hk with hk;subst hk;exact hgR);obtain⟨q_0,q_1,q_2,q_3⟩:=bE.n4;refine bodyPost_ret (v:= .agg #[.slice C1 y.1.length e1,.slice C2 y.2.1.length e2,.slice C3 y.2.2.1.length e3,.slice C4 y.2.2.2.length e4]) (by simp[results,Tryz.results157,go_sem,q_0,q_1,q_2,q_3]) rfl (by rw[HFF.out];exact⟨C1,e1,C2,e2,C3,e3,C4,e4,rfl,oE,BE⟩)
    . subst hd;have hn1:((y.2.2.2.length:Int)>0)=False:=by rw[hn];simp
      have hn2:decide ((0:Int)<(y.2.2.2.length:Int))=false:=by rw[hn];rfl
      have hn3:decide (0<y.2.2.2.length)=false:=by rw[hn];rfl
      clear hn;go_wp2_with (refine aA rfl 30 _ _ rfl gR #[.slice C1 y.1.length e1,.slice C2 y.2.1.length e2,.slice C3 y.2.2.1.length e3,.slice C4 y.2.2.2.length e4] rfl rfl _ _ bR2 (by kernel_rfl) rfl (by simp[oneCell']) ?_;intro wE bE hgE)
      have oE:=aB.bZ oY2 bR2 (by decide) (by decide) (by decide) hgE;have BE:=B2.grown hgE B2.size (fun k hk=>by injection hk with hk;subst hk;exact hgR);obtain⟨q_0,q_1,q_2,q_3⟩:=bE.n4;refine bodyPost_ret (v:= .agg #[.slice C1 y.1.length e1,.slice C2 y.2.1.length e2,.slice C3 y.2.2.1.length e3,.slice C4 y.2.2.2.length e4]) (by simp[results,Tryz.results157,go_sem,q_0,q_1,q_2,q_3]) rfl (by rw[HFF.out];exact⟨C1,e1,C2,e2,C3,e3,C4,e4,rfl,oE,BE⟩)
  . subst hd;obtain⟨z,b,hz⟩:∃z b,fF y=(z,b):=⟨_,_,rfl⟩
    have hb:b=true:=by
     have q:=hz;unfold fF at q;rw[if_pos ⟨HFy.out.2,by omega⟩]at q;exact(Prod.mk.inj q).2.symm
    subst hb
    have CU : ∀ (u1 u2 u3 u4 : Value) (w : World), Rd 1 aX w u1 y.1 -> Rd 3 aQ w u2 y.2.1 -> Rd 3 aQ w u3 y.2.2.1 -> Rd 2 bH w u4 y.2.2.2 -> Calls Tryz.prog 101 #[.agg #[u1, u2, u3, u4]] w (kF z true w) := fun u1 u2 u3 u4 w k1 k2 k3 k4 => by
     have:=Eb u1 u2 u3 u4 y w k1 k2 k3 k4 hsy;rw[hz]at this;exact this
    obtain⟨k1,k2,k3,k4⟩:=yO hsy hz;have HFz:Hid (F=eB z/\jG z=true):=Pm ⟨by rw[k1];exact HFy.out.1,by rw[k2];exact HFy.out.2⟩;have hm:Hid (z.2.2.2.length<Bq wr gO):=Pm (by rw[<-hz2.out];exact k3);have hn1:(0:Int)<(y.2.2.2.length:Int):=(by omega);clear k1 k2 k3 hz;go_wp2_with fail
    refine(CU _ _ _ _ _ oY2.ra oY2.rb oY2.rc oY2.rd).mono ?_;rintro e w3 ⟨D1,d1,D2,d2,D3,d3,D4,d4,rfl,oN,hb3⟩;have B3:=B2.tr hb3;have bY3:=bY2.bl hb3;have bR3:=bR2.bl hb3;have bP3:=bP2.bl hb3;have oN3:=oN.mono B2.size;clear u_0 u_1 u_2 u_3;go_wp2_with (refine aA rfl 30 _ _ rfl gO #[.slice D1 z.1.length d1,.slice D2 z.2.1.length d2,.slice D3 z.2.2.1.length d3,.slice D4 z.2.2.2.length d4] rfl rfl _ _ bY3 (by kernel_rfl) rfl (by simp[oneCell']) ?_;intro wE bE hgE)
    have oE:=aB.bZ oN3 bY3 (by decide) (by decide) (by decide) hgE;have bRE:=bR3.grown hgE (by simp;omega);have bPE:=bP3.grown hgE (by simp;omega);have BE:=B3.grown hgE B3.size (fun k hk=>by injection hk with hk;subst hk;exact hgO);simp only[Act.put];go_roundw
    case rel=>exact⟨z,D1,D2,D3,D4,d1,d2,d3,d4,HFz,k4,bE,oE,bRE,bPE,BE⟩
    case measure=>rw[bE.Fy];exact hm.out
end Go.Proofs.YtljfoohaapckeaaGreatDoor
