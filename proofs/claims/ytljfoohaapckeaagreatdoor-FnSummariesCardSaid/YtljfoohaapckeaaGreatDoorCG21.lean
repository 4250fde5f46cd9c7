/- A flip taken back by the reference: the walk. Conditions: sizes. All flips taken back, by the program and by the reference: the walks. Conditions: sizes. -/
import Derived.Test.YtljfoohaapckeaaGreatDoorCFlDo1
import Derived.Test.YtljfoohaapckeaaGreatDoorCG19
import Derived.Test.YtljfoohaapckeaaGreatDoorCK7
namespace Go.Proofs.YtljfoohaapckeaaGreatDoor
open Go.ChangeShapes Go.WideShapes Go.ChangeAt Go.RowKit
set_option linter.unusedVariables false
set_option linter.unusedSimpArgs false
set_option maxHeartbeats 4000000
set_option maxRecDepth 100000
theorem zP:∀(cs:List Cl) {l m:List Dm},Small l.length->eX l cs=some m->Small m.length
  |[],l,m,h,e=>by unfold eX at e;injection e with e;rw[<-e];exact h
  | c :: r, l, m, h, e => by
   rw[vP]at e;split at e
   . cases e
   . exact zP r (uA l c) e
theorem Ea {y:Fl} (hs:dG y) (h:iL y=true) (j:Nat):dG (xG y j):=
 ⟨hs.1, hs.2.1, zP _ hs.2.1 (G7 h j), by
  have:=hs.2.2.2;unfold Small at this⊢;show(y.2.2.2.take j).length<=_;rw[List.length_take];omega⟩
theorem M9 {y z:Fl} (hs:dG y) (h:sV y=(z,true)):eO z=eO y/\iL z=iL y/\z.2.2.2.length<y.2.2.2.length/\dG z:=by
 unfold sV at h;split at h
 . rename_i q;injection h with h1 _;subst h1;have hk:=LM q.1 (y.2.2.2.length-1);refine⟨?_,by rw[hk,q.1],by rw[Jp (by omega)];omega,Ea hs q.1 _⟩;unfold eO;rw[if_pos hk,if_pos q.1,Qr y (Nat.zero_le _)]
 . cases h
theorem KE {y:Fl} (h:iL y=false∨y.2.2.2.length=0):eO y=y:=by
 unfold eO;split
 . rename_i q;rcases h with h|h
   . rw[h]at q;cases q
   . have:=FU q;rw[h]at this;exact this
 . rfl
theorem KF {y z:Fl} (h:sV y=(z,false)):eO y=y:=by
 unfold sV at h;split at h
 . cases h
 . rename_i q;refine KE ?_;rcases e:iL y with _|_
   . exact .inl rfl
   . exact .inr (by rcases Nat.eq_zero_or_pos y.2.2.2.length with k|k;exact k;exact absurd ⟨e,by omega⟩ q)
def KG (w:World) (b:Nat):Nat:=match w.cell? ⟨b,3,none⟩with|some (.slice _ n _)=>n|_=>0
theorem Blk.PT {w:World} {g:Nat} {t:TypeId} {a b c:Value} {A:Option Addr} {n k:Nat} (h:Blk w g t #[a,b,c,.slice A n k]):KG w g=n:=by
 unfold KG;rw[h.cell 3];rfl
theorem GD (v1 v2 v3 v4:Value) (x:Fl) (w:World) (h1:Rd 1 bV w v1 x.1) (h2:Rd 3 bG w v2 x.2.1) (h3:Rd 3 bG w v3 x.2.2.1) (h4:Rd 2 eD w v4 x.2.2.2) (hs:dG x):Calls Tryz.prog 34 #[.agg #[v1,v2,v3,v4]] w (EG (eO x) w):=by
 have hs4:=hs;obtain⟨F,hF⟩:=SL (eO x);rw[<-hF];obtain⟨rows,f,n,cs⟩:=x;simp only at h1 h2 h3 h4;obtain⟨s1,s2,s3,s4⟩:=hs;simp only at s1 s2 s3 s4;obtain⟨A1,c1,rfl,hc1,hm1⟩:=h1.form;obtain⟨A2,c2,rfl,hc2,hm2⟩:=h2.form;obtain⟨A3,c3,rfl,hc3,hm3⟩:=h3.form;obtain⟨A4,c4,rfl,hc4,hm4⟩:=h4.form;have B0:=((Below.refl w.heap.size w).al (.cells #[.slice A1 rows.length c1,.slice A2 f.length c2,.slice A3 n.length c3,.slice A4 cs.length c4] 30)).al (.cells #[.slice none 0 0,.slice none 0 0,.slice none 0 0,.slice none 0 0] 30);have bP:=(Blk.aY w 30 #[.slice A1 rows.length c1,.slice A2 f.length c2,.slice A3 n.length c3,.slice A4 cs.length c4]).alloc (.cells #[.slice none 0 0,.slice none 0 0,.slice none 0 0,.slice none 0 0] 30);have bR:=Blk.iX (w.alloc (.cells #[.slice A1 rows.length c1,.slice A2 f.length c2,.slice A3 n.length c3,.slice A4 cs.length c4] 30)) 30 #[.slice none 0 0,.slice none 0 0,.slice none 0 0,.slice none 0 0] (w.heap.size+1) (by simp);have HF:=SQ hF;clear hF;go_enter Tryz.func34,Tryz.ntmps34
 go_wp2_with fail
 obtain⟨W0,hW0⟩:=SL ((w.alloc (.cells #[.slice A1 rows.length c1,.slice A2 f.length c2,.slice A3 n.length c3,.slice A4 cs.length c4] 30)).alloc (.cells #[.slice none 0 0,.slice none 0 0,.slice none 0 0,.slice none 0 0] 30));obtain⟨gP,hgP⟩:=SL w.heap.size;obtain⟨gR,hgR'⟩:=SL (w.heap.size+1);rw[<-hW0]at B0 bP bR⊢;rw[<-hgR']at bR⊢;rw[<-hgP]at bP⊢;have hgR:w.heap.size<=gR:=(by omega);have hPR:gP≠gR:=(by omega);have hw0:w.heap.size<=W0.heap.size:=B0.size;clear hW0 hgP hgR';obtain⟨z_0,z_1,z_2,z_3⟩:=bP.n4;have hp0:=bP.lt;have hr0:=bR.lt;go_wp2_with fail
 refine(jG _ _ _ _ (rows,f,n,cs) _ (h1.SN B0) (h2.SN B0) (h3.SN B0) (h4.SN B0) hs4).mono ?_;rintro e w1 ⟨C1,e1,C2,e2,C3,e3,C4,e4,rfl,oF,hb1⟩;have B1:=B0.tr hb1;have bP1:=bP.bl hb1;have bR1:=bR.bl hb1;have oF:=oF.mono hw0;have bO:=Blk.aY w1 30 #[.slice none 0 0,.slice none 0 0,.slice none 0 0,.slice none 0 0];have oFa:=oF.alloc (.cells #[.slice none 0 0,.slice none 0 0,.slice none 0 0,.slice none 0 0] 30);have bRa:=bR1.alloc (.cells #[.slice none 0 0,.slice none 0 0,.slice none 0 0,.slice none 0 0] 30);have bPa:=bP1.alloc (.cells #[.slice none 0 0,.slice none 0 0,.slice none 0 0,.slice none 0 0] 30);have Ba:=B1.al (.cells #[.slice none 0 0,.slice none 0 0,.slice none 0 0,.slice none 0 0] 30);have hgO:w.heap.size<=w1.heap.size:=B1.size;have hRO:gR<w1.heap.size:=bR1.lt;have hPO:gP<w1.heap.size:=bP1.lt;clear z_0 z_1 z_2 z_3;go_wp2_with (refine aA rfl 30 _ _ rfl w1.heap.size #[.slice C1 rows.length e1,.slice C2 f.length e2,.slice C3 n.length e3,.slice C4 cs.length e4] rfl rfl _ _ bO (by kernel_rfl) rfl (by simp[Value.oneCell']) ?_;intro wS bS hgS;have oS:=aF.dZ oFa bO (by decide) (by decide) (by decide) hgS;have bRS:=bRa.grown hgS (by simp;omega);have bPS:=bPa.grown hgS (by simp;omega);have BS:=Ba.grown hgS Ba.size (fun k hk=>by injection hk with hk;subst hk;exact hgO);obtain⟨c_0,c_1,c_2,c_3⟩:=bPS.n4)
 obtain⟨gO,hgO'⟩:=SL w1.heap.size;rw[<-hgO']at bS hgS hgO hRO hPO⊢;clear hgO';simp only[Act.put];go_loopw [9] (fun _ wr=>∃(y:Fl) (C1 C2 C3 C4:Option Addr) (e1 e2 e3 e4:Nat),Hid (F=eO y)/\dG y/\Blk wr gO 30 #[.slice C1 y.1.length e1,.slice C2 y.2.1.length e2,.slice C3 y.2.2.1.length e3,.slice C4 y.2.2.2.length e4]/\aF w.heap.size wr (.slice C1 y.1.length e1) (.slice C2 y.2.1.length e2) (.slice C3 y.2.2.1.length e3) (.slice C4 y.2.2.2.length e4) y/\Blk wr gR 30 #[.slice none 0 0,.slice none 0 0,.slice none 0 0,.slice none 0 0]/\Below w.heap.size w wr) (fun _ wr=>KG wr gO)
 case atStart=>exact⟨(rows,f,n,cs),C1,C2,C3,C4,e1,e2,e3,e4,HF,hs4,bS,oS,bRS,BS⟩
 case round=>
  obtain⟨y,C1,C2,C3,C4,e1,e2,e3,e4,HFy,hsy,bY,oY,bRY,BY⟩:=hrel;clear bS oS bRS BS bPS c_0 c_1 c_2 c_3 hgS bO oFa bRa bPa Ba oF B1 bP1 bR1 HF;obtain⟨y_0,y_1,y_2,y_3⟩:=bY.n4;obtain⟨z,b,hz⟩:∃z b,sV y=(z,b):=⟨_,_,rfl⟩
  have CU : ∀ (u1 u2 u3 u4 : Value) (w : World), Rd 1 bV w u1 y.1 -> Rd 3 bG w u2 y.2.1 -> Rd 3 bG w u3 y.2.2.1 -> Rd 2 eD w u4 y.2.2.2 -> Calls Tryz.prog 40 #[.agg #[u1, u2, u3, u4]] w (mE z b w) := fun u1 u2 u3 u4 w k1 k2 k3 k4 => by
   have:=FW u1 u2 u3 u4 y w k1 k2 k3 k4 hsy;rw[hz]at this;exact this
  have HZ:=SQ hz;clear hz;go_wp2_with fail
  refine(CU _ _ _ _ _ oY.ra oY.rb oY.rc oY.rd).mono ?_;rintro e w2 ⟨D1,d1,D2,d2,D3,d3,D4,d4,rfl,oN,hb2⟩;have B2:=BY.tr hb2;have bY2:=bY.bl hb2;have bR2:=bRY.bl hb2;have oY2:=oY.below hb2;have oN2:=oN.mono BY.size;have bN:=Blk.aY w2 30 #[.slice none 0 0,.slice none 0 0,.slice none 0 0,.slice none 0 0];have bYa:=bY2.alloc (.cells #[.slice none 0 0,.slice none 0 0,.slice none 0 0,.slice none 0 0] 30);have bRa:=bR2.alloc (.cells #[.slice none 0 0,.slice none 0 0,.slice none 0 0,.slice none 0 0] 30);have oYa:=oY2.alloc (.cells #[.slice none 0 0,.slice none 0 0,.slice none 0 0,.slice none 0 0] 30);have oNa:=oN2.alloc (.cells #[.slice none 0 0,.slice none 0 0,.slice none 0 0,.slice none 0 0] 30);have Ba:=B2.al (.cells #[.slice none 0 0,.slice none 0 0,.slice none 0 0,.slice none 0 0] 30);have hgN:w.heap.size<=w2.heap.size:=B2.size;have hRN:gR<w2.heap.size:=bR2.lt;have hYN:gO<w2.heap.size:=bY2.lt;have hz2:Hid (y.2.2.2.length=KG wr gO):=SQ (by rw[bY.PT]);clear y_0 y_1 y_2 y_3;rcases b with _|_
  . have hFy : F = y := by rw [HFy.out]; exact KF HZ.out
    have HFF:=SQ hFy;clear hFy;go_wp2_with (first|(refine aA rfl 30 _ _ rfl w2.heap.size #[.slice D1 z.1.length d1,.slice D2 z.2.1.length d2,.slice D3 z.2.2.1.length d3,.slice D4 z.2.2.2.length d4] rfl rfl _ _ bN (by kernel_rfl) rfl (by simp[Value.oneCell']) ?_;intro wS bS hgS;have bYS:=bYa.grown hgS (by simp;omega);have bRS:=bRa.grown hgS (by simp;omega);have oYS:=aF.dZ oYa bN (by decide) (by decide) (by decide) hgS;have BS:=Ba.grown hgS Ba.size (fun k hk=>by injection hk with hk;subst hk;exact hgN);obtain⟨u_0,u_1,u_2,u_3⟩:=bYS.n4)|(refine aA rfl 30 _ _ rfl gR #[.slice C1 y.1.length e1,.slice C2 y.2.1.length e2,.slice C3 y.2.2.1.length e3,.slice C4 y.2.2.2.length e4] rfl rfl _ _ bRS (by kernel_rfl) rfl (by simp[Value.oneCell']) ?_;intro wE bE hgE))
    have oE:=aF.dZ oYS bRS (by decide) (by decide) (by decide) hgE;have BE:=BS.grown hgE BS.size (fun k hk=>by injection hk with hk;subst hk;exact hgR);obtain⟨q_0,q_1,q_2,q_3⟩:=bE.n4;refine bodyPost_ret (v:= .agg #[.slice C1 y.1.length e1,.slice C2 y.2.1.length e2,.slice C3 y.2.2.1.length e3,.slice C4 y.2.2.2.length e4]) (by simp[results,Tryz.results34,go_sem,q_0,q_1,q_2,q_3]) rfl (by rw[HFF.out];exact⟨C1,e1,C2,e2,C3,e3,C4,e4,rfl,oE,BE⟩)
  . obtain⟨k1,k2,k3,k4⟩:=M9 hsy HZ.out;have HFz:Hid (F=eO z):=SQ (by rw[k1];exact HFy.out);have hm:Hid (z.2.2.2.length<KG wr gO):=SQ (by rw[<-hz2.out];exact k3);clear k1 k2 k3;go_wp2_with (first|(refine aA rfl 30 _ _ rfl w2.heap.size #[.slice D1 z.1.length d1,.slice D2 z.2.1.length d2,.slice D3 z.2.2.1.length d3,.slice D4 z.2.2.2.length d4] rfl rfl _ _ bN (by kernel_rfl) rfl (by simp[Value.oneCell']) ?_;intro wS bS hgS;have bYS:=bYa.grown hgS (by simp;omega);have bRS:=bRa.grown hgS (by simp;omega);have oNS:=aF.dZ oNa bN (by decide) (by decide) (by decide) hgS;have BS:=Ba.grown hgS Ba.size (fun k hk=>by injection hk with hk;subst hk;exact hgN);obtain⟨u_0,u_1,u_2,u_3⟩:=bS.n4)|(refine aA rfl 30 _ _ rfl gO #[.slice D1 z.1.length d1,.slice D2 z.2.1.length d2,.slice D3 z.2.2.1.length d3,.slice D4 z.2.2.2.length d4] rfl rfl _ _ bYS (by kernel_rfl) rfl (by simp[Value.oneCell']) ?_;intro wE bE hgE))
    have oE:=aF.dZ oNS bYS (by decide) (by decide) (by decide) hgE;have bRE:=bRS.grown hgE (by simp;omega);have BE:=BS.grown hgE BS.size (fun k hk=>by injection hk with hk;subst hk;exact hgO);simp only[Act.put];go_roundw
    case rel=>exact⟨z,D1,D2,D3,D4,d1,d2,d3,d4,HFz,k4,bE,oE,bRE,BE⟩
    case measure=>rw[bE.PT];exact hm.out
end Go.Proofs.YtljfoohaapckeaaGreatDoor
