/- A new floor, by the reference: the walk. Conditions: sizes. A drawn floor. No conditions but sizes. -/
import Derived.Test.YtljfoohaapckeaaGreatDoorZG46
import Derived.Test.YtljfoohaapckeaaGreatDoorZFirstS
import Derived.Test.YtljfoohaapckeaaGreatDoorZG21
import Derived.Test.YtljfoohaapckeaaGreatDoorZFlDoS
namespace Go.Proofs.YtljfoohaapckeaaGreatDoor
open Go.ChangeShapes Go.WideShapes Go.ChangeAt Go.RowKit
set_option linter.unusedVariables false
set_option linter.unusedSimpArgs false
set_option maxHeartbeats 4000000
set_option maxRecDepth 100000
theorem OI (v:Value) (rows:List Int) (w:World) (h:Rd 1 bG w v rows) (hl:Small rows.length):Calls Tryz.prog 137 #[.agg #[v]] w (mP (eH rows) (jM rows) w):=by
 obtain⟨A,c,rfl,hc,hm⟩:=h.form;have B0:=((Below.refl w.heap.size w).al (.cells #[.slice A rows.length c] 26)).al (.cells #[.slice none 0 0,.slice none 0 0,.slice none 0 0,.slice none 0 0] 30);have bX:=(Blk.aZ w 26 #[.slice A rows.length c]).alloc (.cells #[.slice none 0 0,.slice none 0 0,.slice none 0 0,.slice none 0 0] 30);have bR:=Blk.gI (w.alloc (.cells #[.slice A rows.length c] 26)) 30 #[.slice none 0 0,.slice none 0 0,.slice none 0 0,.slice none 0 0] (w.heap.size+1) (by simp);obtain⟨F,hF⟩:=R9 (dQ rows);obtain⟨b,hb⟩:=R9 (jM rows);have hFl:F.length<=64:=by rw[hF];exact lL rows
 have hFs:Small F.length:=by unfold Small;omega
 have hsx:dE (rows,F,F,[]):=⟨hl,hFs,hFs,by unfold Small;simp⟩;have CF:∀(u:Value) (w:World),Rd 1 bG w u rows->Calls Tryz.prog 189 #[.agg #[u]] w (Nk F b w):=fun u w k1=>by rw[hF,hb];exact IX u rows w k1
 have hN0 : b = false -> eH rows = ([], [], [], []) := fun q => by
  rw[hb]at q;unfold jM at q;unfold eH;rw[if_pos (by simpa using q)]
 have hN1 : b = true -> eH rows = (rows, F, F, []) := fun q => by
  rw[hb]at q;unfold jM at q;unfold eH;rw[if_neg (by simpa using q),<-hF]
 obtain⟨y,hy⟩:=R9 (eH rows);rw[<-hy]at hN0 hN1⊢;rw[<-hb];have HN0:=Sb hN0;have HN1:=Sb hN1;clear hF hb hN0 hN1 hy;have H0:∀w:World,Rd 2 cO w (.slice none 0 0) ([]:List Cl):=fun w=>(aD.Ct (E:=70) (size:=2) (enc:=dG) (B:=0) (w:=w)).rd eG (by decide)
 go_enter Tryz.func137,Tryz.ntmps137
 go_wp2_with fail
 refine(CF _ _ (h.Sa B0)).mono ?_;rintro e w1 ⟨F1,f1,rfl,oF,hb1⟩;have B1:=B0.tr hb1;have bX1:=bX.bl hb1;have bR1:=bR.bl hb1;have oF:=oF.mono B0.size;obtain⟨gX,hgX⟩:=R9 w.heap.size;obtain⟨gR,hgR'⟩:=R9 (w.heap.size+1);have hgR:w.heap.size<=gR:=(by omega);rw[<-hgR']at bR1⊢;rw[<-hgX]at bX1⊢;clear hgX hgR' hb1 B0 bX bR;cases b
 . obtain rfl:([],[],[],[])=y:=(HN0.out rfl).symm;go_wp2_with (refine aO rfl 30 _ _ rfl gR #[.slice none 0 0,.slice none 0 0,.slice none 0 0,.slice none 0 0] rfl rfl _ _ bR1 (by kernel_rfl) rfl (by simp[Value.oneCell']) ?_;intro wE bE hgE)
   have BE:=B1.grown hgE B1.size (fun k hk=>by injection hk with hk;subst hk;exact hgR);obtain⟨q_0,q_1,q_2,q_3⟩:=bE.n4;refine bodyPost_ret (v:= .tuple #[.agg #[.slice none 0 0,.slice none 0 0,.slice none 0 0,.slice none 0 0],.bool false]) (by simp[results,Tryz.results137,go_sem,q_0,q_1,q_2,q_3]) rfl ⟨none,0,none,0,none,0,none,0,rfl,oK _ _,BE⟩
 . obtain rfl:(rows,F,F,[])=y:=(HN1.out rfl).symm;have z0:=bX1.c1;go_wp2_with fail
   refine(qQ _ _ _ _ (rows,F,F,[]) _ (h.Sa B1) (oF.rd aC (by decide)) (oF.rd aC (by decide)) (H0 _) hsx).mono ?_;rintro e w2 ⟨A1,e1,A2,e2,A3,e3,A4,e4,rfl,oA,hb2⟩;have oA:=oA.mono B1.size;have B2:=B1.tr hb2;have bR2:=bR1.bl hb2;clear z0 hb2 oF B1 bX1 bR1;go_wp2_with (refine aO rfl 30 _ _ rfl gR #[.slice A1 rows.length e1,.slice A2 F.length e2,.slice A3 F.length e3,.slice A4 0 e4] rfl rfl _ _ bR2 (by kernel_rfl) rfl (by simp[Value.oneCell']) ?_;intro wE bE hgE)
   have oE:=aB.dB oA bR2 (by decide) (by decide) (by decide) hgE;have BE:=B2.grown hgE B2.size (fun k hk=>by injection hk with hk;subst hk;exact hgR);obtain⟨q_0,q_1,q_2,q_3⟩:=bE.n4;refine bodyPost_ret (v:= .tuple #[.agg #[.slice A1 rows.length e1,.slice A2 F.length e2,.slice A3 F.length e3,.slice A4 0 e4],.bool true]) (by simp[results,Tryz.results137,go_sem,q_0,q_1,q_2,q_3]) rfl ⟨A1,e1,A2,e2,A3,e3,A4,e4,rfl,oE,BE⟩
theorem rR {n:Nat} {y:Int} (h:dX n y) (hn:¬n=0):∃i:Nat,i<n/\y=(i:Int):=by
 unfold dX at h;exact⟨y.toNat,by omega,by omega⟩
end Go.Proofs.YtljfoohaapckeaaGreatDoor
