/- A new floor, by the reference: the walk. Conditions: sizes. A drawn floor. No conditions but sizes. A workshop opened, on both sides: the walk, with WorkshopOk's answer as given. Conditions: sizes. -/
import Derived.Test.YtljfoohaapckeaaGreatDoorCG36
import Derived.Test.YtljfoohaapckeaaGreatDoorCFirstS
import Derived.Test.YtljfoohaapckeaaGreatDoorCG19
import Derived.Test.YtljfoohaapckeaaGreatDoorCFlDoS
import Derived.Test.YtljfoohaapckeaaGreatDoorCG23
open _root_.Go.Value (oneCell')
open _root_.Go.Proofs.Tryz (prog results128)
namespace Go.Proofs.YtljfoohaapckeaaGreatDoor
open Go.ChangeShapes Go.WideShapes Go.ChangeAt Go.RowKit
set_option linter.unusedVariables false
set_option linter.unusedSimpArgs false
set_option maxHeartbeats 4000000
set_option maxRecDepth 100000
theorem JY (v:Value) (rows:List Int) (w:World) (h:Rd 1 bV w v rows) (hl:Small rows.length):Calls prog 137 #[.agg #[v]] w (mE (fM rows) (lZ rows) w):=by
 obtain⟨A,c,rfl,hc,hm⟩:=h.form;have B0:=((Below.refl w.heap.size w).al (.cells #[.slice A rows.length c] 26)).al (.cells #[.slice none 0 0,.slice none 0 0,.slice none 0 0,.slice none 0 0] 30);have bX:=(Blk.aY w 26 #[.slice A rows.length c]).alloc (.cells #[.slice none 0 0,.slice none 0 0,.slice none 0 0,.slice none 0 0] 30);have bR:=Blk.iX (w.alloc (.cells #[.slice A rows.length c] 26)) 30 #[.slice none 0 0,.slice none 0 0,.slice none 0 0,.slice none 0 0] (w.heap.size+1) (by simp);obtain⟨F,hF⟩:=SL (dD rows);obtain⟨b,hb⟩:=SL (lZ rows);have hFl:F.length<=64:=by rw[hF];exact nO rows
 have hFs:Small F.length:=by unfold Small;omega
 have hsx:dG (rows,F,F,[]):=⟨hl,hFs,hFs,by unfold Small;simp⟩;have CF:∀(u:Value) (w:World),Rd 1 bV w u rows->Calls prog 189 #[.agg #[u]] w (NN F b w):=fun u w k1=>by rw[hF,hb];exact Jh u rows w k1
 have hN0 : b = false -> fM rows = ([], [], [], []) := fun q => by
  rw[hb]at q;unfold lZ at q;unfold fM;rw[if_pos (by simpa using q)]
 have hN1 : b = true -> fM rows = (rows, F, F, []) := fun q => by
  rw[hb]at q;unfold lZ at q;unfold fM;rw[if_neg (by simpa using q),<-hF]
 obtain⟨y,hy⟩:=SL (fM rows);rw[<-hy]at hN0 hN1⊢;rw[<-hb];have HN0:=SQ hN0;have HN1:=SQ hN1;clear hF hb hN0 hN1 hy;have H0:∀w:World,Rd 2 eD w (.slice none 0 0) ([]:List Cl):=fun w=>(aC.FD (E:=70) (size:=2) (enc:=dH) (B:=0) (w:=w)).rd dY (by decide)
 go_enter Tryz.func137,Tryz.ntmps137
 go_wp2_with fail
 refine(CF _ _ (h.SN B0)).mono ?_;rintro e w1 ⟨F1,f1,rfl,oF,hb1⟩;have B1:=B0.tr hb1;have bX1:=bX.bl hb1;have bR1:=bR.bl hb1;have oF:=oF.mono B0.size;obtain⟨gX,hgX⟩:=SL w.heap.size;obtain⟨gR,hgR'⟩:=SL (w.heap.size+1);have hgR:w.heap.size<=gR:=(by omega);rw[<-hgR']at bR1⊢;rw[<-hgX]at bX1⊢;clear hgX hgR' hb1 B0 bX bR;cases b
 . obtain rfl:([],[],[],[])=y:=(HN0.out rfl).symm;go_wp2_with (refine bZ rfl 30 _ _ rfl gR #[.slice none 0 0,.slice none 0 0,.slice none 0 0,.slice none 0 0] rfl rfl _ _ bR1 (by kernel_rfl) rfl (by simp[oneCell']) ?_;intro wE bE hgE)
   have BE:=B1.grown hgE B1.size (fun k hk=>by injection hk with hk;subst hk;exact hgR);obtain⟨q_0,q_1,q_2,q_3⟩:=bE.n4;refine bodyPost_ret (v:= .tuple #[.agg #[.slice none 0 0,.slice none 0 0,.slice none 0 0,.slice none 0 0],.bool false]) (by simp[results,Tryz.results137,go_sem,q_0,q_1,q_2,q_3]) rfl ⟨none,0,none,0,none,0,none,0,rfl,wK _ _,BE⟩
 . obtain rfl:(rows,F,F,[])=y:=(HN1.out rfl).symm;have z0:=bX1.c1;go_wp2_with fail
   refine(rF _ _ _ _ (rows,F,F,[]) _ (h.SN B1) (oF.rd aB (by decide)) (oF.rd aB (by decide)) (H0 _) hsx).mono ?_;rintro e w2 ⟨A1,e1,A2,e2,A3,e3,A4,e4,rfl,oA,hb2⟩;have oA:=oA.mono B1.size;have B2:=B1.tr hb2;have bR2:=bR1.bl hb2;clear z0 hb2 oF B1 bX1 bR1;go_wp2_with (refine bZ rfl 30 _ _ rfl gR #[.slice A1 rows.length e1,.slice A2 F.length e2,.slice A3 F.length e3,.slice A4 0 e4] rfl rfl _ _ bR2 (by kernel_rfl) rfl (by simp[oneCell']) ?_;intro wE bE hgE)
   have oE:=aF.dZ oA bR2 (by decide) (by decide) (by decide) hgE;have BE:=B2.grown hgE B2.size (fun k hk=>by injection hk with hk;subst hk;exact hgR);obtain⟨q_0,q_1,q_2,q_3⟩:=bE.n4;refine bodyPost_ret (v:= .tuple #[.agg #[.slice A1 rows.length e1,.slice A2 F.length e2,.slice A3 F.length e3,.slice A4 0 e4],.bool true]) (by simp[results,Tryz.results137,go_sem,q_0,q_1,q_2,q_3]) rfl ⟨A1,e1,A2,e2,A3,e3,A4,e4,rfl,oE,BE⟩
theorem sG {u1 u2 u3 u4:Value} (h:u1.oneCell'=true/\u2.oneCell'=true/\u3.oneCell'=true/\u4.oneCell'=true):(#[u1,u2,u3,u4]:Array Value).all (·.oneCell')=true:=by
 obtain⟨a,b,c,d⟩:=h;simp only[List.all_toArray,List.all_cons,a,b,c,d,List.all_nil,Bool.and_true,Bool.true_and]
theorem kS {n:Nat} {y:Int} (h:dV n y) (hn:¬n=0):∃i:Nat,i<n/\y=(i:Int):=by
 unfold dV at h;exact⟨y.toNat,by omega,by omega⟩
def tO (k:Nat) (x:Fl):Prop:=iL x=true/\R12 x.1/\x.2.1=dD x.1/\x.2.2.2.length+k<=9
theorem QZ {k:Nat} {x:Fl} (c:Cl) (hk:0<k) (h:tO k x):tO (k-1) (pI x c).1:=by
 obtain⟨h1,h2,h3,h4⟩:=h;refine⟨Ic c h1,?_⟩;unfold pI;split
 . refine⟨h2,h3,?_⟩;show(x.2.2.2++[c]).length+(k-1)<=9;rw[List.length_append,List.length_singleton];omega
 . exact⟨h2,h3,by show x.2.2.2.length+(k-1)<=9;omega⟩
theorem Mv {k:Nat} {x:Fl} (h:tO k x):tO 0 x:=⟨h.1,h.2.1,h.2.2.1,by have:=h.2.2.2;omega⟩
theorem O8 {rows:List Int} (h:R12 rows) (k:Nat) (hk:k<=9):tO k (fM rows):=by
 have h1:=Lu h;rw[(rW h).2.1]at h1⊢;exact⟨h1,h,rfl,by simpa using hk⟩
def Ny (W:World) (g:Nat) (u:Value) (n:Nat) (w:World) (e:Ending) (w':World):Prop:=∃(x:Fl) (V1 V2 V3 V4:Value),e= .returned (.agg #[V1,V2,V3,V4])/\aF w.heap.size w' V1 V2 V3 V4 x/\tO 0 x/\dG x/\DS W w w' g u n
theorem Fu (W : World) (g : Nat) (v : Value) (l : List Int) (w : World) (h : Rd 1 kT W v l) (Hok : Hid (lV (fun x => 0 <= x /\ x <= 255) l)) (hg : W.heap.size <= g) (hbel : Below W.heap.size W w) (hcur : Cur w g v l.length) :
 Calls prog 82 #[.pointer (some ⟨g,0,none⟩)] w (Ny W g v l.length w):=by
 have hW:=hbel.size;have hX:=Blk.aY w 30 #[.slice none 0 0,.slice none 0 0,.slice none 0 0,.slice none 0 0];have D:=(DS.refl hcur hbel).al (.cells #[.slice none 0 0,.slice none 0 0,.slice none 0 0,.slice none 0 0] 30);go_enter Tryz.func82,Tryz.ntmps82
 go_wp2_with fail
 refine(zN W g v l _ h Hok hg D.B D.cur).mono ?_;rintro e w1 ⟨rows,A,c,rfl,own,hr,D1⟩;replace hX:=hX.ds D.cur D1.gr (by decide);replace own:=own.mono (B':=w.heap.size) (by simp);replace D:=D.tr D1;have hsm:Small rows.length:=by have:=hr.1.1;unfold Small;omega
 clear D1;go_wp2_with fail
 refine(JY _ rows _ (own.rd aN (by decide)) hsm).mono ?_;have HS:=SQ (nP hsm);have HF:=SQ (O8 hr);obtain⟨x0,hx0⟩:=SL (fM rows);rw[<-hx0]at HS HF⊢;clear hx0 hsm hr;rintro e w2 ⟨A1,c1,A2,c2,A3,c3,A4,c4,rfl,oF,hb2⟩;replace oF:=oF.mono (B':=w.heap.size) D.gr.size;replace hX:=hX.bl hb2;replace D:=D.bl hb2;clear hb2 own;obtain⟨gX,hgX'⟩:=SL w.heap.size;have HgX:=SQ hgX';rw[<-hgX']at hX;have hgX:w.heap.size<=gX:=(by omega);have hne:=(D.cur.ne hX (by decide)).symm;have hXl:=hX.lt;have hcl:g<w2.heap.size:=by obtain⟨_,_,_,q⟩:=D.cur;exact q.lt
 clear hgX';go_upto_region 2 with(refine aA rfl 30 _ _ rfl w2.heap.size #[.slice A1 x0.1.length c1,.slice A2 x0.2.1.length c2,.slice A3 x0.2.2.1.length c3,.slice A4 x0.2.2.2.length c4] rfl rfl _ _ (Blk.aY w2 30 #[.slice none 0 0,.slice none 0 0,.slice none 0 0,.slice none 0 0]) (by kernel_rfl) rfl (sG oF.one) ?_;intro w0 bF hg4)
 replace hX:=(hX.alloc (.cells #[.slice none 0 0,.slice none 0 0,.slice none 0 0,.slice none 0 0] 30)).grown hg4 (by simp;omega);replace oF:=aF.alg oF (by decide) (by decide) (by decide) hg4;have hgF0:w.heap.size<=w2.heap.size:=D.gr.size;replace D:=D.stN hg4 hW;obtain⟨gF,hgF'⟩:=SL w2.heap.size;rw[<-hgF']at bF hcl hXl hgF0⊢;have hFX:gX≠gF:=(by omega);have hgFn:g≠gF:=(by omega);clear hg4 hgF';go_wp2_with fail
 refine(aL 10 W g v l _ h Hok hg D.B D.cur (by decide)).mono ?_;rintro e w3 ⟨k0,rfl,hk0,c5,B5,g5⟩;replace hX:=hX.ds D.cur g5 (by decide);replace bF:=bF.ds D.cur g5 (by decide);replace oF:=oF.cur D.cur g5;replace D:=D.dr c5 B5 g5;have hk00:0<=k0/\k0<=9:=by unfold dV at hk0;omega
 obtain⟨k0,rfl⟩:=Int.eq_ofNat_of_zero_le hk00.1;have hk04:k0<=9:=(by omega);clear hk00 hk0 c5 B5 g5;go_wp2;go_loopw [5] (fun s5 wr=>∃(k:Nat) (x:Fl) (V1 V2 V3 V4:Value),k<=9/\s5= .int .i64 k/\Hid (tO k x)/\Hid (dG x)/\aF w.heap.size wr V1 V2 V3 V4 x/\Blk wr gF 30 #[V1,V2,V3,V4]/\Blk wr gX 30 #[.slice none 0 0,.slice none 0 0,.slice none 0 0,.slice none 0 0]/\DS W w wr g v l.length) (fun i _=>(intOf i).toNat)
 case atStart=>exact⟨k0,x0,_,_,_,_,hk04,rfl,SQ (HF.out k0 hk04),HS,oF,bF,hX,D⟩
 case round=>
  obtain⟨k,x,V1,V2,V3,V4,hk,rfl,Hf,Hs,oW,bW,hX1,D1⟩:=hrel;clear oF bF hX D;obtain⟨y_0,y_1,y_2,y_3⟩:=bW.n4;by_cases hk1:0<k
  . go_wp2_with fail
    refine(qM _ x.2.2.1 _ oW.rc).mono ?_;rintro e w6 ⟨A7,c7,rfl,oL,hb6⟩;have oW6:=oW.below hb6;have bW6:=bW.bl hb6;have hX6:=hX1.bl hb6;have D6:=D1.bl hb6;have oL6:=oL.mono (B':=w.heap.size) D1.gr.size;have HL:Hid ((dP x.2.2.1).length<=64):=SQ (by unfold dP;exact Nat.le_trans (List.length_filter_le _ _) (by simp));obtain⟨L,hL⟩:=SL (dP x.2.2.1);rw[<-hL]at oL6 HL⊢;clear y_0 y_1 y_2 y_3 oW bW hX1 D1 oL hb6 hL;obtain⟨y_0,y_1,y_2,y_3⟩:=bW6.n4;by_cases hl0:L.length=0
    . have hl0I : (L.length : Int) = 0 := by omega
      clear y_0 y_1 y_2 y_3;obtain⟨y_0,y_1,y_2,y_3⟩:=bW6.n4;go_wp2_with (rw[<-HgX.out];refine aA rfl 30 _ _ rfl gX #[V1,V2,V3,V4] rfl rfl _ _ hX6 (by kernel_rfl) rfl (sG oW6.one) ?_;intro wE bE hgE)
      have oE:=aF.dZ oW6 hX6 (by decide) (by decide) (by decide) hgE;obtain⟨q_0,q_1,q_2,q_3⟩:=bE.n4;refine bodyPost_ret (v:= .agg #[V1,V2,V3,V4]) (by simp[results,Tryz.results82,go_sem,q_0,q_1,q_2,q_3]) rfl ⟨x,V1,V2,V3,V4,rfl,oE,Mv Hf.out,Hs.out,D6.st hgE hgX hW hne⟩
    . have hl0I : ¬ (L.length : Int) = 0 := by omega
      have Bw:Below w6.heap.size w6 w6.drew:=(Below.refl _ _).drew;go_wp2_with fail
      refine rB (fun _=>True) fun hHeld=>(tW 1)<|(tW 2)<|(tW 3)<|(tW 4)<|(tR [0,5])<|tC (fun K hK=>?_) ?_
      go_simp
      refine tK hK fun hHeld=>?_
      clear hK K;refine(tR [5])<|tL fun K hK=>?_
      go_simp
      (first|(go_at_call 67;go_must (refine(aL (L.length:Int) W g v l _ h Hok hg (D6.bl Bw).B (D6.bl Bw).cur (by have:=HL.out;omega)).mono ?_;rintro e w7 ⟨y,rfl,hy,cX,BX,hgg⟩;obtain⟨i,hi,rfl⟩:=kS hy hl0;have D7:=(D6.bl Bw).dr cX BX hgg;have bW7:=(bW6.bl Bw).ds (D6.bl Bw).cur hgg (by decide);have hX7:=(hX6.bl Bw).ds (D6.bl Bw).cur hgg (by decide);have oW7:=(oW6.below Bw).cur (D6.bl Bw).cur hgg;have oL7:=(oL6.below Bw).cur (D6.bl Bw).cur (by decide) hgg;have hiI:(i:Int)<(L.length:Int):=Int.ofNat_lt.2 hi;obtain⟨b,off,rfl,hb,k0,k1⟩:=(oL7.rd mU (by decide)).fE hi;obtain⟨⟨cx,cy⟩,hcx⟩:∃q,q=L[i]:=⟨_,rfl⟩;rw[<-hcx]at k0 k1;simp only at k0 k1;clear hcx;obtain⟨c_0,c_1,c_2,c_3⟩:=bW7.n4))|(go_at_call 138;go_must (have CT:=(xM _ _ _ _ x cx cy _ oW7.ra oW7.rb oW7.rc oW7.rd Hs.out);obtain⟨⟨z,bb⟩,hz⟩:∃q,q=pI x (cx,cy):=⟨_,rfl⟩;rw[<-hz]at CT;simp only at CT;have Hz:=SQ hz;clear hz;refine CT.mono ?_;rintro e w8 ⟨E1,e1,E2,e2,E3,e3,E4,e4,rfl,oT,hb8⟩;have D8:=D7.bl hb8;have bW8:=bW7.bl hb8;have hX8:=hX7.bl hb8;have oT8:=oT.mono (B':=w.heap.size) D7.gr.size)))
      refine tK hK fun hHeld=>?_
      clear hK K;refine(tW 6)<|(tR [7])<|tL fun K hK=>?_
      go_simp
      refine tK hK fun hHeld=>?_
      clear hK K;refine(tR [8])<|tL fun K hK=>?_
      go_simp
      (first|(go_at_call 67;go_must (refine(aL (L.length:Int) W g v l _ h Hok hg (D6.bl Bw).B (D6.bl Bw).cur (by have:=HL.out;omega)).mono ?_;rintro e w7 ⟨y,rfl,hy,cX,BX,hgg⟩;obtain⟨i,hi,rfl⟩:=kS hy hl0;have D7:=(D6.bl Bw).dr cX BX hgg;have bW7:=(bW6.bl Bw).ds (D6.bl Bw).cur hgg (by decide);have hX7:=(hX6.bl Bw).ds (D6.bl Bw).cur hgg (by decide);have oW7:=(oW6.below Bw).cur (D6.bl Bw).cur hgg;have oL7:=(oL6.below Bw).cur (D6.bl Bw).cur (by decide) hgg;have hiI:(i:Int)<(L.length:Int):=Int.ofNat_lt.2 hi;obtain⟨b,off,rfl,hb,k0,k1⟩:=(oL7.rd mU (by decide)).fE hi;obtain⟨⟨cx,cy⟩,hcx⟩:∃q,q=L[i]:=⟨_,rfl⟩;rw[<-hcx]at k0 k1;simp only at k0 k1;clear hcx;obtain⟨c_0,c_1,c_2,c_3⟩:=bW7.n4))|(go_at_call 138;go_must (have CT:=(xM _ _ _ _ x cx cy _ oW7.ra oW7.rb oW7.rc oW7.rd Hs.out);obtain⟨⟨z,bb⟩,hz⟩:∃q,q=pI x (cx,cy):=⟨_,rfl⟩;rw[<-hz]at CT;simp only at CT;have Hz:=SQ hz;clear hz;refine CT.mono ?_;rintro e w8 ⟨E1,e1,E2,e2,E3,e3,E4,e4,rfl,oT,hb8⟩;have D8:=D7.bl hb8;have bW8:=bW7.bl hb8;have hX8:=hX7.bl hb8;have oT8:=oT.mono (B':=w.heap.size) D7.gr.size)))
      refine tK hK fun hHeld=>?_
      clear hK K;refine(tW 9)<|(tW 10)<|(tW 11)<|(tR [12])<|tL fun K hK=>?_
      (refine aI rfl 30 _ _ rfl gF #[.slice E1 z.1.length e1,.slice E2 z.2.1.length e2,.slice E3 z.2.2.1.length e3,.slice E4 z.2.2.2.length e4] rfl rfl _ _ bW8 (by kernel_rfl) rfl (sG oT8.one) ?_;intro w9 bW9 hg9;have D9:=D8.st hg9 hgF0 hW hgFn;have hX9:=hX8.grown hg9 (by simp;omega);have oT9:=aF.dZ oT8 bW8 (by decide) (by decide) (by decide) hg9)
      refine tK hK fun hHeld=>?_
      clear hK K;refine tD ?_
      rotate_left 1
      refine tL fun K hK=>?_
      go_simp
      (first|(go_at_call 67;go_must (refine(aL (L.length:Int) W g v l _ h Hok hg (D6.bl Bw).B (D6.bl Bw).cur (by have:=HL.out;omega)).mono ?_;rintro e w7 ⟨y,rfl,hy,cX,BX,hgg⟩;obtain⟨i,hi,rfl⟩:=kS hy hl0;have D7:=(D6.bl Bw).dr cX BX hgg;have bW7:=(bW6.bl Bw).ds (D6.bl Bw).cur hgg (by decide);have hX7:=(hX6.bl Bw).ds (D6.bl Bw).cur hgg (by decide);have oW7:=(oW6.below Bw).cur (D6.bl Bw).cur hgg;have oL7:=(oL6.below Bw).cur (D6.bl Bw).cur (by decide) hgg;have hiI:(i:Int)<(L.length:Int):=Int.ofNat_lt.2 hi;obtain⟨b,off,rfl,hb,k0,k1⟩:=(oL7.rd mU (by decide)).fE hi;obtain⟨⟨cx,cy⟩,hcx⟩:∃q,q=L[i]:=⟨_,rfl⟩;rw[<-hcx]at k0 k1;simp only at k0 k1;clear hcx;obtain⟨c_0,c_1,c_2,c_3⟩:=bW7.n4))|(go_at_call 138;go_must (have CT:=(xM _ _ _ _ x cx cy _ oW7.ra oW7.rb oW7.rc oW7.rd Hs.out);obtain⟨⟨z,bb⟩,hz⟩:∃q,q=pI x (cx,cy):=⟨_,rfl⟩;rw[<-hz]at CT;simp only at CT;have Hz:=SQ hz;clear hz;refine CT.mono ?_;rintro e w8 ⟨E1,e1,E2,e2,E3,e3,E4,e4,rfl,oT,hb8⟩;have D8:=D7.bl hb8;have bW8:=bW7.bl hb8;have hX8:=hX7.bl hb8;have oT8:=oT.mono (B':=w.heap.size) D7.gr.size)))
      refine tK hK fun hHeld=>?_
      clear hK K;refine(tW 6)<|(tR [0,7])<|tC (fun K hK=>?_) ?_;go_simp
      refine tK hK fun hHeld=>?_
      clear hK K;refine(tR [7])<|tL fun K hK=>?_
      go_simp
      refine tK hK fun hHeld=>?_
      clear hK K;refine(tR [8])<|tL fun K hK=>?_
      go_simp
      (first|(go_at_call 67;go_must (refine(aL (L.length:Int) W g v l _ h Hok hg (D6.bl Bw).B (D6.bl Bw).cur (by have:=HL.out;omega)).mono ?_;rintro e w7 ⟨y,rfl,hy,cX,BX,hgg⟩;obtain⟨i,hi,rfl⟩:=kS hy hl0;have D7:=(D6.bl Bw).dr cX BX hgg;have bW7:=(bW6.bl Bw).ds (D6.bl Bw).cur hgg (by decide);have hX7:=(hX6.bl Bw).ds (D6.bl Bw).cur hgg (by decide);have oW7:=(oW6.below Bw).cur (D6.bl Bw).cur hgg;have oL7:=(oL6.below Bw).cur (D6.bl Bw).cur (by decide) hgg;have hiI:(i:Int)<(L.length:Int):=Int.ofNat_lt.2 hi;obtain⟨b,off,rfl,hb,k0,k1⟩:=(oL7.rd mU (by decide)).fE hi;obtain⟨⟨cx,cy⟩,hcx⟩:∃q,q=L[i]:=⟨_,rfl⟩;rw[<-hcx]at k0 k1;simp only at k0 k1;clear hcx;obtain⟨c_0,c_1,c_2,c_3⟩:=bW7.n4))|(go_at_call 138;go_must (have CT:=(xM _ _ _ _ x cx cy _ oW7.ra oW7.rb oW7.rc oW7.rd Hs.out);obtain⟨⟨z,bb⟩,hz⟩:∃q,q=pI x (cx,cy):=⟨_,rfl⟩;rw[<-hz]at CT;simp only at CT;have Hz:=SQ hz;clear hz;refine CT.mono ?_;rintro e w8 ⟨E1,e1,E2,e2,E3,e3,E4,e4,rfl,oT,hb8⟩;have D8:=D7.bl hb8;have bW8:=bW7.bl hb8;have hX8:=hX7.bl hb8;have oT8:=oT.mono (B':=w.heap.size) D7.gr.size)))
      refine tK hK fun hHeld=>?_
      clear hK K;refine(tW 9)<|(tW 10)<|(tW 11)<|(tR [12])<|tL fun K hK=>?_
      (refine aI rfl 30 _ _ rfl gF #[.slice E1 z.1.length e1,.slice E2 z.2.1.length e2,.slice E3 z.2.2.1.length e3,.slice E4 z.2.2.2.length e4] rfl rfl _ _ bW8 (by kernel_rfl) rfl (sG oT8.one) ?_;intro w9 bW9 hg9;have D9:=D8.st hg9 hgF0 hW hgFn;have hX9:=hX8.grown hg9 (by simp;omega);have oT9:=aF.dZ oT8 bW8 (by decide) (by decide) (by decide) hg9)
      refine tK hK fun hHeld=>?_
      clear hK K;refine tD ?_
      rotate_left 1
      refine tL fun K hK=>?_
      go_simp
      refine tK hK fun hHeld=>?_
      clear hK K;refine(tR [0])<|tL fun K hK=>?_
      go_simp
      refine tK hK fun hHeld=>?_
      clear hK K;refine(tR [8])<|tL fun K hK=>?_
      go_simp
      (first|(go_at_call 67;go_must (refine(aL (L.length:Int) W g v l _ h Hok hg (D6.bl Bw).B (D6.bl Bw).cur (by have:=HL.out;omega)).mono ?_;rintro e w7 ⟨y,rfl,hy,cX,BX,hgg⟩;obtain⟨i,hi,rfl⟩:=kS hy hl0;have D7:=(D6.bl Bw).dr cX BX hgg;have bW7:=(bW6.bl Bw).ds (D6.bl Bw).cur hgg (by decide);have hX7:=(hX6.bl Bw).ds (D6.bl Bw).cur hgg (by decide);have oW7:=(oW6.below Bw).cur (D6.bl Bw).cur hgg;have oL7:=(oL6.below Bw).cur (D6.bl Bw).cur (by decide) hgg;have hiI:(i:Int)<(L.length:Int):=Int.ofNat_lt.2 hi;obtain⟨b,off,rfl,hb,k0,k1⟩:=(oL7.rd mU (by decide)).fE hi;obtain⟨⟨cx,cy⟩,hcx⟩:∃q,q=L[i]:=⟨_,rfl⟩;rw[<-hcx]at k0 k1;simp only at k0 k1;clear hcx;obtain⟨c_0,c_1,c_2,c_3⟩:=bW7.n4))|(go_at_call 138;go_must (have CT:=(xM _ _ _ _ x cx cy _ oW7.ra oW7.rb oW7.rc oW7.rd Hs.out);obtain⟨⟨z,bb⟩,hz⟩:∃q,q=pI x (cx,cy):=⟨_,rfl⟩;rw[<-hz]at CT;simp only at CT;have Hz:=SQ hz;clear hz;refine CT.mono ?_;rintro e w8 ⟨E1,e1,E2,e2,E3,e3,E4,e4,rfl,oT,hb8⟩;have D8:=D7.bl hb8;have bW8:=bW7.bl hb8;have hX8:=hX7.bl hb8;have oT8:=oT.mono (B':=w.heap.size) D7.gr.size)))
      refine tK hK fun hHeld=>?_
      clear hK K;refine(tW 9)<|(tW 10)<|(tW 11)<|(tR [12])<|tL fun K hK=>?_
      (refine aI rfl 30 _ _ rfl gF #[.slice E1 z.1.length e1,.slice E2 z.2.1.length e2,.slice E3 z.2.2.1.length e3,.slice E4 z.2.2.2.length e4] rfl rfl _ _ bW8 (by kernel_rfl) rfl (sG oT8.one) ?_;intro w9 bW9 hg9;have D9:=D8.st hg9 hgF0 hW hgFn;have hX9:=hX8.grown hg9 (by simp;omega);have oT9:=aF.dZ oT8 bW8 (by decide) (by decide) (by decide) hg9)
      refine tK hK fun hHeld=>?_
      clear hK K;refine tD ?_
      all_goals
        have hf:=QZ (cx,cy) hk1 Hf.out;rw[<-Hz.out]at hf;go_wp2;go_roundw
        case rel=>exact⟨k-1,z,_,_,_,_,by omega,by go_num,SQ hf,SQ (EP Hs.out Hz.out.symm),oT9,bW9,hX9,D9⟩
        case measure=>simp[intOf];omega
  . obtain rfl : k = 0 := by omega
    clear y_0 y_1 y_2 y_3;obtain⟨y_0,y_1,y_2,y_3⟩:=bW.n4;go_wp2_with (rw[<-HgX.out];refine aA rfl 30 _ _ rfl gX #[V1,V2,V3,V4] rfl rfl _ _ hX1 (by kernel_rfl) rfl (sG oW.one) ?_;intro wE bE hgE)
    have oE:=aF.dZ oW hX1 (by decide) (by decide) (by decide) hgE;obtain⟨q_0,q_1,q_2,q_3⟩:=bE.n4;refine bodyPost_ret (v:= .agg #[V1,V2,V3,V4]) (by simp[results,Tryz.results82,go_sem,q_0,q_1,q_2,q_3]) rfl ⟨x,V1,V2,V3,V4,rfl,oE,Mv Hf.out,Hs.out,D1.st hgE hgX hW hne⟩
def Lv (b:Bool) (rows:List Int):Fl:=if b=true then fM rows else([],[],[],[])
def Lx (b:Bool) (rows:List Int) (stock:Int):Int:=if b=true then stock-((fM rows).2.2.1.length:Int)else 0
def Sb (y1:List Int) (y2 y3:List Dm) (y4:List Cl) (b:Bool) (w:World) (e:Ending) (w':World):Prop:=∃A1 c1 A2 c2 A3 c3 A4 c4,e= .returned (.tuple #[.agg #[.slice A1 y1.length c1,.slice A2 y2.length c2,.slice A3 y3.length c3,.slice A4 y4.length c4],.bool b])/\
  aF w.heap.size w' (.slice A1 y1.length c1) (.slice A2 y2.length c2) (.slice A3 y3.length c3) (.slice A4 y4.length c4) (y1,y2,y3,y4)/\Below w.heap.size w w'
theorem Gq (v:Value) (rows:List Int) (stock:Int) (k:Bool) (w:World) (h:Rd 1 bV w v rows) (hl:Small rows.length)
    (CW0:∀(u1 u2 u3 u4:Value) (w:World),Rd 1 bV w u1 (fM rows).1->Rd 3 bG w u2 (fM rows).2.1->Rd 3 bG w u3 (fM rows).2.2.1->Rd 2 eD w u4 (fM rows).2.2.2->Calls prog 95 #[.agg #[u1,u2,u3,u4,.int .i64 (stock-((fM rows).2.2.1.length:Int)),.int .i64 0,.int .i64 0]] w (Ret (.bool k) w)):
    Calls prog 128 #[.agg #[v],.int .i64 stock] w (Cy (Lv (lZ rows&&inB stock 0 20000&&k) rows) (Lx (lZ rows&&inB stock 0 20000&&k) rows stock) 0 0 (lZ rows&&inB stock 0 20000&&k) w):=by
 have CN0:=fun(u:Value) (w:World) (k1:Rd 1 bV w u rows)=>JY u rows w k1 hl
 have hs0:=nP hl;obtain⟨bb,hbb⟩:=SL ((lZ rows&&inB stock 0 20000&&k));rw[<-hbb];obtain⟨zz,hzz⟩:=SL (Lv bb rows);obtain⟨ss,hss⟩:=SL (Lx bb rows stock);rw[<-hzz,<-hss];unfold Lv at hzz;unfold Lx at hss;obtain⟨b,hb⟩:=SL (lZ rows);obtain⟨i,hi⟩:=SL (inB stock 0 20000);have CI:∀(w:World),Calls prog 73 #[.int .i64 stock,.int .i64 0,.int .i64 20000] w (Pure (.bool i) w):=fun w=>by rw[hi];exact iT stock 0 20000 w
 have hI:i=true->0<=stock/\stock<=20000:=fun q=>by rw[hi]at q;simpa[inB]using q
 rw[<-hb,<-hi]at hbb;rw[<-hb]at CN0
 have h64:(fM rows).2.2.1.length<=64:=by
  unfold fM;split
  . simp
  . exact nO rows
 obtain⟨y,hy⟩:=SL (fM rows);rw[<-hy]at CN0 CW0 hzz hss hs0 h64;obtain⟨y1,y2,y3,y4⟩:=y;have CN:∀(u:Value) (w:World),Rd 1 bV w u rows->Calls prog 137 #[.agg #[u]] w (Sb y1 y2 y3 y4 b w):=fun u w k1=>CN0 u w k1
 have H64:y3.length<=64:=h64;obtain⟨st,hst⟩:=SL (stock-(y3.length:Int));have CW:∀(u1 u2 u3 u4:Value) (w:World),Rd 1 bV w u1 y1->Rd 3 bG w u2 y2->Rd 3 bG w u3 y3->Rd 2 eD w u4 y4->Calls prog 95 #[.agg #[u1,u2,u3,u4,.int .i64 st,.int .i64 0,.int .i64 0]] w (Ret (.bool k) w):=fun u1 u2 u3 u4 w k1 k2 k3 k4=>by rw[hst];exact CW0 u1 u2 u3 u4 w k1 k2 k3 k4
 have hW : i = true -> IntKind.i64.wrap (stock - (y3.length : Int)) = st := fun q => by
  have:=hI q;rw[hst];exact IntWalk.i64_in _ (by omega)
 have hz0:bb=false->zz=([],[],[],[])/\ss=0:=fun q=>by subst q;exact⟨hzz,hss⟩
 have hz1:bb=true->zz=(y1,y2,y3,y4)/\ss=st:=fun q=>by subst q;exact⟨hzz,by rw[hss,hst];rfl⟩
 have HW:=SQ hW;have HB:=SQ hbb;have HZ0:=SQ hz0;have HZ1:=SQ hz1;clear CN0 CW0 hzz hss hs0 h64 hst hW hbb hz0 hz1 hy hi hb hI H64;obtain⟨A,c,rfl,hc,hm⟩:=h.form;have B0:=((Below.refl w.heap.size w).al (.cells #[.slice A rows.length c] 26)).al (.cells #[.slice none 0 0,.slice none 0 0,.slice none 0 0,.slice none 0 0,.int .i64 0,.int .i64 0,.int .i64 0] 32);have bX:=(Blk.aY w 26 #[.slice A rows.length c]).alloc (.cells #[.slice none 0 0,.slice none 0 0,.slice none 0 0,.slice none 0 0,.int .i64 0,.int .i64 0,.int .i64 0] 32);have bR:=Blk.iX (w.alloc (.cells #[.slice A rows.length c] 26)) 32 #[.slice none 0 0,.slice none 0 0,.slice none 0 0,.slice none 0 0,.int .i64 0,.int .i64 0,.int .i64 0] (w.heap.size+1) (by simp);go_enter Tryz.func128,Tryz.ntmps128
 go_wp2_with fail
 refine(CN _ _ (h.SN B0)).mono ?_;rintro e w1 ⟨A1,c1,A2,c2,A3,c3,A4,c4,rfl,oY,hb1⟩;have oY:=(oY.mono B0.size).alloc (.cells #[.slice none 0 0,.slice none 0 0,.slice none 0 0,.slice none 0 0] 30);have B1:=(B0.tr hb1).al (.cells #[.slice none 0 0,.slice none 0 0,.slice none 0 0,.slice none 0 0] 30);have bR1:=(bR.bl hb1).alloc (.cells #[.slice none 0 0,.slice none 0 0,.slice none 0 0,.slice none 0 0] 30);have bO:=Blk.aY w1 30 #[.slice none 0 0,.slice none 0 0,.slice none 0 0,.slice none 0 0];have hgO:w.heap.size<=w1.heap.size:=(B0.tr hb1).size;have hRl:=(bR.bl hb1).lt;obtain⟨gR,hgR'⟩:=SL (w.heap.size+1);have hgR:w.heap.size<=gR:=(by omega);rw[<-hgR']at bR1 hRl⊢;clear hgR' hb1 B0 bX bR;cases b
 . obtain rfl : bb = false := by rw [HB.out]; rfl
   obtain rfl:([],[],[],[])=zz:=(HZ0.out rfl).1.symm;obtain rfl:0=ss:=(HZ0.out rfl).2.symm;go_wp2_with (first|(refine bZ rfl 30 _ _ rfl w1.heap.size #[.slice A1 y1.length c1,.slice A2 y2.length c2,.slice A3 y3.length c3,.slice A4 y4.length c4] rfl rfl _ _ bO (by kernel_rfl) rfl (by simp[oneCell']) ?_;intro wS bS hgS;have oS:=aF.dZ oY bO (by decide) (by decide) (by decide) hgS;have bRS:=bR1.grown hgS (by simp;omega);have BS:=B1.grown hgS B1.size (fun k hk=>by injection hk with hk;subst hk;exact hgO);obtain⟨y_0,y_1,y_2,y_3⟩:=bS.n4)|(refine bZ rfl 32 _ _ rfl gR #[.slice none 0 0,.slice none 0 0,.slice none 0 0,.slice none 0 0,.int .i64 0,.int .i64 0,.int .i64 0] rfl rfl _ _ bRS (by kernel_rfl) rfl (by simp[oneCell']) ?_;intro wE bE hgE))
   have oE:aF w.heap.size wE _ _ _ _ _:=aF.dZ (wK w.heap.size wS) bRS (by decide) (by decide) (by decide) hgE;have BE:=BS.grown hgE BS.size (fun k hk=>by injection hk with hk;subst hk;exact hgR);obtain⟨q_0,q_1,q_2,q_3,q_4,q_5,q_6⟩:=bE.n7;refine bodyPost_ret (v:= .tuple #[.agg #[.slice none 0 0,.slice none 0 0,.slice none 0 0,.slice none 0 0,.int .i64 0,.int .i64 0,.int .i64 0],.bool false]) (by simp[results,results128,go_sem,q_0,q_1,q_2,q_3,q_4,q_5,q_6]) rfl ⟨none,0,none,0,none,0,none,0,rfl,oE,BE⟩
 . cases i
   . obtain rfl : bb = false := by rw [HB.out]; rfl
     obtain rfl:([],[],[],[])=zz:=(HZ0.out rfl).1.symm;obtain rfl:0=ss:=(HZ0.out rfl).2.symm;go_wp2_with (first|(refine bZ rfl 30 _ _ rfl w1.heap.size #[.slice A1 y1.length c1,.slice A2 y2.length c2,.slice A3 y3.length c3,.slice A4 y4.length c4] rfl rfl _ _ bO (by kernel_rfl) rfl (by simp[oneCell']) ?_;intro wS bS hgS;have oS:=aF.dZ oY bO (by decide) (by decide) (by decide) hgS;have bRS:=bR1.grown hgS (by simp;omega);have BS:=B1.grown hgS B1.size (fun k hk=>by injection hk with hk;subst hk;exact hgO);obtain⟨y_0,y_1,y_2,y_3⟩:=bS.n4)|(go_at_call 73;(with_reducible refine(CI _).mono ?_);rintro e w' ⟨rfl,rfl⟩)|(refine bZ rfl 32 _ _ rfl gR #[.slice none 0 0,.slice none 0 0,.slice none 0 0,.slice none 0 0,.int .i64 0,.int .i64 0,.int .i64 0] rfl rfl _ _ bRS (by kernel_rfl) rfl (by simp[oneCell']) ?_;intro wE bE hgE))
     have oE:aF w.heap.size wE _ _ _ _ _:=aF.dZ (wK w.heap.size wS) bRS (by decide) (by decide) (by decide) hgE;have BE:=BS.grown hgE BS.size (fun k hk=>by injection hk with hk;subst hk;exact hgR);obtain⟨q_0,q_1,q_2,q_3,q_4,q_5,q_6⟩:=bE.n7;refine bodyPost_ret (v:= .tuple #[.agg #[.slice none 0 0,.slice none 0 0,.slice none 0 0,.slice none 0 0,.int .i64 0,.int .i64 0,.int .i64 0],.bool false]) (by simp[results,results128,go_sem,q_0,q_1,q_2,q_3,q_4,q_5,q_6]) rfl ⟨none,0,none,0,none,0,none,0,rfl,oE,BE⟩
   . have hw:=HW.out rfl;go_wp2_with (first|(refine bZ rfl 30 _ _ rfl w1.heap.size #[.slice A1 y1.length c1,.slice A2 y2.length c2,.slice A3 y3.length c3,.slice A4 y4.length c4] rfl rfl _ _ bO (by kernel_rfl) rfl (by simp[oneCell']) ?_;intro wS bS hgS;have oS:=aF.dZ oY bO (by decide) (by decide) (by decide) hgS;have bRS:=bR1.grown hgS (by simp;omega);have BS:=B1.grown hgS B1.size (fun k hk=>by injection hk with hk;subst hk;exact hgO);obtain⟨y_0,y_1,y_2,y_3⟩:=bS.n4)|(go_at_call 73;(with_reducible refine(CI _).mono ?_);rintro e w' ⟨rfl,rfl⟩)|(refine bZ rfl 32 _ _ rfl wS.heap.size #[.slice A1 y1.length c1,.slice A2 y2.length c2,.slice A3 y3.length c3,.slice A4 y4.length c4,.int .i64 st,.int .i64 0,.int .i64 0] rfl rfl _ _ (Blk.aY wS 32 #[.slice none 0 0,.slice none 0 0,.slice none 0 0,.slice none 0 0,.int .i64 0,.int .i64 0,.int .i64 0]) (by kernel_rfl) rfl (by simp[oneCell']) ?_;intro wU bU hgU;have oU:=aF.dZ (oS.alloc (.cells #[.slice none 0 0,.slice none 0 0,.slice none 0 0,.slice none 0 0,.int .i64 0,.int .i64 0,.int .i64 0] 32)) (Blk.aY wS 32 #[.slice none 0 0,.slice none 0 0,.slice none 0 0,.slice none 0 0,.int .i64 0,.int .i64 0,.int .i64 0]) (by decide) (by decide) (by decide) hgU;have bRU:=(bRS.alloc (.cells #[.slice none 0 0,.slice none 0 0,.slice none 0 0,.slice none 0 0,.int .i64 0,.int .i64 0,.int .i64 0] 32)).grown hgU (by have:=bRS.lt;simp;omega);have BU:=(BS.al (.cells #[.slice none 0 0,.slice none 0 0,.slice none 0 0,.slice none 0 0,.int .i64 0,.int .i64 0,.int .i64 0] 32)).grown hgU (BS.al (.cells #[.slice none 0 0,.slice none 0 0,.slice none 0 0,.slice none 0 0,.int .i64 0,.int .i64 0,.int .i64 0] 32)).size (fun k hk=>by injection hk with hk;subst hk;exact BS.size);obtain⟨p_0,p_1,p_2,p_3,p_4,p_5,p_6⟩:=bU.n7))
     refine(CW _ _ _ _ _ (oU.ra) (oU.rb) (oU.rc) (oU.rd)).mono ?_;rintro e w2 ⟨rfl,hb2⟩;have B2:=BU.tr hb2;have bR2:=bRU.bl hb2;have bW2:=bU.bl hb2;have oY2:=oU.below hb2;clear p_0 p_1 p_2 p_3 p_4 p_5 p_6 y_0 y_1 y_2 y_3 BU bRU bU oU hb2 BS bRS bS oS bR1 bO B1 oY;cases k
     . obtain rfl : bb = false := by rw [HB.out]; rfl
       obtain rfl:([],[],[],[])=zz:=(HZ0.out rfl).1.symm;obtain rfl:0=ss:=(HZ0.out rfl).2.symm;go_wp2_with (refine bZ rfl 32 _ _ rfl gR #[.slice none 0 0,.slice none 0 0,.slice none 0 0,.slice none 0 0,.int .i64 0,.int .i64 0,.int .i64 0] rfl rfl _ _ bR2 (by kernel_rfl) rfl (by simp[oneCell']) ?_;intro wE bE hgE)
       have oE:aF w.heap.size wE _ _ _ _ _:=aF.dZ (wK w.heap.size w2) bR2 (by decide) (by decide) (by decide) hgE;have BE:=B2.grown hgE B2.size (fun k hk=>by injection hk with hk;subst hk;exact hgR);obtain⟨q_0,q_1,q_2,q_3,q_4,q_5,q_6⟩:=bE.n7;refine bodyPost_ret (v:= .tuple #[.agg #[.slice none 0 0,.slice none 0 0,.slice none 0 0,.slice none 0 0,.int .i64 0,.int .i64 0,.int .i64 0],.bool false]) (by simp[results,results128,go_sem,q_0,q_1,q_2,q_3,q_4,q_5,q_6]) rfl ⟨none,0,none,0,none,0,none,0,rfl,oE,BE⟩
     . obtain rfl : bb = true := by rw [HB.out]; rfl
       obtain rfl:(y1,y2,y3,y4)=zz:=(HZ1.out rfl).1.symm;obtain rfl:st=ss:=(HZ1.out rfl).2.symm;obtain⟨p_0,p_1,p_2,p_3,p_4,p_5,p_6⟩:=bW2.n7;go_wp2_with (refine bZ rfl 32 _ _ rfl gR #[.slice A1 y1.length c1,.slice A2 y2.length c2,.slice A3 y3.length c3,.slice A4 y4.length c4,.int .i64 st,.int .i64 0,.int .i64 0] rfl rfl _ _ bR2 (by kernel_rfl) rfl (by simp[oneCell']) ?_;intro wE bE hgE)
       have oE:aF w.heap.size wE _ _ _ _ _:=aF.dZ (oY2) bR2 (by decide) (by decide) (by decide) hgE;have BE:=B2.grown hgE B2.size (fun k hk=>by injection hk with hk;subst hk;exact hgR);obtain⟨q_0,q_1,q_2,q_3,q_4,q_5,q_6⟩:=bE.n7;refine bodyPost_ret (v:= .tuple #[.agg #[.slice A1 y1.length c1,.slice A2 y2.length c2,.slice A3 y3.length c3,.slice A4 y4.length c4,.int .i64 st,.int .i64 0,.int .i64 0],.bool true]) (by simp[results,results128,go_sem,q_0,q_1,q_2,q_3,q_4,q_5,q_6]) rfl ⟨A1,c1,A2,c2,A3,c3,A4,c4,rfl,oE,BE⟩
end Go.Proofs.YtljfoohaapckeaaGreatDoor
