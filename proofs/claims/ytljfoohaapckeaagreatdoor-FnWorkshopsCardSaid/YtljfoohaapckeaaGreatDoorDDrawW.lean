/- A drawn workshop. No conditions but sizes. -/
import Derived.Test.YtljfoohaapckeaaGreatDoorDG41
namespace Go.Proofs.YtljfoohaapckeaaGreatDoor
open Go.ChangeShapes Go.WideShapes Go.ChangeAt Go.RowKit
set_option linter.unusedVariables false
set_option linter.unusedSimpArgs false
set_option maxHeartbeats 4000000
set_option maxRecDepth 100000
theorem L8 {rows:List Int} {stock:Int} (hr:R12 rows) (hs:30<=stock/\stock<=49) (v:Value) (w:World) (h:Rd 1 bH w v rows):Calls Tryz.prog 128 #[.agg #[v],.int .i64 stock] w (Ao (jL rows) (stock-((jL rows).2.2.1.length:Int)) 0 0 true w):=by
 have hl:Small rows.length:=by have:=hr.1.1;unfold Small;omega
 have CS:=KC v rows stock _ w h hl (fun u1 u2 u3 u4 w k1 k2 k3 k4=>kX u1 u2 u3 u4 (jL rows,stock-((jL rows).2.2.1.length:Int),0,0) w k1 k2 k3 k4 (yO hl).2.1);rw[JR hr hs,(Fj hr).1,show inB stock 0 20000=true by unfold inB;simp;omega]at CS;exact CS
def KD (W:World) (g:Nat) (u:Value) (n:Nat) (w:World) (e:Ending) (w':World):Prop:=∃(x:Fl) (s p r:Int) (V1 V2 V3 V4:Value),e= .returned (.agg #[V1,V2,V3,V4,.int .i64 s,.int .i64 p,.int .i64 r])/\aD w.heap.size w' V1 V2 V3 V4 x/\dB (x,s,p,r)=true/\nH 7 s p/\dZ x/\DS W w w' g u n
theorem Dp (W : World) (g : Nat) (v : Value) (l : List Int) (w : World) (h : Rd 1 mM W v l) (Hok : Hid (mO (fun x => 0 <= x /\ x <= 255) l)) (hg : W.heap.size <= g) (hbel : Below W.heap.size W w) (hcur : Cur w g v l.length) :
 Calls Tryz.prog 69 #[.pointer (some ⟨g,0,none⟩)] w (KD W g v l.length w):=by
 have hW:=hbel.size;have hX:=Blk.bK w 32 #[.slice none 0 0,.slice none 0 0,.slice none 0 0,.slice none 0 0,.int .i64 0,.int .i64 0,.int .i64 0];have D:=(DS.refl hcur hbel).al (.cells #[.slice none 0 0,.slice none 0 0,.slice none 0 0,.slice none 0 0,.int .i64 0,.int .i64 0,.int .i64 0] 32);go_enter Tryz.func69,Tryz.ntmps69
 go_wp2_with fail
 refine(EM W g v l _ h Hok hg D.B D.cur).mono ?_;rintro e w1 ⟨rows,A,c,rfl,own,hr,D1⟩;replace hX:=hX.ds D.cur D1.gr (by decide);replace own:=own.mono (B':=w.heap.size) (by simp);replace D:=D.tr D1;have hsm:Small rows.length:=by have:=hr.1.1;unfold Small;omega
 clear D1;go_wp2_with fail
 refine(aQ 20 W g v l _ h Hok hg D.B D.cur (by decide)).mono ?_;rintro e w2 ⟨t,rfl,ht,c5,B5,g5⟩;replace hX:=hX.ds D.cur g5 (by decide);replace own:=own.cur D.cur (by decide) g5;replace D:=D.dr c5 B5 g5;have htt:0<=t/\t<=19:=by unfold dR at ht;omega
 have h30:IntKind.i64.wrap (30+t)=30+t:=IntWalk.i64_in _ (by omega);clear ht c5 B5 g5;go_wp2_with fail
 refine(L8 hr (stock:=30+t) (by omega) _ _ (own.rd aL (by decide))).mono ?_;have HS:=OA (yO hsm);have HF:=OA (JR hr (stock:=30+t) (by omega));obtain⟨s0,hs0⟩:=Oy (30+t-((jL rows).2.2.1.length:Int));rw[<-hs0]at HF⊢;have HW:=OA (show nH 0 s0 0 from by unfold nH;omega);obtain⟨x0,hx0⟩:=Oy (jL rows);rw[<-hx0]at HS HF⊢;clear hx0 hsm hr hs0 htt h30;rintro e w3 ⟨A1,c1,A2,c2,A3,c3,A4,c4,rfl,oF,hb2⟩;replace oF:=oF.mono (B':=w.heap.size) D.gr.size;replace hX:=hX.bl hb2;replace D:=D.bl hb2;clear hb2 own;obtain⟨gX,hgX'⟩:=Oy w.heap.size;have HgX:=OA hgX';rw[<-hgX']at hX;have hgX:w.heap.size<=gX:=(by omega);have hne:=(D.cur.ne hX (by decide)).symm;have hXl:=hX.lt;have hcl:g<w3.heap.size:=by obtain⟨_,_,_,q⟩:=D.cur;exact q.lt
 clear hgX';go_upto_region 2 with(refine aA rfl 32 _ _ rfl w3.heap.size #[.slice A1 x0.1.length c1,.slice A2 x0.2.1.length c2,.slice A3 x0.2.2.1.length c3,.slice A4 x0.2.2.2.length c4,.int .i64 s0,.int .i64 0,.int .i64 0] rfl rfl _ _ (Blk.bK w3 32 #[.slice none 0 0,.slice none 0 0,.slice none 0 0,.slice none 0 0,.int .i64 0,.int .i64 0,.int .i64 0]) (by kernel_rfl) rfl (Cb oF.one) ?_;intro w0 bF hg4)
 replace hX:=(hX.alloc (.cells #[.slice none 0 0,.slice none 0 0,.slice none 0 0,.slice none 0 0,.int .i64 0,.int .i64 0,.int .i64 0] 32)).grown hg4 (by simp;omega);replace oF:=aD.alg oF (by decide) (by decide) (by decide) hg4;have hgF0:w.heap.size<=w3.heap.size:=D.gr.size;replace D:=D.stN hg4 hW;obtain⟨gF,hgF'⟩:=Oy w3.heap.size;rw[<-hgF']at bF hcl hXl hgF0⊢;have hFX:gX≠gF:=(by omega);have hgFn:g≠gF:=(by omega);clear hg4 hgF';go_wp2_with fail
 refine(aQ 8 W g v l _ h Hok hg D.B D.cur (by decide)).mono ?_;rintro e w4 ⟨n,rfl,hn,c5,B5,g5⟩;replace hX:=hX.ds D.cur g5 (by decide);replace bF:=bF.ds D.cur g5 (by decide);replace oF:=oF.cur D.cur g5;replace D:=D.dr c5 B5 g5;have hn7:0<=n/\n<=7:=by unfold dR at hn;omega
 clear hn c5 B5 g5;go_wp2;go_loopw [6] (fun s6 wr=>∃(k:Nat) (x:Fl) (s p r:Int) (V1 V2 V3 V4:Value),(k:Int)<=n/\s6= .int .i64 k/\Hid (dB (x,s,p,r)=true)/\Hid (nH k s p)/\Hid (dZ x)/\aD w.heap.size wr V1 V2 V3 V4 x/\Blk wr gF 32 #[V1,V2,V3,V4,.int .i64 s,.int .i64 p,.int .i64 r]/\Blk wr gX 32 #[.slice none 0 0,.slice none 0 0,.slice none 0 0,.slice none 0 0,.int .i64 0,.int .i64 0,.int .i64 0]/\DS W w wr g v l.length) (fun i _=>n.toNat-(intOf i).toNat)
 case atStart=>exact⟨0,x0,_,_,_,_,_,_,_,by omega,rfl,HF,HW,HS,oF,bF,hX,D⟩
 case round=>
  obtain⟨k,x,s,p,r,V1,V2,V3,V4,hk,rfl,Hf,Hw,Hs,oW,bW,hX1,D1⟩:=hrel;clear oF bF hX D;by_cases hk1:(k:Int)<n
  . go_wp2_with fail
    refine(aQ 4 W g v l _ h Hok hg D1.B D1.cur (by decide)).mono ?_;rintro e w5 ⟨m,rfl,hm,c5,B5,g5⟩;have hX5:=hX1.ds D1.cur g5 (by decide);have bW5:=bW.ds D1.cur g5 (by decide);have oW5:=oW.cur D1.cur g5;have D5:=D1.dr c5 B5 g5;clear hX1 bW oW D1 c5 B5 g5;have hmm:m=0∨m=1∨(m≠0/\m≠1):=(by omega);clear hm;rcases hmm with rfl|rfl|⟨e0,e1⟩
    . go_wp2_with fail
      refine(wI W g v l _ h Hok hg D5.B D5.cur).mono ?_;rintro e w6 ⟨bl,A7,c7,rfl,oL,hl1,hl4,hbx,D6⟩;have hX6:=hX5.ds D5.cur D6.gr (by decide);have bW6:=bW5.ds D5.cur D6.gr (by decide);have oW6:=oW5.cur D5.cur D6.gr;have oL6:=oL.mono (B':=w.heap.size) D5.gr.size;replace D6:=D5.tr D6;have Hbx:=OA (And.intro hbx (And.intro hl1 hl4));clear hX5 bW5 oW5 oL D5 hl1 hl4 hbx;have Bw:Below w6.heap.size w6 w6.drew:=(Below.refl _ _).drew;obtain⟨y_0,y_1,y_2,y_3,y_4,y_5,y_6⟩:=bW6.n7;go_upto_region 12 with(fail)
      refine rB (fun _=>True) fun hHeld=>(tW 1)<|(tW 2)<|(tR [0,3])<|tC (fun K hK=>?_) ?_
      go_simp
      refine tK hK fun hHeld=>?_
      clear hK K;refine(tR [3])<|tL fun K hK=>?_
      go_simp
      (first|(go_at_call 67;go_must (refine(aQ 20 W g v l _ h Hok hg (D6.bl Bw).B (D6.bl Bw).cur (by decide)).mono ?_;rintro e w7 ⟨y,rfl,hy,cX,BX,hgg⟩;have D7:=(D6.bl Bw).dr cX BX hgg;have bW7:=(bW6.bl Bw).ds (D6.bl Bw).cur hgg (by decide);have hX7:=(hX6.bl Bw).ds (D6.bl Bw).cur hgg (by decide);have oW7:=(oW6.below Bw).cur (D6.bl Bw).cur hgg;have oL7:=(oL6.below Bw).cur (D6.bl Bw).cur (by decide) hgg;obtain⟨c_0,c_1,c_2,c_3,c_4,c_5,c_6⟩:=bW7.n7))|(go_at_call 99;go_must (have CT:=(xJ _ _ _ _ _ x s p r bl y _ oW7.ra oW7.rb oW7.rc oW7.rd (oL7.rd mZ (by decide)) Hs.out);have hf:=Dn bl y Hf.out;have hfw:=Cc Hf.out Hw.out Hbx.out hy;obtain⟨ss,hss⟩:=Oy (vW (x,s,p,r) bl y);obtain⟨pp,hpp⟩:=Oy (vX (x,s,p,r) bl y);rw[<-hss,<-hpp]at CT;rw[<-hss,<-hpp]at hf hfw;have Hz:=OA hf;have Hzw:=OA hfw;clear hss hpp hf hfw;refine CT.mono ?_;rintro e w8 ⟨E1,e1,E2,e2,E3,e3,E4,e4,rfl,oT,hb8⟩;have D9:=D7.bl hb8;have bW8:=bW7.bl hb8;have hX8:=hX7.bl hb8;have oT8:=oT.mono (B':=w.heap.size) D7.gr.size)))
      refine tK hK fun hHeld=>?_
      clear hK K;refine(tR [4])<|tL fun K hK=>?_
      go_simp
      (first|(go_at_call 67;go_must (refine(aQ 20 W g v l _ h Hok hg (D6.bl Bw).B (D6.bl Bw).cur (by decide)).mono ?_;rintro e w7 ⟨y,rfl,hy,cX,BX,hgg⟩;have D7:=(D6.bl Bw).dr cX BX hgg;have bW7:=(bW6.bl Bw).ds (D6.bl Bw).cur hgg (by decide);have hX7:=(hX6.bl Bw).ds (D6.bl Bw).cur hgg (by decide);have oW7:=(oW6.below Bw).cur (D6.bl Bw).cur hgg;have oL7:=(oL6.below Bw).cur (D6.bl Bw).cur (by decide) hgg;obtain⟨c_0,c_1,c_2,c_3,c_4,c_5,c_6⟩:=bW7.n7))|(go_at_call 99;go_must (have CT:=(xJ _ _ _ _ _ x s p r bl y _ oW7.ra oW7.rb oW7.rc oW7.rd (oL7.rd mZ (by decide)) Hs.out);have hf:=Dn bl y Hf.out;have hfw:=Cc Hf.out Hw.out Hbx.out hy;obtain⟨ss,hss⟩:=Oy (vW (x,s,p,r) bl y);obtain⟨pp,hpp⟩:=Oy (vX (x,s,p,r) bl y);rw[<-hss,<-hpp]at CT;rw[<-hss,<-hpp]at hf hfw;have Hz:=OA hf;have Hzw:=OA hfw;clear hss hpp hf hfw;refine CT.mono ?_;rintro e w8 ⟨E1,e1,E2,e2,E3,e3,E4,e4,rfl,oT,hb8⟩;have D9:=D7.bl hb8;have bW8:=bW7.bl hb8;have hX8:=hX7.bl hb8;have oT8:=oT.mono (B':=w.heap.size) D7.gr.size)))
      refine tK hK fun hHeld=>?_
      clear hK K;refine(tW 5)<|(tW 6)<|(tW 7)<|(tR [8])<|tL fun K hK=>?_
      (refine aJ rfl 32 _ _ rfl gF #[.slice E1 x.1.length e1,.slice E2 x.2.1.length e2,.slice E3 x.2.2.1.length e3,.slice E4 x.2.2.2.length e4,.int .i64 ss,.int .i64 pp,.int .i64 r] rfl rfl _ _ bW8 (by kernel_rfl) rfl (Cb oT8.one) ?_;intro w9 bW9 hg9;have D10:=D9.st hg9 hgF0 hW hgFn;have hX9:=hX8.grown hg9 (by simp;omega);have oT9:=aD.eD oT8 bW8 (by decide) (by decide) (by decide) hg9)
      refine tK hK fun hHeld=>?_
      clear hK K;refine tD ?_
      rotate_left 1
      refine tL fun K hK=>?_
      go_simp
      (first|(go_at_call 67;go_must (refine(aQ 20 W g v l _ h Hok hg (D6.bl Bw).B (D6.bl Bw).cur (by decide)).mono ?_;rintro e w7 ⟨y,rfl,hy,cX,BX,hgg⟩;have D7:=(D6.bl Bw).dr cX BX hgg;have bW7:=(bW6.bl Bw).ds (D6.bl Bw).cur hgg (by decide);have hX7:=(hX6.bl Bw).ds (D6.bl Bw).cur hgg (by decide);have oW7:=(oW6.below Bw).cur (D6.bl Bw).cur hgg;have oL7:=(oL6.below Bw).cur (D6.bl Bw).cur (by decide) hgg;obtain⟨c_0,c_1,c_2,c_3,c_4,c_5,c_6⟩:=bW7.n7))|(go_at_call 99;go_must (have CT:=(xJ _ _ _ _ _ x s p r bl y _ oW7.ra oW7.rb oW7.rc oW7.rd (oL7.rd mZ (by decide)) Hs.out);have hf:=Dn bl y Hf.out;have hfw:=Cc Hf.out Hw.out Hbx.out hy;obtain⟨ss,hss⟩:=Oy (vW (x,s,p,r) bl y);obtain⟨pp,hpp⟩:=Oy (vX (x,s,p,r) bl y);rw[<-hss,<-hpp]at CT;rw[<-hss,<-hpp]at hf hfw;have Hz:=OA hf;have Hzw:=OA hfw;clear hss hpp hf hfw;refine CT.mono ?_;rintro e w8 ⟨E1,e1,E2,e2,E3,e3,E4,e4,rfl,oT,hb8⟩;have D9:=D7.bl hb8;have bW8:=bW7.bl hb8;have hX8:=hX7.bl hb8;have oT8:=oT.mono (B':=w.heap.size) D7.gr.size)))
      refine tK hK fun hHeld=>?_
      clear hK K;refine(tR [0])<|tL fun K hK=>?_
      go_simp
      refine tK hK fun hHeld=>?_
      clear hK K;refine(tR [4])<|tL fun K hK=>?_
      go_simp
      (first|(go_at_call 67;go_must (refine(aQ 20 W g v l _ h Hok hg (D6.bl Bw).B (D6.bl Bw).cur (by decide)).mono ?_;rintro e w7 ⟨y,rfl,hy,cX,BX,hgg⟩;have D7:=(D6.bl Bw).dr cX BX hgg;have bW7:=(bW6.bl Bw).ds (D6.bl Bw).cur hgg (by decide);have hX7:=(hX6.bl Bw).ds (D6.bl Bw).cur hgg (by decide);have oW7:=(oW6.below Bw).cur (D6.bl Bw).cur hgg;have oL7:=(oL6.below Bw).cur (D6.bl Bw).cur (by decide) hgg;obtain⟨c_0,c_1,c_2,c_3,c_4,c_5,c_6⟩:=bW7.n7))|(go_at_call 99;go_must (have CT:=(xJ _ _ _ _ _ x s p r bl y _ oW7.ra oW7.rb oW7.rc oW7.rd (oL7.rd mZ (by decide)) Hs.out);have hf:=Dn bl y Hf.out;have hfw:=Cc Hf.out Hw.out Hbx.out hy;obtain⟨ss,hss⟩:=Oy (vW (x,s,p,r) bl y);obtain⟨pp,hpp⟩:=Oy (vX (x,s,p,r) bl y);rw[<-hss,<-hpp]at CT;rw[<-hss,<-hpp]at hf hfw;have Hz:=OA hf;have Hzw:=OA hfw;clear hss hpp hf hfw;refine CT.mono ?_;rintro e w8 ⟨E1,e1,E2,e2,E3,e3,E4,e4,rfl,oT,hb8⟩;have D9:=D7.bl hb8;have bW8:=bW7.bl hb8;have hX8:=hX7.bl hb8;have oT8:=oT.mono (B':=w.heap.size) D7.gr.size)))
      refine tK hK fun hHeld=>?_
      clear hK K;refine(tW 5)<|(tW 6)<|(tW 7)<|(tR [8])<|tL fun K hK=>?_
      (refine aJ rfl 32 _ _ rfl gF #[.slice E1 x.1.length e1,.slice E2 x.2.1.length e2,.slice E3 x.2.2.1.length e3,.slice E4 x.2.2.2.length e4,.int .i64 ss,.int .i64 pp,.int .i64 r] rfl rfl _ _ bW8 (by kernel_rfl) rfl (Cb oT8.one) ?_;intro w9 bW9 hg9;have D10:=D9.st hg9 hgF0 hW hgFn;have hX9:=hX8.grown hg9 (by simp;omega);have oT9:=aD.eD oT8 bW8 (by decide) (by decide) (by decide) hg9)
      refine tK hK fun hHeld=>?_
      clear hK K;refine tD ?_
      all_goals
        go_wp2;go_roundw
        case rel=>exact⟨k+1,x,ss,pp,r,_,_,_,_,by omega,by go_num,Hz,Hzw,Hs,oT9,bW9,hX9,D10⟩
        case measure=>simp[intOf];omega
    . obtain⟨A9,c9,rfl,_⟩:=oW5.rc.form;have Hl3:Hid (x.2.2.1.length<=1048576):=OA Hs.out.2.2.1;have Bw:Below w5.heap.size w5 w5.drew:=(Below.refl _ _).drew;obtain⟨y_0,y_1,y_2,y_3,y_4,y_5,y_6⟩:=bW5.n7;go_upto_region 14 with(fail)
      refine rB (fun _=>True) fun hHeld=>(tW 1)<|(tW 2)<|(tW 3)<|(tR [0,4])<|tC (fun K hK=>?_) ?_
      go_simp
      refine tK hK fun hHeld=>?_
      clear hK K;refine(tR [4])<|tL fun K hK=>?_
      go_simp
      refine tK hK fun hHeld=>?_
      clear hK K;refine(tW 5)<|(tW 6)<|(tR [7])<|tL fun K hK=>?_
      go_simp
      (first|(go_at_call 67;go_must (refine(aQ _ W g v l _ h Hok hg (D5.bl Bw).B (D5.bl Bw).cur (by have:=Hl3.out;first|omega|(simp;omega))).mono ?_;rintro e w7 ⟨y,rfl,hy,cX,BX,hgg⟩;have D7:=(D5.bl Bw).dr cX BX hgg;have bW7:=(bW5.bl Bw).ds (D5.bl Bw).cur hgg (by decide);have hX7:=(hX5.bl Bw).ds (D5.bl Bw).cur hgg (by decide);have oW7:=(oW5.below Bw).cur (D5.bl Bw).cur hgg;obtain⟨c_0,c_1,c_2,c_3,c_4,c_5,c_6⟩:=bW7.n7))|(go_at_call 98;go_must (have CT:=(qM _ _ _ _ x s p r y _ oW7.ra oW7.rb oW7.rc oW7.rd Hs.out);have hf:=wQ y Hf.out;have hfw:=vD (x:=x) (r:=r) y Hw.out;have hsm:=mG (y:=(x,s,p,r)) y Hs.out;obtain⟨⟨z,zs,zp,zr⟩,hz⟩:∃q,q=iX (x,s,p,r) y:=⟨_,rfl⟩;obtain⟨bn,hbn⟩:=Oy (rX (x,s,p,r) y);rw[<-hz,<-hbn]at CT;rw[<-hz]at hf hsm hfw;have Hz:=OA hf;have Hy:=OA hsm;have Hzw:=OA hfw;clear hz hbn hf hsm hfw;refine CT.mono ?_;rintro e w8 ⟨E1,e1,E2,e2,E3,e3,E4,e4,rfl,oT,hb8⟩;have D9:=D7.bl hb8;have bW8:=bW7.bl hb8;have hX8:=hX7.bl hb8;have oT8:=oT.mono (B':=w.heap.size) D7.gr.size)))
      refine tK hK fun hHeld=>?_
      clear hK K;refine(tR [8])<|tL fun K hK=>?_
      go_simp
      (first|(go_at_call 67;go_must (refine(aQ _ W g v l _ h Hok hg (D5.bl Bw).B (D5.bl Bw).cur (by have:=Hl3.out;first|omega|(simp;omega))).mono ?_;rintro e w7 ⟨y,rfl,hy,cX,BX,hgg⟩;have D7:=(D5.bl Bw).dr cX BX hgg;have bW7:=(bW5.bl Bw).ds (D5.bl Bw).cur hgg (by decide);have hX7:=(hX5.bl Bw).ds (D5.bl Bw).cur hgg (by decide);have oW7:=(oW5.below Bw).cur (D5.bl Bw).cur hgg;obtain⟨c_0,c_1,c_2,c_3,c_4,c_5,c_6⟩:=bW7.n7))|(go_at_call 98;go_must (have CT:=(qM _ _ _ _ x s p r y _ oW7.ra oW7.rb oW7.rc oW7.rd Hs.out);have hf:=wQ y Hf.out;have hfw:=vD (x:=x) (r:=r) y Hw.out;have hsm:=mG (y:=(x,s,p,r)) y Hs.out;obtain⟨⟨z,zs,zp,zr⟩,hz⟩:∃q,q=iX (x,s,p,r) y:=⟨_,rfl⟩;obtain⟨bn,hbn⟩:=Oy (rX (x,s,p,r) y);rw[<-hz,<-hbn]at CT;rw[<-hz]at hf hsm hfw;have Hz:=OA hf;have Hy:=OA hsm;have Hzw:=OA hfw;clear hz hbn hf hsm hfw;refine CT.mono ?_;rintro e w8 ⟨E1,e1,E2,e2,E3,e3,E4,e4,rfl,oT,hb8⟩;have D9:=D7.bl hb8;have bW8:=bW7.bl hb8;have hX8:=hX7.bl hb8;have oT8:=oT.mono (B':=w.heap.size) D7.gr.size)))
      refine tK hK fun hHeld=>?_
      clear hK K;refine(tW 9)<|(tW 10)<|(tW 11)<|(tR [12])<|tL fun K hK=>?_
      (refine aJ rfl 32 _ _ rfl gF #[.slice E1 z.1.length e1,.slice E2 z.2.1.length e2,.slice E3 z.2.2.1.length e3,.slice E4 z.2.2.2.length e4,.int .i64 zs,.int .i64 zp,.int .i64 zr] rfl rfl _ _ bW8 (by kernel_rfl) rfl (Cb oT8.one) ?_;intro w9 bW9 hg9;have D10:=D9.st hg9 hgF0 hW hgFn;have hX9:=hX8.grown hg9 (by simp;omega);have oT9:=aD.eD oT8 bW8 (by decide) (by decide) (by decide) hg9)
      refine tK hK fun hHeld=>?_
      clear hK K;refine tD ?_
      rotate_left 1
      refine tL fun K hK=>?_
      go_simp
      refine tK hK fun hHeld=>?_
      clear hK K;refine(tW 5)<|(tW 6)<|(tR [0,7])<|tC (fun K hK=>?_) ?_;go_simp
      refine tK hK fun hHeld=>?_
      clear hK K;refine(tR [7])<|tL fun K hK=>?_
      go_simp
      (first|(go_at_call 67;go_must (refine(aQ _ W g v l _ h Hok hg (D5.bl Bw).B (D5.bl Bw).cur (by have:=Hl3.out;first|omega|(simp;omega))).mono ?_;rintro e w7 ⟨y,rfl,hy,cX,BX,hgg⟩;have D7:=(D5.bl Bw).dr cX BX hgg;have bW7:=(bW5.bl Bw).ds (D5.bl Bw).cur hgg (by decide);have hX7:=(hX5.bl Bw).ds (D5.bl Bw).cur hgg (by decide);have oW7:=(oW5.below Bw).cur (D5.bl Bw).cur hgg;obtain⟨c_0,c_1,c_2,c_3,c_4,c_5,c_6⟩:=bW7.n7))|(go_at_call 98;go_must (have CT:=(qM _ _ _ _ x s p r y _ oW7.ra oW7.rb oW7.rc oW7.rd Hs.out);have hf:=wQ y Hf.out;have hfw:=vD (x:=x) (r:=r) y Hw.out;have hsm:=mG (y:=(x,s,p,r)) y Hs.out;obtain⟨⟨z,zs,zp,zr⟩,hz⟩:∃q,q=iX (x,s,p,r) y:=⟨_,rfl⟩;obtain⟨bn,hbn⟩:=Oy (rX (x,s,p,r) y);rw[<-hz,<-hbn]at CT;rw[<-hz]at hf hsm hfw;have Hz:=OA hf;have Hy:=OA hsm;have Hzw:=OA hfw;clear hz hbn hf hsm hfw;refine CT.mono ?_;rintro e w8 ⟨E1,e1,E2,e2,E3,e3,E4,e4,rfl,oT,hb8⟩;have D9:=D7.bl hb8;have bW8:=bW7.bl hb8;have hX8:=hX7.bl hb8;have oT8:=oT.mono (B':=w.heap.size) D7.gr.size)))
      refine tK hK fun hHeld=>?_
      clear hK K;refine(tR [8])<|tL fun K hK=>?_
      go_simp
      (first|(go_at_call 67;go_must (refine(aQ _ W g v l _ h Hok hg (D5.bl Bw).B (D5.bl Bw).cur (by have:=Hl3.out;first|omega|(simp;omega))).mono ?_;rintro e w7 ⟨y,rfl,hy,cX,BX,hgg⟩;have D7:=(D5.bl Bw).dr cX BX hgg;have bW7:=(bW5.bl Bw).ds (D5.bl Bw).cur hgg (by decide);have hX7:=(hX5.bl Bw).ds (D5.bl Bw).cur hgg (by decide);have oW7:=(oW5.below Bw).cur (D5.bl Bw).cur hgg;obtain⟨c_0,c_1,c_2,c_3,c_4,c_5,c_6⟩:=bW7.n7))|(go_at_call 98;go_must (have CT:=(qM _ _ _ _ x s p r y _ oW7.ra oW7.rb oW7.rc oW7.rd Hs.out);have hf:=wQ y Hf.out;have hfw:=vD (x:=x) (r:=r) y Hw.out;have hsm:=mG (y:=(x,s,p,r)) y Hs.out;obtain⟨⟨z,zs,zp,zr⟩,hz⟩:∃q,q=iX (x,s,p,r) y:=⟨_,rfl⟩;obtain⟨bn,hbn⟩:=Oy (rX (x,s,p,r) y);rw[<-hz,<-hbn]at CT;rw[<-hz]at hf hsm hfw;have Hz:=OA hf;have Hy:=OA hsm;have Hzw:=OA hfw;clear hz hbn hf hsm hfw;refine CT.mono ?_;rintro e w8 ⟨E1,e1,E2,e2,E3,e3,E4,e4,rfl,oT,hb8⟩;have D9:=D7.bl hb8;have bW8:=bW7.bl hb8;have hX8:=hX7.bl hb8;have oT8:=oT.mono (B':=w.heap.size) D7.gr.size)))
      refine tK hK fun hHeld=>?_
      clear hK K;refine(tW 9)<|(tW 10)<|(tW 11)<|(tR [12])<|tL fun K hK=>?_
      (refine aJ rfl 32 _ _ rfl gF #[.slice E1 z.1.length e1,.slice E2 z.2.1.length e2,.slice E3 z.2.2.1.length e3,.slice E4 z.2.2.2.length e4,.int .i64 zs,.int .i64 zp,.int .i64 zr] rfl rfl _ _ bW8 (by kernel_rfl) rfl (Cb oT8.one) ?_;intro w9 bW9 hg9;have D10:=D9.st hg9 hgF0 hW hgFn;have hX9:=hX8.grown hg9 (by simp;omega);have oT9:=aD.eD oT8 bW8 (by decide) (by decide) (by decide) hg9)
      refine tK hK fun hHeld=>?_
      clear hK K;refine tD ?_
      rotate_left 1
      refine tL fun K hK=>?_
      go_simp
      (first|(go_at_call 67;go_must (refine(aQ _ W g v l _ h Hok hg (D5.bl Bw).B (D5.bl Bw).cur (by have:=Hl3.out;first|omega|(simp;omega))).mono ?_;rintro e w7 ⟨y,rfl,hy,cX,BX,hgg⟩;have D7:=(D5.bl Bw).dr cX BX hgg;have bW7:=(bW5.bl Bw).ds (D5.bl Bw).cur hgg (by decide);have hX7:=(hX5.bl Bw).ds (D5.bl Bw).cur hgg (by decide);have oW7:=(oW5.below Bw).cur (D5.bl Bw).cur hgg;obtain⟨c_0,c_1,c_2,c_3,c_4,c_5,c_6⟩:=bW7.n7))|(go_at_call 98;go_must (have CT:=(qM _ _ _ _ x s p r y _ oW7.ra oW7.rb oW7.rc oW7.rd Hs.out);have hf:=wQ y Hf.out;have hfw:=vD (x:=x) (r:=r) y Hw.out;have hsm:=mG (y:=(x,s,p,r)) y Hs.out;obtain⟨⟨z,zs,zp,zr⟩,hz⟩:∃q,q=iX (x,s,p,r) y:=⟨_,rfl⟩;obtain⟨bn,hbn⟩:=Oy (rX (x,s,p,r) y);rw[<-hz,<-hbn]at CT;rw[<-hz]at hf hsm hfw;have Hz:=OA hf;have Hy:=OA hsm;have Hzw:=OA hfw;clear hz hbn hf hsm hfw;refine CT.mono ?_;rintro e w8 ⟨E1,e1,E2,e2,E3,e3,E4,e4,rfl,oT,hb8⟩;have D9:=D7.bl hb8;have bW8:=bW7.bl hb8;have hX8:=hX7.bl hb8;have oT8:=oT.mono (B':=w.heap.size) D7.gr.size)))
      refine tK hK fun hHeld=>?_
      clear hK K;refine(tR [0])<|tL fun K hK=>?_
      go_simp
      refine tK hK fun hHeld=>?_
      clear hK K;refine(tR [8])<|tL fun K hK=>?_
      go_simp
      (first|(go_at_call 67;go_must (refine(aQ _ W g v l _ h Hok hg (D5.bl Bw).B (D5.bl Bw).cur (by have:=Hl3.out;first|omega|(simp;omega))).mono ?_;rintro e w7 ⟨y,rfl,hy,cX,BX,hgg⟩;have D7:=(D5.bl Bw).dr cX BX hgg;have bW7:=(bW5.bl Bw).ds (D5.bl Bw).cur hgg (by decide);have hX7:=(hX5.bl Bw).ds (D5.bl Bw).cur hgg (by decide);have oW7:=(oW5.below Bw).cur (D5.bl Bw).cur hgg;obtain⟨c_0,c_1,c_2,c_3,c_4,c_5,c_6⟩:=bW7.n7))|(go_at_call 98;go_must (have CT:=(qM _ _ _ _ x s p r y _ oW7.ra oW7.rb oW7.rc oW7.rd Hs.out);have hf:=wQ y Hf.out;have hfw:=vD (x:=x) (r:=r) y Hw.out;have hsm:=mG (y:=(x,s,p,r)) y Hs.out;obtain⟨⟨z,zs,zp,zr⟩,hz⟩:∃q,q=iX (x,s,p,r) y:=⟨_,rfl⟩;obtain⟨bn,hbn⟩:=Oy (rX (x,s,p,r) y);rw[<-hz,<-hbn]at CT;rw[<-hz]at hf hsm hfw;have Hz:=OA hf;have Hy:=OA hsm;have Hzw:=OA hfw;clear hz hbn hf hsm hfw;refine CT.mono ?_;rintro e w8 ⟨E1,e1,E2,e2,E3,e3,E4,e4,rfl,oT,hb8⟩;have D9:=D7.bl hb8;have bW8:=bW7.bl hb8;have hX8:=hX7.bl hb8;have oT8:=oT.mono (B':=w.heap.size) D7.gr.size)))
      refine tK hK fun hHeld=>?_
      clear hK K;refine(tW 9)<|(tW 10)<|(tW 11)<|(tR [12])<|tL fun K hK=>?_
      (refine aJ rfl 32 _ _ rfl gF #[.slice E1 z.1.length e1,.slice E2 z.2.1.length e2,.slice E3 z.2.2.1.length e3,.slice E4 z.2.2.2.length e4,.int .i64 zs,.int .i64 zp,.int .i64 zr] rfl rfl _ _ bW8 (by kernel_rfl) rfl (Cb oT8.one) ?_;intro w9 bW9 hg9;have D10:=D9.st hg9 hgF0 hW hgFn;have hX9:=hX8.grown hg9 (by simp;omega);have oT9:=aD.eD oT8 bW8 (by decide) (by decide) (by decide) hg9)
      refine tK hK fun hHeld=>?_
      clear hK K;refine tD ?_
      all_goals
        go_wp2;go_roundw
        case rel=>exact⟨k+1,z,zs,zp,zr,_,_,_,_,by omega,by go_num,Hz,Hzw,Hy,oT9,bW9,hX9,D10⟩
        case measure=>simp[intOf];omega
    . have f0:(m==0)=false:=beq_false_of_ne e0;have f1:(m==1)=false:=beq_false_of_ne e1;obtain⟨y_0,y_1,y_2,y_3,y_4,y_5,y_6⟩:=bW5.n7;go_wp2_with fail
      refine(vU _ x.2.2.1 _ oW5.rc).mono ?_;rintro e w6 ⟨A7,c7,rfl,oL,hb6⟩;have oW6:=oW5.below hb6;have bW6:=bW5.bl hb6;have hX6:=hX5.bl hb6;have D6:=D5.bl hb6;have oL6:=oL.mono (B':=w.heap.size) D5.gr.size;have HL:Hid ((dQ x.2.2.1).length<=64):=OA (by unfold dQ;exact Nat.le_trans (List.length_filter_le _ _) (by simp));obtain⟨L,hL⟩:=Oy (dQ x.2.2.1);rw[<-hL]at oL6 HL⊢;clear y_0 y_1 y_2 y_3 y_4 y_5 y_6 oW5 bW5 hX5 D5 oL hb6 hL;by_cases hl0:L.length=0
      . have hl0I : ¬ 0 < (L.length : Int) := by omega
        go_wp2;go_roundw
        case rel=>exact⟨k+1,x,s,p,r,_,_,_,_,by omega,by go_num,Hf,OA (uD Hw.out (by omega)),Hs,oW6,bW6,hX6,D6⟩
        case measure=>simp[intOf];omega
      . have hl0I : 0 < (L.length : Int) := by omega
        obtain⟨y_0,y_1,y_2,y_3,y_4,y_5,y_6⟩:=bW6.n7;have Bw:Below w6.heap.size w6 w6.drew:=(Below.refl _ _).drew;go_upto_region 9 with(fail)
        refine rB (fun _=>True) fun hHeld=>(tW 1)<|(tW 2)<|(tW 3)<|(tW 4)<|(tR [0,5])<|tC (fun K hK=>?_) ?_
        go_simp
        refine tK hK fun hHeld=>?_
        clear hK K;refine(tR [5])<|tL fun K hK=>?_
        go_simp
        (first|(go_at_call 67;go_must (refine(aQ (L.length:Int) W g v l _ h Hok hg (D6.bl Bw).B (D6.bl Bw).cur (by have:=HL.out;omega)).mono ?_;rintro e w7 ⟨y,rfl,hy,cX,BX,hgg⟩;have D7:=(D6.bl Bw).dr cX BX hgg;have bW7:=(bW6.bl Bw).ds (D6.bl Bw).cur hgg (by decide);have hX7:=(hX6.bl Bw).ds (D6.bl Bw).cur hgg (by decide);have oW7:=(oW6.below Bw).cur (D6.bl Bw).cur hgg;obtain⟨c_0,c_1,c_2,c_3,c_4,c_5,c_6⟩:=bW7.n7;obtain⟨i,hi,rfl⟩:=qA hy hl0;have oL7:=(oL6.below Bw).cur (D6.bl Bw).cur (by decide) hgg;have hiI:(i:Int)<(L.length:Int):=Int.ofNat_lt.2 hi;obtain⟨b,off,rfl,hb,k0,k1⟩:=(oL7.rd mZ (by decide)).eZ hi;obtain⟨⟨cx,cy⟩,hcx⟩:∃q,q=L[i]:=⟨_,rfl⟩;rw[<-hcx]at k0 k1;simp only at k0 k1;clear hcx))|(go_at_call 97;go_must (have CT:=(pX _ _ _ _ x s p r cx cy _ oW7.ra oW7.rb oW7.rc oW7.rd Hs.out);have hf:=xV (cx,cy) Hf.out;have hsm:=nS (y:=(x,s,p,r)) (cx,cy) Hs.out;obtain⟨z,hz⟩:=Oy (nD (x,s,p,r) (cx,cy));obtain⟨tb,htb⟩:=Oy (rZ (x,s,p,r) (cx,cy));rw[<-hz,<-htb]at CT;rw[<-hz]at hf hsm;have Hz:=OA hf;have Hy:=OA hsm;clear hz htb hf hsm;refine CT.mono ?_;rintro e w8 ⟨E1,e1,E2,e2,E3,e3,E4,e4,rfl,oT,hb8⟩;have D9:=D7.bl hb8;have bW8:=bW7.bl hb8;have hX8:=hX7.bl hb8;have oT8:=oT.mono (B':=w.heap.size) D7.gr.size)))
        refine tK hK fun hHeld=>?_
        clear hK K;refine(tW 6)<|(tR [7])<|tL fun K hK=>?_
        go_simp
        refine tK hK fun hHeld=>?_
        clear hK K;refine(tR [8])<|tL fun K hK=>?_
        go_simp
        (first|(go_at_call 67;go_must (refine(aQ (L.length:Int) W g v l _ h Hok hg (D6.bl Bw).B (D6.bl Bw).cur (by have:=HL.out;omega)).mono ?_;rintro e w7 ⟨y,rfl,hy,cX,BX,hgg⟩;have D7:=(D6.bl Bw).dr cX BX hgg;have bW7:=(bW6.bl Bw).ds (D6.bl Bw).cur hgg (by decide);have hX7:=(hX6.bl Bw).ds (D6.bl Bw).cur hgg (by decide);have oW7:=(oW6.below Bw).cur (D6.bl Bw).cur hgg;obtain⟨c_0,c_1,c_2,c_3,c_4,c_5,c_6⟩:=bW7.n7;obtain⟨i,hi,rfl⟩:=qA hy hl0;have oL7:=(oL6.below Bw).cur (D6.bl Bw).cur (by decide) hgg;have hiI:(i:Int)<(L.length:Int):=Int.ofNat_lt.2 hi;obtain⟨b,off,rfl,hb,k0,k1⟩:=(oL7.rd mZ (by decide)).eZ hi;obtain⟨⟨cx,cy⟩,hcx⟩:∃q,q=L[i]:=⟨_,rfl⟩;rw[<-hcx]at k0 k1;simp only at k0 k1;clear hcx))|(go_at_call 97;go_must (have CT:=(pX _ _ _ _ x s p r cx cy _ oW7.ra oW7.rb oW7.rc oW7.rd Hs.out);have hf:=xV (cx,cy) Hf.out;have hsm:=nS (y:=(x,s,p,r)) (cx,cy) Hs.out;obtain⟨z,hz⟩:=Oy (nD (x,s,p,r) (cx,cy));obtain⟨tb,htb⟩:=Oy (rZ (x,s,p,r) (cx,cy));rw[<-hz,<-htb]at CT;rw[<-hz]at hf hsm;have Hz:=OA hf;have Hy:=OA hsm;clear hz htb hf hsm;refine CT.mono ?_;rintro e w8 ⟨E1,e1,E2,e2,E3,e3,E4,e4,rfl,oT,hb8⟩;have D9:=D7.bl hb8;have bW8:=bW7.bl hb8;have hX8:=hX7.bl hb8;have oT8:=oT.mono (B':=w.heap.size) D7.gr.size)))
        refine tK hK fun hHeld=>?_
        clear hK K;refine(tW 9)<|(tW 10)<|(tW 11)<|(tR [12])<|tL fun K hK=>?_
        (refine aJ rfl 32 _ _ rfl gF #[.slice E1 z.1.length e1,.slice E2 z.2.1.length e2,.slice E3 z.2.2.1.length e3,.slice E4 z.2.2.2.length e4,.int .i64 s,.int .i64 p,.int .i64 r] rfl rfl _ _ bW8 (by kernel_rfl) rfl (Cb oT8.one) ?_;intro w9 bW9 hg9;have D10:=D9.st hg9 hgF0 hW hgFn;have hX9:=hX8.grown hg9 (by simp;omega);have oT9:=aD.eD oT8 bW8 (by decide) (by decide) (by decide) hg9)
        refine tK hK fun hHeld=>?_
        clear hK K;refine tD ?_
        rotate_left 1
        refine tL fun K hK=>?_
        go_simp
        (first|(go_at_call 67;go_must (refine(aQ (L.length:Int) W g v l _ h Hok hg (D6.bl Bw).B (D6.bl Bw).cur (by have:=HL.out;omega)).mono ?_;rintro e w7 ⟨y,rfl,hy,cX,BX,hgg⟩;have D7:=(D6.bl Bw).dr cX BX hgg;have bW7:=(bW6.bl Bw).ds (D6.bl Bw).cur hgg (by decide);have hX7:=(hX6.bl Bw).ds (D6.bl Bw).cur hgg (by decide);have oW7:=(oW6.below Bw).cur (D6.bl Bw).cur hgg;obtain⟨c_0,c_1,c_2,c_3,c_4,c_5,c_6⟩:=bW7.n7;obtain⟨i,hi,rfl⟩:=qA hy hl0;have oL7:=(oL6.below Bw).cur (D6.bl Bw).cur (by decide) hgg;have hiI:(i:Int)<(L.length:Int):=Int.ofNat_lt.2 hi;obtain⟨b,off,rfl,hb,k0,k1⟩:=(oL7.rd mZ (by decide)).eZ hi;obtain⟨⟨cx,cy⟩,hcx⟩:∃q,q=L[i]:=⟨_,rfl⟩;rw[<-hcx]at k0 k1;simp only at k0 k1;clear hcx))|(go_at_call 97;go_must (have CT:=(pX _ _ _ _ x s p r cx cy _ oW7.ra oW7.rb oW7.rc oW7.rd Hs.out);have hf:=xV (cx,cy) Hf.out;have hsm:=nS (y:=(x,s,p,r)) (cx,cy) Hs.out;obtain⟨z,hz⟩:=Oy (nD (x,s,p,r) (cx,cy));obtain⟨tb,htb⟩:=Oy (rZ (x,s,p,r) (cx,cy));rw[<-hz,<-htb]at CT;rw[<-hz]at hf hsm;have Hz:=OA hf;have Hy:=OA hsm;clear hz htb hf hsm;refine CT.mono ?_;rintro e w8 ⟨E1,e1,E2,e2,E3,e3,E4,e4,rfl,oT,hb8⟩;have D9:=D7.bl hb8;have bW8:=bW7.bl hb8;have hX8:=hX7.bl hb8;have oT8:=oT.mono (B':=w.heap.size) D7.gr.size)))
        refine tK hK fun hHeld=>?_
        clear hK K;refine(tW 6)<|(tR [0,7])<|tC (fun K hK=>?_) ?_;go_simp
        refine tK hK fun hHeld=>?_
        clear hK K;refine(tR [7])<|tL fun K hK=>?_
        go_simp
        refine tK hK fun hHeld=>?_
        clear hK K;refine(tR [8])<|tL fun K hK=>?_
        go_simp
        (first|(go_at_call 67;go_must (refine(aQ (L.length:Int) W g v l _ h Hok hg (D6.bl Bw).B (D6.bl Bw).cur (by have:=HL.out;omega)).mono ?_;rintro e w7 ⟨y,rfl,hy,cX,BX,hgg⟩;have D7:=(D6.bl Bw).dr cX BX hgg;have bW7:=(bW6.bl Bw).ds (D6.bl Bw).cur hgg (by decide);have hX7:=(hX6.bl Bw).ds (D6.bl Bw).cur hgg (by decide);have oW7:=(oW6.below Bw).cur (D6.bl Bw).cur hgg;obtain⟨c_0,c_1,c_2,c_3,c_4,c_5,c_6⟩:=bW7.n7;obtain⟨i,hi,rfl⟩:=qA hy hl0;have oL7:=(oL6.below Bw).cur (D6.bl Bw).cur (by decide) hgg;have hiI:(i:Int)<(L.length:Int):=Int.ofNat_lt.2 hi;obtain⟨b,off,rfl,hb,k0,k1⟩:=(oL7.rd mZ (by decide)).eZ hi;obtain⟨⟨cx,cy⟩,hcx⟩:∃q,q=L[i]:=⟨_,rfl⟩;rw[<-hcx]at k0 k1;simp only at k0 k1;clear hcx))|(go_at_call 97;go_must (have CT:=(pX _ _ _ _ x s p r cx cy _ oW7.ra oW7.rb oW7.rc oW7.rd Hs.out);have hf:=xV (cx,cy) Hf.out;have hsm:=nS (y:=(x,s,p,r)) (cx,cy) Hs.out;obtain⟨z,hz⟩:=Oy (nD (x,s,p,r) (cx,cy));obtain⟨tb,htb⟩:=Oy (rZ (x,s,p,r) (cx,cy));rw[<-hz,<-htb]at CT;rw[<-hz]at hf hsm;have Hz:=OA hf;have Hy:=OA hsm;clear hz htb hf hsm;refine CT.mono ?_;rintro e w8 ⟨E1,e1,E2,e2,E3,e3,E4,e4,rfl,oT,hb8⟩;have D9:=D7.bl hb8;have bW8:=bW7.bl hb8;have hX8:=hX7.bl hb8;have oT8:=oT.mono (B':=w.heap.size) D7.gr.size)))
        refine tK hK fun hHeld=>?_
        clear hK K;refine(tW 9)<|(tW 10)<|(tW 11)<|(tR [12])<|tL fun K hK=>?_
        (refine aJ rfl 32 _ _ rfl gF #[.slice E1 z.1.length e1,.slice E2 z.2.1.length e2,.slice E3 z.2.2.1.length e3,.slice E4 z.2.2.2.length e4,.int .i64 s,.int .i64 p,.int .i64 r] rfl rfl _ _ bW8 (by kernel_rfl) rfl (Cb oT8.one) ?_;intro w9 bW9 hg9;have D10:=D9.st hg9 hgF0 hW hgFn;have hX9:=hX8.grown hg9 (by simp;omega);have oT9:=aD.eD oT8 bW8 (by decide) (by decide) (by decide) hg9)
        refine tK hK fun hHeld=>?_
        clear hK K;refine tD ?_
        rotate_left 1
        refine tL fun K hK=>?_
        go_simp
        refine tK hK fun hHeld=>?_
        clear hK K;refine(tR [0])<|tL fun K hK=>?_
        go_simp
        refine tK hK fun hHeld=>?_
        clear hK K;refine(tR [8])<|tL fun K hK=>?_
        go_simp
        (first|(go_at_call 67;go_must (refine(aQ (L.length:Int) W g v l _ h Hok hg (D6.bl Bw).B (D6.bl Bw).cur (by have:=HL.out;omega)).mono ?_;rintro e w7 ⟨y,rfl,hy,cX,BX,hgg⟩;have D7:=(D6.bl Bw).dr cX BX hgg;have bW7:=(bW6.bl Bw).ds (D6.bl Bw).cur hgg (by decide);have hX7:=(hX6.bl Bw).ds (D6.bl Bw).cur hgg (by decide);have oW7:=(oW6.below Bw).cur (D6.bl Bw).cur hgg;obtain⟨c_0,c_1,c_2,c_3,c_4,c_5,c_6⟩:=bW7.n7;obtain⟨i,hi,rfl⟩:=qA hy hl0;have oL7:=(oL6.below Bw).cur (D6.bl Bw).cur (by decide) hgg;have hiI:(i:Int)<(L.length:Int):=Int.ofNat_lt.2 hi;obtain⟨b,off,rfl,hb,k0,k1⟩:=(oL7.rd mZ (by decide)).eZ hi;obtain⟨⟨cx,cy⟩,hcx⟩:∃q,q=L[i]:=⟨_,rfl⟩;rw[<-hcx]at k0 k1;simp only at k0 k1;clear hcx))|(go_at_call 97;go_must (have CT:=(pX _ _ _ _ x s p r cx cy _ oW7.ra oW7.rb oW7.rc oW7.rd Hs.out);have hf:=xV (cx,cy) Hf.out;have hsm:=nS (y:=(x,s,p,r)) (cx,cy) Hs.out;obtain⟨z,hz⟩:=Oy (nD (x,s,p,r) (cx,cy));obtain⟨tb,htb⟩:=Oy (rZ (x,s,p,r) (cx,cy));rw[<-hz,<-htb]at CT;rw[<-hz]at hf hsm;have Hz:=OA hf;have Hy:=OA hsm;clear hz htb hf hsm;refine CT.mono ?_;rintro e w8 ⟨E1,e1,E2,e2,E3,e3,E4,e4,rfl,oT,hb8⟩;have D9:=D7.bl hb8;have bW8:=bW7.bl hb8;have hX8:=hX7.bl hb8;have oT8:=oT.mono (B':=w.heap.size) D7.gr.size)))
        refine tK hK fun hHeld=>?_
        clear hK K;refine(tW 9)<|(tW 10)<|(tW 11)<|(tR [12])<|tL fun K hK=>?_
        (refine aJ rfl 32 _ _ rfl gF #[.slice E1 z.1.length e1,.slice E2 z.2.1.length e2,.slice E3 z.2.2.1.length e3,.slice E4 z.2.2.2.length e4,.int .i64 s,.int .i64 p,.int .i64 r] rfl rfl _ _ bW8 (by kernel_rfl) rfl (Cb oT8.one) ?_;intro w9 bW9 hg9;have D10:=D9.st hg9 hgF0 hW hgFn;have hX9:=hX8.grown hg9 (by simp;omega);have oT9:=aD.eD oT8 bW8 (by decide) (by decide) (by decide) hg9)
        refine tK hK fun hHeld=>?_
        clear hK K;refine tD ?_
        all_goals
          go_wp2;go_roundw
          case rel=>exact⟨k+1,z,s,p,r,_,_,_,_,by omega,by go_num,Hz,OA (uD Hw.out (by omega)),Hy,oT9,bW9,hX9,D10⟩
          case measure=>simp[intOf];omega
  . have hk1':¬(k:Int)<n:=hk1;have hw7:=uD Hw.out (show k<=7 by omega);obtain⟨y_0,y_1,y_2,y_3,y_4,y_5,y_6⟩:=bW.n7;go_wp2_with (rw[<-HgX.out];refine aA rfl 32 _ _ rfl gX #[V1,V2,V3,V4,.int .i64 s,.int .i64 p,.int .i64 r] rfl rfl _ _ hX1 (by kernel_rfl) rfl (Cb oW.one) ?_;intro wE bE hgE)
    have oE:=aD.eD oW hX1 (by decide) (by decide) (by decide) hgE;obtain⟨q_0,q_1,q_2,q_3,q_4,q_5,q_6⟩:=bE.n7;refine bodyPost_ret (v:= .agg #[V1,V2,V3,V4,.int .i64 s,.int .i64 p,.int .i64 r]) (by simp[results,Tryz.results69,go_sem,q_0,q_1,q_2,q_3,q_4,q_5,q_6]) rfl ⟨x,s,p,r,V1,V2,V3,V4,rfl,oE,Hf.out,hw7,Hs.out,D1.st hgE hgX hW hne⟩
end Go.Proofs.YtljfoohaapckeaaGreatDoor
