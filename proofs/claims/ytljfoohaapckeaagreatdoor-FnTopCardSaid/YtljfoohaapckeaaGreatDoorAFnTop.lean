/- FnTop: the law's walk. No conditions but sizes; the library's table of powers. -/
import Derived.Test.YtljfoohaapckeaaGreatDoorAG41
import Derived.Test.YtljfoohaapckeaaGreatDoorAG45
import Derived.Test.YtljfoohaapckeaaGreatDoorADoActI
import Derived.Test.YtljfoohaapckeaaGreatDoorADoActS
import Derived.Test.YtljfoohaapckeaaGreatDoorAFlAll
open _root_.Go.Proofs.Tryz (prog func8 ntmps8 zeroValue32)
namespace Go.Proofs.YtljfoohaapckeaaGreatDoor
open Go.ChangeShapes Go.WideShapes Go.ChangeAt Go.RowKit
set_option linter.unusedVariables false
set_option linter.unusedSimpArgs false
set_option maxHeartbeats 4000000
set_option maxRecDepth 100000
theorem ED (v:Value) (l:List Int) (w:World) (h:Rd 1 mI w v l):Calls prog 13 #[v] w (Pure (.bool (decide (1048576<l.length))) w):=by
 obtain⟨A,c,rfl,hc,hm⟩:=h.form;go_enter Tryz.func13,Tryz.ntmps13
 go_wp2;go_ret;exact⟨by simp;omega,rfl⟩
theorem MW {u1 u2 u3 u4:Value} {x:Fl} {s p r:Int} (hk:bT (x,s,p,r)=true) (hs:cZ x) {W:World} (h:R4 W u1 u2 u3 u4 x):Calls prog 16 #[.agg #[u1,u2,u3,u4,.int .i64 s,.int .i64 p,.int .i64 r]] W (Ret (.bool true) W):=by
 have:=jQ u1 u2 u3 u4 (x,s,p,r) W h.a h.b h.c h.d hs.2.1;rw[hk]at this;exact this
theorem N7 {u1 u2 u3 u4:Value} {x:Fl} {s p r:Int} (hk:bT (x,s,p,r)=true) (hs:cZ x) {W:World} (h:R4 W u1 u2 u3 u4 x):Calls prog 30 #[.agg #[u1,u2,u3,u4,.int .i64 s,.int .i64 p,.int .i64 r]] W (Ret (.bool true) W):=by
 have:=Br u1 u2 u3 u4 x s p r W h.a h.b h.c h.d hs;rw[hk]at this;exact this
theorem N8 {v u:Value} {rows:List Int} {l:List Dm} (ht:dI rows l=true) {W:World} (h:Rd 1 aX W v rows) (h2:Rd 3 aQ W u l):Calls prog 43 #[.agg #[v],u] W (Ret (.bool true) W):=by
 have:=pV v u rows l W h h2;rw[ht]at this;exact this
theorem Oj (w:World):Calls prog 45 #[] w (iB 102 2 dD sam w):=zC w
theorem Ol (u v:Value) (n:Int) (t1 t2:Int) (ht:hold sam (chosen sam n)=(t1,t2)) (w:World) (h:Rd 2 bH w u sam) (hv:Rd 1 aX w v (chosen sam n)):Calls prog 44 #[u,v] w (Ret (.tuple #[.int .i64 t1,.int .i64 t2]) w):=by
 have:=Dv u v sam (chosen sam n) w h hv;rw[ht]at this;exact this
theorem alT {w w':World} {o:Obj} (hg:(w.alloc o).grownBy w' (some w.heap.size)):Below w.heap.size w w':=((Below.refl w.heap.size w).al o).grown hg ((Below.refl w.heap.size w).al o).size (fun k hk=>by injection hk with hk;subst hk;exact Nat.le_refl _)
theorem OZ {u1 u2 u3 u4:Value} (h:u1.oneCell'=true/\u2.oneCell'=true/\u3.oneCell'=true/\u4.oneCell'=true):(#[u1,u2,u3,u4]:Array Value).all (·.oneCell')=true:=by
 obtain⟨a,b,c,d⟩:=h;simp only[List.all_toArray,List.all_cons,a,b,c,d,List.all_nil,Bool.and_true,Bool.true_and]
theorem MX (P:World->Nat->Value->Value->Value->Value->Prop) {G:World->Nat->Value->Value->Value->Value->Prop} {goal:Prop} (main:(∀w g a b c d,P w g a b c d->G w g a b c d)->goal) (tail:∀w g a b c d,P w g a b c d->G w g a b c d):goal:=main tail
def O0 (w:World) (gO:Nat) (acts:Value) (al:List Ac) (s5 s6 s7 s8:Value) (wr:World):Prop:=∃(k q:Nat) (x:Fl) (s p r:Int) (V1 V2 V3 V4:Value),k<=al.length/\s5= .int .i64 s/\s6= .int .i64 p/\s7= .int .i64 q/\s8= .int .i64 k/\(q:Int)<=r/\
  Hid (bT (x,s,p,r)=true)/\Hid (cZ x)/\aB w.heap.size wr V1 V2 V3 V4 x/\Blk wr gO 32 #[V1,V2,V3,V4,.int .i64 s,.int .i64 p,.int .i64 r]/\aD 73 3 xG w.heap.size wr acts al/\Below w.heap.size w wr
set_option maxHeartbeats 8000000 in
theorem Jf (w : World) (tab : Tab w) (v : Value) (l : List Int) (h : Rd 1 mI w v l) (ok : nH (fun x => 0 <= x /\ x <= 255) l) : Calls prog 8 #[v] w (Ret (.bool true) w) := by
 by_cases hsz:1048576<l.length
 . have hd : decide (1048576 < l.length) = true := by simpa using hsz
   have Hd:=Pm hd;clear hd;go_enter func8,ntmps8
   go_wp2_with fail
   refine(ED _ l _ h).mono ?_;rintro e w0 ⟨rfl,rfl⟩;rw[Hd.out];go_wp2;go_ret;exact⟨rfl,Below.refl _ _⟩
 . have hd : decide (1048576 < l.length) = false := by simpa using hsz
   have Hd:=Pm hd;clear hd;have hl:l.length<=1048576:=(by omega);have Hok:=Pm ok;have HTB:=Pm tab;clear ok tab;go_enter func8,ntmps8
   go_wp2_with fail
   refine(ED _ l _ h).mono ?_;rintro e w0 ⟨rfl,rfl⟩;rw[Hd.out];go_wp2_with fail
   refine(EW _ l _ h Hok.out hl).mono ?_;rintro e w1 ⟨x0,s0,p0,r0,V1,V2,V3,V4,al,A,c,rfl,oF,hk,hs,oA,hal,hac,hb1⟩;have HK0:=Pm hk;have HS0:=Pm hs;have HAC:=Pm hac;clear hk hs hac;go_upto_region 4 with(refine aA rfl 32 _ _ rfl w1.heap.size #[V1,V2,V3,V4,.int .i64 s0,.int .i64 p0,.int .i64 r0] rfl rfl _ _ (Blk.aW w1 32 #[.slice none 0 0,.slice none 0 0,.slice none 0 0,.slice none 0 0,.int .i64 0,.int .i64 0,.int .i64 0]) (by kernel_rfl) rfl (kC oF.one) ?_;intro w2 bO hg2)
   have oF2:=aB.alg oF (by decide) (by decide) (by decide) hg2;have oA2:=aD.vZ (oA.alloc (.cells #[.slice none 0 0,.slice none 0 0,.slice none 0 0,.slice none 0 0,.int .i64 0,.int .i64 0,.int .i64 0] 32)) (Blk.aW w1 32 #[.slice none 0 0,.slice none 0 0,.slice none 0 0,.slice none 0 0,.int .i64 0,.int .i64 0,.int .i64 0]) (by decide) hg2;have B2:=(hb1.al (.cells #[.slice none 0 0,.slice none 0 0,.slice none 0 0,.slice none 0 0,.int .i64 0,.int .i64 0,.int .i64 0] 32)).grown hg2 (hb1.al _).size (fun k hk=>by injection hk with hk;subst hk;exact hb1.size);have hgO:w.heap.size<=w1.heap.size:=hb1.size;clear oF oA hb1 hg2;obtain⟨gO,hgO'⟩:=Pj w1.heap.size;rw[<-hgO']at bO hgO⊢;clear hgO';have hr0:0<=r0:=(jU.1 HK0.out).2|>fun q=>by unfold inB at q;simp at q;omega
   obtain⟨y_0,y_1,y_2,y_3,y_4,y_5,y_6⟩:=bO.n7;go_wp2;go_loopw [5,6,7,8] (fun s5 s6 s7 s8 wr=>O0 w gO (.slice A al.length c) al s5 s6 s7 s8 wr) (fun _ _ _ i _=>al.length-(intOf i).toNat)
   case atStart=>exact⟨0,0,x0,s0,p0,r0,_,_,_,_,Nat.zero_le _,rfl,rfl,rfl,rfl,by simpa using hr0,HK0,HS0,oF2,bO,oA2,B2⟩
   case round=>
    clear y_0 y_1 y_2 y_3 y_4 y_5 y_6 oF2 bO oA2 B2 HK0 HS0 hr0;obtain⟨k,q,x,s,p,r,V1,V2,V3,V4,hk,rfl,rfl,rfl,rfl,hq,HK,HS,oF,bO,oA,B⟩:=hrel;by_cases hlt:k<al.length
    . obtain ⟨b, off, hA, hb, k0, k1, k2⟩ := (oA.rd CZ (by decide)).Fu hlt;have hx:=HAC.out al[k] (List.getElem_mem hlt);obtain⟨⟨ka,kb,kc⟩,hxk⟩:∃x,x=al[k]:=⟨_,rfl⟩;rw[<-hxk]at k0 k1 k2 hx;simp only at k0 k1 k2 hx;subst hA;have hki:(k:Int)<(al.length:Int):=(by omega);have hacc:=NZ HK.out hx;have hokz:=OU (ka,kb,kc) HK.out;have hsz2:=KX (y:=(x,s,p,r)) (ka,kb,kc) HS.out;have hrw:=Mr (ka,kb,kc) HK.out;have CI:∀w',Below wr.heap.size wr w'->Calls prog 41 #[.agg #[V1,V2,V3,V4,.int .i64 s,.int .i64 p,.int .i64 r],.agg #[.int .i64 ka,.int .i64 kb,.int .i64 kc]] w' (Av (fun v=> .tuple #[v,.int .i64 (wJ (x,s,p,r) (ka,kb,kc))]) (sZ (x,s,p,r) (ka,kb,kc)) w'):=fun w' hb=>I5 _ _ _ _ x s p r ka kb kc _ (oF.below hb).ra (oF.below hb).rb (oF.below hb).rc (oF.below hb).rd HS.out (HTB.out.below (B.tr hb))
      have CS:∀w',Below wr.heap.size wr w'->Calls prog 42 #[.agg #[V1,V2,V3,V4,.int .i64 s,.int .i64 p,.int .i64 r],.agg #[.int .i64 ka,.int .i64 kb,.int .i64 kc]] w' (Av (fun v=> .tuple #[v,.int .i64 (wJ (x,s,p,r) (ka,kb,kc))]) (sZ (x,s,p,r) (ka,kb,kc)) w'):=fun w' hb=>I6 _ _ _ _ x s p r ka kb kc _ (oF.below hb).ra (oF.below hb).rb (oF.below hb).rc (oF.below hb).rd HS.out
      obtain⟨⟨z,zs,zp,zr⟩,hz⟩:∃z,z=sZ (x,s,p,r) (ka,kb,kc):=⟨_,rfl⟩;obtain⟨m,hm⟩:=Pj (wJ (x,s,p,r) (ka,kb,kc));rw[<-hz,<-hm]at CI CS hacc;rw[<-hz]at hokz hsz2 hrw;simp only at hsz2 hrw hacc;have htl:=Jc (qO hokz);simp only at htl;rw[hrw]at htl;have HKz:=Pm hokz;have HSz:=Pm hsz2;have HTl:=Pm htl;have HAcc:=Pm hacc;have HI:=Pm CI;have HC:=Pm CS;have HX:=Pm hxk;clear hacc hokz hsz2 hrw htl hz hm hxk hx CI CS;obtain⟨y_0,y_1,y_2,y_3,y_4,y_5,y_6⟩:=bO.n7;have hgl:=bO.lt;have hbl:=hb;have Bw:Below wr.heap.size wr wr.drew:=(Below.refl _ _).drew;have hz:wr.heap.size<=wr.drew.heap.size:=(by simp);go_wp2_with fail
      apply MX (fun w5 gN E1 E2 E3 E4=>Below wr.heap.size wr w5/\Blk w5 gN 32 #[E1,E2,E3,E4,.int .i64 zs,.int .i64 zp,.int .i64 zr]/\aB wr.heap.size w5 E1 E2 E3 E4 z/\wr.heap.size<=gN)
      case main=>
       intro key;refine rB (fun w'=>w'.cell? ⟨gO,0,none⟩=some V1/\w'.cell? ⟨gO,1,none⟩=some V2/\w'.cell? ⟨gO,2,none⟩=some V3/\w'.cell? ⟨gO,3,none⟩=some V4/\w'.cell? ⟨gO,4,none⟩=some (.int .i64 s)/\w'.cell? ⟨gO,5,none⟩=some (.int .i64 p)/\w'.cell? ⟨gO,6,none⟩=some (.int .i64 r)/\w'.cell? ⟨b,off+k*3,none⟩=some (.int .i64 ka)/\w'.cell? ⟨b,off+k*3+1,none⟩=some (.int .i64 kb)/\w'.cell? ⟨b,off+k*3+2,none⟩=some (.int .i64 kc)) fun hHeld=>(tW 0)<|(tW 1)<|(tW 2)<|(tW 3)<|(tW 4)<|(tR [5,9])<|tC (fun K hK=>?_) ?_
       go_simp
       (go_at_call 41;go_must (refine(HI.out _ Bw).mono ?_;rintro e wX ⟨E1,E2,E3,E4,rfl,oT,hbX⟩;simp only at oT;have oT:=oT.mono hz;(try replace bM:=bM.bl hbX);obtain⟨hcX,hfX,hzX⟩:=bkn hbX wr.heap.size hz;have hz:=hzX;have Bw:=Bw.tr hbX))
       refine tK hK fun hHeld=>?_
       clear hK K;refine(tW 6)<|(tW 7)<|(tW 8)<|(tR [9])<|tL fun K hK=>?_
       (refine jH rfl 32 _ rfl zeroValue32 ?_;intro gM wX bM hbX hgN1 hgN2 hgN3;have hgM:wr.heap.size<=gM:=(by omega);obtain⟨hcX,hfX,hzX⟩:=bkn hbX wr.heap.size hz;replace hz:=hzX;replace Bw:=Bw.tr hbX;(try replace oT:=oT.below hbX);(try replace oM:=oM.below hbX))
       refine tK hK fun hHeld=>?_
       clear hK K;refine(tR [10])<|tL fun K hK=>?_
       (refine aF rfl 32 _ _ rfl gM #[E1,E2,E3,E4,.int .i64 zs,.int .i64 zp,.int .i64 zr] rfl rfl _ _ bM (by kernel_rfl) rfl (kC oT.one) ?_;intro wX bM5 hgX;have oT5:=aB.bZ oT bM (by decide) (by decide) (by decide) hgX;replace Bw:=Bw.grown hgX hz (fun k hk=>by injection hk with hk;subst hk;omega);obtain⟨hcX,hfX,hzX⟩:=bk Bw;have hz:=hzX)
       refine tK hK fun hHeld=>?_
       clear hK K;refine(tW 11)<|tD ?_
       rotate_left 1
       refine tL fun K hK=>?_
       (refine jH rfl 32 _ rfl zeroValue32 ?_;intro gM wX bM hbX hgN1 hgN2 hgN3;have hgM:wr.heap.size<=gM:=(by omega);obtain⟨hcX,hfX,hzX⟩:=bkn hbX wr.heap.size hz;replace hz:=hzX;replace Bw:=Bw.tr hbX;(try replace oT:=oT.below hbX);(try replace oM:=oM.below hbX))
       refine tK hK fun hHeld=>?_
       clear hK K;refine(tR [5])<|tL fun K hK=>?_
       go_simp
       (go_at_call 41;go_must (refine(HI.out _ Bw).mono ?_;rintro e wX ⟨E1,E2,E3,E4,rfl,oT,hbX⟩;simp only at oT;have oT:=oT.mono hz;(try replace bM:=bM.bl hbX);obtain⟨hcX,hfX,hzX⟩:=bkn hbX wr.heap.size hz;have hz:=hzX;have Bw:=Bw.tr hbX))
       refine tK hK fun hHeld=>?_
       clear hK K;refine(tW 6)<|(tW 7)<|(tW 8)<|(tR [10])<|tL fun K hK=>?_
       (refine aF rfl 32 _ _ rfl gM #[E1,E2,E3,E4,.int .i64 zs,.int .i64 zp,.int .i64 zr] rfl rfl _ _ bM (by kernel_rfl) rfl (kC oT.one) ?_;intro wX bM5 hgX;have oT5:=aB.bZ oT bM (by decide) (by decide) (by decide) hgX;replace Bw:=Bw.grown hgX hz (fun k hk=>by injection hk with hk;subst hk;omega);obtain⟨hcX,hfX,hzX⟩:=bk Bw;have hz:=hzX)
       refine tK hK fun hHeld=>?_
       clear hK K;refine(tW 11)<|tD ?_
       all_goals
         have hh:=key wX gM E1 E2 E3 E4 ⟨Bw,bM5,oT5,hgM⟩;exact hh
      case tail=>
       rintro w5 gN E1 E2 E3 E4 ⟨D5,bN5,oN5,hgN⟩;clear y_0 y_1 y_2 y_3 y_4 y_5 y_6 k0 k1 k2 hz Bw hgl hbl hb;have bO5:=bO.bl D5;have oA5:=oA.below D5;obtain⟨b',off',hA,hb,k0,k1,k2⟩:=(oA5.rd CZ (by decide)).Fu hlt;injection hA with hA;injection hA with hA1 hA2;subst hA1;subst hA2;rw[<-HX.out]at k0 k1 k2;simp only at k0 k1 k2;obtain⟨y_0,y_1,y_2,y_3,y_4,y_5,y_6⟩:=bO5.n7;have hgl:=bO5.lt;have hbl:=hb;go_upto_region 11 with(fail)
       have Bw:Below w5.heap.size w5 w5.drew:=(Below.refl _ _).drew;have hz:w5.heap.size<=w5.drew.heap.size:=(by simp);apply MX (fun w6 gW D1 D2 D3 D4=>Below w5.heap.size w5 w6/\Blk w6 gW 32 #[D1,D2,D3,D4,.int .i64 zs,.int .i64 zp,.int .i64 zr]/\aB w5.heap.size w6 D1 D2 D3 D4 z)
       case main=>
        intro key;refine rB (fun w'=>w'.cell? ⟨gO,0,none⟩=some V1/\w'.cell? ⟨gO,1,none⟩=some V2/\w'.cell? ⟨gO,2,none⟩=some V3/\w'.cell? ⟨gO,3,none⟩=some V4/\w'.cell? ⟨gO,4,none⟩=some (.int .i64 s)/\w'.cell? ⟨gO,5,none⟩=some (.int .i64 p)/\w'.cell? ⟨gO,6,none⟩=some (.int .i64 r)/\w'.cell? ⟨b,off+k*3,none⟩=some (.int .i64 ka)/\w'.cell? ⟨b,off+k*3+1,none⟩=some (.int .i64 kb)/\w'.cell? ⟨b,off+k*3+2,none⟩=some (.int .i64 kc)) fun hHeld=>(tW 0)<|(tW 1)<|(tW 2)<|(tW 3)<|(tW 4)<|(tR [5,9])<|tC (fun K hK=>?_) ?_
        go_simp
        (go_at_call 42;go_must (refine(HC.out _ (D5.tr Bw)).mono ?_;rintro e wX ⟨D1,D2,D3,D4,rfl,oT,hbX⟩;simp only at oT;have oT:=oT.mono hz;(try replace bM:=bM.bl hbX);obtain⟨hcX,hfX,hzX⟩:=bkn hbX w5.heap.size hz;have hz:=hzX;have Bw:=Bw.tr hbX))
        refine tK hK fun hHeld=>?_
        clear hK K;refine(tW 6)<|(tW 7)<|(tW 8)<|(tR [9])<|tL fun K hK=>?_
        (refine jH rfl 32 _ rfl zeroValue32 ?_;intro gM wX bM hbX hgN1 hgN2 hgN3;have hgM:w5.heap.size<=gM:=(by omega);obtain⟨hcX,hfX,hzX⟩:=bkn hbX w5.heap.size hz;replace hz:=hzX;replace Bw:=Bw.tr hbX;(try replace oT:=oT.below hbX);(try replace oM:=oM.below hbX))
        refine tK hK fun hHeld=>?_
        clear hK K;refine(tR [10])<|tL fun K hK=>?_
        (refine aF rfl 32 _ _ rfl gM #[D1,D2,D3,D4,.int .i64 zs,.int .i64 zp,.int .i64 zr] rfl rfl _ _ bM (by kernel_rfl) rfl (kC oT.one) ?_;intro wX bM5 hgX;have oT5:=aB.bZ oT bM (by decide) (by decide) (by decide) hgX;replace Bw:=Bw.grown hgX hz (fun k hk=>by injection hk with hk;subst hk;omega);obtain⟨hcX,hfX,hzX⟩:=bk Bw;have hz:=hzX)
        refine tK hK fun hHeld=>?_
        clear hK K;refine(tW 11)<|tD ?_
        rotate_left 1
        refine tL fun K hK=>?_
        (refine jH rfl 32 _ rfl zeroValue32 ?_;intro gM wX bM hbX hgN1 hgN2 hgN3;have hgM:w5.heap.size<=gM:=(by omega);obtain⟨hcX,hfX,hzX⟩:=bkn hbX w5.heap.size hz;replace hz:=hzX;replace Bw:=Bw.tr hbX;(try replace oT:=oT.below hbX);(try replace oM:=oM.below hbX))
        refine tK hK fun hHeld=>?_
        clear hK K;refine(tR [5])<|tL fun K hK=>?_
        go_simp
        (go_at_call 42;go_must (refine(HC.out _ (D5.tr Bw)).mono ?_;rintro e wX ⟨D1,D2,D3,D4,rfl,oT,hbX⟩;simp only at oT;have oT:=oT.mono hz;(try replace bM:=bM.bl hbX);obtain⟨hcX,hfX,hzX⟩:=bkn hbX w5.heap.size hz;have hz:=hzX;have Bw:=Bw.tr hbX))
        refine tK hK fun hHeld=>?_
        clear hK K;refine(tW 6)<|(tW 7)<|(tW 8)<|(tR [10])<|tL fun K hK=>?_
        (refine aF rfl 32 _ _ rfl gM #[D1,D2,D3,D4,.int .i64 zs,.int .i64 zp,.int .i64 zr] rfl rfl _ _ bM (by kernel_rfl) rfl (kC oT.one) ?_;intro wX bM5 hgX;have oT5:=aB.bZ oT bM (by decide) (by decide) (by decide) hgX;replace Bw:=Bw.grown hgX hz (fun k hk=>by injection hk with hk;subst hk;omega);obtain⟨hcX,hfX,hzX⟩:=bk Bw;have hz:=hzX)
        refine tK hK fun hHeld=>?_
        clear hK K;refine(tW 11)<|tD ?_
        all_goals
          have hh:=key wX gM D1 D2 D3 D4 ⟨Bw,bM5,oT5⟩;exact hh
       case tail=>
        rintro w6 gW D1 D2 D3 D4 ⟨Bv,bM5,oT5⟩;have D6:=D5.tr Bv;have bN6:=bN5.bl Bv;have oN6:=oN5.below Bv;have bW6:=bM5;have hW5:w.heap.size<=w5.heap.size:=Nat.le_trans B.size D5.size;have oW6:=oT5.mono hW5;have bO6:=bO5.bl Bv;have oA6:=oA5.below Bv;have oF6:=oF.below D6;have B6:=B.tr D6;clear y_0 y_1 y_2 y_3 y_4 y_5 y_6 k0 k1 k2 hz Bw Bv bM5 oT5 hgl hbl hb bN5 oN5 bO5 oA5 D5 D6 hgN hW5 HI HC oF bO oA B;have K0:=Below.refl w6.heap.size w6;obtain⟨y_0,y_1,y_2,y_3,y_4,y_5,y_6⟩:=(bO6.bl K0).n7;obtain⟨n_0,n_1,n_2,n_3,n_4,n_5,n_6⟩:=(bN6.bl K0).n7;obtain⟨t_0,t_1,t_2,t_3,t_4,t_5,t_6⟩:=(bW6.bl K0).n7;go_wp2_with fail
        refine(MW HKz.out HSz.out (oN6.below K0).r4).mono ?_;rintro e wa ⟨rfl,hb⟩;have K1:=K0.tr hb;clear hb K0 y_0 y_1 y_2 y_3 y_4 y_5 y_6 n_0 n_1 n_2 n_3 n_4 n_5 n_6 t_0 t_1 t_2 t_3 t_4 t_5 t_6;obtain⟨y_0,y_1,y_2,y_3,y_4,y_5,y_6⟩:=(bO6.bl K1).n7;obtain⟨n_0,n_1,n_2,n_3,n_4,n_5,n_6⟩:=(bN6.bl K1).n7;obtain⟨t_0,t_1,t_2,t_3,t_4,t_5,t_6⟩:=(bW6.bl K1).n7;go_wp2_with fail
        refine(lJ _ _ z.2.2.1 _ (oN6.below K1).rc (oW6.below K1).rc).mono ?_;rintro e wb ⟨rfl,hb⟩;have K2:=K1.tr hb;clear hb K1 y_0 y_1 y_2 y_3 y_4 y_5 y_6 n_0 n_1 n_2 n_3 n_4 n_5 n_6 t_0 t_1 t_2 t_3 t_4 t_5 t_6;obtain⟨y_0,y_1,y_2,y_3,y_4,y_5,y_6⟩:=(bO6.bl K2).n7;obtain⟨n_0,n_1,n_2,n_3,n_4,n_5,n_6⟩:=(bN6.bl K2).n7;obtain⟨t_0,t_1,t_2,t_3,t_4,t_5,t_6⟩:=(bW6.bl K2).n7;go_wp2_with fail
        refine(N8 HTl.out (oF6.below K2).ra (oN6.below K2).rc).mono ?_;rintro e wc ⟨rfl,hb⟩;have K3:=K2.tr hb;clear hb K2 y_0 y_1 y_2 y_3 y_4 y_5 y_6 n_0 n_1 n_2 n_3 n_4 n_5 n_6 t_0 t_1 t_2 t_3 t_4 t_5 t_6;obtain⟨y_0,y_1,y_2,y_3,y_4,y_5,y_6⟩:=(bO6.bl K3).n7;obtain⟨n_0,n_1,n_2,n_3,n_4,n_5,n_6⟩:=(bN6.bl K3).n7;obtain⟨t_0,t_1,t_2,t_3,t_4,t_5,t_6⟩:=(bW6.bl K3).n7;go_wp2_with fail
        refine(N7 HKz.out HSz.out (oN6.below K3).r4).mono ?_;rintro e w7 ⟨rfl,hb⟩;have K4:=K3.tr hb;clear hb K3 y_0 y_1 y_2 y_3 y_4 y_5 y_6 n_0 n_1 n_2 n_3 n_4 n_5 n_6 t_0 t_1 t_2 t_3 t_4 t_5 t_6;have bW7:=bW6.bl K4;have oW7:=oW6.below K4;have bO7:=bO6.bl K4;have oA7:=oA6.below K4;have B7:=B6.tr K4;clear bN6 oN6 bW6 oW6 bO6 oA6 oF6 B6 K4;obtain⟨b',off',hA,hb,k0,k1,k2⟩:=(oA7.rd CZ (by decide)).Fu hlt;injection hA with hA;injection hA with hA1 hA2;subst hA1;subst hA2;rw[<-HX.out]at k0 k1 k2;simp only at k0 k1 k2;obtain⟨t_0,t_1,t_2,t_3,t_4,t_5,t_6⟩:=bW7.n7;rcases HAcc.out with⟨rfl,rfl,hq2⟩|⟨rfl,hm0,hs1,hq2⟩|⟨n3,n2,hq2⟩
        . obtain⟨⟨t1,t2⟩,ht⟩:∃t,t=hold sam (chosen sam kb):=⟨_,rfl⟩;rw[<-ht]at hq2;simp only at hq2;injection hq2 with e1 e2;injection e2 with e2 e3;have He1:=Pm e1;have He2:=Pm e2;have He3:=Pm e3;have Ht:=Pm ht.symm;clear e1 e2 e3 ht t_0 t_1 t_2 t_3 t_4 t_5 t_6;have hbl:=hb;go_upto_region 15 with(fail)
          have Bw:Below w7.heap.size w7 w7.drew:=(Below.refl _ _).drew;have hz:w7.heap.size<=w7.drew.heap.size:=(by simp);refine rB (fun w'=>w'.cell? ⟨b,off+k*3+1,none⟩=some (.int .i64 kb)) fun hHeld=>(tW 2)<|(tW 3)<|(tW 4)<|(tW 5)<|(tW 6)<|(tR [0])<|tL fun K hK=>?_
          go_simp
          (first|(go_at_call 45;go_must (refine(Oj _).mono ?_;rintro e wX ⟨A3,a3,rfl,oQ,hbX⟩;(first|(replace oQ1:=oQ1.below hbX;have oQ2:=oQ)|have oQ1:=oQ);(try replace oC:=oC.below hbX);obtain⟨hcX,hfX,hzX⟩:=bkn hbX w7.heap.size hz;have hz:=hzX;have Bw:=Bw.tr hbX))|(go_at_call 46;go_must (refine(nG _ sam kb _ (by first|exact oQ1.rd fQ (by decide)|exact oQ2.rd fQ (by decide))).mono ?_;rintro e wX ⟨A5,a5,rfl,oC,hbX⟩;(try replace oQ1:=oQ1.below hbX);(try replace oQ2:=oQ2.below hbX);obtain⟨hcX,hfX,hzX⟩:=bkn hbX w7.heap.size hz;have hz:=hzX;have Bw:=Bw.tr hbX))|(go_at_call 44;go_must (refine(Ol _ _ kb t1 t2 Ht.out _ (by first|exact oQ1.rd fQ (by decide)|exact oQ2.rd fQ (by decide)) (oC.rd aJ (by decide))).mono ?_;rintro e wX ⟨rfl,hbX⟩;obtain⟨hcX,hfX,hzX⟩:=bkn hbX w7.heap.size hz;have hz:=hzX;have Bw:=Bw.tr hbX)))
          refine tK hK fun hHeld=>?_
          clear hK K;refine(tR [1])<|tL fun K hK=>?_
          go_simp
          (first|(go_at_call 45;go_must (refine(Oj _).mono ?_;rintro e wX ⟨A3,a3,rfl,oQ,hbX⟩;(first|(replace oQ1:=oQ1.below hbX;have oQ2:=oQ)|have oQ1:=oQ);(try replace oC:=oC.below hbX);obtain⟨hcX,hfX,hzX⟩:=bkn hbX w7.heap.size hz;have hz:=hzX;have Bw:=Bw.tr hbX))|(go_at_call 46;go_must (refine(nG _ sam kb _ (by first|exact oQ1.rd fQ (by decide)|exact oQ2.rd fQ (by decide))).mono ?_;rintro e wX ⟨A5,a5,rfl,oC,hbX⟩;(try replace oQ1:=oQ1.below hbX);(try replace oQ2:=oQ2.below hbX);obtain⟨hcX,hfX,hzX⟩:=bkn hbX w7.heap.size hz;have hz:=hzX;have Bw:=Bw.tr hbX))|(go_at_call 44;go_must (refine(Ol _ _ kb t1 t2 Ht.out _ (by first|exact oQ1.rd fQ (by decide)|exact oQ2.rd fQ (by decide)) (oC.rd aJ (by decide))).mono ?_;rintro e wX ⟨rfl,hbX⟩;obtain⟨hcX,hfX,hzX⟩:=bkn hbX w7.heap.size hz;have hz:=hzX;have Bw:=Bw.tr hbX)))
          refine tK hK fun hHeld=>?_
          clear hK K;refine(tR [7])<|tL fun K hK=>?_
          go_simp
          (first|(go_at_call 45;go_must (refine(Oj _).mono ?_;rintro e wX ⟨A3,a3,rfl,oQ,hbX⟩;(first|(replace oQ1:=oQ1.below hbX;have oQ2:=oQ)|have oQ1:=oQ);(try replace oC:=oC.below hbX);obtain⟨hcX,hfX,hzX⟩:=bkn hbX w7.heap.size hz;have hz:=hzX;have Bw:=Bw.tr hbX))|(go_at_call 46;go_must (refine(nG _ sam kb _ (by first|exact oQ1.rd fQ (by decide)|exact oQ2.rd fQ (by decide))).mono ?_;rintro e wX ⟨A5,a5,rfl,oC,hbX⟩;(try replace oQ1:=oQ1.below hbX);(try replace oQ2:=oQ2.below hbX);obtain⟨hcX,hfX,hzX⟩:=bkn hbX w7.heap.size hz;have hz:=hzX;have Bw:=Bw.tr hbX))|(go_at_call 44;go_must (refine(Ol _ _ kb t1 t2 Ht.out _ (by first|exact oQ1.rd fQ (by decide)|exact oQ2.rd fQ (by decide)) (oC.rd aJ (by decide))).mono ?_;rintro e wX ⟨rfl,hbX⟩;obtain⟨hcX,hfX,hzX⟩:=bkn hbX w7.heap.size hz;have hz:=hzX;have Bw:=Bw.tr hbX)))
          refine tK hK fun hHeld=>?_
          clear hK K;refine(tR [8])<|tL fun K hK=>?_
          go_simp
          (first|(go_at_call 45;go_must (refine(Oj _).mono ?_;rintro e wX ⟨A3,a3,rfl,oQ,hbX⟩;(first|(replace oQ1:=oQ1.below hbX;have oQ2:=oQ)|have oQ1:=oQ);(try replace oC:=oC.below hbX);obtain⟨hcX,hfX,hzX⟩:=bkn hbX w7.heap.size hz;have hz:=hzX;have Bw:=Bw.tr hbX))|(go_at_call 46;go_must (refine(nG _ sam kb _ (by first|exact oQ1.rd fQ (by decide)|exact oQ2.rd fQ (by decide))).mono ?_;rintro e wX ⟨A5,a5,rfl,oC,hbX⟩;(try replace oQ1:=oQ1.below hbX);(try replace oQ2:=oQ2.below hbX);obtain⟨hcX,hfX,hzX⟩:=bkn hbX w7.heap.size hz;have hz:=hzX;have Bw:=Bw.tr hbX))|(go_at_call 44;go_must (refine(Ol _ _ kb t1 t2 Ht.out _ (by first|exact oQ1.rd fQ (by decide)|exact oQ2.rd fQ (by decide)) (oC.rd aJ (by decide))).mono ?_;rintro e wX ⟨rfl,hbX⟩;obtain⟨hcX,hfX,hzX⟩:=bkn hbX w7.heap.size hz;have hz:=hzX;have Bw:=Bw.tr hbX)))
          refine tK hK fun hHeld=>?_
          clear hK K;refine(tW 9)<|(tW 10)<|(tW 11)<|(tW 12)<|(tW 13)<|tD ?_
          all_goals
            obtain⟨w8,rfl⟩:=Pj wX;have Bv:=Bw;have bW8:=bW7.bl Bv;have oW8:=oW7.below Bv;have bO8:=bO7.bl Bv;have oA8:=oA7.below Bv;have B8:=B7.tr Bv;clear k0 k1 k2 hb hbl hHeld hcX hfX hzX hz oQ1 oQ2 oC Bw Bv bW7 oW7 bO7 oA7 B7;obtain⟨b',off',hA,hb,k0,k1,k2⟩:=(oA8.rd CZ (by decide)).Fu hlt;injection hA with hA;injection hA with hA1 hA2;subst hA1;subst hA2;rw[<-HX.out]at k0 k1 k2;simp only at k0 k1 k2;obtain⟨t_0,t_1,t_2,t_3,t_4,t_5,t_6⟩:=bW8.n7;go_wp2_with (refine aA rfl 32 _ _ rfl gO #[D1,D2,D3,D4,.int .i64 zs,.int .i64 zp,.int .i64 zr] rfl rfl _ _ bO8 (by kernel_rfl) rfl (kC oW8.one) ?_;intro w9 bO9 hg9)
            have oW9:=aB.bZ oW8 bO8 (by decide) (by decide) (by decide) hg9;have oA9:=aD.vZ oA8 bO8 (by decide) hg9;have B9:=B8.grown hg9 B8.size (fun k hk=>by injection hk with hk;subst hk;exact hgO);go_roundw
            case rel=>exact⟨k+1,q,z,zs,zp,zr,_,_,_,_,by omega,by rw[He1.out,IntKind.wrap_i64];unfold wrap64;rfl,by rw[He2.out,IntKind.wrap_i64];unfold wrap64;rfl,rfl,by go_num,by rw[He3.out];exact hq,HKz,HSz,oW9,bO9,oA9,B9⟩
            case measure=>simp[intOf];omega
        . injection hq2 with e1 e2;injection e2 with e2 e3;have hin:=(jU.1 HK.out).2;have hr2:r<=10000/\s<=10000:=by unfold inB at hin;simp at hin;omega
          clear hin;have w1':IntKind.i64.wrap (s-1)=s-1:=IntWalk.i64_in _ (by omega);have w2':IntKind.i64.wrap ((q:Int)+1)=(q:Int)+1:=IntWalk.i64_in _ (by omega);have He1:=Pm e1;have He2:=Pm e2;have He3:=Pm e3;clear e1 e2 e3;go_wp2_with (refine aA rfl 32 _ _ rfl gO #[D1,D2,D3,D4,.int .i64 zs,.int .i64 zp,.int .i64 zr] rfl rfl _ _ bO7 (by kernel_rfl) rfl (kC oW7.one) ?_;intro w9 bO9 hg9)
          have oW9:=aB.bZ oW7 bO7 (by decide) (by decide) (by decide) hg9;have oA9:=aD.vZ oA7 bO7 (by decide) hg9;have B9:=B7.grown hg9 B7.size (fun k hk=>by injection hk with hk;subst hk;exact hgO);go_roundw
          case rel=>exact⟨k+1,q+1,z,zs,zp,zr,_,_,_,_,by omega,by rw[He1.out],by rw[He2.out],by go_num,by go_num,by rw[He3.out];omega,HKz,HSz,oW9,bO9,oA9,B9⟩
          case measure=>simp[intOf];omega
        . injection hq2 with e1 e2;injection e2 with e2 e3;have He1:=Pm e1;have He2:=Pm e2;have He3:=Pm e3;clear e1 e2 e3;by_cases h3:ka=3
          . subst h3;have hm1:¬m=1:=fun e=>n3 ⟨rfl,e⟩
            clear n3 n2;go_wp2_with (refine aA rfl 32 _ _ rfl gO #[D1,D2,D3,D4,.int .i64 zs,.int .i64 zp,.int .i64 zr] rfl rfl _ _ bO7 (by kernel_rfl) rfl (kC oW7.one) ?_;intro w9 bO9 hg9)
            have oW9:=aB.bZ oW7 bO7 (by decide) (by decide) (by decide) hg9;have oA9:=aD.vZ oA7 bO7 (by decide) hg9;have B9:=B7.grown hg9 B7.size (fun k hk=>by injection hk with hk;subst hk;exact hgO);go_roundw
            case rel=>exact⟨k+1,q,z,zs,zp,zr,_,_,_,_,by omega,by rw[He1.out],by rw[He2.out],rfl,by go_num,by rw[He3.out];exact hq,HKz,HSz,oW9,bO9,oA9,B9⟩
            case measure=>simp[intOf];omega
          . have f3:(ka==3)=false:=beq_false_of_ne h3;by_cases h2:ka=2
            . subst h2;have hm1:¬0<=m:=fun e=>n2 ⟨rfl,e⟩
              clear n3 n2;go_wp2_with (refine aA rfl 32 _ _ rfl gO #[D1,D2,D3,D4,.int .i64 zs,.int .i64 zp,.int .i64 zr] rfl rfl _ _ bO7 (by kernel_rfl) rfl (kC oW7.one) ?_;intro w9 bO9 hg9)
              have oW9:=aB.bZ oW7 bO7 (by decide) (by decide) (by decide) hg9;have oA9:=aD.vZ oA7 bO7 (by decide) hg9;have B9:=B7.grown hg9 B7.size (fun k hk=>by injection hk with hk;subst hk;exact hgO);go_roundw
              case rel=>exact⟨k+1,q,z,zs,zp,zr,_,_,_,_,by omega,by rw[He1.out],by rw[He2.out],rfl,by go_num,by rw[He3.out];exact hq,HKz,HSz,oW9,bO9,oA9,B9⟩
              case measure=>simp[intOf];omega
            . have f2:(ka==2)=false:=beq_false_of_ne h2;clear n3 n2;go_wp2_with (refine aA rfl 32 _ _ rfl gO #[D1,D2,D3,D4,.int .i64 zs,.int .i64 zp,.int .i64 zr] rfl rfl _ _ bO7 (by kernel_rfl) rfl (kC oW7.one) ?_;intro w9 bO9 hg9)
              have oW9:=aB.bZ oW7 bO7 (by decide) (by decide) (by decide) hg9;have oA9:=aD.vZ oA7 bO7 (by decide) hg9;have B9:=B7.grown hg9 B7.size (fun k hk=>by injection hk with hk;subst hk;exact hgO);go_roundw
              case rel=>exact⟨k+1,q,z,zs,zp,zr,_,_,_,_,by omega,by rw[He1.out],by rw[He2.out],rfl,by go_num,by rw[He3.out];exact hq,HKz,HSz,oW9,bO9,oA9,B9⟩
              case measure=>simp[intOf];omega
    . obtain rfl : k = al.length := by omega
      obtain⟨y_0,y_1,y_2,y_3,y_4,y_5,y_6⟩:=bO.n7;have CU:=wV _ _ _ _ x wr oF.ra oF.rb oF.rc oF.rd HS.out;have HU:=Pm (yP (qO HK.out));have hfc:=Gj (qO HK.out);simp only at HU hfc;obtain⟨xu,hxu⟩:=Pj (eB x);rw[<-hxu]at CU HU;clear hxu;go_wp2_with fail
      refine CU.mono ?_;rintro e w3 ⟨A1,a1,A2,a2,A3,a3,A4,a4,rfl,oU,hb3⟩;clear y_0 y_1 y_2 y_3 y_4 y_5 y_6 CU;go_upto_region 23 with(refine aA rfl 30 _ _ rfl w3.heap.size #[.slice A1 xu.1.length a1,.slice A2 xu.2.1.length a2,.slice A3 xu.2.2.1.length a3,.slice A4 xu.2.2.2.length a4] rfl rfl _ _ (Blk.aW w3 30 #[.slice none 0 0,.slice none 0 0,.slice none 0 0,.slice none 0 0]) (by kernel_rfl) rfl (OZ oU.one) ?_;intro w4 bU hg4)
      have oU4:=aB.alg oU (by decide) (by decide) (by decide) hg4;have D4:=hb3.tr (alT hg4);have bO4:=bO.bl D4;have oF4:=oF.below D4;have B4:=B.tr D4;clear oU hb3 hg4 bO oF D4;obtain⟨gU,hgU⟩:=Pj w3.heap.size;rw[<-hgU]at bU⊢;clear hgU;obtain⟨y_0,y_1,y_2,y_3,y_4,y_5,y_6⟩:=bO4.n7;obtain⟨u_0,u_1,u_2,u_3⟩:=bU.n4;have hgl:=bO4.lt;have hgu:=bU.lt;have hql:decide ((q:Int)<=r)=true:=decide_eq_true hq;obtain⟨C,hC⟩:∃C:Nat,C=(dW x.1).length:=⟨_,rfl⟩;have hC64:=tJ x.1;rw[<-hC]at hC64 hfc;have eC:IntKind.i64.wrap (2*(xu.2.2.1.length:Int))=(C:Int):=by rw[HU.out,IntWalk.i64_in _ (by omega)];omega
      have CC:∀W,Below w4.heap.size w4 W->Calls prog 47 #[.agg #[V1]] W (Ret (.int .i64 (C:Int)) W):=fun W hb=>by rw[hC];exact nI V1 x.1 W (oF4.below hb).ra
      have HCC:=Pm CC;clear CC hfc hC hC64;have Bw:Below w4.heap.size w4 w4.drew:=(Below.refl _ _).drew;have hz:w4.heap.size<=w4.drew.heap.size:=(by simp);go_region_held3 (fun w'=>w'.cell? ⟨gO,0,none⟩=some V1/\w'.cell? ⟨gO,1,none⟩=some V2/\w'.cell? ⟨gO,2,none⟩=some V3/\w'.cell? ⟨gO,3,none⟩=some V4/\w'.cell? ⟨gO,4,none⟩=some (.int .i64 s)/\w'.cell? ⟨gO,5,none⟩=some (.int .i64 p)/\w'.cell? ⟨gO,6,none⟩=some (.int .i64 r)/\w'.cell? ⟨gU,2,none⟩=some (.slice A3 xu.2.2.1.length a3)) (go_keep) (first|(go_at_call 16;go_must (refine(MW HK.out HS.out (oF4.below Bw).r4).mono ?_;rintro e wX ⟨rfl,hbX⟩;obtain⟨hcX,hfX,hzX⟩:=bkn hbX w4.heap.size hz;have hz:=hzX;have Bw:=Bw.tr hbX);(try go_wp2_with fail))|(go_at_call 31;go_must (refine(lJ _ _ x.2.1 _ (IA (oU4.below Bw).rc HU.out) (oF4.below Bw).rb).mono ?_;rintro e wX ⟨rfl,hbX⟩;obtain⟨hcX,hfX,hzX⟩:=bkn hbX w4.heap.size hz;have hz:=hzX;have Bw:=Bw.tr hbX);(try go_wp2_with fail))|(go_at_call 47;go_must (refine(HCC.out _ Bw).mono ?_;rintro e wX ⟨rfl,hbX⟩;obtain⟨hcX,hfX,hzX⟩:=bkn hbX w4.heap.size hz;have hz:=hzX;have Bw:=Bw.tr hbX);(try go_wp2_with fail)))
      all_goals
        go_wp2;go_ret;exact⟨rfl,B4.tr Bw⟩
end Go.Proofs.YtljfoohaapckeaaGreatDoor
