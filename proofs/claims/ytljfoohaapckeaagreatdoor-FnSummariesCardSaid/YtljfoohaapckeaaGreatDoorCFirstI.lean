/- The first tiling, by the program: the walk. No conditions. -/
import Derived.Test.YtljfoohaapckeaaGreatDoorCG29
open _root_.Go.Proofs.Tryz (prog func86 ntmps86)
namespace Go.Proofs.YtljfoohaapckeaaGreatDoor
open Go.ChangeShapes Go.WideShapes Go.ChangeAt Go.RowKit
set_option linter.unusedVariables false
set_option linter.unusedSimpArgs false
set_option maxHeartbeats 4000000
set_option maxRecDepth 100000
def dD (rows:List Int):List Dm:=if aU rows=0 then[]else firstT (setOf rows)
def lZ (rows:List Int):Bool:=decide (aU rows≠0)
theorem nO (rows:List Int):(dD rows).length<=64:=by
 unfold dD;split
 . simp
 . exact yL _
def NN (l:List Dm) (b:Bool) (w:World) (e:Ending) (w':World):Prop:=∃A c,e= .returned (.tuple #[.slice A l.length c,.bool b])/\aC 60 3 aV w.heap.size w' (.slice A l.length c) l/\Below w.heap.size w w'
theorem lS {P:Program} {ops:Array Oper} {rest:List Oper} {o:Oper} {a:Act} {Q:Exit->Act->World->Prop} {α:Type} {t E:TypeId} {z:Value} {size bytes:Nat} (R:Row P t E z size bytes)
    {enc:α->List Value} (henc:∀x,(enc x).length=size) (h1:∀x,∀u∈enc x,u.oneCell'=true)
    {W0 w:World} (hbel:Below W0.heap.size W0 w) {v:Value} {l:List α} (hown:aC E size enc W0.heap.size w v l) (y:α)
    (hlen:(l.length+1)*bytes<=140737488355328) (hlen2:l.length+1<=maxLen) {g:Nat} (hg:g=w.heap.size)
    (hgd:o.guard=none) (s x:Operand) (ho:o.op= .call {callee:= .builtin .append,args:= #[s,x],argTypes:= #[t,t]})
    (hs:a.eval s=v) (hx:a.eval x= .slice (some ⟨g,0,none⟩) 1 1)
    (h:∀v' w',aC E size enc W0.heap.size w' v' (l++[y])->Below W0.heap.size W0 w'->(w.alloc (.cells (enc y).toArray E)).grownBy w' v.ownBlock->(v'.ownBlock=v.ownBlock∨v'.ownBlock=some (w.heap.size+1))->wpList P ops Q rest (a.put o.dst v') w'):
    wpList P ops Q (o::rest) a (w.alloc (.cells (enc y).toArray E)):=by
 subst hg;exact aH R henc h1 hbel hown y hlen hlen2 hgd s x ho hs hx h
theorem OQ {s i:Nat} (hs:s<U64):(bits .and .u64 ((s:Int)/2^i) 1==0)= !s.testBit i:=by
 have e:(s:Int)/2^i=((s/2^i:Nat):Int):=(by simp);have h1:s/2^i<18446744073709551616:=Nat.lt_of_le_of_lt (Nat.div_le_self _ _) (by unfold U64 at hs;exact hs);have h2:=u64_and_nat (s/2^i) 1 h1 (by decide);rw[e,show(1:Int)=((1:Nat):Int) from rfl,h2,nat_mask1,Nat.testBit_eq_decide_div_mod_eq];rw[Bool.eq_iff_iff,beq_iff_eq,Bool.not_eq_true',decide_eq_false_iff_not];omega
theorem Ep (s i x y:Nat) (w:World) (hs:s<U64) (Hl:Hid (rT s i)) (Hx:Hid (x=i%8)) (Hy:Hid (y=i/8)):Calls prog 141 #[.int .u64 s] w (Ret (.agg #[.int .i64 x,.int .i64 y]) w):=by
 have hi:=Hl.out.1;have hA:=(Below.refl w.heap.size w).al (.cells #[.int .i64 0,.int .i64 0] 70);have bR:=Blk.aY w 70 #[.int .i64 0,.int .i64 0];go_enter Tryz.func141,Tryz.ntmps141
 go_wp2_with fail
 go_loop [3] (fun s3=>∃k:Nat,k<=i/\s3= .int .i64 k) (fun s3=>i-(intOf s3).toNat)
 case atStart=>exact⟨0,by omega,rfl⟩
 case round=>
  obtain⟨k,hk,rfl⟩:=hrel;have hbit:=OQ (i:=k) hs;by_cases hlt:k<i
  . have hb:s.testBit k=false:=Hl.out.2.2 k hlt;rw[hb]at hbit;have Hb:=SQ hb;clear hb;go_wp2;go_round
    case rel=>exact⟨k+1,by omega,by go_num⟩
    case measure=>simp[intOf];omega
  . obtain rfl : k = i := by omega
    have hb:=Hl.out.2.1;rw[hb]at hbit;have Hb:=SQ hb;clear hb;go_wp2_with fail
    refine(BL k x y _ (by omega) Hx.out Hy.out).mono ?_;rintro e w1 ⟨rfl,hb1⟩;have bR1:=bR.bl hb1;have B1:=hA.tr hb1;obtain⟨gR,hgR'⟩:=SL w.heap.size;have hgR:w.heap.size<=gR:=(by omega);rw[<-hgR']at bR1⊢;clear hgR' bR;obtain⟨z_0,z_1⟩:=bR1.n2;have fR:=fun j=>bR1.frozen j
    have bE:=(bR1.st 0 (.int .i64 x) #[.int .i64 x,.int .i64 0] rfl).st 1 (.int .i64 y) #[.int .i64 x,.int .i64 y] rfl;have BE:=(B1.st ⟨gR,0,none⟩ (.int .i64 x) hgR).st ⟨gR,1,none⟩ (.int .i64 y) hgR;go_wp2;obtain⟨q_0,q_1⟩:=bE.n2;exact bodyPost_ret (v:= .agg #[.int .i64 x,.int .i64 y]) (by simp[results,Tryz.results141,go_sem,q_0,q_1]) rfl ⟨rfl,BE⟩
theorem Jc (v:Value) (rows:List Int) (w:World) (h:Rd 1 bV w v rows):Calls prog 86 #[.agg #[v]] w (NN (dD rows) (lZ rows) w):=by
 obtain⟨A,c,rfl,hc,hm⟩:=h.form;have hA:=(Below.refl w.heap.size w).al (.cells #[.slice A rows.length c] 26);have bX:=Blk.aY w 26 #[.slice A rows.length c];by_cases h0:aU rows=0
 . have e1 : dD rows = [] := by unfold dD; rw [if_pos h0]
   have e2:lZ rows=false:=by unfold lZ;exact decide_eq_false (fun q=>q h0)
   rw[e1,e2];have CT:∀(u:Value) (w:World),Rd 1 bV w u rows->Calls prog 140 #[.agg #[u]] w (Ret (.bool false) w):=fun u w k1=>Cg u rows false w k1 (.inl ⟨h0,rfl⟩)
   clear h0 e1 e2;go_enter func86,ntmps86
   go_wp2_with fail
   refine(CT _ _ (h.SN hA)).mono ?_;rintro e w1 ⟨rfl,hb1⟩;go_wp2;go_ret2
   exact⟨none,0,rfl,aC.FD,hA.tr hb1⟩
 . have hr:aZ rows=true:=by
    rcases q:aZ rows with _|_
    . exact absurd (show aU rows=0 by unfold aU;rw[q];rfl) h0
    . rfl
   have Hok:Hid (dK rows):=SQ (aO.1 hr);have hs0:=dM Hok.out;have e1:dD rows=firstT (setOf rows):=by unfold dD;rw[if_neg h0]
   have e2:lZ rows=true:=by unfold lZ;exact decide_eq_true h0
   rw[e1,e2];have hc0:fF (setOf rows)≠0:=by unfold aU at h0;rw[if_pos hr]at h0;exact h0
   have CT:∀(u:Value) (w:World),Rd 1 bV w u rows->Calls prog 140 #[.agg #[u]] w (Ret (.bool true) w):=fun u w k1=>Cg u rows true w k1 (.inr ⟨h0,rfl⟩)
   obtain⟨s0,hs0e⟩:=SL (setOf rows);have CS:∀(u:Value) (w:World),Rd 1 bV w u rows->Calls prog 109 #[.agg #[u]] w (Ret (.int .u64 (s0:Nat)) w):=fun u w k1=>by rw[hs0e];exact nW u rows w k1 Hok
   rw[<-hs0e]at hs0 hc0⊢;obtain⟨R,hR⟩:=SL (firstT s0);have hRl:R.length<=64:=by rw[hR];exact yL s0
   rw[<-hR];have HR0:Hid ([]++firstT s0=R):=SQ hR.symm;have Hc0:=SQ hc0;clear h0 hr e1 e2 hs0e hR hc0;go_enter func86,ntmps86
   go_wp2_with fail
   refine(CT _ _ (h.SN hA)).mono ?_;rintro e w1 ⟨rfl,hb1⟩;have B1:=(hA.tr hb1).al (.cells #[] 60);have bX1:=(bX.bl hb1).alloc (.cells #[] 60);have hX1:=(bX.bl hb1).lt;have hXn:w.heap.size≠w1.heap.size:=by omega
   have ownE:aC 60 3 aV w.heap.size (w1.alloc (.cells #[] 60)) (.slice (some ⟨w1.heap.size,0,none⟩) ([]:List Dm).length 0) []:=
    (eY w1 (E:=60) (size:=3) (enc:=aV)).mono (hA.tr hb1).size
   have z0:=bX1.c1;go_wp2_with fail
   refine(CS _ _ (h.SN B1)).mono ?_;rintro e w2 ⟨rfl,hb2⟩;have own2:=ownE.below hb2;have B2:=B1.tr hb2;clear hA bX B1 bX1 hb1 hb2 ownE z0 hX1 hXn;go_wp2_with fail
   go_loopw [4,5] (fun s4 s5 wr=>∃(s:Nat) (out:List Dm) (A1:Option Addr) (c1:Nat),s<U64/\s5= .int .u64 s/\s4= .slice A1 out.length c1/\aC 60 3 aV w.heap.size wr (.slice A1 out.length c1) out/\Below w.heap.size w wr/\Hid (fF s≠0)/\Hid (out++firstT s=R)) (fun _ s5 _=>(intOf s5).toNat)
   case atStart=>exact⟨s0,[],_,_,hs0,rfl,rfl,own2,B2,Hc0,HR0⟩
   case round=>
    obtain⟨s,out,A1,c1,hs,rfl,rfl,own,B,Hc,HR⟩:=hrel;clear own2 B2 HR0 Hc0;have hlen:out.length<=64:=by have:=congrArg List.length HR.out;rw[List.length_append]at this;omega
    by_cases hz:s=0
    . subst hz;have ho:out=R:=by have:=HR.out;rw[BI,List.append_nil]at this;exact this
      subst ho;clear HR Hc;go_wp2;go_ret2
      exact⟨_,_,rfl,own,B⟩
    . obtain⟨i,hl⟩:=wD hs hz;have hs0':((s:Int) !=0)=true:=by rw[bne_iff_ne];omega
      obtain⟨x,hx⟩:=SL (i%8);obtain⟨y,hy⟩:=SL (i/8);have hi:=hl.1;obtain⟨hfit,hc2,hft⟩:=DI hs hl Hc.out;have hless:=Ky hs hfit;have Hl:=SQ hl;have Hx:=SQ hx;have Hy:=SQ hy;have hrt:eG i=((x:Int),(y:Int),false):=by unfold eG;rw[<-hx,<-hy]
      have hdn:fJ i=((x:Int),(y:Int),true):=by unfold fJ;rw[<-hx,<-hy]
      have H8:Hid ((out.length+1)*24<=140737488355328):=SQ (by omega);have HM:Hid (out.length+1<=maxLen):=SQ (by unfold maxLen;omega);clear hz hl hx hy;go_wp2_with fail
      refine(Ep s i x y _ hs Hl Hx Hy).mono ?_;rintro e w3 ⟨rfl,hb3⟩;have hap:Value.ownBlock (.slice A1 out.length c1)≠some (w3.heap.size+1):=fun e=>by have:=(World.ownsRow.lt (own.below hb3) _ e).2;omega
      have hDw:w.heap.size<=w3.heap.size+1:=by have:=(B.tr hb3).size;omega
      have own3:=((own.below hb3).alloc (.cells #[.int .i64 x,.int .i64 y] 70)).alloc (.cells #[.int .i64 x,.int .i64 y,.bool false] 60);have B3:=((B.tr hb3).al (.cells #[.int .i64 x,.int .i64 y] 70)).al (.cells #[.int .i64 x,.int .i64 y,.bool false] 60);have bD3:=Blk.iX (w3.alloc (.cells #[.int .i64 x,.int .i64 y] 70)) 60 #[.int .i64 x,.int .i64 y,.bool false] (w3.heap.size+1) (by simp);clear own B hb3;go_upto_region 8 with(fail)
      obtain⟨W,hW⟩:=SL ((w3.alloc (.cells #[.int .i64 x,.int .i64 y] 70)).alloc (.cells #[.int .i64 x,.int .i64 y,.bool false] 60));obtain⟨gD,hgD⟩:=SL (w3.heap.size+1);rw[<-hW]at own3 B3 bD3⊢;rw[<-hgD]at bD3 hap hDw⊢;clear hW hgD;obtain⟨d_0,d_1,d_2⟩:=bD3.n3;have hDl:=bD3.lt;have Bw:Below W.heap.size W W.drew:=(Below.refl _ _).drew;have hz:W.heap.size<=W.drew.heap.size:=(by simp);rcases hg:uY s i with _|_
      . have hst : uZ s i = ((x : Int), (y : Int), true) := by unfold uZ; rw [hg, if_neg (by simp), hdn]
        rw[hst]at hfit hc2 hft hless;have hdo:aJ ((x:Int),(y:Int),true)=true:=by unfold eQ at hfit;rw[Bool.and_eq_true]at hfit;exact hfit.1
        unfold uY at hg;rw[hrt]at hg;have HR2:Hid ((out++[((x:Int),(y:Int),true)])++firstT (dB s (aG ((x:Int),(y:Int),true)))=R):=SQ (by rw[<-HR.out,hft,List.append_assoc];rfl);have hnl:dB s (aG ((x:Int),(y:Int),true))<U64:=eB hs;have CD:∀w,Calls prog 143 #[.agg #[.int .i64 x,.int .i64 y,.bool true]] w (Ret (.int .u64 (aG ((x:Int),(y:Int),true):Nat)) w):=fun w=>cO x y true w hdo
        obtain⟨u1,u2⟩:=sU hs (dJ hdo);have Hdo:=SQ hdo;have HC2:=SQ hc2;clear hst hft hfit hc2 hdo hrt hdn HR Hc;rcases hok:aJ ((x:Int),(y:Int),false)with _|_
        . have Hok2:=SQ hok;clear hok hg;refine rB (fun w'=>w'.cell? ⟨gD,0,none⟩=some (.int .i64 x)/\w'.cell? ⟨gD,1,none⟩=some (.int .i64 y)/\w'.cell? ⟨gD,2,none⟩=some (.bool false)) fun hHeld=>(tW 0)<|(tR [1])<|tL fun K hK=>?_
          go_simp
          (first|(go_at_call 142;go_must (refine(aP x y false _).mono ?_;rintro e wX ⟨rfl,hbX⟩;rw[Hok2.out];obtain⟨hcX,hfX,hzX⟩:=bkn hbX W.heap.size hz;have hz:=hzX;have Bw:=Bw.tr hbX);(try go_wp2_with fail)))
          refine tK hK fun hHeld=>?_
          clear hK K;refine(tW 2)<|(tW 3)<|(tU 4)<|(tU 5)<|(tU 6)<|(tU 7)<|(tU 8)<|(tU 9)<|(tU 10)<|(tW 11)<|(tW 12)<|(tU 13)<|(tU 14)<|(tU 15)<|(tU 16)<|(tU 17)<|(tU 18)<|(tW 19)<|tD ?_;obtain⟨V,hV⟩:=SL wX;rw[<-hV]at Bw⊢;clear hV hcX hfX hz d_0 d_1 d_2;(try clear hHeld)
          have own4:=own3.below Bw;have B4:=B3.tr Bw;have bD4:=bD3.bl Bw;clear own3 B3 bD3 Bw;have fD:=fun j=>bD4.frozen j
          obtain⟨f_0,f_1,f_2⟩:=bD4.n3;have bD5:=bD4.st 2 (.bool true) #[.int .i64 x,.int .i64 y,.bool true] rfl;have own5:=own4.far (a:=⟨gD,2,none⟩) hap (.bool true);have B5:=B4.st ⟨gD,2,none⟩ (.bool true) hDw;obtain⟨d_0,d_1,d_2⟩:=bD5.n3;go_wp2_with (at_builtin;go_must (refine lS (enc:=aV) aK aB aM B5 own5 (((x:Int),(y:Int),true):Dm) H8.out HM.out (by simp) rfl _ _ rfl rfl rfl ?_);intro v8 w8 own8 hb8 hg8 hd8;obtain⟨A8,c8,rfl,hc8,hm8⟩:=own8.form;have bD8:=(bD5.alloc (.cells (aV ((x:Int),(y:Int),true)).toArray 60)).grown hg8 (fun e=>hap e.symm);have e_0:=bD8.cell 0;have e_1:=bD8.cell 1;have e_2:=bD8.cell 2;simp only[List.getElem?_toArray,List.getElem?_cons_zero,List.getElem?_cons_succ]at e_0 e_1 e_2)
          refine(CD _).mono ?_;rintro e w9 ⟨rfl,hb9⟩;go_wp2;go_roundw
          case rel=>exact⟨_,_,_,_,hnl,rfl,by simp,own8.below hb9,hb8.tr hb9,HC2,HR2⟩
          case measure=>simp[intOf];omega
        . have hdl:=dJ hok;obtain⟨D,hD⟩:=SL (aG ((x:Int),(y:Int),false));have CDf:∀w,Calls prog 143 #[.agg #[.int .i64 x,.int .i64 y,.bool false]] w (Ret (.int .u64 (D:Nat)) w):=fun w=>by rw[hD];exact cO x y false w hok
          rw[<-hD]at hdl hg;obtain⟨u1,u2⟩:=sU hs hdl;unfold eQ at hg;rw[hok,Bool.true_and,<-hD]at hg;have Hok2:=SQ hok;clear hok hD;by_cases q:s&&&D=D
          . have hne : (((s &&& D : Nat) : Int) != (D : Int)) = false := by rw [q]; simp
            have hcz:fF (dB s D)=0:=by
             rw[decide_eq_true q,Bool.true_and,decide_eq_false_iff_not]at hg;omega
            have CN:∀w,Calls prog 144 #[.int .u64 (dB s D:Nat)] w (Ret (.int .i64 0) w):=fun w=>by have:=EW (dB s D) w (eB hs);rw[hcz]at this;exact this
            clear q hg hcz;go_region_held3 (fun w'=>w'.cell? ⟨gD,0,none⟩=some (.int .i64 x)/\w'.cell? ⟨gD,1,none⟩=some (.int .i64 y)/\w'.cell? ⟨gD,2,none⟩=some (.bool false)) (go_keep) (first|(go_at_call 142;go_must (refine(aP x y false _).mono ?_;rintro e wX ⟨rfl,hbX⟩;rw[Hok2.out];obtain⟨hcX,hfX,hzX⟩:=bkn hbX W.heap.size hz;have hz:=hzX;have Bw:=Bw.tr hbX);(try go_wp2_with fail))|(go_at_call 143;go_must (refine(CDf _).mono ?_;rintro e wX ⟨rfl,hbX⟩;obtain⟨hcX,hfX,hzX⟩:=bkn hbX W.heap.size hz;have hz:=hzX;have Bw:=Bw.tr hbX);(try go_wp2_with fail))|(go_at_call 144;go_must (refine(CN _).mono ?_;rintro e wX ⟨rfl,hbX⟩;obtain⟨hcX,hfX,hzX⟩:=bkn hbX W.heap.size hz;have hz:=hzX;have Bw:=Bw.tr hbX);(try go_wp2_with fail)))
            obtain⟨V,hV⟩:=SL wX;rw[<-hV]at Bw⊢;clear hV hcX hfX hz d_0 d_1 d_2;(try clear hHeld)
            have own4:=own3.below Bw;have B4:=B3.tr Bw;have bD4:=bD3.bl Bw;clear own3 B3 bD3 Bw;have fD:=fun j=>bD4.frozen j
            obtain⟨f_0,f_1,f_2⟩:=bD4.n3;have bD5:=bD4.st 2 (.bool true) #[.int .i64 x,.int .i64 y,.bool true] rfl;have own5:=own4.far (a:=⟨gD,2,none⟩) hap (.bool true);have B5:=B4.st ⟨gD,2,none⟩ (.bool true) hDw;obtain⟨d_0,d_1,d_2⟩:=bD5.n3;go_wp2_with (at_builtin;go_must (refine lS (enc:=aV) aK aB aM B5 own5 (((x:Int),(y:Int),true):Dm) H8.out HM.out (by simp) rfl _ _ rfl rfl rfl ?_);intro v8 w8 own8 hb8 hg8 hd8;obtain⟨A8,c8,rfl,hc8,hm8⟩:=own8.form;have bD8:=(bD5.alloc (.cells (aV ((x:Int),(y:Int),true)).toArray 60)).grown hg8 (fun e=>hap e.symm);have e_0:=bD8.cell 0;have e_1:=bD8.cell 1;have e_2:=bD8.cell 2;simp only[List.getElem?_toArray,List.getElem?_cons_zero,List.getElem?_cons_succ]at e_0 e_1 e_2)
            refine(CD _).mono ?_;rintro e w9 ⟨rfl,hb9⟩;go_wp2;go_roundw
            case rel=>exact⟨_,_,_,_,hnl,rfl,by simp,own8.below hb9,hb8.tr hb9,HC2,HR2⟩
            case measure=>simp[intOf];omega
          . have hne : (((s &&& D : Nat) : Int) != (D : Int)) = true := by rw [bne_iff_ne]; omega
            clear q hg;refine rB (fun w'=>w'.cell? ⟨gD,0,none⟩=some (.int .i64 x)/\w'.cell? ⟨gD,1,none⟩=some (.int .i64 y)/\w'.cell? ⟨gD,2,none⟩=some (.bool false)) fun hHeld=>(tW 0)<|(tR [1])<|tL fun K hK=>?_
            go_simp
            (first|(go_at_call 142;go_must (refine(aP x y false _).mono ?_;rintro e wX ⟨rfl,hbX⟩;rw[Hok2.out];obtain⟨hcX,hfX,hzX⟩:=bkn hbX W.heap.size hz;have hz:=hzX;have Bw:=Bw.tr hbX);(try go_wp2_with fail))|(go_at_call 143;go_must (refine(CDf _).mono ?_;rintro e wX ⟨rfl,hbX⟩;obtain⟨hcX,hfX,hzX⟩:=bkn hbX W.heap.size hz;have hz:=hzX;have Bw:=Bw.tr hbX);(try go_wp2_with fail)))
            refine tK hK fun hHeld=>?_
            clear hK K;refine(tW 2)<|(tW 3)<|(tW 4)<|(tW 5)<|(tW 8)<|(tR [6])<|tL fun K hK=>?_
            go_simp
            (first|(go_at_call 142;go_must (refine(aP x y false _).mono ?_;rintro e wX ⟨rfl,hbX⟩;rw[Hok2.out];obtain⟨hcX,hfX,hzX⟩:=bkn hbX W.heap.size hz;have hz:=hzX;have Bw:=Bw.tr hbX);(try go_wp2_with fail))|(go_at_call 143;go_must (refine(CDf _).mono ?_;rintro e wX ⟨rfl,hbX⟩;obtain⟨hcX,hfX,hzX⟩:=bkn hbX W.heap.size hz;have hz:=hzX;have Bw:=Bw.tr hbX);(try go_wp2_with fail)))
            refine tK hK fun hHeld=>?_
            clear hK K;refine(tW 7)<|(tR [9])<|tL fun K hK=>?_
            go_simp
            (first|(go_at_call 142;go_must (refine(aP x y false _).mono ?_;rintro e wX ⟨rfl,hbX⟩;rw[Hok2.out];obtain⟨hcX,hfX,hzX⟩:=bkn hbX W.heap.size hz;have hz:=hzX;have Bw:=Bw.tr hbX);(try go_wp2_with fail))|(go_at_call 143;go_must (refine(CDf _).mono ?_;rintro e wX ⟨rfl,hbX⟩;obtain⟨hcX,hfX,hzX⟩:=bkn hbX W.heap.size hz;have hz:=hzX;have Bw:=Bw.tr hbX);(try go_wp2_with fail)))
            refine tK hK fun hHeld=>?_
            clear hK K;refine(tW 10)<|(tW 11)<|(tW 12)<|(tU 13)<|(tU 14)<|(tU 15)<|(tU 16)<|(tU 17)<|(tU 18)<|(tW 19)<|tD ?_;obtain⟨V,hV⟩:=SL wX;rw[<-hV]at Bw⊢;clear hV hcX hfX hz d_0 d_1 d_2;(try clear hHeld)
            have own4:=own3.below Bw;have B4:=B3.tr Bw;have bD4:=bD3.bl Bw;clear own3 B3 bD3 Bw;have fD:=fun j=>bD4.frozen j
            obtain⟨f_0,f_1,f_2⟩:=bD4.n3;have bD5:=bD4.st 2 (.bool true) #[.int .i64 x,.int .i64 y,.bool true] rfl;have own5:=own4.far (a:=⟨gD,2,none⟩) hap (.bool true);have B5:=B4.st ⟨gD,2,none⟩ (.bool true) hDw;obtain⟨d_0,d_1,d_2⟩:=bD5.n3;go_wp2_with (at_builtin;go_must (refine lS (enc:=aV) aK aB aM B5 own5 (((x:Int),(y:Int),true):Dm) H8.out HM.out (by simp) rfl _ _ rfl rfl rfl ?_);intro v8 w8 own8 hb8 hg8 hd8;obtain⟨A8,c8,rfl,hc8,hm8⟩:=own8.form;have bD8:=(bD5.alloc (.cells (aV ((x:Int),(y:Int),true)).toArray 60)).grown hg8 (fun e=>hap e.symm);have e_0:=bD8.cell 0;have e_1:=bD8.cell 1;have e_2:=bD8.cell 2;simp only[List.getElem?_toArray,List.getElem?_cons_zero,List.getElem?_cons_succ]at e_0 e_1 e_2)
            refine(CD _).mono ?_;rintro e w9 ⟨rfl,hb9⟩;go_wp2;go_roundw
            case rel=>exact⟨_,_,_,_,hnl,rfl,by simp,own8.below hb9,hb8.tr hb9,HC2,HR2⟩
            case measure=>simp[intOf];omega
      . have hst : uZ s i = ((x : Int), (y : Int), false) := by unfold uZ; rw [hg, if_pos rfl, hrt]
        rw[hst]at hfit hc2 hft hless;have hdo:aJ ((x:Int),(y:Int),false)=true:=by unfold eQ at hfit;rw[Bool.and_eq_true]at hfit;exact hfit.1
        have hq:s&&&aG ((x:Int),(y:Int),false)=aG ((x:Int),(y:Int),false):=by unfold eQ at hfit;rw[Bool.and_eq_true,decide_eq_true_iff]at hfit;exact hfit.2
        clear hg;have HR2:Hid ((out++[((x:Int),(y:Int),false)])++firstT (dB s (aG ((x:Int),(y:Int),false)))=R):=SQ (by rw[<-HR.out,hft,List.append_assoc];rfl);have hnl:dB s (aG ((x:Int),(y:Int),false))<U64:=eB hs;have CD:∀w,Calls prog 143 #[.agg #[.int .i64 x,.int .i64 y,.bool false]] w (Ret (.int .u64 (aG ((x:Int),(y:Int),false):Nat)) w):=fun w=>cO x y false w hdo
        obtain⟨u1,u2⟩:=sU hs (dJ hdo);have Hdo:=SQ hdo;have HC2:=SQ hc2;clear hst hft hfit hc2 hdo hrt hdn HR Hc;obtain⟨D,hD⟩:=SL (aG ((x:Int),(y:Int),false));have hne:(((s&&&aG ((x:Int),(y:Int),false):Nat):Int) !=(aG ((x:Int),(y:Int),false):Int))=false:=by rw[hq];simp
        rw[<-hD]at hne;have CN:∀w,Calls prog 144 #[.int .u64 (dB s D:Nat)] w (Ret (.int .i64 (fF (dB s D))) w):=fun w=>EW (dB s D) w (eB hs)
        have CD2:∀w,Calls prog 143 #[.agg #[.int .i64 x,.int .i64 y,.bool false]] w (Ret (.int .u64 (D:Nat)) w):=fun w=>by rw[hD];exact CD w
        have u1':=u1;have u2':=u2;rw[<-hD]at u1' u2';obtain⟨n,hn⟩:=SL (fF (dB s D));have hn0:(n==0)=false:=by rw[hn,hD];simpa using HC2.out
        rw[<-hn]at CN;have HDD:=SQ hD;clear hq hn hD u1 u2;go_region_held3 (fun w'=>w'.cell? ⟨gD,0,none⟩=some (.int .i64 x)/\w'.cell? ⟨gD,1,none⟩=some (.int .i64 y)/\w'.cell? ⟨gD,2,none⟩=some (.bool false)) (go_keep) (first|(go_at_call 142;go_must (refine(aP x y false _).mono ?_;rintro e wX ⟨rfl,hbX⟩;rw[Hdo.out];obtain⟨hcX,hfX,hzX⟩:=bkn hbX W.heap.size hz;have hz:=hzX;have Bw:=Bw.tr hbX);(try go_wp2_with fail))|(go_at_call 143;go_must (refine(CD2 _).mono ?_;rintro e wX ⟨rfl,hbX⟩;obtain⟨hcX,hfX,hzX⟩:=bkn hbX W.heap.size hz;have hz:=hzX;have Bw:=Bw.tr hbX);(try go_wp2_with fail))|(go_at_call 144;go_must (refine(CN _).mono ?_;rintro e wX ⟨rfl,hbX⟩;obtain⟨hcX,hfX,hzX⟩:=bkn hbX W.heap.size hz;have hz:=hzX;have Bw:=Bw.tr hbX);(try go_wp2_with fail)))
        have u2:bits .andNot .u64 (s:Int) (aG ((x:Int),(y:Int),false):Int)=((dB s (aG ((x:Int),(y:Int),false)):Nat):Int):=by rw[<-HDD.out];exact u2'
        clear u1' u2' hne CN CD2 hn0;obtain⟨V,hV⟩:=SL wX;rw[<-hV]at Bw⊢;clear hV hcX hfX hz d_0 d_1 d_2;(try clear hHeld)
        have own4:=own3.below Bw;have B4:=B3.tr Bw;have bD4:=bD3.bl Bw;clear own3 B3 bD3 Bw;obtain⟨d_0,d_1,d_2⟩:=bD4.n3;go_wp2_with (at_builtin;go_must (refine lS (enc:=aV) aK aB aM B4 own4 (((x:Int),(y:Int),false):Dm) H8.out HM.out (by simp) rfl _ _ rfl rfl rfl ?_);intro v8 w8 own8 hb8 hg8 hd8;obtain⟨A8,c8,rfl,hc8,hm8⟩:=own8.form;have bD8:=(bD4.alloc (.cells (aV ((x:Int),(y:Int),false)).toArray 60)).grown hg8 (fun e=>hap e.symm);have e_0:=bD8.cell 0;have e_1:=bD8.cell 1;have e_2:=bD8.cell 2;simp only[List.getElem?_toArray,List.getElem?_cons_zero,List.getElem?_cons_succ]at e_0 e_1 e_2)
        refine(CD _).mono ?_;rintro e w9 ⟨rfl,hb9⟩;go_wp2;go_roundw
        case rel=>exact⟨_,_,_,_,hnl,rfl,by simp,own8.below hb9,hb8.tr hb9,HC2,HR2⟩
        case measure=>simp[intOf];omega
end Go.Proofs.YtljfoohaapckeaaGreatDoor
