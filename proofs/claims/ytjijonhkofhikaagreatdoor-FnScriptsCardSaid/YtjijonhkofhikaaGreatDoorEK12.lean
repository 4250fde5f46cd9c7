import Derived.Test.YtjijonhkofhikaaGreatDoorEK4
open _root_.List renaming length_append->TZ
set_option linter.unusedVariables false
set_option linter.unusedSimpArgs false
set_option maxHeartbeats 4000000
set_option maxRecDepth 100000
namespace Go.Proofs.YtjijonhkofhikaaGreatDoor
open Go.ChangeShapes Go.WideShapes Go.ChangeAt Go.RowKit
theorem rD:∀x:Int,(qR x).length=1:=fun _=>rfl
theorem sN:∀x:Int,∀u∈qR x,u.oneCell'=true:=by
 intro x u hu;simp[qR]at hu;rcases hu with rfl;rfl
theorem sO:Row Tryz.prog 22 5 (.int .u8 0) 1 1:=⟨Tryz.underlying22,by kernel_rfl,rfl,by decide⟩
theorem iM {P:Program} {ops:Array Oper} {rest:List Oper} {o:Oper} {a:Act} {Q:Exit->Act->World->Prop} {α:Type} {t E:TypeId} {z:Value} {size bytes:Nat} (R:Row P t E z size bytes)
    {enc:α->List Value} (a7:∀x,(enc x).length=size) (h1:∀x,∀u∈enc x,u.oneCell'=true)
    {W0 w:World} (a8:Below W0.heap.size W0 w) {v:Value} {l:List α} (hown:aD E size enc W0.heap.size w v l) (y:α)
    (hlen:(l.length+1)*bytes<=140737488355328) (a6:l.length+1<=maxLen) {g:Nat} (hg:g=w.heap.size)
    (hgd:o.guard=none) (s x:Operand) (ho:o.op= .call {callee:= .builtin .append,args:= #[s,x],argTypes:= #[t,t]})
    (hs:a.eval s=v) (hx:a.eval x= .slice (some ⟨g,0,none⟩) 1 1)
    (h:∀v' w',aD E size enc W0.heap.size w' v' (l++[y])->Below W0.heap.size W0 w'->(w.alloc (.cells (enc y).toArray E)).grownBy w' v.ownBlock->(v'.ownBlock=v.ownBlock∨v'.ownBlock=some (w.heap.size+1))->wpList P ops Q rest (a.put o.dst v') w'):
    wpList P ops Q (o::rest) a (w.alloc (.cells (enc y).toArray E)):=by
 subst hg;exact aF R a7 h1 a8 hown y hlen a6 hgd s x ho hs hx h
def nK (s:Nat) (l:List Dm) (y k:Nat):List Int:=(Jd s l y k).map fun b=>(b.toNat:Int)
theorem xQ (s:Nat) (l:List Dm) (y k:Nat):(nK s l y k).length=k:=by simp[nK,Jd]
theorem lL (s:Nat) (l:List Dm) (y k:Nat) {x:UInt8} {n:Int} (h:sgn s l k y=x) (hn:n=(x.toNat:Int)):nK s l y (k+1)=nK s l y k++[n]:=by
 unfold nK;rw[Lb,List.map_append,h,hn];rfl
theorem Oq (s:Nat) (l:List Dm) (y:Nat):strOfNums (nK s l y 8)=QJ s l y 8:=by
 unfold strOfNums QJ nK;congr 1
 rw[List.map_map];congr 1
 rw[show((fun n:Int=>UInt8.ofNat n.toNat)∘fun b:UInt8=>(b.toNat:Int))=id from by funext b;simp];simp
theorem Sd {s:Nat} {l:List Dm} {x y:Nat} (h:s.testBit (8*y+x)=false):sgn s l x y=46:=by unfold sgn;rw[h];rfl
theorem P7 {s:Nat} {l:List Dm} {x y:Nat} (h:s.testBit (8*y+x)=true) (hc:rW l ((x:Int),(y:Int))=none):sgn s l x y=63:=by unfold sgn;rw[h,hc];rfl
theorem P8 {s:Nat} {l:List Dm} {x y:Nat} {d:Dm} (h:s.testBit (8*y+x)=true) (hc:rW l ((x:Int),(y:Int))=some d):sgn s l x y=xW d ((x:Int),(y:Int)):=by unfold sgn;rw[h,hc];rfl
theorem TL {x y:Nat} (hx:x<8) (hy:y<8):bM ((x:Int),(y:Int))=true/\(dJ ((x:Int),(y:Int))).toNat=8*y+x:=by
 have a6:bM ((x:Int),(y:Int))=true:=dB.2 ⟨⟨by omega,by omega⟩,by omega,by omega⟩;exact⟨a6,by rw[(dO a6).1];simp only;omega⟩
theorem CX (v u:Value) (rows:List Int) (l:List Dm) (w:World) (h:Rd 1 bG w v rows) (h2:Rd 3 aU w u l):Calls Tryz.prog 31 #[.agg #[v],u] w (iH 9 1 iX (jQ rows l) w):=by
 obtain⟨A,c,rfl,hc,hm⟩:=h.form;obtain⟨A2,c2,rfl,hc2,fR⟩:=h2.form;have hA:=((Below.refl w.heap.size w).al (.cells #[.slice A rows.length c] 26));have hx:=Blk.aZ w 26 #[.slice A rows.length c];have h':=h.TW hA;rcases hp:isPartial rows l with _|_
 . have e : jQ rows l = [] := by unfold jQ; rw [hp]; rfl
   rw[e];go_enter Tryz.func31,Tryz.ntmps31
   go_wp2_with fail
   refine(qK _ _ rows l _ h' (h2.TW hA)).mono ?_;rintro e w1 ⟨rfl,hb1⟩;obtain⟨hc1,eM,hz1⟩:=bk hb1;(try simp at hz1)
   have cM:w.heap.size<w1.heap.size:=(by omega);rw[hp];go_wp2;go_ret;exact⟨none,0,rfl,nN _,hA.tr hb1⟩
 . have e : jQ rows l = vO (setOf rows) l rows.length := by unfold jQ; rw [hp]; rfl
   rw[e];obtain⟨dT,_⟩:=jH hp;have h8:=dT.1;have hs:=dW dT;have cN:=fun(c:Cl) (d:Dm) (hd:rW l c=some d)=>Rv hp hd
   have Hp:=TY hp;have e7:=TY dT;have eA:=TY cN;clear hp dT cN e;go_enter Tryz.func31,Tryz.ntmps31
   go_wp2_with fail
   refine(qK _ _ rows l _ h' (h2.TW hA)).mono ?_;rintro e w1 ⟨rfl,hb1⟩;obtain⟨hc1,eM,hz1⟩:=bk hb1;(try simp at hz1)
   have cM:w.heap.size<w1.heap.size:=(by omega);rw[Hp.out];have hx1:=(hx.bl hb1).alloc (.cells #[] 9);have z1:=hx1.c1;have e8:=hx1.lt;have B1:=(hA.tr hb1).al (.cells #[] 9);have cP:=fI w1 (E:=9) (size:=1) (enc:=iX) w1.heap.size rfl w.heap.size (hA.tr hb1).size;have eC:=hx1.lt;go_wp2_with fail
   refine(pM _ rows _ (h.TW B1) e7).mono ?_;rintro e w2 ⟨rfl,hb2⟩;obtain⟨hc2,hf2,hz2⟩:=bk hb2;(try simp at hz2)
   have eN:w.heap.size<w2.heap.size:=(by omega);have hx2:=hx1.bl hb2;have B2:=B1.tr hb2;have b9:=cP.below hb2;have z2:=hx2.c1;clear hc1 eM hc2 hf2 z1 eC e8;go_wp2;obtain⟨s,eE⟩:=TV (setOf rows);rw[<-eE]at hs⊢;have eP:=TY eE;clear eE;go_loopw [5,25] (fun s5 e9 wr=>∃(y:Nat) (D:Option Addr) (d:Nat),y<=rows.length/\e9= .int .i64 y/\s5= .slice D y d/\aD 9 1 iX w.heap.size wr (.slice D y d) (vO s l y)/\Below w.heap.size w wr) (fun _ i _=>rows.length-(intOf i).toNat)
   case atStart=>exact⟨0,_,_,by omega,rfl,rfl,b9,B2⟩
   case round=>
    obtain⟨y,D,d,hy,rfl,rfl,hown,cA⟩:=hrel;clear cP b9 hx2 z2 hx1 B1 B2 hb2 hb1;by_cases hlt:y<rows.length
    . have fD : y < 8 := by omega
      go_wp2;obtain⟨wo,rfl⟩:∃wo:World,wo=wr:=⟨_,rfl⟩;have B0:=(Below.refl wo.heap.size wo).al (.cells #[] 5);have cQ:=fI wo (E:=5) (size:=1) (enc:=qR) wo.heap.size rfl wo.heap.size (Nat.le_refl _);go_loopw [8,29] (fun s8 fL wr=>∃(k:Nat) (D:Option Addr) (d:Nat),k<=8/\fL= .int .i64 k/\s8= .slice D k d/\aD 5 1 qR wo.heap.size wr (.slice D k d) (nK s l y k)/\Below wo.heap.size wo wr) (fun _ i _=>8-(intOf i).toNat)
      case atStart=>exact⟨0,_,_,by omega,rfl,rfl,cQ,B0⟩
      case round=>
       obtain⟨k,Dk,dk,hk,rfl,rfl,bA,b7⟩:=hrel;clear B0 cQ;by_cases fN:k<8
       . obtain⟨eR,eI⟩:=TL fN fD;have hlen:=xQ s l y k;have H8:Hid (((nK s l y k).length+1)*1<=140737488355328):=TY (by rw[hlen];omega);have HM:Hid ((nK s l y k).length+1<=maxLen):=TY (by rw[hlen];unfold maxLen;omega);have eJ:=eA.out ((k:Int),(y:Int));have hz:wr.heap.size<(wr.alloc (.cells #[.int .i64 k,.int .i64 y] 83)).heap.size:=(by simp);have hBl:=(cA.tr b7).al (.cells #[.int .i64 k,.int .i64 y] 83)
         have cB : ∀ d, rW l ((k : Int), (y : Int)) = some d -> s.testBit (8 * y + k) = true := fun d hd => by
          have:=(eJ d hd).2.2;rw[eI,<-eP.out]at this;exact this
         have a8:=TY hlen;have cC:=TY eR;have cD:=TY eI;have cR:=TY cB;have fS:=TY eJ;clear hlen eR eI cB eJ;rcases Eh l ((k:Int),(y:Int))with⟨hD,hC⟩|⟨j,hj,hD,hC⟩
         . have HD:=TY hD;have HC:=TY hC;clear hD hC;rcases bK:s.testBit (8*y+k)with _|_
           . have bW:Hid (sgn s l k y=46):=TY (Sd bK);have bL:=TY bK;clear bK;go_wp2_with fail
             refine(iF s k y _ hs).mono ?_;rintro e w4 ⟨rfl,hb4⟩;obtain⟨cE,cF,bX⟩:=bk hb4;(try simp at bX)
             have bD:wr.heap.size<w4.heap.size:=(by omega);rw[cC.out,Bool.true_and,cD.out,bL.out];go_wp2_with fail
             refine(lH _ l k y _ (h2.TW (hBl.tr hb4))).mono ?_;rintro e w5 ⟨rfl,bB⟩;obtain⟨cG,cH,bY⟩:=bk bB;(try simp at bY)
             have bE:wr.heap.size<w5.heap.size:=(by omega);rw[HD.out];have bC:=((bA.alloc (.cells #[.int .i64 k,.int .i64 y] 83)).below hb4).below bB;have B5:=((b7.al (.cells #[.int .i64 k,.int .i64 y] 83)).tr hb4).tr bB;go_wp2_with (at_builtin;go_must (refine iM (enc:=qR) sO rD sN B5 bC (46:Int) H8.out HM.out (by simp) rfl _ _ rfl rfl rfl ?_);intro v6 w6 a6 b5 cI cJ;obtain⟨A6,c6,rfl,cK,cL⟩:=a6.form)
             go_roundw
             case rel=>exact⟨k+1,A6,c6,by omega,by go_num,by simp[a8.out],by have e:(nK s l y k++[(46:Int)]).length=k+1:=(by rw[TZ,a8.out];rfl);rw[lL s l y k bW.out rfl,<-e];exact a6,b5⟩
             case measure=>simp[intOf];omega
           . have bW:Hid (sgn s l k y=63):=TY (P7 bK HC.out);have bL:=TY bK;clear bK;go_wp2_with fail
             refine(iF s k y _ hs).mono ?_;rintro e w4 ⟨rfl,hb4⟩;obtain⟨cE,cF,bX⟩:=bk hb4;(try simp at bX)
             have bD:wr.heap.size<w4.heap.size:=(by omega);rw[cC.out,Bool.true_and,cD.out,bL.out];go_wp2_with fail
             refine(lH _ l k y _ (h2.TW (hBl.tr hb4))).mono ?_;rintro e w5 ⟨rfl,bB⟩;obtain⟨cG,cH,bY⟩:=bk bB;(try simp at bY)
             have bE:wr.heap.size<w5.heap.size:=(by omega);rw[HD.out];have bC:=((bA.alloc (.cells #[.int .i64 k,.int .i64 y] 83)).below hb4).below bB;have B5:=((b7.al (.cells #[.int .i64 k,.int .i64 y] 83)).tr hb4).tr bB;go_wp2_with (at_builtin;go_must (refine iM (enc:=qR) sO rD sN B5 bC (63:Int) H8.out HM.out (by simp) rfl _ _ rfl rfl rfl ?_);intro v6 w6 a6 b5 cI cJ;obtain⟨A6,c6,rfl,cK,cL⟩:=a6.form)
             go_roundw
             case rel=>exact⟨k+1,A6,c6,by omega,by go_num,by simp[a8.out],by have e:(nK s l y k++[(63:Int)]).length=k+1:=(by rw[TZ,a8.out];rfl);rw[lL s l y k bW.out rfl,<-e];exact a6,b5⟩
             case measure=>simp[intOf];omega
         . have bK:=cR.out _ hC;have b6:=P8 bK hC;obtain⟨b,off,rfl,hb,q1,q2,q3⟩:=(h2.TW (cA.tr b7)).jT hj;obtain⟨d,hd⟩:=TV (l[j]);rw[<-hd]at q1 q2 q3 b6;obtain⟨dx,dy,dn⟩:=d;simp only at q1 q2 q3;have fW:(0:Int)<=(j:Int):=(by omega);have fX:(j:Int)<(l.length:Int):=(by omega);have fY:b<(wr.alloc (.cells #[.int .i64 k,.int .i64 y] 83)).heap.size:=by simp;omega
           have gA:b≠wr.heap.size:=(by omega);have HD:=TY hD;have bL:=TY bK;have Hd:=TY hd;clear hD hC bK hd;by_cases eK:dx=(k:Int)
           . subst eK;by_cases eL:dy=(y:Int)
             . subst eL;rcases dn with _|_
               . have bW : Hid (sgn s l k y = 60) := TY (by rw [b6]; simp [xW]);clear b6;go_wp2_with fail
                 refine(iF s k y _ hs).mono ?_;rintro e w4 ⟨rfl,hb4⟩;obtain⟨cE,cF,bX⟩:=bk hb4;(try simp at bX)
                 have bD:wr.heap.size<w4.heap.size:=(by omega);have bN:b<w4.heap.size:=(by omega);rw[cC.out,Bool.true_and,cD.out,bL.out];go_wp2_with fail
                 refine(lH _ l k y _ (h2.TW (hBl.tr hb4))).mono ?_;rintro e w5 ⟨rfl,bB⟩;obtain⟨cG,cH,bY⟩:=bk bB;(try simp at bY)
                 have bE:wr.heap.size<w5.heap.size:=(by omega);have bO:b<w5.heap.size:=(by omega);rw[HD.out];obtain⟨sx,sy,a7⟩:∃sx sy,sec ((k:Int),(y:Int),false)=(sx,sy):=⟨_,_,rfl⟩;have bF:=TY a7;clear a7;go_wp2_with fail
                 refine(lW (k:Int) (y:Int) false _).mono ?_;rintro e w9 ⟨rfl,bJ⟩;obtain⟨cS,cT,b8⟩:=bk bJ;(try simp at b8)
                 have bR:wr.heap.size<w9.heap.size:=(by omega);have bU:b<w9.heap.size:=(by omega);rw[bF.out];have cU:b≠w9.heap.size:=(by omega);have cV:b≠w9.heap.size+1:=(by omega);have cW:wr.heap.size≠w9.heap.size:=(by omega);have cX:wr.heap.size≠w9.heap.size+1:=(by omega);have bC:=(((((bA.alloc (.cells #[.int .i64 k,.int .i64 y] 83)).below hb4).below bB).below bJ).alloc (.cells #[.int .i64 (k:Int),.int .i64 (y:Int)] 83)).alloc (.cells #[.int .i64 sx,.int .i64 sy] 83);have B5:=(((((b7.al (.cells #[.int .i64 k,.int .i64 y] 83)).tr hb4).tr bB).tr bJ).al (.cells #[.int .i64 (k:Int),.int .i64 (y:Int)] 83)).al (.cells #[.int .i64 sx,.int .i64 sy] 83);go_wp2_with (at_builtin;go_must (refine iM (enc:=qR) sO rD sN B5 bC (60:Int) H8.out HM.out (by simp) rfl _ _ rfl rfl rfl ?_);intro v6 w6 a6 b5 cI cJ;obtain⟨A6,c6,rfl,cK,cL⟩:=a6.form)
                 go_roundw
                 case rel=>exact⟨k+1,A6,c6,by omega,by go_num,by simp[a8.out],by have e:(nK s l y k++[(60:Int)]).length=k+1:=(by rw[TZ,a8.out];rfl);rw[lL s l y k bW.out rfl,<-e];exact a6,b5⟩
                 case measure=>simp[intOf];omega
               . have bW : Hid (sgn s l k y = 94) := TY (by rw [b6]; simp [xW]);clear b6;go_wp2_with fail
                 refine(iF s k y _ hs).mono ?_;rintro e w4 ⟨rfl,hb4⟩;obtain⟨cE,cF,bX⟩:=bk hb4;(try simp at bX)
                 have bD:wr.heap.size<w4.heap.size:=(by omega);have bN:b<w4.heap.size:=(by omega);rw[cC.out,Bool.true_and,cD.out,bL.out];go_wp2_with fail
                 refine(lH _ l k y _ (h2.TW (hBl.tr hb4))).mono ?_;rintro e w5 ⟨rfl,bB⟩;obtain⟨cG,cH,bY⟩:=bk bB;(try simp at bY)
                 have bE:wr.heap.size<w5.heap.size:=(by omega);have bO:b<w5.heap.size:=(by omega);rw[HD.out];obtain⟨sx,sy,a7⟩:∃sx sy,sec ((k:Int),(y:Int),true)=(sx,sy):=⟨_,_,rfl⟩;have bF:=TY a7;clear a7;go_wp2_with fail
                 refine(lW (k:Int) (y:Int) true _).mono ?_;rintro e w9 ⟨rfl,bJ⟩;obtain⟨cS,cT,b8⟩:=bk bJ;(try simp at b8)
                 have bR:wr.heap.size<w9.heap.size:=(by omega);have bU:b<w9.heap.size:=(by omega);rw[bF.out];have cU:b≠w9.heap.size:=(by omega);have cV:b≠w9.heap.size+1:=(by omega);have cW:wr.heap.size≠w9.heap.size:=(by omega);have cX:wr.heap.size≠w9.heap.size+1:=(by omega);have bC:=(((((bA.alloc (.cells #[.int .i64 k,.int .i64 y] 83)).below hb4).below bB).below bJ).alloc (.cells #[.int .i64 (k:Int),.int .i64 (y:Int)] 83)).alloc (.cells #[.int .i64 sx,.int .i64 sy] 83);have B5:=(((((b7.al (.cells #[.int .i64 k,.int .i64 y] 83)).tr hb4).tr bB).tr bJ).al (.cells #[.int .i64 (k:Int),.int .i64 (y:Int)] 83)).al (.cells #[.int .i64 sx,.int .i64 sy] 83);go_wp2_with (at_builtin;go_must (refine iM (enc:=qR) sO rD sN B5 bC (94:Int) H8.out HM.out (by simp) rfl _ _ rfl rfl rfl ?_);intro v6 w6 a6 b5 cI cJ;obtain⟨A6,c6,rfl,cK,cL⟩:=a6.form)
                 go_roundw
                 case rel=>exact⟨k+1,A6,c6,by omega,by go_num,by simp[a8.out],by have e:(nK s l y k++[(94:Int)]).length=k+1:=(by rw[TZ,a8.out];rfl);rw[lL s l y k bW.out rfl,<-e];exact a6,b5⟩
                 case measure=>simp[intOf];omega
             . rcases dn with _|_
               . have bW : Hid (sgn s l k y = 62) := TY (by rw [b6]; simp [xW, eL]);clear b6;go_wp2_with fail
                 refine(iF s k y _ hs).mono ?_;rintro e w4 ⟨rfl,hb4⟩;obtain⟨cE,cF,bX⟩:=bk hb4;(try simp at bX)
                 have bD:wr.heap.size<w4.heap.size:=(by omega);have bN:b<w4.heap.size:=(by omega);rw[cC.out,Bool.true_and,cD.out,bL.out];go_wp2_with fail
                 refine(lH _ l k y _ (h2.TW (hBl.tr hb4))).mono ?_;rintro e w5 ⟨rfl,bB⟩;obtain⟨cG,cH,bY⟩:=bk bB;(try simp at bY)
                 have bE:wr.heap.size<w5.heap.size:=(by omega);have bO:b<w5.heap.size:=(by omega);rw[HD.out];obtain⟨sx,sy,a7⟩:∃sx sy,sec ((k:Int),dy,false)=(sx,sy):=⟨_,_,rfl⟩;have bF:=TY a7;clear a7;go_wp2_with fail
                 refine(lW (k:Int) dy false _).mono ?_;rintro e w9 ⟨rfl,bJ⟩;obtain⟨cS,cT,b8⟩:=bk bJ;(try simp at b8)
                 have bR:wr.heap.size<w9.heap.size:=(by omega);have bU:b<w9.heap.size:=(by omega);rw[bF.out];have cU:b≠w9.heap.size:=(by omega);have cV:b≠w9.heap.size+1:=(by omega);have cW:wr.heap.size≠w9.heap.size:=(by omega);have cX:wr.heap.size≠w9.heap.size+1:=(by omega);have bC:=(((((bA.alloc (.cells #[.int .i64 k,.int .i64 y] 83)).below hb4).below bB).below bJ).alloc (.cells #[.int .i64 (k:Int),.int .i64 dy] 83)).alloc (.cells #[.int .i64 sx,.int .i64 sy] 83);have B5:=(((((b7.al (.cells #[.int .i64 k,.int .i64 y] 83)).tr hb4).tr bB).tr bJ).al (.cells #[.int .i64 (k:Int),.int .i64 dy] 83)).al (.cells #[.int .i64 sx,.int .i64 sy] 83);go_wp2_with (at_builtin;go_must (refine iM (enc:=qR) sO rD sN B5 bC (62:Int) H8.out HM.out (by simp) rfl _ _ rfl rfl rfl ?_);intro v6 w6 a6 b5 cI cJ;obtain⟨A6,c6,rfl,cK,cL⟩:=a6.form)
                 go_roundw
                 case rel=>exact⟨k+1,A6,c6,by omega,by go_num,by simp[a8.out],by have e:(nK s l y k++[(62:Int)]).length=k+1:=(by rw[TZ,a8.out];rfl);rw[lL s l y k bW.out rfl,<-e];exact a6,b5⟩
                 case measure=>simp[intOf];omega
               . have bW : Hid (sgn s l k y = 118) := TY (by rw [b6]; simp [xW, eL]);clear b6;go_wp2_with fail
                 refine(iF s k y _ hs).mono ?_;rintro e w4 ⟨rfl,hb4⟩;obtain⟨cE,cF,bX⟩:=bk hb4;(try simp at bX)
                 have bD:wr.heap.size<w4.heap.size:=(by omega);have bN:b<w4.heap.size:=(by omega);rw[cC.out,Bool.true_and,cD.out,bL.out];go_wp2_with fail
                 refine(lH _ l k y _ (h2.TW (hBl.tr hb4))).mono ?_;rintro e w5 ⟨rfl,bB⟩;obtain⟨cG,cH,bY⟩:=bk bB;(try simp at bY)
                 have bE:wr.heap.size<w5.heap.size:=(by omega);have bO:b<w5.heap.size:=(by omega);rw[HD.out];obtain⟨sx,sy,a7⟩:∃sx sy,sec ((k:Int),dy,true)=(sx,sy):=⟨_,_,rfl⟩;have bF:=TY a7;clear a7;go_wp2_with fail
                 refine(lW (k:Int) dy true _).mono ?_;rintro e w9 ⟨rfl,bJ⟩;obtain⟨cS,cT,b8⟩:=bk bJ;(try simp at b8)
                 have bR:wr.heap.size<w9.heap.size:=(by omega);have bU:b<w9.heap.size:=(by omega);rw[bF.out];have cU:b≠w9.heap.size:=(by omega);have cV:b≠w9.heap.size+1:=(by omega);have cW:wr.heap.size≠w9.heap.size:=(by omega);have cX:wr.heap.size≠w9.heap.size+1:=(by omega);have bC:=(((((bA.alloc (.cells #[.int .i64 k,.int .i64 y] 83)).below hb4).below bB).below bJ).alloc (.cells #[.int .i64 (k:Int),.int .i64 dy] 83)).alloc (.cells #[.int .i64 sx,.int .i64 sy] 83);have B5:=(((((b7.al (.cells #[.int .i64 k,.int .i64 y] 83)).tr hb4).tr bB).tr bJ).al (.cells #[.int .i64 (k:Int),.int .i64 dy] 83)).al (.cells #[.int .i64 sx,.int .i64 sy] 83);go_wp2_with (at_builtin;go_must (refine iM (enc:=qR) sO rD sN B5 bC (118:Int) H8.out HM.out (by simp) rfl _ _ rfl rfl rfl ?_);intro v6 w6 a6 b5 cI cJ;obtain⟨A6,c6,rfl,cK,cL⟩:=a6.form)
                 go_roundw
                 case rel=>exact⟨k+1,A6,c6,by omega,by go_num,by simp[a8.out],by have e:(nK s l y k++[(118:Int)]).length=k+1:=(by rw[TZ,a8.out];rfl);rw[lL s l y k bW.out rfl,<-e];exact a6,b5⟩
                 case measure=>simp[intOf];omega
           . rcases dn with _|_
             . have bW : Hid (sgn s l k y = 62) := TY (by rw [b6]; simp [xW, eK]);clear b6;go_wp2_with fail
               refine(iF s k y _ hs).mono ?_;rintro e w4 ⟨rfl,hb4⟩;obtain⟨cE,cF,bX⟩:=bk hb4;(try simp at bX)
               have bD:wr.heap.size<w4.heap.size:=(by omega);have bN:b<w4.heap.size:=(by omega);rw[cC.out,Bool.true_and,cD.out,bL.out];go_wp2_with fail
               refine(lH _ l k y _ (h2.TW (hBl.tr hb4))).mono ?_;rintro e w5 ⟨rfl,bB⟩;obtain⟨cG,cH,bY⟩:=bk bB;(try simp at bY)
               have bE:wr.heap.size<w5.heap.size:=(by omega);have bO:b<w5.heap.size:=(by omega);rw[HD.out];obtain⟨sx,sy,a7⟩:∃sx sy,sec (dx,dy,false)=(sx,sy):=⟨_,_,rfl⟩;have bF:=TY a7;clear a7;go_wp2_with fail
               refine(lW dx dy false _).mono ?_;rintro e w9 ⟨rfl,bJ⟩;obtain⟨cS,cT,b8⟩:=bk bJ;(try simp at b8)
               have bR:wr.heap.size<w9.heap.size:=(by omega);have bU:b<w9.heap.size:=(by omega);rw[bF.out];have cU:b≠w9.heap.size:=(by omega);have cV:b≠w9.heap.size+1:=(by omega);have cW:wr.heap.size≠w9.heap.size:=(by omega);have cX:wr.heap.size≠w9.heap.size+1:=(by omega);have bC:=(((((bA.alloc (.cells #[.int .i64 k,.int .i64 y] 83)).below hb4).below bB).below bJ).alloc (.cells #[.int .i64 dx,.int .i64 dy] 83)).alloc (.cells #[.int .i64 sx,.int .i64 sy] 83);have B5:=(((((b7.al (.cells #[.int .i64 k,.int .i64 y] 83)).tr hb4).tr bB).tr bJ).al (.cells #[.int .i64 dx,.int .i64 dy] 83)).al (.cells #[.int .i64 sx,.int .i64 sy] 83);go_wp2_with (at_builtin;go_must (refine iM (enc:=qR) sO rD sN B5 bC (62:Int) H8.out HM.out (by simp) rfl _ _ rfl rfl rfl ?_);intro v6 w6 a6 b5 cI cJ;obtain⟨A6,c6,rfl,cK,cL⟩:=a6.form)
               go_roundw
               case rel=>exact⟨k+1,A6,c6,by omega,by go_num,by simp[a8.out],by have e:(nK s l y k++[(62:Int)]).length=k+1:=(by rw[TZ,a8.out];rfl);rw[lL s l y k bW.out rfl,<-e];exact a6,b5⟩
               case measure=>simp[intOf];omega
             . have bW : Hid (sgn s l k y = 118) := TY (by rw [b6]; simp [xW, eK]);clear b6;go_wp2_with fail
               refine(iF s k y _ hs).mono ?_;rintro e w4 ⟨rfl,hb4⟩;obtain⟨cE,cF,bX⟩:=bk hb4;(try simp at bX)
               have bD:wr.heap.size<w4.heap.size:=(by omega);have bN:b<w4.heap.size:=(by omega);rw[cC.out,Bool.true_and,cD.out,bL.out];go_wp2_with fail
               refine(lH _ l k y _ (h2.TW (hBl.tr hb4))).mono ?_;rintro e w5 ⟨rfl,bB⟩;obtain⟨cG,cH,bY⟩:=bk bB;(try simp at bY)
               have bE:wr.heap.size<w5.heap.size:=(by omega);have bO:b<w5.heap.size:=(by omega);rw[HD.out];obtain⟨sx,sy,a7⟩:∃sx sy,sec (dx,dy,true)=(sx,sy):=⟨_,_,rfl⟩;have bF:=TY a7;clear a7;go_wp2_with fail
               refine(lW dx dy true _).mono ?_;rintro e w9 ⟨rfl,bJ⟩;obtain⟨cS,cT,b8⟩:=bk bJ;(try simp at b8)
               have bR:wr.heap.size<w9.heap.size:=(by omega);have bU:b<w9.heap.size:=(by omega);rw[bF.out];have cU:b≠w9.heap.size:=(by omega);have cV:b≠w9.heap.size+1:=(by omega);have cW:wr.heap.size≠w9.heap.size:=(by omega);have cX:wr.heap.size≠w9.heap.size+1:=(by omega);have bC:=(((((bA.alloc (.cells #[.int .i64 k,.int .i64 y] 83)).below hb4).below bB).below bJ).alloc (.cells #[.int .i64 dx,.int .i64 dy] 83)).alloc (.cells #[.int .i64 sx,.int .i64 sy] 83);have B5:=(((((b7.al (.cells #[.int .i64 k,.int .i64 y] 83)).tr hb4).tr bB).tr bJ).al (.cells #[.int .i64 dx,.int .i64 dy] 83)).al (.cells #[.int .i64 sx,.int .i64 sy] 83);go_wp2_with (at_builtin;go_must (refine iM (enc:=qR) sO rD sN B5 bC (118:Int) H8.out HM.out (by simp) rfl _ _ rfl rfl rfl ?_);intro v6 w6 a6 b5 cI cJ;obtain⟨A6,c6,rfl,cK,cL⟩:=a6.form)
               go_roundw
               case rel=>exact⟨k+1,A6,c6,by omega,by go_num,by simp[a8.out],by have e:(nK s l y k++[(118:Int)]).length=k+1:=(by rw[TZ,a8.out];rfl);rw[lL s l y k bW.out rfl,<-e];exact a6,b5⟩
               case measure=>simp[intOf];omega
       . obtain rfl : k = 8 := by omega
         obtain⟨g,rfl,hB,hg⟩:=bA.split (k:=0) (by rw[xQ];omega)
         have cY := run_convert_bytes_arg (P := Tryz.prog) wr 22 5 Tryz.underlying22 Tryz.underlying5 g 0 8 dk (nK s l y 8) (xQ _ _ _ _) (fun i hi => by
          have eW:i<(nK s l y 8).length:=by rw[xQ];exact hi
          have:=bA.slot rD Nat.one_pos eW 0 (.int .u8 (nK s l y 8)[i]) rfl;rw[Nat.mul_one,Nat.add_zero]at this;rw[Nat.zero_add,this,List.getD_eq_getElem?_getD,List.getElem?_eq_getElem eW,Option.getD_some]) 9 Tryz.underlying9
         rw[Oq]at cY;have b9:=hown.below b7;have B2:=cA.tr b7;have H8:Hid (((vO s l y).length+1)*16<=140737488355328):=TY (by rw[xK];omega);have HM:Hid ((vO s l y).length+1<=maxLen):=TY (by rw[xK];unfold maxLen;omega);have fO:=TY (Lc s l y);have e5:=TY (xK s l y);go_wp2_with (at_builtin;go_must (refine iM (enc:=iX) qG jA sF B2 b9 (QJ s l y 8) H8.out HM.out (by simp) rfl _ _ rfl rfl rfl ?_);intro v4 w4 dL hb4 hg4 gB;obtain⟨A4,c4,rfl,cE,gC⟩:=dL.form)
         go_roundw
         case rel=>exact⟨y+1,A4,c4,by omega,by go_num,by simp[e5.out],by have e:(vO s l y++[QJ s l y 8]).length=y+1:=(by rw[TZ,e5.out];rfl);rw[fO.out,<-e];exact dL,hb4⟩
         case measure=>simp[intOf];omega
    . obtain rfl : y = rows.length := by omega
      go_wp2;go_ret;have e6:(vO (setOf rows) l rows.length).length=rows.length:=xK _ _ _;rw[eP.out]at hown;refine⟨D,d,by rw[e6];rfl,?_,cA⟩;rw[e6];exact hown
end Go.Proofs.YtjijonhkofhikaaGreatDoor
