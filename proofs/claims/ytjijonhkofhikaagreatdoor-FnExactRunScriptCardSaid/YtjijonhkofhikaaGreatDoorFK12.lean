import Derived.Test.YtjijonhkofhikaaGreatDoorFK4
open _root_.List renaming length_append->Tm
open _root_.Go.Proofs.Tryz (prog func31 ntmps31 func74 ntmps74)
open _root_.Go.Proofs.Tryz renaming underlying22->Tn
set_option linter.unusedVariables false
set_option linter.unusedSimpArgs false
set_option maxHeartbeats 4000000
set_option maxRecDepth 100000
namespace Go.Proofs.YtjijonhkofhikaaGreatDoor
open Go.ChangeShapes Go.WideShapes Go.ChangeAt Go.RowKit
theorem rA:∀x:Int,(vS x).length=1:=fun _=>rfl
theorem sQ:∀x:Int,∀u∈vS x,u.oneCell'=true:=by
 intro x u hu;simp[vS]at hu;rcases hu with rfl;rfl
theorem sS:Row prog 22 5 (.int .u8 0) 1 1:=⟨Tn,by kernel_rfl,rfl,by decide⟩
theorem iD {P:Program} {ops:Array Oper} {rest:List Oper} {o:Oper} {a:Act} {Q:Exit->Act->World->Prop} {α:Type} {t E:TypeId} {z:Value} {size bytes:Nat} (R:Row P t E z size bytes)
    {enc:α->List Value} (a7:∀x,(enc x).length=size) (h1:∀x,∀u∈enc x,u.oneCell'=true)
    {W0 w:World} (a8:Below W0.heap.size W0 w) {v:Value} {l:List α} (hown:aD E size enc W0.heap.size w v l) (y:α)
    (hlen:(l.length+1)*bytes<=140737488355328) (a6:l.length+1<=maxLen) {g:Nat} (hg:g=w.heap.size)
    (hgd:o.guard=none) (s x:Operand) (ho:o.op= .call {callee:= .builtin .append,args:= #[s,x],argTypes:= #[t,t]})
    (hs:a.eval s=v) (hx:a.eval x= .slice (some ⟨g,0,none⟩) 1 1)
    (h:∀v' w',aD E size enc W0.heap.size w' v' (l++[y])->Below W0.heap.size W0 w'->(w.alloc (.cells (enc y).toArray E)).grownBy w' v.ownBlock->(v'.ownBlock=v.ownBlock∨v'.ownBlock=some (w.heap.size+1))->wpList P ops Q rest (a.put o.dst v') w'):
    wpList P ops Q (o::rest) a (w.alloc (.cells (enc y).toArray E)):=by
 subst hg;exact aF R a7 h1 a8 hown y hlen a6 hgd s x ho hs hx h
def nP (s:Nat) (l:List Dm) (y k:Nat):List Int:=(FN s l y k).map fun b=>(b.toNat:Int)
theorem xQ (s:Nat) (l:List Dm) (y k:Nat):(nP s l y k).length=k:=by simp[nP,FN]
theorem lS (s:Nat) (l:List Dm) (y k:Nat) {x:UInt8} {n:Int} (h:sgn s l k y=x) (hn:n=(x.toNat:Int)):nP s l y (k+1)=nP s l y k++[n]:=by
 unfold nP;rw[DN,List.map_append,h,hn];rfl
theorem Og (s:Nat) (l:List Dm) (y:Nat):strOfNums (nP s l y 8)=AO s l y 8:=by
 unfold strOfNums AO nP;congr 1
 rw[List.map_map];congr 1
 rw[show((fun n:Int=>UInt8.ofNat n.toNat)∘fun b:UInt8=>(b.toNat:Int))=id from by funext b;simp];simp
theorem M8 {s:Nat} {l:List Dm} {x y:Nat} (h:s.testBit (8*y+x)=false):sgn s l x y=46:=by unfold sgn;rw[h];rfl
theorem KM {s:Nat} {l:List Dm} {x y:Nat} (h:s.testBit (8*y+x)=true) (hc:qG l ((x:Int),(y:Int))=none):sgn s l x y=63:=by unfold sgn;rw[h,hc];rfl
theorem KN {s:Nat} {l:List Dm} {x y:Nat} {d:Dm} (h:s.testBit (8*y+x)=true) (hc:qG l ((x:Int),(y:Int))=some d):sgn s l x y=nX d ((x:Int),(y:Int)):=by unfold sgn;rw[h,hc];rfl
theorem R5 {x y:Nat} (hx:x<8) (hy:y<8):bH ((x:Int),(y:Int))=true/\(dJ ((x:Int),(y:Int))).toNat=8*y+x:=by
 have a6:bH ((x:Int),(y:Int))=true:=dC.2 ⟨⟨by omega,by omega⟩,by omega,by omega⟩;exact⟨a6,by rw[(dP a6).1];simp only;omega⟩
theorem Cy (v u:Value) (rows:List Int) (l:List Dm) (w:World) (h:Rd 1 aZ w v rows) (h2:Rd 3 aQ w u l):Calls prog 31 #[.agg #[v],u] w (fM 9 1 fJ (eQ rows l) w):=by
 obtain⟨A,c,rfl,hc,hm⟩:=h.form;obtain⟨A2,c2,rfl,hc2,fN⟩:=h2.form;have hA:=((Below.refl w.heap.size w).al (.cells #[.slice A rows.length c] 26));have hx:=Blk.aX w 26 #[.slice A rows.length c];have h':=h.Tj hA;rcases hp:isPartial rows l with _|_
 . have e : eQ rows l = [] := by unfold eQ; rw [hp]; rfl
   rw[e];go_enter func31,ntmps31
   go_wp2_with fail
   refine(qL _ _ rows l _ h' (h2.Tj hA)).mono ?_;rintro e w1 ⟨rfl,hb1⟩;obtain⟨hc1,eK,hz1⟩:=bk hb1;(try simp at hz1)
   have cK:w.heap.size<w1.heap.size:=(by omega);rw[hp];go_wp2;go_ret;exact⟨none,0,rfl,nS _,hA.tr hb1⟩
 . have e : eQ rows l = pU (setOf rows) l rows.length := by unfold eQ; rw [hp]; rfl
   rw[e];obtain⟨cY,_⟩:=iW hp;have h8:=cY.1;have hs:=dW cY;have cL:=fun(c:Cl) (d:Dm) (hd:qG l c=some d)=>Ms hp hd
   have Hp:=Tk hp;have e5:=Tk cY;have dL:=Tk cL;clear hp cY cL e;go_enter func31,ntmps31
   go_wp2_with fail
   refine(qL _ _ rows l _ h' (h2.Tj hA)).mono ?_;rintro e w1 ⟨rfl,hb1⟩;obtain⟨hc1,eK,hz1⟩:=bk hb1;(try simp at hz1)
   have cK:w.heap.size<w1.heap.size:=(by omega);rw[Hp.out];have hx1:=(hx.bl hb1).alloc (.cells #[] 9);have z1:=hx1.c1;have e6:=hx1.lt;have B1:=(hA.tr hb1).al (.cells #[] 9);have cM:=eG w1 (E:=9) (size:=1) (enc:=fJ) w1.heap.size rfl w.heap.size (hA.tr hb1).size;have dT:=hx1.lt;go_wp2_with fail
   refine(pV _ rows _ (h.Tj B1) e5).mono ?_;rintro e w2 ⟨rfl,hb2⟩;obtain⟨hc2,hf2,hz2⟩:=bk hb2;(try simp at hz2)
   have eL:w.heap.size<w2.heap.size:=(by omega);have hx2:=hx1.bl hb2;have B2:=B1.tr hb2;have b7:=cM.below hb2;have z2:=hx2.c1;clear hc1 eK hc2 hf2 z1 dT e6;go_wp2;obtain⟨s,eA⟩:=Ti (setOf rows);rw[<-eA]at hs⊢;have eM:=Tk eA;clear eA;go_loopw [5,25] (fun s5 e7 wr=>∃(y:Nat) (D:Option Addr) (d:Nat),y<=rows.length/\e7= .int .i64 y/\s5= .slice D y d/\aD 9 1 fJ w.heap.size wr (.slice D y d) (pU s l y)/\Below w.heap.size w wr) (fun _ i _=>rows.length-(intOf i).toNat)
   case atStart=>exact⟨0,_,_,by omega,rfl,rfl,b7,B2⟩
   case round=>
    obtain⟨y,D,d,hy,rfl,rfl,hown,b8⟩:=hrel;clear cM b7 hx2 z2 hx1 B1 B2 hb2 hb1;by_cases hlt:y<rows.length
    . have e8 : y < 8 := by omega
      go_wp2;obtain⟨wo,rfl⟩:∃wo:World,wo=wr:=⟨_,rfl⟩;have B0:=(Below.refl wo.heap.size wo).al (.cells #[] 5);have cN:=eG wo (E:=5) (size:=1) (enc:=vS) wo.heap.size rfl wo.heap.size (Nat.le_refl _);go_loopw [8,29] (fun s8 e9 wr=>∃(k:Nat) (D:Option Addr) (d:Nat),k<=8/\e9= .int .i64 k/\s8= .slice D k d/\aD 5 1 vS wo.heap.size wr (.slice D k d) (nP s l y k)/\Below wo.heap.size wo wr) (fun _ i _=>8-(intOf i).toNat)
      case atStart=>exact⟨0,_,_,by omega,rfl,rfl,cN,B0⟩
      case round=>
       obtain⟨k,Dk,dk,hk,rfl,rfl,bA,b5⟩:=hrel;clear B0 cN;by_cases fD:k<8
       . obtain⟨eN,eC⟩:=R5 fD e8;have hlen:=xQ s l y k;have H8:Hid (((nP s l y k).length+1)*1<=140737488355328):=Tk (by rw[hlen];omega);have HM:Hid ((nP s l y k).length+1<=maxLen):=Tk (by rw[hlen];unfold maxLen;omega);have eE:=dL.out ((k:Int),(y:Int));have hz:wr.heap.size<(wr.alloc (.cells #[.int .i64 k,.int .i64 y] 83)).heap.size:=(by simp);have hBl:=(b8.tr b5).al (.cells #[.int .i64 k,.int .i64 y] 83)
         have b9 : ∀ d, qG l ((k : Int), (y : Int)) = some d -> s.testBit (8 * y + k) = true := fun d hd => by
          have:=(eE d hd).2.2;rw[eC,<-eM.out]at this;exact this
         have a8:=Tk hlen;have cA:=Tk eN;have cB:=Tk eC;have cP:=Tk b9;have fO:=Tk eE;clear hlen eN eC b9 eE;rcases yO l ((k:Int),(y:Int))with⟨hD,hC⟩|⟨j,hj,hD,hC⟩
         . have HD:=Tk hD;have HC:=Tk hC;clear hD hC;rcases bK:s.testBit (8*y+k)with _|_
           . have bR:Hid (sgn s l k y=46):=Tk (M8 bK);have bL:=Tk bK;clear bK;go_wp2_with fail
             refine(iP s k y _ hs).mono ?_;rintro e w4 ⟨rfl,hb4⟩;obtain⟨cC,cD,bS⟩:=bk hb4;(try simp at bS)
             have bD:wr.heap.size<w4.heap.size:=(by omega);rw[cA.out,Bool.true_and,cB.out,bL.out];go_wp2_with fail
             refine(lL _ l k y _ (h2.Tj (hBl.tr hb4))).mono ?_;rintro e w5 ⟨rfl,bB⟩;obtain⟨cE,cF,bU⟩:=bk bB;(try simp at bU)
             have bE:wr.heap.size<w5.heap.size:=(by omega);rw[HD.out];have bC:=((bA.alloc (.cells #[.int .i64 k,.int .i64 y] 83)).below hb4).below bB;have B5:=((b5.al (.cells #[.int .i64 k,.int .i64 y] 83)).tr hb4).tr bB;go_wp2_with (at_builtin;go_must (refine iD (enc:=vS) sS rA sQ B5 bC (46:Int) H8.out HM.out (by simp) rfl _ _ rfl rfl rfl ?_);intro v6 w6 a6 bX cG cH;obtain⟨A6,c6,rfl,cI,cJ⟩:=a6.form)
             go_roundw
             case rel=>exact⟨k+1,A6,c6,by omega,by go_num,by simp[a8.out],by have e:(nP s l y k++[(46:Int)]).length=k+1:=(by rw[Tm,a8.out];rfl);rw[lS s l y k bR.out rfl,<-e];exact a6,bX⟩
             case measure=>simp[intOf];omega
           . have bR:Hid (sgn s l k y=63):=Tk (KM bK HC.out);have bL:=Tk bK;clear bK;go_wp2_with fail
             refine(iP s k y _ hs).mono ?_;rintro e w4 ⟨rfl,hb4⟩;obtain⟨cC,cD,bS⟩:=bk hb4;(try simp at bS)
             have bD:wr.heap.size<w4.heap.size:=(by omega);rw[cA.out,Bool.true_and,cB.out,bL.out];go_wp2_with fail
             refine(lL _ l k y _ (h2.Tj (hBl.tr hb4))).mono ?_;rintro e w5 ⟨rfl,bB⟩;obtain⟨cE,cF,bU⟩:=bk bB;(try simp at bU)
             have bE:wr.heap.size<w5.heap.size:=(by omega);rw[HD.out];have bC:=((bA.alloc (.cells #[.int .i64 k,.int .i64 y] 83)).below hb4).below bB;have B5:=((b5.al (.cells #[.int .i64 k,.int .i64 y] 83)).tr hb4).tr bB;go_wp2_with (at_builtin;go_must (refine iD (enc:=vS) sS rA sQ B5 bC (63:Int) H8.out HM.out (by simp) rfl _ _ rfl rfl rfl ?_);intro v6 w6 a6 bX cG cH;obtain⟨A6,c6,rfl,cI,cJ⟩:=a6.form)
             go_roundw
             case rel=>exact⟨k+1,A6,c6,by omega,by go_num,by simp[a8.out],by have e:(nP s l y k++[(63:Int)]).length=k+1:=(by rw[Tm,a8.out];rfl);rw[lS s l y k bR.out rfl,<-e];exact a6,bX⟩
             case measure=>simp[intOf];omega
         . have bK:=cP.out _ hC;have bY:=KN bK hC;obtain⟨b,off,rfl,hb,q1,q2,q3⟩:=(h2.Tj (b8.tr b5)).kE hj;obtain⟨d,hd⟩:=Ti (l[j]);rw[<-hd]at q1 q2 q3 bY;obtain⟨dx,dy,dn⟩:=d;simp only at q1 q2 q3;have fR:(0:Int)<=(j:Int):=(by omega);have fS:(j:Int)<(l.length:Int):=(by omega);have fW:b<(wr.alloc (.cells #[.int .i64 k,.int .i64 y] 83)).heap.size:=by simp;omega
           have fX:b≠wr.heap.size:=(by omega);have HD:=Tk hD;have bL:=Tk bK;have Hd:=Tk hd;clear hD hC bK hd;by_cases eI:dx=(k:Int)
           . subst eI;by_cases eJ:dy=(y:Int)
             . subst eJ;rcases dn with _|_
               . have bR : Hid (sgn s l k y = 60) := Tk (by rw [bY]; simp [nX]);clear bY;go_wp2_with fail
                 refine(iP s k y _ hs).mono ?_;rintro e w4 ⟨rfl,hb4⟩;obtain⟨cC,cD,bS⟩:=bk hb4;(try simp at bS)
                 have bD:wr.heap.size<w4.heap.size:=(by omega);have bM:b<w4.heap.size:=(by omega);rw[cA.out,Bool.true_and,cB.out,bL.out];go_wp2_with fail
                 refine(lL _ l k y _ (h2.Tj (hBl.tr hb4))).mono ?_;rintro e w5 ⟨rfl,bB⟩;obtain⟨cE,cF,bU⟩:=bk bB;(try simp at bU)
                 have bE:wr.heap.size<w5.heap.size:=(by omega);have bN:b<w5.heap.size:=(by omega);rw[HD.out];obtain⟨sx,sy,a7⟩:∃sx sy,sec ((k:Int),(y:Int),false)=(sx,sy):=⟨_,_,rfl⟩;have bF:=Tk a7;clear a7;go_wp2_with fail
                 refine(mE (k:Int) (y:Int) false _).mono ?_;rintro e w9 ⟨rfl,bJ⟩;obtain⟨cQ,cR,b6⟩:=bk bJ;(try simp at b6)
                 have bO:wr.heap.size<w9.heap.size:=(by omega);have bP:b<w9.heap.size:=(by omega);rw[bF.out];have cS:b≠w9.heap.size:=(by omega);have cT:b≠w9.heap.size+1:=(by omega);have cU:wr.heap.size≠w9.heap.size:=(by omega);have cV:wr.heap.size≠w9.heap.size+1:=(by omega);have bC:=(((((bA.alloc (.cells #[.int .i64 k,.int .i64 y] 83)).below hb4).below bB).below bJ).alloc (.cells #[.int .i64 (k:Int),.int .i64 (y:Int)] 83)).alloc (.cells #[.int .i64 sx,.int .i64 sy] 83);have B5:=(((((b5.al (.cells #[.int .i64 k,.int .i64 y] 83)).tr hb4).tr bB).tr bJ).al (.cells #[.int .i64 (k:Int),.int .i64 (y:Int)] 83)).al (.cells #[.int .i64 sx,.int .i64 sy] 83);go_wp2_with (at_builtin;go_must (refine iD (enc:=vS) sS rA sQ B5 bC (60:Int) H8.out HM.out (by simp) rfl _ _ rfl rfl rfl ?_);intro v6 w6 a6 bX cG cH;obtain⟨A6,c6,rfl,cI,cJ⟩:=a6.form)
                 go_roundw
                 case rel=>exact⟨k+1,A6,c6,by omega,by go_num,by simp[a8.out],by have e:(nP s l y k++[(60:Int)]).length=k+1:=(by rw[Tm,a8.out];rfl);rw[lS s l y k bR.out rfl,<-e];exact a6,bX⟩
                 case measure=>simp[intOf];omega
               . have bR : Hid (sgn s l k y = 94) := Tk (by rw [bY]; simp [nX]);clear bY;go_wp2_with fail
                 refine(iP s k y _ hs).mono ?_;rintro e w4 ⟨rfl,hb4⟩;obtain⟨cC,cD,bS⟩:=bk hb4;(try simp at bS)
                 have bD:wr.heap.size<w4.heap.size:=(by omega);have bM:b<w4.heap.size:=(by omega);rw[cA.out,Bool.true_and,cB.out,bL.out];go_wp2_with fail
                 refine(lL _ l k y _ (h2.Tj (hBl.tr hb4))).mono ?_;rintro e w5 ⟨rfl,bB⟩;obtain⟨cE,cF,bU⟩:=bk bB;(try simp at bU)
                 have bE:wr.heap.size<w5.heap.size:=(by omega);have bN:b<w5.heap.size:=(by omega);rw[HD.out];obtain⟨sx,sy,a7⟩:∃sx sy,sec ((k:Int),(y:Int),true)=(sx,sy):=⟨_,_,rfl⟩;have bF:=Tk a7;clear a7;go_wp2_with fail
                 refine(mE (k:Int) (y:Int) true _).mono ?_;rintro e w9 ⟨rfl,bJ⟩;obtain⟨cQ,cR,b6⟩:=bk bJ;(try simp at b6)
                 have bO:wr.heap.size<w9.heap.size:=(by omega);have bP:b<w9.heap.size:=(by omega);rw[bF.out];have cS:b≠w9.heap.size:=(by omega);have cT:b≠w9.heap.size+1:=(by omega);have cU:wr.heap.size≠w9.heap.size:=(by omega);have cV:wr.heap.size≠w9.heap.size+1:=(by omega);have bC:=(((((bA.alloc (.cells #[.int .i64 k,.int .i64 y] 83)).below hb4).below bB).below bJ).alloc (.cells #[.int .i64 (k:Int),.int .i64 (y:Int)] 83)).alloc (.cells #[.int .i64 sx,.int .i64 sy] 83);have B5:=(((((b5.al (.cells #[.int .i64 k,.int .i64 y] 83)).tr hb4).tr bB).tr bJ).al (.cells #[.int .i64 (k:Int),.int .i64 (y:Int)] 83)).al (.cells #[.int .i64 sx,.int .i64 sy] 83);go_wp2_with (at_builtin;go_must (refine iD (enc:=vS) sS rA sQ B5 bC (94:Int) H8.out HM.out (by simp) rfl _ _ rfl rfl rfl ?_);intro v6 w6 a6 bX cG cH;obtain⟨A6,c6,rfl,cI,cJ⟩:=a6.form)
                 go_roundw
                 case rel=>exact⟨k+1,A6,c6,by omega,by go_num,by simp[a8.out],by have e:(nP s l y k++[(94:Int)]).length=k+1:=(by rw[Tm,a8.out];rfl);rw[lS s l y k bR.out rfl,<-e];exact a6,bX⟩
                 case measure=>simp[intOf];omega
             . rcases dn with _|_
               . have bR : Hid (sgn s l k y = 62) := Tk (by rw [bY]; simp [nX, eJ]);clear bY;go_wp2_with fail
                 refine(iP s k y _ hs).mono ?_;rintro e w4 ⟨rfl,hb4⟩;obtain⟨cC,cD,bS⟩:=bk hb4;(try simp at bS)
                 have bD:wr.heap.size<w4.heap.size:=(by omega);have bM:b<w4.heap.size:=(by omega);rw[cA.out,Bool.true_and,cB.out,bL.out];go_wp2_with fail
                 refine(lL _ l k y _ (h2.Tj (hBl.tr hb4))).mono ?_;rintro e w5 ⟨rfl,bB⟩;obtain⟨cE,cF,bU⟩:=bk bB;(try simp at bU)
                 have bE:wr.heap.size<w5.heap.size:=(by omega);have bN:b<w5.heap.size:=(by omega);rw[HD.out];obtain⟨sx,sy,a7⟩:∃sx sy,sec ((k:Int),dy,false)=(sx,sy):=⟨_,_,rfl⟩;have bF:=Tk a7;clear a7;go_wp2_with fail
                 refine(mE (k:Int) dy false _).mono ?_;rintro e w9 ⟨rfl,bJ⟩;obtain⟨cQ,cR,b6⟩:=bk bJ;(try simp at b6)
                 have bO:wr.heap.size<w9.heap.size:=(by omega);have bP:b<w9.heap.size:=(by omega);rw[bF.out];have cS:b≠w9.heap.size:=(by omega);have cT:b≠w9.heap.size+1:=(by omega);have cU:wr.heap.size≠w9.heap.size:=(by omega);have cV:wr.heap.size≠w9.heap.size+1:=(by omega);have bC:=(((((bA.alloc (.cells #[.int .i64 k,.int .i64 y] 83)).below hb4).below bB).below bJ).alloc (.cells #[.int .i64 (k:Int),.int .i64 dy] 83)).alloc (.cells #[.int .i64 sx,.int .i64 sy] 83);have B5:=(((((b5.al (.cells #[.int .i64 k,.int .i64 y] 83)).tr hb4).tr bB).tr bJ).al (.cells #[.int .i64 (k:Int),.int .i64 dy] 83)).al (.cells #[.int .i64 sx,.int .i64 sy] 83);go_wp2_with (at_builtin;go_must (refine iD (enc:=vS) sS rA sQ B5 bC (62:Int) H8.out HM.out (by simp) rfl _ _ rfl rfl rfl ?_);intro v6 w6 a6 bX cG cH;obtain⟨A6,c6,rfl,cI,cJ⟩:=a6.form)
                 go_roundw
                 case rel=>exact⟨k+1,A6,c6,by omega,by go_num,by simp[a8.out],by have e:(nP s l y k++[(62:Int)]).length=k+1:=(by rw[Tm,a8.out];rfl);rw[lS s l y k bR.out rfl,<-e];exact a6,bX⟩
                 case measure=>simp[intOf];omega
               . have bR : Hid (sgn s l k y = 118) := Tk (by rw [bY]; simp [nX, eJ]);clear bY;go_wp2_with fail
                 refine(iP s k y _ hs).mono ?_;rintro e w4 ⟨rfl,hb4⟩;obtain⟨cC,cD,bS⟩:=bk hb4;(try simp at bS)
                 have bD:wr.heap.size<w4.heap.size:=(by omega);have bM:b<w4.heap.size:=(by omega);rw[cA.out,Bool.true_and,cB.out,bL.out];go_wp2_with fail
                 refine(lL _ l k y _ (h2.Tj (hBl.tr hb4))).mono ?_;rintro e w5 ⟨rfl,bB⟩;obtain⟨cE,cF,bU⟩:=bk bB;(try simp at bU)
                 have bE:wr.heap.size<w5.heap.size:=(by omega);have bN:b<w5.heap.size:=(by omega);rw[HD.out];obtain⟨sx,sy,a7⟩:∃sx sy,sec ((k:Int),dy,true)=(sx,sy):=⟨_,_,rfl⟩;have bF:=Tk a7;clear a7;go_wp2_with fail
                 refine(mE (k:Int) dy true _).mono ?_;rintro e w9 ⟨rfl,bJ⟩;obtain⟨cQ,cR,b6⟩:=bk bJ;(try simp at b6)
                 have bO:wr.heap.size<w9.heap.size:=(by omega);have bP:b<w9.heap.size:=(by omega);rw[bF.out];have cS:b≠w9.heap.size:=(by omega);have cT:b≠w9.heap.size+1:=(by omega);have cU:wr.heap.size≠w9.heap.size:=(by omega);have cV:wr.heap.size≠w9.heap.size+1:=(by omega);have bC:=(((((bA.alloc (.cells #[.int .i64 k,.int .i64 y] 83)).below hb4).below bB).below bJ).alloc (.cells #[.int .i64 (k:Int),.int .i64 dy] 83)).alloc (.cells #[.int .i64 sx,.int .i64 sy] 83);have B5:=(((((b5.al (.cells #[.int .i64 k,.int .i64 y] 83)).tr hb4).tr bB).tr bJ).al (.cells #[.int .i64 (k:Int),.int .i64 dy] 83)).al (.cells #[.int .i64 sx,.int .i64 sy] 83);go_wp2_with (at_builtin;go_must (refine iD (enc:=vS) sS rA sQ B5 bC (118:Int) H8.out HM.out (by simp) rfl _ _ rfl rfl rfl ?_);intro v6 w6 a6 bX cG cH;obtain⟨A6,c6,rfl,cI,cJ⟩:=a6.form)
                 go_roundw
                 case rel=>exact⟨k+1,A6,c6,by omega,by go_num,by simp[a8.out],by have e:(nP s l y k++[(118:Int)]).length=k+1:=(by rw[Tm,a8.out];rfl);rw[lS s l y k bR.out rfl,<-e];exact a6,bX⟩
                 case measure=>simp[intOf];omega
           . rcases dn with _|_
             . have bR : Hid (sgn s l k y = 62) := Tk (by rw [bY]; simp [nX, eI]);clear bY;go_wp2_with fail
               refine(iP s k y _ hs).mono ?_;rintro e w4 ⟨rfl,hb4⟩;obtain⟨cC,cD,bS⟩:=bk hb4;(try simp at bS)
               have bD:wr.heap.size<w4.heap.size:=(by omega);have bM:b<w4.heap.size:=(by omega);rw[cA.out,Bool.true_and,cB.out,bL.out];go_wp2_with fail
               refine(lL _ l k y _ (h2.Tj (hBl.tr hb4))).mono ?_;rintro e w5 ⟨rfl,bB⟩;obtain⟨cE,cF,bU⟩:=bk bB;(try simp at bU)
               have bE:wr.heap.size<w5.heap.size:=(by omega);have bN:b<w5.heap.size:=(by omega);rw[HD.out];obtain⟨sx,sy,a7⟩:∃sx sy,sec (dx,dy,false)=(sx,sy):=⟨_,_,rfl⟩;have bF:=Tk a7;clear a7;go_wp2_with fail
               refine(mE dx dy false _).mono ?_;rintro e w9 ⟨rfl,bJ⟩;obtain⟨cQ,cR,b6⟩:=bk bJ;(try simp at b6)
               have bO:wr.heap.size<w9.heap.size:=(by omega);have bP:b<w9.heap.size:=(by omega);rw[bF.out];have cS:b≠w9.heap.size:=(by omega);have cT:b≠w9.heap.size+1:=(by omega);have cU:wr.heap.size≠w9.heap.size:=(by omega);have cV:wr.heap.size≠w9.heap.size+1:=(by omega);have bC:=(((((bA.alloc (.cells #[.int .i64 k,.int .i64 y] 83)).below hb4).below bB).below bJ).alloc (.cells #[.int .i64 dx,.int .i64 dy] 83)).alloc (.cells #[.int .i64 sx,.int .i64 sy] 83);have B5:=(((((b5.al (.cells #[.int .i64 k,.int .i64 y] 83)).tr hb4).tr bB).tr bJ).al (.cells #[.int .i64 dx,.int .i64 dy] 83)).al (.cells #[.int .i64 sx,.int .i64 sy] 83);go_wp2_with (at_builtin;go_must (refine iD (enc:=vS) sS rA sQ B5 bC (62:Int) H8.out HM.out (by simp) rfl _ _ rfl rfl rfl ?_);intro v6 w6 a6 bX cG cH;obtain⟨A6,c6,rfl,cI,cJ⟩:=a6.form)
               go_roundw
               case rel=>exact⟨k+1,A6,c6,by omega,by go_num,by simp[a8.out],by have e:(nP s l y k++[(62:Int)]).length=k+1:=(by rw[Tm,a8.out];rfl);rw[lS s l y k bR.out rfl,<-e];exact a6,bX⟩
               case measure=>simp[intOf];omega
             . have bR : Hid (sgn s l k y = 118) := Tk (by rw [bY]; simp [nX, eI]);clear bY;go_wp2_with fail
               refine(iP s k y _ hs).mono ?_;rintro e w4 ⟨rfl,hb4⟩;obtain⟨cC,cD,bS⟩:=bk hb4;(try simp at bS)
               have bD:wr.heap.size<w4.heap.size:=(by omega);have bM:b<w4.heap.size:=(by omega);rw[cA.out,Bool.true_and,cB.out,bL.out];go_wp2_with fail
               refine(lL _ l k y _ (h2.Tj (hBl.tr hb4))).mono ?_;rintro e w5 ⟨rfl,bB⟩;obtain⟨cE,cF,bU⟩:=bk bB;(try simp at bU)
               have bE:wr.heap.size<w5.heap.size:=(by omega);have bN:b<w5.heap.size:=(by omega);rw[HD.out];obtain⟨sx,sy,a7⟩:∃sx sy,sec (dx,dy,true)=(sx,sy):=⟨_,_,rfl⟩;have bF:=Tk a7;clear a7;go_wp2_with fail
               refine(mE dx dy true _).mono ?_;rintro e w9 ⟨rfl,bJ⟩;obtain⟨cQ,cR,b6⟩:=bk bJ;(try simp at b6)
               have bO:wr.heap.size<w9.heap.size:=(by omega);have bP:b<w9.heap.size:=(by omega);rw[bF.out];have cS:b≠w9.heap.size:=(by omega);have cT:b≠w9.heap.size+1:=(by omega);have cU:wr.heap.size≠w9.heap.size:=(by omega);have cV:wr.heap.size≠w9.heap.size+1:=(by omega);have bC:=(((((bA.alloc (.cells #[.int .i64 k,.int .i64 y] 83)).below hb4).below bB).below bJ).alloc (.cells #[.int .i64 dx,.int .i64 dy] 83)).alloc (.cells #[.int .i64 sx,.int .i64 sy] 83);have B5:=(((((b5.al (.cells #[.int .i64 k,.int .i64 y] 83)).tr hb4).tr bB).tr bJ).al (.cells #[.int .i64 dx,.int .i64 dy] 83)).al (.cells #[.int .i64 sx,.int .i64 sy] 83);go_wp2_with (at_builtin;go_must (refine iD (enc:=vS) sS rA sQ B5 bC (118:Int) H8.out HM.out (by simp) rfl _ _ rfl rfl rfl ?_);intro v6 w6 a6 bX cG cH;obtain⟨A6,c6,rfl,cI,cJ⟩:=a6.form)
               go_roundw
               case rel=>exact⟨k+1,A6,c6,by omega,by go_num,by simp[a8.out],by have e:(nP s l y k++[(118:Int)]).length=k+1:=(by rw[Tm,a8.out];rfl);rw[lS s l y k bR.out rfl,<-e];exact a6,bX⟩
               case measure=>simp[intOf];omega
       . obtain rfl : k = 8 := by omega
         obtain⟨g,rfl,hB,hg⟩:=bA.split (k:=0) (by rw[xQ];omega)
         have cW := run_convert_bytes_arg (P := prog) wr 22 5 Tn Tryz.underlying5 g 0 8 dk (nP s l y 8) (xQ _ _ _ _) (fun i hi => by
          have eP:i<(nP s l y 8).length:=by rw[xQ];exact hi
          have:=bA.slot rA Nat.one_pos eP 0 (.int .u8 (nP s l y 8)[i]) rfl;rw[Nat.mul_one,Nat.add_zero]at this;rw[Nat.zero_add,this,List.getD_eq_getElem?_getD,List.getElem?_eq_getElem eP,Option.getD_some]) 9 Tryz.underlying9
         rw[Og]at cW;have b7:=hown.below b5;have B2:=b8.tr b5;have H8:Hid (((pU s l y).length+1)*16<=140737488355328):=Tk (by rw[nD];omega);have HM:Hid ((pU s l y).length+1<=maxLen):=Tk (by rw[nD];unfold maxLen;omega);have fL:=Tk (DU s l y);have eR:=Tk (nD s l y);go_wp2_with (at_builtin;go_must (refine iD (enc:=fJ) mW eZ nM B2 b7 (AO s l y 8) H8.out HM.out (by simp) rfl _ _ rfl rfl rfl ?_);intro v4 w4 cX hb4 hg4 fY;obtain⟨A4,c4,rfl,cC,gA⟩:=cX.form)
         go_roundw
         case rel=>exact⟨y+1,A4,c4,by omega,by go_num,by simp[eR.out],by have e:(pU s l y++[AO s l y 8]).length=y+1:=(by rw[Tm,eR.out];rfl);rw[fL.out,<-e];exact cX,hb4⟩
         case measure=>simp[intOf];omega
    . obtain rfl : y = rows.length := by omega
      go_wp2;go_ret;have eW:(pU (setOf rows) l rows.length).length=rows.length:=nD _ _ _;rw[eM.out]at hown;refine⟨D,d,by rw[eW];rfl,?_,b8⟩;rw[eW];exact hown
theorem Cz (v u:Value) (rows:List Int) (l:List Dm) (w:World) (h:Rd 1 aZ w v rows) (h2:Rd 3 aQ w u l):Calls prog 74 #[.agg #[v],u] w (fM 9 1 fJ (eQ rows l) w):=by
 obtain⟨A,c,rfl,hc,hm⟩:=h.form;obtain⟨A2,c2,rfl,hc2,dT⟩:=h2.form;have hA:=((Below.refl w.heap.size w).al (.cells #[.slice A rows.length c] 26)).al (.cells #[] 9);have hx:=(Blk.aX w 26 #[.slice A rows.length c]).alloc (.cells #[] 9);have eA:w.heap.size≠w.heap.size+1:=(by omega);rcases hp:isPartial rows l with _|_
 . have e : eQ rows l = [] := by unfold eQ; rw [hp]; rfl
   rw[e];go_enter func74,ntmps74
   go_wp2_with fail
   refine(xI _ _ rows l _ (h.Tj hA) (h2.Tj hA)).mono ?_;rintro e w1 ⟨rfl,hb1⟩;obtain⟨hc1,cP,hz1⟩:=bk hb1;(try simp at hz1)
   have cC:w.heap.size<w1.heap.size:=(by omega);rw[hp];have bS:=(eG (w.alloc (.cells #[.slice A rows.length c] 26)) (E:=9) (size:=1) (enc:=fJ) (w.heap.size+1) (by simp) w.heap.size (by simp)).below hb1;go_wp2;go_ret;exact⟨some ⟨w.heap.size+1,0,none⟩,0,rfl,bS,hA.tr hb1⟩
 . have e : eQ rows l = pU (setOf rows) l rows.length := by unfold eQ; rw [hp]; rfl
   rw[e];obtain⟨cG,_⟩:=iW hp;have h8:=cG.1;have hs:=dW cG;have cD:=fun(c:Cl) (d:Dm) (hd:qG l c=some d)=>Ms hp hd
   have Hp:=Tk hp;have b5:=Tk cG;have cI:=Tk cD;clear hp cG cD e;go_enter func74,ntmps74
   go_wp2_with fail
   refine(xI _ _ rows l _ (h.Tj hA) (h2.Tj hA)).mono ?_;rintro e w1 ⟨rfl,hb1⟩;obtain⟨hc1,cP,hz1⟩:=bk hb1;(try simp at hz1)
   have cC:w.heap.size<w1.heap.size:=(by omega);rw[Hp.out];have bS:=(eG (w.alloc (.cells #[.slice A rows.length c] 26)) (E:=9) (size:=1) (enc:=fJ) (w.heap.size+1) (by simp) w.heap.size (by simp)).below hb1;have hx1:=hx.bl hb1;have B1:=hA.tr hb1;clear hc1 cP;go_wp2;obtain⟨s,cJ⟩:=Ti (setOf rows);rw[<-cJ]at hs⊢;have bP:=Tk cJ;clear cJ;go_loopw [5,6] (fun s5 cV wr=>∃(y:Nat) (D:Option Addr) (d:Nat),y<=rows.length/\cV= .int .i64 y/\s5= .slice D y d/\aD 9 1 fJ w.heap.size wr (.slice D y d) (pU s l y)/\Blk wr w.heap.size 26 #[.slice A rows.length c]/\Below w.heap.size w wr) (fun _ i _=>rows.length-(intOf i).toNat)
   case atStart=>exact⟨0,_,_,by omega,rfl,rfl,bS,hx1,B1⟩
   case round=>
    obtain⟨y,D,d,hy,rfl,rfl,hown,hR,bU⟩:=hrel;clear bS hx1 B1 hb1 hx;have z1:=hR.c1;have eC:=hR.lt;by_cases hlt:y<rows.length
    . have bX : y < 8 := by omega
      go_wp2;obtain⟨wo,rfl⟩:∃wo:World,wo=wr:=⟨_,rfl⟩;go_loopw [7,8] (fun s8 cW wr=>∃(k:Nat),k<=8/\cW= .int .i64 k/\s8= .string (AO s l y k)/\Below wo.heap.size wo wr) (fun _ i _=>8-(intOf i).toNat)
      case atStart=>exact⟨0,by omega,rfl,rfl,Below.refl _ _⟩
      case round=>
       obtain⟨k,hk,rfl,rfl,bN⟩:=hrel;have cH:=hR.bl bN;have z2:=cH.c1;have cX:=cH.lt;clear z1;by_cases bY:k<8
       . obtain⟨cQ,cK⟩:=R5 bY bX;have hsz:=Nz s l y k;have cY:(AO s l y k).size<=8:=(by omega);have bR:=Tk (NA s l y k);have hBl:=(bU.tr bN).al (.cells #[.int .i64 k,.int .i64 y] 83);have cL:=cI.out ((k:Int),(y:Int))
         have b6 : ∀ d, qG l ((k : Int), (y : Int)) = some d -> s.testBit (8 * y + k) = true := fun d hd => by
          have:=(cL d hd).2.2;rw[cK,<-bP.out]at this;exact this
         have eE:=Tk cQ;have eI:=Tk cK;have cR:=Tk b6;have eJ:=Tk cL;clear cQ cK b6 cL hsz;rcases bE:s.testBit (8*y+k)with _|_
         . have bK:Hid (sgn s l k y=46):=Tk (M8 bE);have bD:=Tk bE;clear bE;obtain⟨D0,cS⟩:=Ti (nW l ((k:Int),(y:Int)));have HD:Hid (nW l ((k:Int),(y:Int))=D0):=Tk cS.symm;clear cS;go_wp2_with fail
           refine(jG _ l k y _ (h2.Tj hBl)).mono ?_;rintro e w5 ⟨rfl,a6⟩;obtain⟨b7,b8,bL⟩:=bk a6;(try simp at bL)
           have a7:wr.heap.size<w5.heap.size:=(by omega);have a8:w.heap.size<w5.heap.size:=(by omega);rw[HD.out];have b9:w.heap.size≠wr.heap.size:=(by omega);go_wp2_with fail
           refine(eO _ rows k y _ (h.Tj (hBl.tr a6)) b5 bY bX).mono ?_;rintro e w6 ⟨rfl,bA⟩;obtain⟨cA,cB,bM⟩:=bk bA;(try simp at bM)
           have bB:wr.heap.size<w6.heap.size:=(by omega);have bC:w.heap.size<w6.heap.size:=(by omega);rw[<-bP.out,bD.out];have B6:=((bN.al (.cells #[.int .i64 k,.int .i64 y] 83)).tr a6).tr bA;go_wp2;go_roundw
           case rel=>exact⟨k+1,by omega,by go_num,by rw[<-bR.out,bK.out],B6⟩
           case measure=>simp[intOf];omega
         . rcases yO l ((k:Int),(y:Int))with⟨hD,hC⟩|⟨j,hj,hD,hC⟩
           . have bK:Hid (sgn s l k y=63):=Tk (KM bE hC);have HD:=Tk hD;have bD:=Tk bE;clear bE hD hC;go_wp2_with fail
             refine(jG _ l k y _ (h2.Tj hBl)).mono ?_;rintro e w5 ⟨rfl,a6⟩;obtain⟨b7,b8,bL⟩:=bk a6;(try simp at bL)
             have a7:wr.heap.size<w5.heap.size:=(by omega);have a8:w.heap.size<w5.heap.size:=(by omega);rw[HD.out];have b9:w.heap.size≠wr.heap.size:=(by omega);go_wp2_with fail
             refine(eO _ rows k y _ (h.Tj (hBl.tr a6)) b5 bY bX).mono ?_;rintro e w6 ⟨rfl,bA⟩;obtain⟨cA,cB,bM⟩:=bk bA;(try simp at bM)
             have bB:wr.heap.size<w6.heap.size:=(by omega);have bC:w.heap.size<w6.heap.size:=(by omega);rw[<-bP.out,bD.out];have B6:=((bN.al (.cells #[.int .i64 k,.int .i64 y] 83)).tr a6).tr bA;go_wp2;go_roundw
             case rel=>exact⟨k+1,by omega,by go_num,by rw[<-bR.out,bK.out],B6⟩
             case measure=>simp[intOf];omega
           . have bO:=KN bE hC;obtain⟨b,off,rfl,hb,q1,q2,q3⟩:=(h2.Tj (bU.tr bN)).kE hj;obtain⟨d,hd⟩:=Ti (l[j]);rw[<-hd]at q1 q2 q3 bO;obtain⟨dx,dy,dn⟩:=d;simp only at q1 q2 q3;have eK:(0:Int)<=(j:Int):=(by omega);have eL:(j:Int)<(l.length:Int):=(by omega);have eM:b≠wr.heap.size:=(by omega);have HD:=Tk hD;have bD:=Tk bE;have Hd:=Tk hd;clear hD hC bE hd;by_cases cM:dx=(k:Int)
             . subst cM;by_cases cN:dy=(y:Int)
               . subst cN;rcases dn with _|_
                 . have bK : Hid (sgn s l k y = 60) := Tk (by rw [bO]; simp [nX]);clear bO;go_wp2_with fail
                   refine(jG _ l k y _ (h2.Tj hBl)).mono ?_;rintro e w5 ⟨rfl,a6⟩;obtain⟨b7,b8,bL⟩:=bk a6;(try simp at bL)
                   have a7:wr.heap.size<w5.heap.size:=(by omega);have a8:w.heap.size<w5.heap.size:=(by omega);have bF:b<w5.heap.size:=(by omega);rw[HD.out];have b9:w.heap.size≠wr.heap.size:=(by omega);go_wp2_with fail
                   refine(eO _ rows k y _ (h.Tj (hBl.tr a6)) b5 bY bX).mono ?_;rintro e w6 ⟨rfl,bA⟩;obtain⟨cA,cB,bM⟩:=bk bA;(try simp at bM)
                   have bB:wr.heap.size<w6.heap.size:=(by omega);have bC:w.heap.size<w6.heap.size:=(by omega);have bJ:b<w6.heap.size:=(by omega);rw[<-bP.out,bD.out];have B6:=((bN.al (.cells #[.int .i64 k,.int .i64 y] 83)).tr a6).tr bA;go_wp2;go_roundw
                   case rel=>exact⟨k+1,by omega,by go_num,by rw[<-bR.out,bK.out],B6⟩
                   case measure=>simp[intOf];omega
                 . have bK : Hid (sgn s l k y = 94) := Tk (by rw [bO]; simp [nX]);clear bO;go_wp2_with fail
                   refine(jG _ l k y _ (h2.Tj hBl)).mono ?_;rintro e w5 ⟨rfl,a6⟩;obtain⟨b7,b8,bL⟩:=bk a6;(try simp at bL)
                   have a7:wr.heap.size<w5.heap.size:=(by omega);have a8:w.heap.size<w5.heap.size:=(by omega);have bF:b<w5.heap.size:=(by omega);rw[HD.out];have b9:w.heap.size≠wr.heap.size:=(by omega);go_wp2_with fail
                   refine(eO _ rows k y _ (h.Tj (hBl.tr a6)) b5 bY bX).mono ?_;rintro e w6 ⟨rfl,bA⟩;obtain⟨cA,cB,bM⟩:=bk bA;(try simp at bM)
                   have bB:wr.heap.size<w6.heap.size:=(by omega);have bC:w.heap.size<w6.heap.size:=(by omega);have bJ:b<w6.heap.size:=(by omega);rw[<-bP.out,bD.out];have B6:=((bN.al (.cells #[.int .i64 k,.int .i64 y] 83)).tr a6).tr bA;go_wp2;go_roundw
                   case rel=>exact⟨k+1,by omega,by go_num,by rw[<-bR.out,bK.out],B6⟩
                   case measure=>simp[intOf];omega
               . rcases dn with _|_
                 . have bK : Hid (sgn s l k y = 62) := Tk (by rw [bO]; simp [nX, cN]);clear bO;go_wp2_with fail
                   refine(jG _ l k y _ (h2.Tj hBl)).mono ?_;rintro e w5 ⟨rfl,a6⟩;obtain⟨b7,b8,bL⟩:=bk a6;(try simp at bL)
                   have a7:wr.heap.size<w5.heap.size:=(by omega);have a8:w.heap.size<w5.heap.size:=(by omega);have bF:b<w5.heap.size:=(by omega);rw[HD.out];have b9:w.heap.size≠wr.heap.size:=(by omega);go_wp2_with fail
                   refine(eO _ rows k y _ (h.Tj (hBl.tr a6)) b5 bY bX).mono ?_;rintro e w6 ⟨rfl,bA⟩;obtain⟨cA,cB,bM⟩:=bk bA;(try simp at bM)
                   have bB:wr.heap.size<w6.heap.size:=(by omega);have bC:w.heap.size<w6.heap.size:=(by omega);have bJ:b<w6.heap.size:=(by omega);rw[<-bP.out,bD.out];have B6:=((bN.al (.cells #[.int .i64 k,.int .i64 y] 83)).tr a6).tr bA;go_wp2;go_roundw
                   case rel=>exact⟨k+1,by omega,by go_num,by rw[<-bR.out,bK.out],B6⟩
                   case measure=>simp[intOf];omega
                 . have bK : Hid (sgn s l k y = 118) := Tk (by rw [bO]; simp [nX, cN]);clear bO;go_wp2_with fail
                   refine(jG _ l k y _ (h2.Tj hBl)).mono ?_;rintro e w5 ⟨rfl,a6⟩;obtain⟨b7,b8,bL⟩:=bk a6;(try simp at bL)
                   have a7:wr.heap.size<w5.heap.size:=(by omega);have a8:w.heap.size<w5.heap.size:=(by omega);have bF:b<w5.heap.size:=(by omega);rw[HD.out];have b9:w.heap.size≠wr.heap.size:=(by omega);go_wp2_with fail
                   refine(eO _ rows k y _ (h.Tj (hBl.tr a6)) b5 bY bX).mono ?_;rintro e w6 ⟨rfl,bA⟩;obtain⟨cA,cB,bM⟩:=bk bA;(try simp at bM)
                   have bB:wr.heap.size<w6.heap.size:=(by omega);have bC:w.heap.size<w6.heap.size:=(by omega);have bJ:b<w6.heap.size:=(by omega);rw[<-bP.out,bD.out];have B6:=((bN.al (.cells #[.int .i64 k,.int .i64 y] 83)).tr a6).tr bA;go_wp2;go_roundw
                   case rel=>exact⟨k+1,by omega,by go_num,by rw[<-bR.out,bK.out],B6⟩
                   case measure=>simp[intOf];omega
             . rcases dn with _|_
               . have bK : Hid (sgn s l k y = 62) := Tk (by rw [bO]; simp [nX, cM]);clear bO;go_wp2_with fail
                 refine(jG _ l k y _ (h2.Tj hBl)).mono ?_;rintro e w5 ⟨rfl,a6⟩;obtain⟨b7,b8,bL⟩:=bk a6;(try simp at bL)
                 have a7:wr.heap.size<w5.heap.size:=(by omega);have a8:w.heap.size<w5.heap.size:=(by omega);have bF:b<w5.heap.size:=(by omega);rw[HD.out];have b9:w.heap.size≠wr.heap.size:=(by omega);go_wp2_with fail
                 refine(eO _ rows k y _ (h.Tj (hBl.tr a6)) b5 bY bX).mono ?_;rintro e w6 ⟨rfl,bA⟩;obtain⟨cA,cB,bM⟩:=bk bA;(try simp at bM)
                 have bB:wr.heap.size<w6.heap.size:=(by omega);have bC:w.heap.size<w6.heap.size:=(by omega);have bJ:b<w6.heap.size:=(by omega);rw[<-bP.out,bD.out];have B6:=((bN.al (.cells #[.int .i64 k,.int .i64 y] 83)).tr a6).tr bA;go_wp2;go_roundw
                 case rel=>exact⟨k+1,by omega,by go_num,by rw[<-bR.out,bK.out],B6⟩
                 case measure=>simp[intOf];omega
               . have bK : Hid (sgn s l k y = 118) := Tk (by rw [bO]; simp [nX, cM]);clear bO;go_wp2_with fail
                 refine(jG _ l k y _ (h2.Tj hBl)).mono ?_;rintro e w5 ⟨rfl,a6⟩;obtain⟨b7,b8,bL⟩:=bk a6;(try simp at bL)
                 have a7:wr.heap.size<w5.heap.size:=(by omega);have a8:w.heap.size<w5.heap.size:=(by omega);have bF:b<w5.heap.size:=(by omega);rw[HD.out];have b9:w.heap.size≠wr.heap.size:=(by omega);go_wp2_with fail
                 refine(eO _ rows k y _ (h.Tj (hBl.tr a6)) b5 bY bX).mono ?_;rintro e w6 ⟨rfl,bA⟩;obtain⟨cA,cB,bM⟩:=bk bA;(try simp at bM)
                 have bB:wr.heap.size<w6.heap.size:=(by omega);have bC:w.heap.size<w6.heap.size:=(by omega);have bJ:b<w6.heap.size:=(by omega);rw[<-bP.out,bD.out];have B6:=((bN.al (.cells #[.int .i64 k,.int .i64 y] 83)).tr a6).tr bA;go_wp2;go_roundw
                 case rel=>exact⟨k+1,by omega,by go_num,by rw[<-bR.out,bK.out],B6⟩
                 case measure=>simp[intOf];omega
       . obtain rfl : k = 8 := by omega
         have cE:=hown.below bN;have B2:=bU.tr bN;have H8:Hid (((pU s l y).length+1)*16<=140737488355328):=Tk (by rw[nD];omega);have HM:Hid ((pU s l y).length+1<=maxLen):=Tk (by rw[nD];unfold maxLen;omega);have bR:=Tk (DU s l y);have cT:=Tk (nD s l y);have hne:=cE.apart cH (by decide);go_wp2_with (at_builtin;go_must (refine iD (enc:=fJ) mW eZ nM B2 cE (AO s l y 8) H8.out HM.out (by simp) rfl _ _ rfl rfl rfl ?_);intro v4 w4 cF hb4 hg4 eN;obtain⟨A4,c4,rfl,eP,eR⟩:=cF.form)
         have dL:=(cH.alloc _).grown hg4 (fun e=>hne e.symm);go_roundw
         case rel=>exact⟨y+1,A4,c4,by omega,by go_num,by simp[cT.out],by have e:(pU s l y++[AO s l y 8]).length=y+1:=(by rw[Tm,cT.out];rfl);rw[bR.out,<-e];exact cF,dL,hb4⟩
         case measure=>simp[intOf];omega
    . obtain rfl : y = rows.length := by omega
      go_wp2;go_ret;have cU:(pU (setOf rows) l rows.length).length=rows.length:=nD _ _ _;rw[bP.out]at hown;refine⟨D,d,by rw[cU];rfl,?_,bU⟩;rw[cU];exact hown
def LG (n:Nat):ByteArray:=strOfNums [((48+n%10:Nat):Int)]
def FP:Nat->Nat->ByteArray->ByteArray
  |0,_,o=>o
  |f+1,n,o=>if n=0 then o else FP f (n/10) (LG n++o)
def EJ (k:Nat):ByteArray:=(⟨#[109]⟩:ByteArray)++FP 10 k ByteArray.empty
theorem Oh (n:Nat):(LG n).size=1:=by unfold LG;rw[strOfNums_size];rfl
theorem LH:∀(f:Nat) (o:ByteArray),FP f 0 o=o
  |0,_=>rfl
  |f+1,o=>rfl
theorem zU (k:Nat) (w:World) (h0:1<=k) (hk:k<=1000000000):Calls prog 39 #[.int .i64 k] w (Ret (.string (EJ k)) w):=by
 obtain⟨R,hR⟩:=Ti (FP 10 k ByteArray.empty);have e:EJ k=(⟨#[109]⟩:ByteArray)++R:=by rw[hR];rfl
 rw[e];have HR:=Tk hR;clear e hR;have bC:¬((k:Int)<=0):=(by omega);go_enter Tryz.func39,Tryz.ntmps39
 go_wp2;go_loopw [0,3] (fun s0 s3 wr=>∃(f n:Nat) (o:ByteArray),Hid (n<10^f)/\n<=1000000000/\o.size+f<=10/\s0= .int .i64 n/\s3= .string o/\Hid (FP f n o=R)/\Below w.heap.size w wr) (fun i _ _=>(intOf i).toNat)
 case atStart=>exact⟨10,k,ByteArray.empty,Tk (by omega),hk,by decide,rfl,rfl,Tk HR.out.symm,Below.refl _ _⟩
 case round=>
  obtain⟨f,n,o,Hn,hn,hf,rfl,rfl,Hg,a6⟩:=hrel;have bD:o.size<=10:=(by omega);by_cases hlt:0<n
  . obtain ⟨f, rfl⟩ : ∃ f', f = f' + 1 := ⟨f - 1, by have := Hn.out; rcases f with _ | f <;> simp at *; omega⟩
    have hg:FP f (n/10) (LG n++o)=R:=by
     rw[<-Hg.out];show _=if n=0 then o else FP f (n/10) (LG n++o);rw[if_neg (by omega)]
    have HG:=Tk hg;clear hg;have a8:=Oh n;have hw:IntKind.u8.wrap (48+(n:Int)%10)=48+(n:Int)%10:=by rw[IntKind.wrap_u8];omega
    have a7 := run_convert_bytes_arg (P := prog) (wr.alloc (.cells #[.int .u8 (48 + (n : Int) % 10)] 5)) 22 5 Tn Tryz.underlying5 wr.heap.size 0 1 1 [48 + (n : Int) % 10] rfl (fun i hi => by
     obtain rfl:i=0:=by omega
     exact(cell_of_row _ _ 0 #[.int .u8 (48+(n:Int)%10)] 5 (0,0) (heap_alloc_new wr _))) 9 Tryz.underlying9
    have hd:strOfNums [48+(n:Int)%10]=LG n:=by unfold LG;congr 2
    rw[hd]at a7;clear hd;have hsz:(LG n++o).size=1+o.size:=(by rw[ByteArray.size_append,a8]);have bA:Hid (n/10<10^f):=Tk (by have:=Hn.out;rw[Nat.pow_succ]at this;omega);have bB:=Tk hsz;clear hsz;go_wp2;go_roundw
    case rel=>exact⟨f,n/10,LG n++o,bA,by omega,by rw[bB.out];omega,by go_num,rfl,HG,a6.al _⟩
    case measure=>simp[intOf];omega
  . obtain rfl : n = 0 := by omega
    have HG:Hid (o=R):=Tk (by rw[<-Hg.out,LH]);go_wp2;go_ret;exact⟨by rw[HG.out];rfl,a6⟩
theorem PY {w w':World} (h:Below w.heap.size w w') (r:Option Nat):w.grownBy w' r:=⟨h.os,h.tape,h.output,h.size,fun k hk _=>h.block k hk⟩
def mkStr (k j:Nat):ByteArray:=EJ (k+j)
def mD (k n:Nat):List ByteArray:=(List.range n).map (mkStr k)
theorem Ia {m l:List ByteArray} {j k:Nat} (h:m.length=l.length) (e:m.take j=mD k j) (hj:j<l.length):(m.set j (mkStr k j)).length=l.length/\(m.set j (mkStr k j)).take (j+1)=mD k (j+1):=by
 refine⟨by simpa using h,?_⟩;rw[take_set _ (by omega),e];simp[mD,List.range_succ]
theorem Ib (v:Value) (l:List ByteArray) (k B:Nat) (w:World) (h:aD 9 1 fJ B w v l) (h0:1<=k) (h1:k<=67108864) (hl:l.length<=1048576):
 Calls prog 16 #[v,.int .i64 k] w (R7 (.int .i64 (k+l.length:Nat)) v (fun w'=>aD 9 1 fJ B w' v (mD k l.length)) w):=by
 obtain⟨A,c,rfl,hc,hm⟩:=h.form;go_enter Tryz.func16,Tryz.ntmps16
 go_wp2;go_loopw [1,5] (fun q i wr=>∃(j:Nat) (m:List ByteArray),j<=l.length/\i= .int .i64 j/\q= .int .i64 (k+j:Nat)/\Hid (m.length=l.length/\m.take j=mD k j)/\aD 9 1 fJ B wr (.slice A l.length c) m/\w.grownBy wr (Value.slice A l.length c).ownBlock) (fun _ i _=>l.length-(intOf i).toNat)
 case atStart=>exact⟨0,l,Nat.zero_le _,rfl,rfl,Tk ⟨rfl,rfl⟩,h,World.grownBy.refl _ _⟩
 case round=>
  obtain⟨j,m,hj,rfl,rfl,Hg,hown,hgr⟩:=hrel;by_cases hlt:j<l.length
  . obtain ⟨g, rfl, hB, a7⟩ := hown.split (k := j) (by rw [Hg.out.1]; omega);go_wp2_with fail
    refine(zU (k+j) _ (by omega) (by omega)).mono ?_;rintro e w1 ⟨rfl,hb1⟩;have a6:=hown.below hb1;obtain⟨u0,s0⟩:=a6.Cv eZ (k:=j) (by rw[Hg.out.1];omega);have a8:=a6.free;go_wp2;go_roundw
    case rel=>exact⟨j+1,m.set j (mkStr k j),by omega,by go_num,by go_num,Tk (Ia Hg.out.1 Hg.out.2 hlt),a6.kI eZ (by rw[Hg.out.1];omega) rfl,dB (O0 hgr (PY hb1 _)) _ _⟩
    case measure=>simp[intOf];omega
  . go_wp2;go_ret;obtain rfl:j=l.length:=by omega
    exact⟨rfl,by have e:=Hg.out.2;rw[List.take_of_length_le (by rw[Hg.out.1];omega)]at e;rw[<-e];exact hown,hgr⟩
theorem zW (v:Value) (k n:Nat) (w:World) (h:Rd 1 (RE fJ) w v (mD k n)) (h0:1<=k) (h1:k<=67108864) (hl:n<=1048576):
 Calls prog 17 #[v,.int .i64 k] w (Ret (.int .i64 (k+n:Nat)) w):=by
 have hlen:(mD k n).length=n:=(by simp[mD]);obtain⟨A,c,rfl,hc,hm⟩:=h.form;rw[hlen]at h hc hm⊢;go_enter Tryz.func17,Tryz.ntmps17
 go_wp2;go_loopw [1,5] (fun q i wr=>∃j:Nat,j<=n/\i= .int .i64 j/\q= .int .i64 (k+j:Nat)/\Below w.heap.size w wr) (fun _ i _=>n-(intOf i).toNat)
 case atStart=>exact⟨0,Nat.zero_le _,rfl,rfl,Below.refl _ _⟩
 case round=>
  obtain⟨j,hj,rfl,rfl,a6⟩:=hrel;by_cases hlt:j<n
  . obtain ⟨b, off, rfl, hb, k1⟩ := (h.Tj a6).KS (k := j) (by omega);simp only[mD,mkStr,List.getElem_map,List.getElem_range]at k1;clear hlen;have bA:(0:Int)<=(j:Int):=(by omega);have bB:(j:Int)<(n:Int):=(by omega);obtain⟨S,hS⟩:=Ti (EJ (k+j));rw[<-hS]at k1;have HS:=Tk hS;clear hS;have Bw:Below wr.heap.size wr wr.drew:=(Below.refl _ _).drew;have hz:wr.heap.size<=wr.drew.heap.size:=(by simp);go_wp2_with fail
    refine rB (fun w'=>w'.cell? ⟨b,off+j,none⟩=some (.string S)) fun hHeld=>(tW 0)<|(tW 1)<|(tW 2)<|(tW 3)<|(tW 4)<|(tR [5])<|tL fun K hK=>?_
    go_simp
    (go_at_call 39;go_must (refine(zU (k+j) _ (by omega) (by omega)).mono ?_;rintro e wX ⟨rfl,a7⟩;rw[<-HS.out];obtain⟨bC,bD,a8⟩:=bkn a7 wr.heap.size hz;have hz:=a8;have Bw:=Bw.tr a7);(try go_wp2_with fail))
    refine tK hK fun hHeld=>?_
    clear hK K;refine(tW 6)<|tD ?_;go_wp2;go_roundw
    case rel=>exact⟨j+1,by omega,by go_num,by go_num,a6.tr Bw⟩
    case measure=>simp[intOf];omega
  . go_wp2;go_ret;obtain rfl:j=n:=by omega
    exact⟨rfl,a6⟩
end Go.Proofs.YtjijonhkofhikaaGreatDoor
