/- SameCells, RegionText, Rectangle of the program: the walks. Conditions: valid regions. Plain laws for FnRegions: cells put in and taken out, counts of cells. Conditions: valid regions and cells. FloorLines of the program: the walk. No conditions but sizes. FloorLines of the reference: the walk. No conditions but sizes. The law's marks in lists of strings: markText, markStringS, heldStringS. No conditions but sizes.. Conditions, where there are any, stand in the statements. -/
import Derived.Test.YtljfoohaapckeaaGreatDoorBK3
import Derived.Test.YtljfoohaapckeaaGreatDoorBK1
import Derived.Test.YtljfoohaapckeaaGreatDoorBK4
import Derived.Laws.BytesArg
import Derived.Deep.RegionHeld3
import Derived.Deep.DeepMust
open _root_.List (length_append)
namespace Go.Proofs.YtljfoohaapckeaaGreatDoor
open Go.ChangeShapes Go.WideShapes Go.ChangeAt Go.RowKit
set_option linter.unusedVariables false
set_option linter.unusedSimpArgs false
set_option maxHeartbeats 4000000
set_option maxRecDepth 100000
theorem pJ:∀x:Int,(oJ x).length=1:=fun _=>rfl
theorem qW:∀x:Int,∀u∈oJ x,u.oneCell'=true:=by
 intro x u hu;simp[oJ]at hu;rcases hu with rfl;rfl
theorem qX:Row Tryz.prog 22 5 (.int .u8 0) 1 1:=⟨Tryz.underlying22,by kernel_rfl,rfl,by decide⟩
theorem iE {P:Program} {ops:Array Oper} {rest:List Oper} {o:Oper} {a:Act} {Q:Exit->Act->World->Prop} {α:Type} {t E:TypeId} {z:Value} {size bytes:Nat} (R:Row P t E z size bytes)
    {enc:α->List Value} (henc:∀x,(enc x).length=size) (h1:∀x,∀u∈enc x,u.oneCell'=true)
    {W0 w:World} (hbel:Below W0.heap.size W0 w) {v:Value} {l:List α} (hown:aD E size enc W0.heap.size w v l) (y:α)
    (hlen:(l.length+1)*bytes<=140737488355328) (hlen2:l.length+1<=maxLen) {g:Nat} (hg:g=w.heap.size)
    (hgd:o.guard=none) (s x:Operand) (ho:o.op= .call {callee:= .builtin .append,args:= #[s,x],argTypes:= #[t,t]})
    (hs:a.eval s=v) (hx:a.eval x= .slice (some ⟨g,0,none⟩) 1 1)
    (h:∀v' w',aD E size enc W0.heap.size w' v' (l++[y])->Below W0.heap.size W0 w'->(w.alloc (.cells (enc y).toArray E)).grownBy w' v.ownBlock->(v'.ownBlock=v.ownBlock∨v'.ownBlock=some (w.heap.size+1))->wpList P ops Q rest (a.put o.dst v') w'):
    wpList P ops Q (o::rest) a (w.alloc (.cells (enc y).toArray E)):=by
 subst hg;exact aF R henc h1 hbel hown y hlen hlen2 hgd s x ho hs hx h
def mG (s:Nat) (l:List Dm) (y k:Nat):List Int:=(Gb s l y k).map fun b=>(b.toNat:Int)
theorem vO (s:Nat) (l:List Dm) (y k:Nat):(mG s l y k).length=k:=by simp[mG,Gb]
theorem kU (s:Nat) (l:List Dm) (y k:Nat) {x:UInt8} {n:Int} (h:sgn s l k y=x) (hn:n=(x.toNat:Int)):mG s l y (k+1)=mG s l y k++[n]:=by
 unfold mG;rw[I5,List.map_append,h,hn];rfl
theorem LY (s:Nat) (l:List Dm) (y:Nat):strOfNums (mG s l y 8)=NA s l y 8:=by
 unfold strOfNums NA mG;congr 1
 rw[List.map_map];congr 1
 rw[show((fun n:Int=>UInt8.ofNat n.toNat)∘fun b:UInt8=>(b.toNat:Int))=id from by funext b;simp];simp
theorem O0 {s:Nat} {l:List Dm} {x y:Nat} (h:s.testBit (8*y+x)=false):sgn s l x y=46:=by unfold sgn;rw[h];rfl
theorem Nr {s:Nat} {l:List Dm} {x y:Nat} (h:s.testBit (8*y+x)=true) (hc:qF l ((x:Int),(y:Int))=none):sgn s l x y=63:=by unfold sgn;rw[h,hc];rfl
theorem Ns {s:Nat} {l:List Dm} {x y:Nat} {d:Dm} (h:s.testBit (8*y+x)=true) (hc:qF l ((x:Int),(y:Int))=some d):sgn s l x y=vR d ((x:Int),(y:Int)):=by unfold sgn;rw[h,hc];rfl
theorem P9 {x y:Nat} (hx:x<8) (hy:y<8):bG ((x:Int),(y:Int))=true/\(dF ((x:Int),(y:Int))).toNat=8*y+x:=by
 have hck:bG ((x:Int),(y:Int))=true:=bZ.2 ⟨⟨by omega,by omega⟩,by omega,by omega⟩;exact⟨hck,by rw[(dJ hck).1];simp only;omega⟩
theorem AP (v u:Value) (rows:List Int) (l:List Dm) (w:World) (h:Rd 1 bH w v rows) (h2:Rd 3 aT w u l):Calls Tryz.prog 49 #[.agg #[v],u] w (gH 9 1 pW (jI rows l) w):=by
 obtain⟨A,c,rfl,hc,hm⟩:=h.form;obtain⟨A2,c2,rfl,hc2,hm2⟩:=h2.form;have hA:=((Below.refl w.heap.size w).al (.cells #[.slice A rows.length c] 26));have hx:=Blk.aZ w 26 #[.slice A rows.length c];have h':=h.Qj hA;rcases hp:isPartial rows l with _|_
 . have e : jI rows l = [] := by unfold jI; rw [hp]; rfl
   rw[e];go_enter Tryz.func49,Tryz.ntmps49
   go_wp2_with fail
   refine(nV _ _ rows l _ h' (h2.Qj hA)).mono ?_;rintro e w1 ⟨rfl,hb1⟩;obtain⟨hc1,hf1,hz1⟩:=bk hb1;(try simp at hz1)
   have hy1_0:w.heap.size<w1.heap.size:=(by omega);rw[hp];go_wp2;go_ret;exact⟨none,0,rfl,vQ _,hA.tr hb1⟩
 . have e : jI rows l = uA (setOf rows) l rows.length := by unfold jI; rw [hp]; rfl
   rw[e];obtain⟨hok,_⟩:=jA hp;have h8:=hok.1;have hs:=dU hok;have hcov:=fun(c:Cl) (d:Dm) (hd:qF l c=some d)=>Od hp hd
   have Hp:=Qk hp;have Hok:=Qk hok;have Hcov:=Qk hcov;clear hp hok hcov e;go_enter Tryz.func49,Tryz.ntmps49
   go_wp2_with fail
   refine(nV _ _ rows l _ h' (h2.Qj hA)).mono ?_;rintro e w1 ⟨rfl,hb1⟩;obtain⟨hc1,hf1,hz1⟩:=bk hb1;(try simp at hz1)
   have hy1_0:w.heap.size<w1.heap.size:=(by omega);rw[Hp.out];have hx1:=(hx.bl hb1).alloc (.cells #[] 9);have z1:=hx1.c1;have hl1:=hx1.lt;have B1:=(hA.tr hb1).al (.cells #[] 9);have own0:=fK w1 (E:=9) (size:=1) (enc:=pW) w1.heap.size rfl w.heap.size (hA.tr hb1).size;have hz1':=hx1.lt;go_wp2_with fail
   refine(pM _ rows _ (h.Qj B1) Hok).mono ?_;rintro e w2 ⟨rfl,hb2⟩;obtain⟨hc2,hf2,hz2⟩:=bk hb2;(try simp at hz2)
   have hy2_0:w.heap.size<w2.heap.size:=(by omega);have hx2:=hx1.bl hb2;have B2:=B1.tr hb2;have own2:=own0.below hb2;have z2:=hx2.c1;clear hc1 hf1 hc2 hf2 z1 hz1' hl1;go_wp2;obtain⟨s,hse⟩:=Qi (setOf rows);rw[<-hse]at hs⊢;have Hse:=Qk hse;clear hse;go_loopw [5,25] (fun s5 s25 wr=>∃(y:Nat) (D:Option Addr) (d:Nat),y<=rows.length/\s25= .int .i64 y/\s5= .slice D y d/\aD 9 1 pW w.heap.size wr (.slice D y d) (uA s l y)/\Below w.heap.size w wr) (fun _ i _=>rows.length-(intOf i).toNat)
   case atStart=>exact⟨0,_,_,by omega,rfl,rfl,own2,B2⟩
   case round=>
    obtain⟨y,D,d,hy,rfl,rfl,hown,hbel⟩:=hrel;clear own0 own2 hx2 z2 hx1 B1 B2 hb2 hb1;by_cases hlt:y<rows.length
    . have hy8 : y < 8 := by omega
      go_wp2;obtain⟨wo,rfl⟩:∃wo:World,wo=wr:=⟨_,rfl⟩;have B0:=(Below.refl wo.heap.size wo).al (.cells #[] 5);have ownb:=fK wo (E:=5) (size:=1) (enc:=oJ) wo.heap.size rfl wo.heap.size (Nat.le_refl _);go_loopw [8,29] (fun s8 s29 wr=>∃(k:Nat) (D:Option Addr) (d:Nat),k<=8/\s29= .int .i64 k/\s8= .slice D k d/\aD 5 1 oJ wo.heap.size wr (.slice D k d) (mG s l y k)/\Below wo.heap.size wo wr) (fun _ i _=>8-(intOf i).toNat)
      case atStart=>exact⟨0,_,_,by omega,rfl,rfl,ownb,B0⟩
      case round=>
       obtain⟨k,Dk,dk,hk,rfl,rfl,hownk,hbk⟩:=hrel;clear B0 ownb;by_cases hk8:k<8
       . obtain⟨hck,hix⟩:=P9 hk8 hy8;have hlen:=vO s l y k;have H8:Hid (((mG s l y k).length+1)*1<=140737488355328):=Qk (by rw[hlen];omega);have HM:Hid ((mG s l y k).length+1<=maxLen):=Qk (by rw[hlen];unfold maxLen;omega);have hcA:=Hcov.out ((k:Int),(y:Int));have hz:wr.heap.size<(wr.alloc (.cells #[.int .i64 k,.int .i64 y] 70)).heap.size:=(by simp);have hBl:=(hbel.tr hbk).al (.cells #[.int .i64 k,.int .i64 y] 70)
         have hbits : ∀ d, qF l ((k : Int), (y : Int)) = some d -> s.testBit (8 * y + k) = true := fun d hd => by
          have:=(hcA d hd).2.2;rw[hix,<-Hse.out]at this;exact this
         have Hlen:=Qk hlen;have Hck:=Qk hck;have Hix:=Qk hix;have Hbits:=Qk hbits;have HcA:=Qk hcA;clear hlen hck hix hbits hcA;rcases BK l ((k:Int),(y:Int))with⟨hD,hC⟩|⟨j,hj,hD,hC⟩
         . have HD:=Qk hD;have HC:=Qk hC;clear hD hC;rcases hbit:s.testBit (8*y+k)with _|_
           . have Hsg:Hid (sgn s l k y=46):=Qk (O0 hbit);have Hbit:=Qk hbit;clear hbit;go_wp2_with fail
             refine(gK s k y _ hs).mono ?_;rintro e w4 ⟨rfl,hb4⟩;obtain⟨hc4,hf4,hz4⟩:=bk hb4;(try simp at hz4)
             have hy4_0:wr.heap.size<w4.heap.size:=(by omega);rw[Hck.out,Bool.true_and,Hix.out,Hbit.out];go_wp2_with fail
             refine(kQ _ l k y _ (h2.Qj (hBl.tr hb4))).mono ?_;rintro e w5 ⟨rfl,hb5⟩;obtain⟨hc5,hf5,hz5⟩:=bk hb5;(try simp at hz5)
             have hy5_0:wr.heap.size<w5.heap.size:=(by omega);rw[HD.out];have own5:=((hownk.alloc (.cells #[.int .i64 k,.int .i64 y] 70)).below hb4).below hb5;have B5:=((hbk.al (.cells #[.int .i64 k,.int .i64 y] 70)).tr hb4).tr hb5;go_wp2_with (at_builtin;go_must (refine iE (enc:=oJ) qX pJ qW B5 own5 (46:Int) H8.out HM.out (by simp) rfl _ _ rfl rfl rfl ?_);intro v6 w6 own6 hb6 hg6 hd6;obtain⟨A6,c6,rfl,hc6,hm6⟩:=own6.form)
             go_roundw
             case rel=>exact⟨k+1,A6,c6,by omega,by go_num,by simp[Hlen.out],by have e:(mG s l y k++[(46:Int)]).length=k+1:=(by rw[length_append,Hlen.out];rfl);rw[kU s l y k Hsg.out rfl,<-e];exact own6,hb6⟩
             case measure=>simp[intOf];omega
           . have Hsg:Hid (sgn s l k y=63):=Qk (Nr hbit HC.out);have Hbit:=Qk hbit;clear hbit;go_wp2_with fail
             refine(gK s k y _ hs).mono ?_;rintro e w4 ⟨rfl,hb4⟩;obtain⟨hc4,hf4,hz4⟩:=bk hb4;(try simp at hz4)
             have hy4_0:wr.heap.size<w4.heap.size:=(by omega);rw[Hck.out,Bool.true_and,Hix.out,Hbit.out];go_wp2_with fail
             refine(kQ _ l k y _ (h2.Qj (hBl.tr hb4))).mono ?_;rintro e w5 ⟨rfl,hb5⟩;obtain⟨hc5,hf5,hz5⟩:=bk hb5;(try simp at hz5)
             have hy5_0:wr.heap.size<w5.heap.size:=(by omega);rw[HD.out];have own5:=((hownk.alloc (.cells #[.int .i64 k,.int .i64 y] 70)).below hb4).below hb5;have B5:=((hbk.al (.cells #[.int .i64 k,.int .i64 y] 70)).tr hb4).tr hb5;go_wp2_with (at_builtin;go_must (refine iE (enc:=oJ) qX pJ qW B5 own5 (63:Int) H8.out HM.out (by simp) rfl _ _ rfl rfl rfl ?_);intro v6 w6 own6 hb6 hg6 hd6;obtain⟨A6,c6,rfl,hc6,hm6⟩:=own6.form)
             go_roundw
             case rel=>exact⟨k+1,A6,c6,by omega,by go_num,by simp[Hlen.out],by have e:(mG s l y k++[(63:Int)]).length=k+1:=(by rw[length_append,Hlen.out];rfl);rw[kU s l y k Hsg.out rfl,<-e];exact own6,hb6⟩
             case measure=>simp[intOf];omega
         . have hbit:=Hbits.out _ hC;have hsg:=Ns hbit hC;obtain⟨b,off,rfl,hb,q1,q2,q3⟩:=(h2.Qj (hbel.tr hbk)).jL hj;obtain⟨d,hd⟩:=Qi (l[j]);rw[<-hd]at q1 q2 q3 hsg;obtain⟨dx,dy,dn⟩:=d;simp only at q1 q2 q3;have hj0:(0:Int)<=(j:Int):=(by omega);have hjI:(j:Int)<(l.length:Int):=(by omega);have hbz:b<(wr.alloc (.cells #[.int .i64 k,.int .i64 y] 70)).heap.size:=by simp;omega
           have hnb:b≠wr.heap.size:=(by omega);have HD:=Qk hD;have Hbit:=Qk hbit;have Hd:=Qk hd;clear hD hC hbit hd;by_cases hdx:dx=(k:Int)
           . subst hdx;by_cases hdy:dy=(y:Int)
             . subst hdy;rcases dn with _|_
               . have Hsg : Hid (sgn s l k y = 60) := Qk (by rw [hsg]; simp [vR]);clear hsg;go_wp2_with fail
                 refine(gK s k y _ hs).mono ?_;rintro e w4 ⟨rfl,hb4⟩;obtain⟨hc4,hf4,hz4⟩:=bk hb4;(try simp at hz4)
                 have hy4_0:wr.heap.size<w4.heap.size:=(by omega);have hy4_1:b<w4.heap.size:=(by omega);rw[Hck.out,Bool.true_and,Hix.out,Hbit.out];go_wp2_with fail
                 refine(kQ _ l k y _ (h2.Qj (hBl.tr hb4))).mono ?_;rintro e w5 ⟨rfl,hb5⟩;obtain⟨hc5,hf5,hz5⟩:=bk hb5;(try simp at hz5)
                 have hy5_0:wr.heap.size<w5.heap.size:=(by omega);have hy5_1:b<w5.heap.size:=(by omega);rw[HD.out];obtain⟨sx,sy,hsec⟩:∃sx sy,sec ((k:Int),(y:Int),false)=(sx,sy):=⟨_,_,rfl⟩;have Hsec:=Qk hsec;clear hsec;go_wp2_with fail
                 refine(kZ (k:Int) (y:Int) false _).mono ?_;rintro e w9 ⟨rfl,hb9⟩;obtain⟨hc9,hf9,hz9⟩:=bk hb9;(try simp at hz9)
                 have hy9_0:wr.heap.size<w9.heap.size:=(by omega);have hy9_1:b<w9.heap.size:=(by omega);rw[Hsec.out];have hn1:b≠w9.heap.size:=(by omega);have hn2:b≠w9.heap.size+1:=(by omega);have hn3:wr.heap.size≠w9.heap.size:=(by omega);have hn4:wr.heap.size≠w9.heap.size+1:=(by omega);have own5:=(((((hownk.alloc (.cells #[.int .i64 k,.int .i64 y] 70)).below hb4).below hb5).below hb9).alloc (.cells #[.int .i64 (k:Int),.int .i64 (y:Int)] 70)).alloc (.cells #[.int .i64 sx,.int .i64 sy] 70);have B5:=(((((hbk.al (.cells #[.int .i64 k,.int .i64 y] 70)).tr hb4).tr hb5).tr hb9).al (.cells #[.int .i64 (k:Int),.int .i64 (y:Int)] 70)).al (.cells #[.int .i64 sx,.int .i64 sy] 70);go_wp2_with (at_builtin;go_must (refine iE (enc:=oJ) qX pJ qW B5 own5 (60:Int) H8.out HM.out (by simp) rfl _ _ rfl rfl rfl ?_);intro v6 w6 own6 hb6 hg6 hd6;obtain⟨A6,c6,rfl,hc6,hm6⟩:=own6.form)
                 go_roundw
                 case rel=>exact⟨k+1,A6,c6,by omega,by go_num,by simp[Hlen.out],by have e:(mG s l y k++[(60:Int)]).length=k+1:=(by rw[length_append,Hlen.out];rfl);rw[kU s l y k Hsg.out rfl,<-e];exact own6,hb6⟩
                 case measure=>simp[intOf];omega
               . have Hsg : Hid (sgn s l k y = 94) := Qk (by rw [hsg]; simp [vR]);clear hsg;go_wp2_with fail
                 refine(gK s k y _ hs).mono ?_;rintro e w4 ⟨rfl,hb4⟩;obtain⟨hc4,hf4,hz4⟩:=bk hb4;(try simp at hz4)
                 have hy4_0:wr.heap.size<w4.heap.size:=(by omega);have hy4_1:b<w4.heap.size:=(by omega);rw[Hck.out,Bool.true_and,Hix.out,Hbit.out];go_wp2_with fail
                 refine(kQ _ l k y _ (h2.Qj (hBl.tr hb4))).mono ?_;rintro e w5 ⟨rfl,hb5⟩;obtain⟨hc5,hf5,hz5⟩:=bk hb5;(try simp at hz5)
                 have hy5_0:wr.heap.size<w5.heap.size:=(by omega);have hy5_1:b<w5.heap.size:=(by omega);rw[HD.out];obtain⟨sx,sy,hsec⟩:∃sx sy,sec ((k:Int),(y:Int),true)=(sx,sy):=⟨_,_,rfl⟩;have Hsec:=Qk hsec;clear hsec;go_wp2_with fail
                 refine(kZ (k:Int) (y:Int) true _).mono ?_;rintro e w9 ⟨rfl,hb9⟩;obtain⟨hc9,hf9,hz9⟩:=bk hb9;(try simp at hz9)
                 have hy9_0:wr.heap.size<w9.heap.size:=(by omega);have hy9_1:b<w9.heap.size:=(by omega);rw[Hsec.out];have hn1:b≠w9.heap.size:=(by omega);have hn2:b≠w9.heap.size+1:=(by omega);have hn3:wr.heap.size≠w9.heap.size:=(by omega);have hn4:wr.heap.size≠w9.heap.size+1:=(by omega);have own5:=(((((hownk.alloc (.cells #[.int .i64 k,.int .i64 y] 70)).below hb4).below hb5).below hb9).alloc (.cells #[.int .i64 (k:Int),.int .i64 (y:Int)] 70)).alloc (.cells #[.int .i64 sx,.int .i64 sy] 70);have B5:=(((((hbk.al (.cells #[.int .i64 k,.int .i64 y] 70)).tr hb4).tr hb5).tr hb9).al (.cells #[.int .i64 (k:Int),.int .i64 (y:Int)] 70)).al (.cells #[.int .i64 sx,.int .i64 sy] 70);go_wp2_with (at_builtin;go_must (refine iE (enc:=oJ) qX pJ qW B5 own5 (94:Int) H8.out HM.out (by simp) rfl _ _ rfl rfl rfl ?_);intro v6 w6 own6 hb6 hg6 hd6;obtain⟨A6,c6,rfl,hc6,hm6⟩:=own6.form)
                 go_roundw
                 case rel=>exact⟨k+1,A6,c6,by omega,by go_num,by simp[Hlen.out],by have e:(mG s l y k++[(94:Int)]).length=k+1:=(by rw[length_append,Hlen.out];rfl);rw[kU s l y k Hsg.out rfl,<-e];exact own6,hb6⟩
                 case measure=>simp[intOf];omega
             . rcases dn with _|_
               . have Hsg : Hid (sgn s l k y = 62) := Qk (by rw [hsg]; simp [vR, hdy]);clear hsg;go_wp2_with fail
                 refine(gK s k y _ hs).mono ?_;rintro e w4 ⟨rfl,hb4⟩;obtain⟨hc4,hf4,hz4⟩:=bk hb4;(try simp at hz4)
                 have hy4_0:wr.heap.size<w4.heap.size:=(by omega);have hy4_1:b<w4.heap.size:=(by omega);rw[Hck.out,Bool.true_and,Hix.out,Hbit.out];go_wp2_with fail
                 refine(kQ _ l k y _ (h2.Qj (hBl.tr hb4))).mono ?_;rintro e w5 ⟨rfl,hb5⟩;obtain⟨hc5,hf5,hz5⟩:=bk hb5;(try simp at hz5)
                 have hy5_0:wr.heap.size<w5.heap.size:=(by omega);have hy5_1:b<w5.heap.size:=(by omega);rw[HD.out];obtain⟨sx,sy,hsec⟩:∃sx sy,sec ((k:Int),dy,false)=(sx,sy):=⟨_,_,rfl⟩;have Hsec:=Qk hsec;clear hsec;go_wp2_with fail
                 refine(kZ (k:Int) dy false _).mono ?_;rintro e w9 ⟨rfl,hb9⟩;obtain⟨hc9,hf9,hz9⟩:=bk hb9;(try simp at hz9)
                 have hy9_0:wr.heap.size<w9.heap.size:=(by omega);have hy9_1:b<w9.heap.size:=(by omega);rw[Hsec.out];have hn1:b≠w9.heap.size:=(by omega);have hn2:b≠w9.heap.size+1:=(by omega);have hn3:wr.heap.size≠w9.heap.size:=(by omega);have hn4:wr.heap.size≠w9.heap.size+1:=(by omega);have own5:=(((((hownk.alloc (.cells #[.int .i64 k,.int .i64 y] 70)).below hb4).below hb5).below hb9).alloc (.cells #[.int .i64 (k:Int),.int .i64 dy] 70)).alloc (.cells #[.int .i64 sx,.int .i64 sy] 70);have B5:=(((((hbk.al (.cells #[.int .i64 k,.int .i64 y] 70)).tr hb4).tr hb5).tr hb9).al (.cells #[.int .i64 (k:Int),.int .i64 dy] 70)).al (.cells #[.int .i64 sx,.int .i64 sy] 70);go_wp2_with (at_builtin;go_must (refine iE (enc:=oJ) qX pJ qW B5 own5 (62:Int) H8.out HM.out (by simp) rfl _ _ rfl rfl rfl ?_);intro v6 w6 own6 hb6 hg6 hd6;obtain⟨A6,c6,rfl,hc6,hm6⟩:=own6.form)
                 go_roundw
                 case rel=>exact⟨k+1,A6,c6,by omega,by go_num,by simp[Hlen.out],by have e:(mG s l y k++[(62:Int)]).length=k+1:=(by rw[length_append,Hlen.out];rfl);rw[kU s l y k Hsg.out rfl,<-e];exact own6,hb6⟩
                 case measure=>simp[intOf];omega
               . have Hsg : Hid (sgn s l k y = 118) := Qk (by rw [hsg]; simp [vR, hdy]);clear hsg;go_wp2_with fail
                 refine(gK s k y _ hs).mono ?_;rintro e w4 ⟨rfl,hb4⟩;obtain⟨hc4,hf4,hz4⟩:=bk hb4;(try simp at hz4)
                 have hy4_0:wr.heap.size<w4.heap.size:=(by omega);have hy4_1:b<w4.heap.size:=(by omega);rw[Hck.out,Bool.true_and,Hix.out,Hbit.out];go_wp2_with fail
                 refine(kQ _ l k y _ (h2.Qj (hBl.tr hb4))).mono ?_;rintro e w5 ⟨rfl,hb5⟩;obtain⟨hc5,hf5,hz5⟩:=bk hb5;(try simp at hz5)
                 have hy5_0:wr.heap.size<w5.heap.size:=(by omega);have hy5_1:b<w5.heap.size:=(by omega);rw[HD.out];obtain⟨sx,sy,hsec⟩:∃sx sy,sec ((k:Int),dy,true)=(sx,sy):=⟨_,_,rfl⟩;have Hsec:=Qk hsec;clear hsec;go_wp2_with fail
                 refine(kZ (k:Int) dy true _).mono ?_;rintro e w9 ⟨rfl,hb9⟩;obtain⟨hc9,hf9,hz9⟩:=bk hb9;(try simp at hz9)
                 have hy9_0:wr.heap.size<w9.heap.size:=(by omega);have hy9_1:b<w9.heap.size:=(by omega);rw[Hsec.out];have hn1:b≠w9.heap.size:=(by omega);have hn2:b≠w9.heap.size+1:=(by omega);have hn3:wr.heap.size≠w9.heap.size:=(by omega);have hn4:wr.heap.size≠w9.heap.size+1:=(by omega);have own5:=(((((hownk.alloc (.cells #[.int .i64 k,.int .i64 y] 70)).below hb4).below hb5).below hb9).alloc (.cells #[.int .i64 (k:Int),.int .i64 dy] 70)).alloc (.cells #[.int .i64 sx,.int .i64 sy] 70);have B5:=(((((hbk.al (.cells #[.int .i64 k,.int .i64 y] 70)).tr hb4).tr hb5).tr hb9).al (.cells #[.int .i64 (k:Int),.int .i64 dy] 70)).al (.cells #[.int .i64 sx,.int .i64 sy] 70);go_wp2_with (at_builtin;go_must (refine iE (enc:=oJ) qX pJ qW B5 own5 (118:Int) H8.out HM.out (by simp) rfl _ _ rfl rfl rfl ?_);intro v6 w6 own6 hb6 hg6 hd6;obtain⟨A6,c6,rfl,hc6,hm6⟩:=own6.form)
                 go_roundw
                 case rel=>exact⟨k+1,A6,c6,by omega,by go_num,by simp[Hlen.out],by have e:(mG s l y k++[(118:Int)]).length=k+1:=(by rw[length_append,Hlen.out];rfl);rw[kU s l y k Hsg.out rfl,<-e];exact own6,hb6⟩
                 case measure=>simp[intOf];omega
           . rcases dn with _|_
             . have Hsg : Hid (sgn s l k y = 62) := Qk (by rw [hsg]; simp [vR, hdx]);clear hsg;go_wp2_with fail
               refine(gK s k y _ hs).mono ?_;rintro e w4 ⟨rfl,hb4⟩;obtain⟨hc4,hf4,hz4⟩:=bk hb4;(try simp at hz4)
               have hy4_0:wr.heap.size<w4.heap.size:=(by omega);have hy4_1:b<w4.heap.size:=(by omega);rw[Hck.out,Bool.true_and,Hix.out,Hbit.out];go_wp2_with fail
               refine(kQ _ l k y _ (h2.Qj (hBl.tr hb4))).mono ?_;rintro e w5 ⟨rfl,hb5⟩;obtain⟨hc5,hf5,hz5⟩:=bk hb5;(try simp at hz5)
               have hy5_0:wr.heap.size<w5.heap.size:=(by omega);have hy5_1:b<w5.heap.size:=(by omega);rw[HD.out];obtain⟨sx,sy,hsec⟩:∃sx sy,sec (dx,dy,false)=(sx,sy):=⟨_,_,rfl⟩;have Hsec:=Qk hsec;clear hsec;go_wp2_with fail
               refine(kZ dx dy false _).mono ?_;rintro e w9 ⟨rfl,hb9⟩;obtain⟨hc9,hf9,hz9⟩:=bk hb9;(try simp at hz9)
               have hy9_0:wr.heap.size<w9.heap.size:=(by omega);have hy9_1:b<w9.heap.size:=(by omega);rw[Hsec.out];have hn1:b≠w9.heap.size:=(by omega);have hn2:b≠w9.heap.size+1:=(by omega);have hn3:wr.heap.size≠w9.heap.size:=(by omega);have hn4:wr.heap.size≠w9.heap.size+1:=(by omega);have own5:=(((((hownk.alloc (.cells #[.int .i64 k,.int .i64 y] 70)).below hb4).below hb5).below hb9).alloc (.cells #[.int .i64 dx,.int .i64 dy] 70)).alloc (.cells #[.int .i64 sx,.int .i64 sy] 70);have B5:=(((((hbk.al (.cells #[.int .i64 k,.int .i64 y] 70)).tr hb4).tr hb5).tr hb9).al (.cells #[.int .i64 dx,.int .i64 dy] 70)).al (.cells #[.int .i64 sx,.int .i64 sy] 70);go_wp2_with (at_builtin;go_must (refine iE (enc:=oJ) qX pJ qW B5 own5 (62:Int) H8.out HM.out (by simp) rfl _ _ rfl rfl rfl ?_);intro v6 w6 own6 hb6 hg6 hd6;obtain⟨A6,c6,rfl,hc6,hm6⟩:=own6.form)
               go_roundw
               case rel=>exact⟨k+1,A6,c6,by omega,by go_num,by simp[Hlen.out],by have e:(mG s l y k++[(62:Int)]).length=k+1:=(by rw[length_append,Hlen.out];rfl);rw[kU s l y k Hsg.out rfl,<-e];exact own6,hb6⟩
               case measure=>simp[intOf];omega
             . have Hsg : Hid (sgn s l k y = 118) := Qk (by rw [hsg]; simp [vR, hdx]);clear hsg;go_wp2_with fail
               refine(gK s k y _ hs).mono ?_;rintro e w4 ⟨rfl,hb4⟩;obtain⟨hc4,hf4,hz4⟩:=bk hb4;(try simp at hz4)
               have hy4_0:wr.heap.size<w4.heap.size:=(by omega);have hy4_1:b<w4.heap.size:=(by omega);rw[Hck.out,Bool.true_and,Hix.out,Hbit.out];go_wp2_with fail
               refine(kQ _ l k y _ (h2.Qj (hBl.tr hb4))).mono ?_;rintro e w5 ⟨rfl,hb5⟩;obtain⟨hc5,hf5,hz5⟩:=bk hb5;(try simp at hz5)
               have hy5_0:wr.heap.size<w5.heap.size:=(by omega);have hy5_1:b<w5.heap.size:=(by omega);rw[HD.out];obtain⟨sx,sy,hsec⟩:∃sx sy,sec (dx,dy,true)=(sx,sy):=⟨_,_,rfl⟩;have Hsec:=Qk hsec;clear hsec;go_wp2_with fail
               refine(kZ dx dy true _).mono ?_;rintro e w9 ⟨rfl,hb9⟩;obtain⟨hc9,hf9,hz9⟩:=bk hb9;(try simp at hz9)
               have hy9_0:wr.heap.size<w9.heap.size:=(by omega);have hy9_1:b<w9.heap.size:=(by omega);rw[Hsec.out];have hn1:b≠w9.heap.size:=(by omega);have hn2:b≠w9.heap.size+1:=(by omega);have hn3:wr.heap.size≠w9.heap.size:=(by omega);have hn4:wr.heap.size≠w9.heap.size+1:=(by omega);have own5:=(((((hownk.alloc (.cells #[.int .i64 k,.int .i64 y] 70)).below hb4).below hb5).below hb9).alloc (.cells #[.int .i64 dx,.int .i64 dy] 70)).alloc (.cells #[.int .i64 sx,.int .i64 sy] 70);have B5:=(((((hbk.al (.cells #[.int .i64 k,.int .i64 y] 70)).tr hb4).tr hb5).tr hb9).al (.cells #[.int .i64 dx,.int .i64 dy] 70)).al (.cells #[.int .i64 sx,.int .i64 sy] 70);go_wp2_with (at_builtin;go_must (refine iE (enc:=oJ) qX pJ qW B5 own5 (118:Int) H8.out HM.out (by simp) rfl _ _ rfl rfl rfl ?_);intro v6 w6 own6 hb6 hg6 hd6;obtain⟨A6,c6,rfl,hc6,hm6⟩:=own6.form)
               go_roundw
               case rel=>exact⟨k+1,A6,c6,by omega,by go_num,by simp[Hlen.out],by have e:(mG s l y k++[(118:Int)]).length=k+1:=(by rw[length_append,Hlen.out];rfl);rw[kU s l y k Hsg.out rfl,<-e];exact own6,hb6⟩
               case measure=>simp[intOf];omega
       . obtain rfl : k = 8 := by omega
         obtain⟨g,rfl,hB,hg⟩:=hownk.split (k:=0) (by rw[vO];omega)
         have hconv := run_convert_bytes_arg (P := Tryz.prog) wr 22 5 Tryz.underlying22 Tryz.underlying5 g 0 8 dk (mG s l y 8) (vO _ _ _ _) (fun i hi => by
          have hil:i<(mG s l y 8).length:=by rw[vO];exact hi
          have:=hownk.slot pJ Nat.one_pos hil 0 (.int .u8 (mG s l y 8)[i]) rfl;rw[Nat.mul_one,Nat.add_zero]at this;rw[Nat.zero_add,this,List.getD_eq_getElem?_getD,List.getElem?_eq_getElem hil,Option.getD_some]) 9 Tryz.underlying9
         rw[LY]at hconv;have own2:=hown.below hbk;have B2:=hbel.tr hbk;have H8:Hid (((uA s l y).length+1)*16<=140737488355328):=Qk (by rw[vJ];omega);have HM:Hid ((uA s l y).length+1<=maxLen):=Qk (by rw[vJ];unfold maxLen;omega);have Hsc:=Qk (I6 s l y);have Htl:=Qk (vJ s l y);go_wp2_with (at_builtin;go_must (refine iE (enc:=pW) F8 iF F7 B2 own2 (NA s l y 8) H8.out HM.out (by simp) rfl _ _ rfl rfl rfl ?_);intro v4 w4 own4 hb4 hg4 hd4;obtain⟨A4,c4,rfl,hc4,hm4⟩:=own4.form)
         go_roundw
         case rel=>exact⟨y+1,A4,c4,by omega,by go_num,by simp[Htl.out],by have e:(uA s l y++[NA s l y 8]).length=y+1:=(by rw[length_append,Htl.out];rfl);rw[Hsc.out,<-e];exact own4,hb4⟩
         case measure=>simp[intOf];omega
    . obtain rfl : y = rows.length := by omega
      go_wp2;go_ret;have htl:(uA (setOf rows) l rows.length).length=rows.length:=vJ _ _ _;rw[Hse.out]at hown;refine⟨D,d,by rw[htl];rfl,?_,hbel⟩;rw[htl];exact hown
end Go.Proofs.YtljfoohaapckeaaGreatDoor
