/- SameCells, RegionText, Rectangle of the program: the walks. Conditions: valid regions. Plain laws for FnRegions: cells put in and taken out, counts of cells. Conditions: valid regions and cells. FloorLines of the program: the walk. No conditions but sizes. FloorLines of the reference: the walk. No conditions but sizes. The law's marks in lists of strings: markText, markStringS, heldStringS. No conditions but sizes.. Conditions, where there are any, stand in the statements. -/
import Derived.Test.YtljfoohaapckeaaGreatDoorCK3
import Derived.Test.YtljfoohaapckeaaGreatDoorCK1
import Derived.Test.YtljfoohaapckeaaGreatDoorCK4
import Derived.Laws.BytesArg
import Derived.Deep.RegionHeld3
import Derived.Deep.DeepMust
open _root_.List (length_append)
namespace Go.Proofs.YtljfoohaapckeaaGreatDoor
open Go.ChangeShapes Go.WideShapes Go.ChangeAt Go.RowKit
set_option linter.unusedVariables false
set_option linter.unusedSimpArgs false
set_option maxHeartbeats 4000000
set_option maxRecDepth 100000
theorem qN:∀x:Int,(qA x).length=1:=fun _=>rfl
theorem rX:∀x:Int,∀u∈qA x,u.oneCell'=true:=by
 intro x u hu;simp[qA]at hu;rcases hu with rfl;rfl
theorem rY:Row Tryz.prog 22 5 (.int .u8 0) 1 1:=⟨Tryz.underlying22,by kernel_rfl,rfl,by decide⟩
theorem iH {P:Program} {ops:Array Oper} {rest:List Oper} {o:Oper} {a:Act} {Q:Exit->Act->World->Prop} {α:Type} {t E:TypeId} {z:Value} {size bytes:Nat} (R:Row P t E z size bytes)
    {enc:α->List Value} (henc:∀x,(enc x).length=size) (h1:∀x,∀u∈enc x,u.oneCell'=true)
    {W0 w:World} (hbel:Below W0.heap.size W0 w) {v:Value} {l:List α} (hown:aC E size enc W0.heap.size w v l) (y:α)
    (hlen:(l.length+1)*bytes<=140737488355328) (hlen2:l.length+1<=maxLen) {g:Nat} (hg:g=w.heap.size)
    (hgd:o.guard=none) (s x:Operand) (ho:o.op= .call {callee:= .builtin .append,args:= #[s,x],argTypes:= #[t,t]})
    (hs:a.eval s=v) (hx:a.eval x= .slice (some ⟨g,0,none⟩) 1 1)
    (h:∀v' w',aC E size enc W0.heap.size w' v' (l++[y])->Below W0.heap.size W0 w'->(w.alloc (.cells (enc y).toArray E)).grownBy w' v.ownBlock->(v'.ownBlock=v.ownBlock∨v'.ownBlock=some (w.heap.size+1))->wpList P ops Q rest (a.put o.dst v') w'):
    wpList P ops Q (o::rest) a (w.alloc (.cells (enc y).toArray E)):=by
 subst hg;exact aH R henc h1 hbel hown y hlen hlen2 hgd s x ho hs hx h
def mY (s:Nat) (l:List Dm) (y k:Nat):List Int:=(Ij s l y k).map fun b=>(b.toNat:Int)
theorem wY (s:Nat) (l:List Dm) (y k:Nat):(mY s l y k).length=k:=by simp[mY,Ij]
theorem lL (s:Nat) (l:List Dm) (y k:Nat) {x:UInt8} {n:Int} (h:sgn s l k y=x) (hn:n=(x.toNat:Int)):mY s l y (k+1)=mY s l y k++[n]:=by
 unfold mY;rw[Kj,List.map_append,h,hn];rfl
theorem NH (s:Nat) (l:List Dm) (y:Nat):strOfNums (mY s l y 8)=PN s l y 8:=by
 unfold strOfNums PN mY;congr 1
 rw[List.map_map];congr 1
 rw[show((fun n:Int=>UInt8.ofNat n.toNat)∘fun b:UInt8=>(b.toNat:Int))=id from by funext b;simp];simp
theorem Rn {s:Nat} {l:List Dm} {x y:Nat} (h:s.testBit (8*y+x)=false):sgn s l x y=46:=by unfold sgn;rw[h];rfl
theorem Px {s:Nat} {l:List Dm} {x y:Nat} (h:s.testBit (8*y+x)=true) (hc:rC l ((x:Int),(y:Int))=none):sgn s l x y=63:=by unfold sgn;rw[h,hc];rfl
theorem Py {s:Nat} {l:List Dm} {x y:Nat} {d:Dm} (h:s.testBit (8*y+x)=true) (hc:rC l ((x:Int),(y:Int))=some d):sgn s l x y=xC d ((x:Int),(y:Int)):=by unfold sgn;rw[h,hc];rfl
theorem SF {x y:Nat} (hx:x<8) (hy:y<8):aX ((x:Int),(y:Int))=true/\(dF ((x:Int),(y:Int))).toNat=8*y+x:=by
 have hck:aX ((x:Int),(y:Int))=true:=cZ.2 ⟨⟨by omega,by omega⟩,by omega,by omega⟩;exact⟨hck,by rw[(dQ hck).1];simp only;omega⟩
theorem uQ (v u:Value) (rows:List Int) (l:List Dm) (w:World) (h:Rd 1 bV w v rows) (h2:Rd 3 bG w u l):Calls Tryz.prog 49 #[.agg #[v],u] w (jV 9 1 kP (fC rows l) w):=by
 obtain⟨A,c,rfl,hc,hm⟩:=h.form;obtain⟨A2,c2,rfl,hc2,hm2⟩:=h2.form;have hA:=((Below.refl w.heap.size w).al (.cells #[.slice A rows.length c] 26));have hx:=Blk.aY w 26 #[.slice A rows.length c];have h':=h.SN hA;rcases hp:isPartial rows l with _|_
 . have e : fC rows l = [] := by unfold fC; rw [hp]; rfl
   rw[e];go_enter Tryz.func49,Tryz.ntmps49
   go_wp2_with fail
   refine(pK _ _ rows l _ h' (h2.SN hA)).mono ?_;rintro e w1 ⟨rfl,hb1⟩;obtain⟨hc1,hf1,hz1⟩:=bk hb1;(try simp at hz1)
   have hy1_0:w.heap.size<w1.heap.size:=(by omega);rw[hp];go_wp2;go_ret;exact⟨none,0,rfl,GU _,hA.tr hb1⟩
 . have e : fC rows l = uX (setOf rows) l rows.length := by unfold fC; rw [hp]; rfl
   rw[e];obtain⟨hok,_⟩:=jA hp;have h8:=hok.1;have hs:=dM hok;have hcov:=fun(c:Cl) (d:Dm) (hd:rC l c=some d)=>Qq hp hd
   have Hp:=SQ hp;have Hok:=SQ hok;have Hcov:=SQ hcov;clear hp hok hcov e;go_enter Tryz.func49,Tryz.ntmps49
   go_wp2_with fail
   refine(pK _ _ rows l _ h' (h2.SN hA)).mono ?_;rintro e w1 ⟨rfl,hb1⟩;obtain⟨hc1,hf1,hz1⟩:=bk hb1;(try simp at hz1)
   have hy1_0:w.heap.size<w1.heap.size:=(by omega);rw[Hp.out];have hx1:=(hx.bl hb1).alloc (.cells #[] 9);have z1:=hx1.c1;have hl1:=hx1.lt;have B1:=(hA.tr hb1).al (.cells #[] 9);have own0:=iA w1 (E:=9) (size:=1) (enc:=kP) w1.heap.size rfl w.heap.size (hA.tr hb1).size;have hz1':=hx1.lt;go_wp2_with fail
   refine(nW _ rows _ (h.SN B1) Hok).mono ?_;rintro e w2 ⟨rfl,hb2⟩;obtain⟨hc2,hf2,hz2⟩:=bk hb2;(try simp at hz2)
   have hy2_0:w.heap.size<w2.heap.size:=(by omega);have hx2:=hx1.bl hb2;have B2:=B1.tr hb2;have own2:=own0.below hb2;have z2:=hx2.c1;clear hc1 hf1 hc2 hf2 z1 hz1' hl1;go_wp2;obtain⟨s,hse⟩:=SL (setOf rows);rw[<-hse]at hs⊢;have Hse:=SQ hse;clear hse;go_loopw [5,25] (fun s5 s25 wr=>∃(y:Nat) (D:Option Addr) (d:Nat),y<=rows.length/\s25= .int .i64 y/\s5= .slice D y d/\aC 9 1 kP w.heap.size wr (.slice D y d) (uX s l y)/\Below w.heap.size w wr) (fun _ i _=>rows.length-(intOf i).toNat)
   case atStart=>exact⟨0,_,_,by omega,rfl,rfl,own2,B2⟩
   case round=>
    obtain⟨y,D,d,hy,rfl,rfl,hown,hbel⟩:=hrel;clear own0 own2 hx2 z2 hx1 B1 B2 hb2 hb1;by_cases hlt:y<rows.length
    . have hy8 : y < 8 := by omega
      go_wp2;obtain⟨wo,rfl⟩:∃wo:World,wo=wr:=⟨_,rfl⟩;have B0:=(Below.refl wo.heap.size wo).al (.cells #[] 5);have ownb:=iA wo (E:=5) (size:=1) (enc:=qA) wo.heap.size rfl wo.heap.size (Nat.le_refl _);go_loopw [8,29] (fun s8 s29 wr=>∃(k:Nat) (D:Option Addr) (d:Nat),k<=8/\s29= .int .i64 k/\s8= .slice D k d/\aC 5 1 qA wo.heap.size wr (.slice D k d) (mY s l y k)/\Below wo.heap.size wo wr) (fun _ i _=>8-(intOf i).toNat)
      case atStart=>exact⟨0,_,_,by omega,rfl,rfl,ownb,B0⟩
      case round=>
       obtain⟨k,Dk,dk,hk,rfl,rfl,hownk,hbk⟩:=hrel;clear B0 ownb;by_cases hk8:k<8
       . obtain⟨hck,hix⟩:=SF hk8 hy8;have hlen:=wY s l y k;have H8:Hid (((mY s l y k).length+1)*1<=140737488355328):=SQ (by rw[hlen];omega);have HM:Hid ((mY s l y k).length+1<=maxLen):=SQ (by rw[hlen];unfold maxLen;omega);have hcA:=Hcov.out ((k:Int),(y:Int));have hz:wr.heap.size<(wr.alloc (.cells #[.int .i64 k,.int .i64 y] 70)).heap.size:=(by simp);have hBl:=(hbel.tr hbk).al (.cells #[.int .i64 k,.int .i64 y] 70)
         have hbits : ∀ d, rC l ((k : Int), (y : Int)) = some d -> s.testBit (8 * y + k) = true := fun d hd => by
          have:=(hcA d hd).2.2;rw[hix,<-Hse.out]at this;exact this
         have Hlen:=SQ hlen;have Hck:=SQ hck;have Hix:=SQ hix;have Hbits:=SQ hbits;have HcA:=SQ hcA;clear hlen hck hix hbits hcA;rcases Dq l ((k:Int),(y:Int))with⟨hD,hC⟩|⟨j,hj,hD,hC⟩
         . have HD:=SQ hD;have HC:=SQ hC;clear hD hC;rcases hbit:s.testBit (8*y+k)with _|_
           . have Hsg:Hid (sgn s l k y=46):=SQ (Rn hbit);have Hbit:=SQ hbit;clear hbit;go_wp2_with fail
             refine(iC s k y _ hs).mono ?_;rintro e w4 ⟨rfl,hb4⟩;obtain⟨hc4,hf4,hz4⟩:=bk hb4;(try simp at hz4)
             have hy4_0:wr.heap.size<w4.heap.size:=(by omega);rw[Hck.out,Bool.true_and,Hix.out,Hbit.out];go_wp2_with fail
             refine(lH _ l k y _ (h2.SN (hBl.tr hb4))).mono ?_;rintro e w5 ⟨rfl,hb5⟩;obtain⟨hc5,hf5,hz5⟩:=bk hb5;(try simp at hz5)
             have hy5_0:wr.heap.size<w5.heap.size:=(by omega);rw[HD.out];have own5:=((hownk.alloc (.cells #[.int .i64 k,.int .i64 y] 70)).below hb4).below hb5;have B5:=((hbk.al (.cells #[.int .i64 k,.int .i64 y] 70)).tr hb4).tr hb5;go_wp2_with (at_builtin;go_must (refine iH (enc:=qA) rY qN rX B5 own5 (46:Int) H8.out HM.out (by simp) rfl _ _ rfl rfl rfl ?_);intro v6 w6 own6 hb6 hg6 hd6;obtain⟨A6,c6,rfl,hc6,hm6⟩:=own6.form)
             go_roundw
             case rel=>exact⟨k+1,A6,c6,by omega,by go_num,by simp[Hlen.out],by have e:(mY s l y k++[(46:Int)]).length=k+1:=(by rw[length_append,Hlen.out];rfl);rw[lL s l y k Hsg.out rfl,<-e];exact own6,hb6⟩
             case measure=>simp[intOf];omega
           . have Hsg:Hid (sgn s l k y=63):=SQ (Px hbit HC.out);have Hbit:=SQ hbit;clear hbit;go_wp2_with fail
             refine(iC s k y _ hs).mono ?_;rintro e w4 ⟨rfl,hb4⟩;obtain⟨hc4,hf4,hz4⟩:=bk hb4;(try simp at hz4)
             have hy4_0:wr.heap.size<w4.heap.size:=(by omega);rw[Hck.out,Bool.true_and,Hix.out,Hbit.out];go_wp2_with fail
             refine(lH _ l k y _ (h2.SN (hBl.tr hb4))).mono ?_;rintro e w5 ⟨rfl,hb5⟩;obtain⟨hc5,hf5,hz5⟩:=bk hb5;(try simp at hz5)
             have hy5_0:wr.heap.size<w5.heap.size:=(by omega);rw[HD.out];have own5:=((hownk.alloc (.cells #[.int .i64 k,.int .i64 y] 70)).below hb4).below hb5;have B5:=((hbk.al (.cells #[.int .i64 k,.int .i64 y] 70)).tr hb4).tr hb5;go_wp2_with (at_builtin;go_must (refine iH (enc:=qA) rY qN rX B5 own5 (63:Int) H8.out HM.out (by simp) rfl _ _ rfl rfl rfl ?_);intro v6 w6 own6 hb6 hg6 hd6;obtain⟨A6,c6,rfl,hc6,hm6⟩:=own6.form)
             go_roundw
             case rel=>exact⟨k+1,A6,c6,by omega,by go_num,by simp[Hlen.out],by have e:(mY s l y k++[(63:Int)]).length=k+1:=(by rw[length_append,Hlen.out];rfl);rw[lL s l y k Hsg.out rfl,<-e];exact own6,hb6⟩
             case measure=>simp[intOf];omega
         . have hbit:=Hbits.out _ hC;have hsg:=Py hbit hC;obtain⟨b,off,rfl,hb,q1,q2,q3⟩:=(h2.SN (hbel.tr hbk)).kN hj;obtain⟨d,hd⟩:=SL (l[j]);rw[<-hd]at q1 q2 q3 hsg;obtain⟨dx,dy,dn⟩:=d;simp only at q1 q2 q3;have hj0:(0:Int)<=(j:Int):=(by omega);have hjI:(j:Int)<(l.length:Int):=(by omega);have hbz:b<(wr.alloc (.cells #[.int .i64 k,.int .i64 y] 70)).heap.size:=by simp;omega
           have hnb:b≠wr.heap.size:=(by omega);have HD:=SQ hD;have Hbit:=SQ hbit;have Hd:=SQ hd;clear hD hC hbit hd;by_cases hdx:dx=(k:Int)
           . subst hdx;by_cases hdy:dy=(y:Int)
             . subst hdy;rcases dn with _|_
               . have Hsg : Hid (sgn s l k y = 60) := SQ (by rw [hsg]; simp [xC]);clear hsg;go_wp2_with fail
                 refine(iC s k y _ hs).mono ?_;rintro e w4 ⟨rfl,hb4⟩;obtain⟨hc4,hf4,hz4⟩:=bk hb4;(try simp at hz4)
                 have hy4_0:wr.heap.size<w4.heap.size:=(by omega);have hy4_1:b<w4.heap.size:=(by omega);rw[Hck.out,Bool.true_and,Hix.out,Hbit.out];go_wp2_with fail
                 refine(lH _ l k y _ (h2.SN (hBl.tr hb4))).mono ?_;rintro e w5 ⟨rfl,hb5⟩;obtain⟨hc5,hf5,hz5⟩:=bk hb5;(try simp at hz5)
                 have hy5_0:wr.heap.size<w5.heap.size:=(by omega);have hy5_1:b<w5.heap.size:=(by omega);rw[HD.out];obtain⟨sx,sy,hsec⟩:∃sx sy,sec ((k:Int),(y:Int),false)=(sx,sy):=⟨_,_,rfl⟩;have Hsec:=SQ hsec;clear hsec;go_wp2_with fail
                 refine(lW (k:Int) (y:Int) false _).mono ?_;rintro e w9 ⟨rfl,hb9⟩;obtain⟨hc9,hf9,hz9⟩:=bk hb9;(try simp at hz9)
                 have hy9_0:wr.heap.size<w9.heap.size:=(by omega);have hy9_1:b<w9.heap.size:=(by omega);rw[Hsec.out];have hn1:b≠w9.heap.size:=(by omega);have hn2:b≠w9.heap.size+1:=(by omega);have hn3:wr.heap.size≠w9.heap.size:=(by omega);have hn4:wr.heap.size≠w9.heap.size+1:=(by omega);have own5:=(((((hownk.alloc (.cells #[.int .i64 k,.int .i64 y] 70)).below hb4).below hb5).below hb9).alloc (.cells #[.int .i64 (k:Int),.int .i64 (y:Int)] 70)).alloc (.cells #[.int .i64 sx,.int .i64 sy] 70);have B5:=(((((hbk.al (.cells #[.int .i64 k,.int .i64 y] 70)).tr hb4).tr hb5).tr hb9).al (.cells #[.int .i64 (k:Int),.int .i64 (y:Int)] 70)).al (.cells #[.int .i64 sx,.int .i64 sy] 70);go_wp2_with (at_builtin;go_must (refine iH (enc:=qA) rY qN rX B5 own5 (60:Int) H8.out HM.out (by simp) rfl _ _ rfl rfl rfl ?_);intro v6 w6 own6 hb6 hg6 hd6;obtain⟨A6,c6,rfl,hc6,hm6⟩:=own6.form)
                 go_roundw
                 case rel=>exact⟨k+1,A6,c6,by omega,by go_num,by simp[Hlen.out],by have e:(mY s l y k++[(60:Int)]).length=k+1:=(by rw[length_append,Hlen.out];rfl);rw[lL s l y k Hsg.out rfl,<-e];exact own6,hb6⟩
                 case measure=>simp[intOf];omega
               . have Hsg : Hid (sgn s l k y = 94) := SQ (by rw [hsg]; simp [xC]);clear hsg;go_wp2_with fail
                 refine(iC s k y _ hs).mono ?_;rintro e w4 ⟨rfl,hb4⟩;obtain⟨hc4,hf4,hz4⟩:=bk hb4;(try simp at hz4)
                 have hy4_0:wr.heap.size<w4.heap.size:=(by omega);have hy4_1:b<w4.heap.size:=(by omega);rw[Hck.out,Bool.true_and,Hix.out,Hbit.out];go_wp2_with fail
                 refine(lH _ l k y _ (h2.SN (hBl.tr hb4))).mono ?_;rintro e w5 ⟨rfl,hb5⟩;obtain⟨hc5,hf5,hz5⟩:=bk hb5;(try simp at hz5)
                 have hy5_0:wr.heap.size<w5.heap.size:=(by omega);have hy5_1:b<w5.heap.size:=(by omega);rw[HD.out];obtain⟨sx,sy,hsec⟩:∃sx sy,sec ((k:Int),(y:Int),true)=(sx,sy):=⟨_,_,rfl⟩;have Hsec:=SQ hsec;clear hsec;go_wp2_with fail
                 refine(lW (k:Int) (y:Int) true _).mono ?_;rintro e w9 ⟨rfl,hb9⟩;obtain⟨hc9,hf9,hz9⟩:=bk hb9;(try simp at hz9)
                 have hy9_0:wr.heap.size<w9.heap.size:=(by omega);have hy9_1:b<w9.heap.size:=(by omega);rw[Hsec.out];have hn1:b≠w9.heap.size:=(by omega);have hn2:b≠w9.heap.size+1:=(by omega);have hn3:wr.heap.size≠w9.heap.size:=(by omega);have hn4:wr.heap.size≠w9.heap.size+1:=(by omega);have own5:=(((((hownk.alloc (.cells #[.int .i64 k,.int .i64 y] 70)).below hb4).below hb5).below hb9).alloc (.cells #[.int .i64 (k:Int),.int .i64 (y:Int)] 70)).alloc (.cells #[.int .i64 sx,.int .i64 sy] 70);have B5:=(((((hbk.al (.cells #[.int .i64 k,.int .i64 y] 70)).tr hb4).tr hb5).tr hb9).al (.cells #[.int .i64 (k:Int),.int .i64 (y:Int)] 70)).al (.cells #[.int .i64 sx,.int .i64 sy] 70);go_wp2_with (at_builtin;go_must (refine iH (enc:=qA) rY qN rX B5 own5 (94:Int) H8.out HM.out (by simp) rfl _ _ rfl rfl rfl ?_);intro v6 w6 own6 hb6 hg6 hd6;obtain⟨A6,c6,rfl,hc6,hm6⟩:=own6.form)
                 go_roundw
                 case rel=>exact⟨k+1,A6,c6,by omega,by go_num,by simp[Hlen.out],by have e:(mY s l y k++[(94:Int)]).length=k+1:=(by rw[length_append,Hlen.out];rfl);rw[lL s l y k Hsg.out rfl,<-e];exact own6,hb6⟩
                 case measure=>simp[intOf];omega
             . rcases dn with _|_
               . have Hsg : Hid (sgn s l k y = 62) := SQ (by rw [hsg]; simp [xC, hdy]);clear hsg;go_wp2_with fail
                 refine(iC s k y _ hs).mono ?_;rintro e w4 ⟨rfl,hb4⟩;obtain⟨hc4,hf4,hz4⟩:=bk hb4;(try simp at hz4)
                 have hy4_0:wr.heap.size<w4.heap.size:=(by omega);have hy4_1:b<w4.heap.size:=(by omega);rw[Hck.out,Bool.true_and,Hix.out,Hbit.out];go_wp2_with fail
                 refine(lH _ l k y _ (h2.SN (hBl.tr hb4))).mono ?_;rintro e w5 ⟨rfl,hb5⟩;obtain⟨hc5,hf5,hz5⟩:=bk hb5;(try simp at hz5)
                 have hy5_0:wr.heap.size<w5.heap.size:=(by omega);have hy5_1:b<w5.heap.size:=(by omega);rw[HD.out];obtain⟨sx,sy,hsec⟩:∃sx sy,sec ((k:Int),dy,false)=(sx,sy):=⟨_,_,rfl⟩;have Hsec:=SQ hsec;clear hsec;go_wp2_with fail
                 refine(lW (k:Int) dy false _).mono ?_;rintro e w9 ⟨rfl,hb9⟩;obtain⟨hc9,hf9,hz9⟩:=bk hb9;(try simp at hz9)
                 have hy9_0:wr.heap.size<w9.heap.size:=(by omega);have hy9_1:b<w9.heap.size:=(by omega);rw[Hsec.out];have hn1:b≠w9.heap.size:=(by omega);have hn2:b≠w9.heap.size+1:=(by omega);have hn3:wr.heap.size≠w9.heap.size:=(by omega);have hn4:wr.heap.size≠w9.heap.size+1:=(by omega);have own5:=(((((hownk.alloc (.cells #[.int .i64 k,.int .i64 y] 70)).below hb4).below hb5).below hb9).alloc (.cells #[.int .i64 (k:Int),.int .i64 dy] 70)).alloc (.cells #[.int .i64 sx,.int .i64 sy] 70);have B5:=(((((hbk.al (.cells #[.int .i64 k,.int .i64 y] 70)).tr hb4).tr hb5).tr hb9).al (.cells #[.int .i64 (k:Int),.int .i64 dy] 70)).al (.cells #[.int .i64 sx,.int .i64 sy] 70);go_wp2_with (at_builtin;go_must (refine iH (enc:=qA) rY qN rX B5 own5 (62:Int) H8.out HM.out (by simp) rfl _ _ rfl rfl rfl ?_);intro v6 w6 own6 hb6 hg6 hd6;obtain⟨A6,c6,rfl,hc6,hm6⟩:=own6.form)
                 go_roundw
                 case rel=>exact⟨k+1,A6,c6,by omega,by go_num,by simp[Hlen.out],by have e:(mY s l y k++[(62:Int)]).length=k+1:=(by rw[length_append,Hlen.out];rfl);rw[lL s l y k Hsg.out rfl,<-e];exact own6,hb6⟩
                 case measure=>simp[intOf];omega
               . have Hsg : Hid (sgn s l k y = 118) := SQ (by rw [hsg]; simp [xC, hdy]);clear hsg;go_wp2_with fail
                 refine(iC s k y _ hs).mono ?_;rintro e w4 ⟨rfl,hb4⟩;obtain⟨hc4,hf4,hz4⟩:=bk hb4;(try simp at hz4)
                 have hy4_0:wr.heap.size<w4.heap.size:=(by omega);have hy4_1:b<w4.heap.size:=(by omega);rw[Hck.out,Bool.true_and,Hix.out,Hbit.out];go_wp2_with fail
                 refine(lH _ l k y _ (h2.SN (hBl.tr hb4))).mono ?_;rintro e w5 ⟨rfl,hb5⟩;obtain⟨hc5,hf5,hz5⟩:=bk hb5;(try simp at hz5)
                 have hy5_0:wr.heap.size<w5.heap.size:=(by omega);have hy5_1:b<w5.heap.size:=(by omega);rw[HD.out];obtain⟨sx,sy,hsec⟩:∃sx sy,sec ((k:Int),dy,true)=(sx,sy):=⟨_,_,rfl⟩;have Hsec:=SQ hsec;clear hsec;go_wp2_with fail
                 refine(lW (k:Int) dy true _).mono ?_;rintro e w9 ⟨rfl,hb9⟩;obtain⟨hc9,hf9,hz9⟩:=bk hb9;(try simp at hz9)
                 have hy9_0:wr.heap.size<w9.heap.size:=(by omega);have hy9_1:b<w9.heap.size:=(by omega);rw[Hsec.out];have hn1:b≠w9.heap.size:=(by omega);have hn2:b≠w9.heap.size+1:=(by omega);have hn3:wr.heap.size≠w9.heap.size:=(by omega);have hn4:wr.heap.size≠w9.heap.size+1:=(by omega);have own5:=(((((hownk.alloc (.cells #[.int .i64 k,.int .i64 y] 70)).below hb4).below hb5).below hb9).alloc (.cells #[.int .i64 (k:Int),.int .i64 dy] 70)).alloc (.cells #[.int .i64 sx,.int .i64 sy] 70);have B5:=(((((hbk.al (.cells #[.int .i64 k,.int .i64 y] 70)).tr hb4).tr hb5).tr hb9).al (.cells #[.int .i64 (k:Int),.int .i64 dy] 70)).al (.cells #[.int .i64 sx,.int .i64 sy] 70);go_wp2_with (at_builtin;go_must (refine iH (enc:=qA) rY qN rX B5 own5 (118:Int) H8.out HM.out (by simp) rfl _ _ rfl rfl rfl ?_);intro v6 w6 own6 hb6 hg6 hd6;obtain⟨A6,c6,rfl,hc6,hm6⟩:=own6.form)
                 go_roundw
                 case rel=>exact⟨k+1,A6,c6,by omega,by go_num,by simp[Hlen.out],by have e:(mY s l y k++[(118:Int)]).length=k+1:=(by rw[length_append,Hlen.out];rfl);rw[lL s l y k Hsg.out rfl,<-e];exact own6,hb6⟩
                 case measure=>simp[intOf];omega
           . rcases dn with _|_
             . have Hsg : Hid (sgn s l k y = 62) := SQ (by rw [hsg]; simp [xC, hdx]);clear hsg;go_wp2_with fail
               refine(iC s k y _ hs).mono ?_;rintro e w4 ⟨rfl,hb4⟩;obtain⟨hc4,hf4,hz4⟩:=bk hb4;(try simp at hz4)
               have hy4_0:wr.heap.size<w4.heap.size:=(by omega);have hy4_1:b<w4.heap.size:=(by omega);rw[Hck.out,Bool.true_and,Hix.out,Hbit.out];go_wp2_with fail
               refine(lH _ l k y _ (h2.SN (hBl.tr hb4))).mono ?_;rintro e w5 ⟨rfl,hb5⟩;obtain⟨hc5,hf5,hz5⟩:=bk hb5;(try simp at hz5)
               have hy5_0:wr.heap.size<w5.heap.size:=(by omega);have hy5_1:b<w5.heap.size:=(by omega);rw[HD.out];obtain⟨sx,sy,hsec⟩:∃sx sy,sec (dx,dy,false)=(sx,sy):=⟨_,_,rfl⟩;have Hsec:=SQ hsec;clear hsec;go_wp2_with fail
               refine(lW dx dy false _).mono ?_;rintro e w9 ⟨rfl,hb9⟩;obtain⟨hc9,hf9,hz9⟩:=bk hb9;(try simp at hz9)
               have hy9_0:wr.heap.size<w9.heap.size:=(by omega);have hy9_1:b<w9.heap.size:=(by omega);rw[Hsec.out];have hn1:b≠w9.heap.size:=(by omega);have hn2:b≠w9.heap.size+1:=(by omega);have hn3:wr.heap.size≠w9.heap.size:=(by omega);have hn4:wr.heap.size≠w9.heap.size+1:=(by omega);have own5:=(((((hownk.alloc (.cells #[.int .i64 k,.int .i64 y] 70)).below hb4).below hb5).below hb9).alloc (.cells #[.int .i64 dx,.int .i64 dy] 70)).alloc (.cells #[.int .i64 sx,.int .i64 sy] 70);have B5:=(((((hbk.al (.cells #[.int .i64 k,.int .i64 y] 70)).tr hb4).tr hb5).tr hb9).al (.cells #[.int .i64 dx,.int .i64 dy] 70)).al (.cells #[.int .i64 sx,.int .i64 sy] 70);go_wp2_with (at_builtin;go_must (refine iH (enc:=qA) rY qN rX B5 own5 (62:Int) H8.out HM.out (by simp) rfl _ _ rfl rfl rfl ?_);intro v6 w6 own6 hb6 hg6 hd6;obtain⟨A6,c6,rfl,hc6,hm6⟩:=own6.form)
               go_roundw
               case rel=>exact⟨k+1,A6,c6,by omega,by go_num,by simp[Hlen.out],by have e:(mY s l y k++[(62:Int)]).length=k+1:=(by rw[length_append,Hlen.out];rfl);rw[lL s l y k Hsg.out rfl,<-e];exact own6,hb6⟩
               case measure=>simp[intOf];omega
             . have Hsg : Hid (sgn s l k y = 118) := SQ (by rw [hsg]; simp [xC, hdx]);clear hsg;go_wp2_with fail
               refine(iC s k y _ hs).mono ?_;rintro e w4 ⟨rfl,hb4⟩;obtain⟨hc4,hf4,hz4⟩:=bk hb4;(try simp at hz4)
               have hy4_0:wr.heap.size<w4.heap.size:=(by omega);have hy4_1:b<w4.heap.size:=(by omega);rw[Hck.out,Bool.true_and,Hix.out,Hbit.out];go_wp2_with fail
               refine(lH _ l k y _ (h2.SN (hBl.tr hb4))).mono ?_;rintro e w5 ⟨rfl,hb5⟩;obtain⟨hc5,hf5,hz5⟩:=bk hb5;(try simp at hz5)
               have hy5_0:wr.heap.size<w5.heap.size:=(by omega);have hy5_1:b<w5.heap.size:=(by omega);rw[HD.out];obtain⟨sx,sy,hsec⟩:∃sx sy,sec (dx,dy,true)=(sx,sy):=⟨_,_,rfl⟩;have Hsec:=SQ hsec;clear hsec;go_wp2_with fail
               refine(lW dx dy true _).mono ?_;rintro e w9 ⟨rfl,hb9⟩;obtain⟨hc9,hf9,hz9⟩:=bk hb9;(try simp at hz9)
               have hy9_0:wr.heap.size<w9.heap.size:=(by omega);have hy9_1:b<w9.heap.size:=(by omega);rw[Hsec.out];have hn1:b≠w9.heap.size:=(by omega);have hn2:b≠w9.heap.size+1:=(by omega);have hn3:wr.heap.size≠w9.heap.size:=(by omega);have hn4:wr.heap.size≠w9.heap.size+1:=(by omega);have own5:=(((((hownk.alloc (.cells #[.int .i64 k,.int .i64 y] 70)).below hb4).below hb5).below hb9).alloc (.cells #[.int .i64 dx,.int .i64 dy] 70)).alloc (.cells #[.int .i64 sx,.int .i64 sy] 70);have B5:=(((((hbk.al (.cells #[.int .i64 k,.int .i64 y] 70)).tr hb4).tr hb5).tr hb9).al (.cells #[.int .i64 dx,.int .i64 dy] 70)).al (.cells #[.int .i64 sx,.int .i64 sy] 70);go_wp2_with (at_builtin;go_must (refine iH (enc:=qA) rY qN rX B5 own5 (118:Int) H8.out HM.out (by simp) rfl _ _ rfl rfl rfl ?_);intro v6 w6 own6 hb6 hg6 hd6;obtain⟨A6,c6,rfl,hc6,hm6⟩:=own6.form)
               go_roundw
               case rel=>exact⟨k+1,A6,c6,by omega,by go_num,by simp[Hlen.out],by have e:(mY s l y k++[(118:Int)]).length=k+1:=(by rw[length_append,Hlen.out];rfl);rw[lL s l y k Hsg.out rfl,<-e];exact own6,hb6⟩
               case measure=>simp[intOf];omega
       . obtain rfl : k = 8 := by omega
         obtain⟨g,rfl,hB,hg⟩:=hownk.split (k:=0) (by rw[wY];omega)
         have hconv := run_convert_bytes_arg (P := Tryz.prog) wr 22 5 Tryz.underlying22 Tryz.underlying5 g 0 8 dk (mY s l y 8) (wY _ _ _ _) (fun i hi => by
          have hil:i<(mY s l y 8).length:=by rw[wY];exact hi
          have:=hownk.slot qN Nat.one_pos hil 0 (.int .u8 (mY s l y 8)[i]) rfl;rw[Nat.mul_one,Nat.add_zero]at this;rw[Nat.zero_add,this,List.getD_eq_getElem?_getD,List.getElem?_eq_getElem hil,Option.getD_some]) 9 Tryz.underlying9
         rw[NH]at hconv;have own2:=hown.below hbk;have B2:=hbel.tr hbk;have H8:Hid (((uX s l y).length+1)*16<=140737488355328):=SQ (by rw[sI];omega);have HM:Hid ((uX s l y).length+1<=maxLen):=SQ (by rw[sI];unfold maxLen;omega);have Hsc:=SQ (Kk s l y);have Htl:=SQ (sI s l y);go_wp2_with (at_builtin;go_must (refine iH (enc:=kP) xA kG zU B2 own2 (PN s l y 8) H8.out HM.out (by simp) rfl _ _ rfl rfl rfl ?_);intro v4 w4 own4 hb4 hg4 hd4;obtain⟨A4,c4,rfl,hc4,hm4⟩:=own4.form)
         go_roundw
         case rel=>exact⟨y+1,A4,c4,by omega,by go_num,by simp[Htl.out],by have e:(uX s l y++[PN s l y 8]).length=y+1:=(by rw[length_append,Htl.out];rfl);rw[Hsc.out,<-e];exact own4,hb4⟩
         case measure=>simp[intOf];omega
    . obtain rfl : y = rows.length := by omega
      go_wp2;go_ret;have htl:(uX (setOf rows) l rows.length).length=rows.length:=sI _ _ _;rw[Hse.out]at hown;refine⟨D,d,by rw[htl];rfl,?_,hbel⟩;rw[htl];exact hown
end Go.Proofs.YtljfoohaapckeaaGreatDoor
