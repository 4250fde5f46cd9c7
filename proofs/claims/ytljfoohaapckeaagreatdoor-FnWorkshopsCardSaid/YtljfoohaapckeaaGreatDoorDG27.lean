/- The flips of a list, of both sides; a number put into a list; the place of a list: the walks. No conditions. Dominoes and tilings as text: the walks. Conditions: the library's table of powers, as its text lays it. The links of the tilings, of the program: the walk. Conditions: the library's table of powers, as its text lays it. -/
import Derived.Test.YtljfoohaapckeaaGreatDoorDG25
import Derived.Test.YtljfoohaapckeaaGreatDoorDG26
import Derived.Test.YtljfoohaapckeaaGreatDoorDK6
import Derived.Test.YtljfoohaapckeaaGreatDoorDK7
import Derived.Maps.Own
import Derived.Maps.OwnOps
open _root_.List (map_append map_cons map_nil length_append length_cons getElem_mem)
open _root_.Nat (le_refl zero_le)
open _root_.Go.Proofs.Tryz (prog underlying9)
namespace Go.Proofs.YtljfoohaapckeaaGreatDoor
open Go.ChangeShapes Go.WideShapes Go.ChangeAt Go.RowKit
set_option linter.unusedVariables false
set_option linter.unusedSimpArgs false
set_option maxHeartbeats 4000000
set_option maxRecDepth 100000
def eF (l:List Dm) (k:Nat):List Cl:=((List.range k).map gI).filter fun c=>decide (kindOf l c≠0)
theorem zW {l:List Dm} {k:Nat} (h:kindOf l (gI k)≠0):eF l k++[gI k]=eF l (k+1):=by
 unfold eF;rw[List.range_succ,map_append,List.filter_append,map_cons,map_nil,List.filter_cons_of_pos (by simpa using h)];rfl
theorem BJ {l:List Dm} {k:Nat} (h:kindOf l (gI k)=0):eF l (k+1)=eF l k:=by
 unfold eF;rw[List.range_succ,map_append,List.filter_append,map_cons,map_nil,List.filter_cons_of_neg (by simpa using h)];simp
theorem zX (l:List Dm) (k:Nat):(eF l k).length<=k:=by
 unfold eF;refine Nat.le_trans (List.length_filter_le _ _) ?_;simp
theorem BK (v:Value) (l:List Dm) (w:World) (h:Rd 3 aU w v l):Calls prog 135 #[v] w (jA 70 2 dE (dQ l) w):=by
 obtain⟨A,c,rfl,hc,hm⟩:=h.form;have own0:=iK w (E:=70) (size:=2) (enc:=dE) w.heap.size rfl w.heap.size (le_refl _);go_enter Tryz.func135,Tryz.ntmps135
 go_wp2;go_loopw [3,4,6] (fun s3 s4 s6 wr=>∃(k:Nat) (D:Option Addr) (d:Nat) (z:Value),s4=z/\k<=64/\s6= .int .i64 k/\s3= .slice D (eF l k).length d/\aC 70 2 dE w.heap.size wr (.slice D (eF l k).length d) (eF l k)/\Below w.heap.size w wr) (fun _ _ i _=>64-(intOf i).toNat)
 case atStart=>exact⟨0,_,_,_,rfl,by omega,rfl,rfl,own0,(Below.refl _ _).al _⟩
 case round=>
  obtain⟨k,D,d,z,rfl,hk,rfl,rfl,hown,hbel⟩:=hrel;clear own0;by_cases hlt:k<64
  . obtain⟨x,y,hxy⟩:∃x y,gI k=(x,y):=⟨_,_,rfl⟩
    have cA : ∀ W : World, Calls prog 188 #[.int .i64 k] W (Ret (.agg #[.int .i64 x, .int .i64 y]) W) := fun W => by
     have:=yS k W (by omega);rw[hxy]at this;exact this
    have HC:=OA cA;have HXY:=OA hxy;clear cA hxy;have hki:(k:Int)<64:=(by omega);go_wp2_with fail
    refine(HC.out _).mono ?_;rintro e w1 ⟨rfl,hb1⟩;have B1:=hbel.tr hb1;go_wp2_with fail
    refine(qU _ l x y _ (h.Oz B1)).mono ?_;rintro e w2 ⟨rfl,hb2⟩;have B2:=B1.tr hb2;have own2:=(hown.below hb1).below hb2;by_cases hk0:kindOf l (x,y)=0
    . have hd : decide (kindOf l (x, y) ≠ 0) = false := by simpa using hk0
      rw[hd];have HN:Hid (eF l (k+1)=eF l k):=OA (BJ (by rw[HXY.out];exact hk0));clear hd hk0;go_wp2;go_roundw
      case rel=>exact⟨k+1,D,d,_,rfl,by omega,by go_num,by rw[HN.out],by rw[HN.out];exact own2,B2⟩
      case measure=>simp[intOf];omega
    . have hd : decide (kindOf l (x, y) ≠ 0) = true := by simpa using hk0
      rw[hd];have HY:Hid (eF l k++[(x,y)]=eF l (k+1)):=OA (by have:=zW (l:=l) (k:=k) (by rw[HXY.out];exact hk0);rw[HXY.out]at this;exact this);have hlen:=zX l k;have H8:Hid (((eF l k).length+1)*16<=140737488355328):=OA (by omega);have HM:Hid ((eF l k).length+1<=maxLen):=OA (by unfold maxLen;omega);clear hd hk0 hlen;go_wp2_with fail
      refine(HC.out _).mono ?_;rintro e w3 ⟨rfl,hb3⟩;have B3:=B2.tr hb3;have own3:=own2.below hb3;go_wp2_with (at_builtin;go_must (refine aG (enc:=dE) iY dS oneCell B3 own3 ((x,y):Cl) H8.out HM.out rfl _ _ rfl rfl rfl ?_);intro v4 w4 own4 hb4 hg4 hd4;rw[HY.out]at own4;obtain⟨A4,c4,rfl,hc4,hm4⟩:=own4.form)
      go_roundw
      case rel=>exact⟨k+1,A4,c4,_,rfl,by omega,by go_num,rfl,own4,hb4⟩
      case measure=>simp[intOf];omega
  . obtain rfl : k = 64 := by omega
    go_wp2;go_ret;exact⟨_,_,rfl,hown,hbel⟩
theorem vU (v:Value) (l:List Dm) (w:World) (h:Rd 3 aU w v l):Calls prog 36 #[v] w (jA 70 2 dE (dQ l) w):=by
 obtain⟨A,c,rfl,hc,hm⟩:=h.form;have own0:=iK w (E:=70) (size:=2) (enc:=dE) w.heap.size rfl w.heap.size (le_refl _);go_enter Tryz.func36,Tryz.ntmps36
 go_wp2;go_loopw [3,4,5,6] (fun s3 s4 s5 s6 wr=>∃(k:Nat) (D:Option Addr) (d:Nat) (z5 z6:Value),s5=z5/\s6=z6/\k<=64/\s4= .int .i64 k/\s3= .slice D (eF l k).length d/\aC 70 2 dE w.heap.size wr (.slice D (eF l k).length d) (eF l k)/\Below w.heap.size w wr) (fun _ i _ _ _=>64-(intOf i).toNat)
 case atStart=>exact⟨0,_,_,_,_,rfl,rfl,by omega,rfl,rfl,own0,(Below.refl _ _).al _⟩
 case round=>
  obtain⟨k,D,d,z5,z6,rfl,rfl,hk,rfl,rfl,hown,hbel⟩:=hrel;clear own0;by_cases hlt:k<64
  . obtain⟨x,y,hxy⟩:∃x y,gI k=(x,y):=⟨_,_,rfl⟩
    have cA : ∀ W : World, Calls prog 84 #[.int .i64 k] W (Ret (.tuple #[.agg #[.int .i64 x, .int .i64 y], .bool true]) W) := fun W => by
     have:=sM k W hlt;unfold gI at hxy;injection hxy with e1 e2;rw[e1,e2]at this;exact this
    have HC:=OA cA;have HXY:=OA hxy;clear cA hxy;have hki:(k:Int)<64:=(by omega);go_wp2_with fail
    refine(HC.out _).mono ?_;rintro e w1 ⟨rfl,hb1⟩;have B1:=(hbel.tr hb1).al (.cells #[.int .i64 x,.int .i64 y] 70);have own1:=(hown.below hb1).alloc (.cells #[.int .i64 x,.int .i64 y] 70);have b1:=Blk.bK w1 70 #[.int .i64 x,.int .i64 y];obtain⟨n,hn⟩:=Oy (kindOf l (x,y));have cK:∀(W:World),Rd 3 aU W (.slice A l.length c) l->Calls prog 85 #[.slice A l.length c,.agg #[.int .i64 x,.int .i64 y]] W (Ret (.int .i64 (n:Nat)) W):=fun W hW=>by rw[hn];exact Ei _ l x y W hW
    have HK:=OA cK;have HN:=OA hn;clear cK hn;go_wp2_with fail
    refine(HK.out _ (h.Oz B1)).mono ?_;rintro e w2 ⟨rfl,hb2⟩;have B2:=B1.tr hb2;have own2:=own1.below hb2;have b2:=b1.bl hb2;by_cases hk0:n=0
    . subst hk0;have HNo:Hid (eF l (k+1)=eF l k):=OA (BJ (by rw[HXY.out];exact HN.out.symm));go_wp2;go_roundw
      case rel=>exact⟨k+1,D,d,_,_,rfl,rfl,by omega,by go_num,by rw[HNo.out],by rw[HNo.out];exact own2,B2⟩
      case measure=>simp[intOf];omega
    . have hn0 : (0 : Int) < (n : Int) := by omega
      have HY:Hid (eF l k++[(x,y)]=eF l (k+1)):=OA (by have:=zW (l:=l) (k:=k) (by rw[HXY.out,<-HN.out];exact hk0);rw[HXY.out]at this;exact this);have hlen:=zX l k;have H8:Hid (((eF l k).length+1)*16<=140737488355328):=OA (by omega);have HM:Hid ((eF l k).length+1<=maxLen):=OA (by unfold maxLen;omega);clear hk0 hlen;obtain⟨q_0,q_1⟩:=b2.n2;go_wp2_with (at_builtin;go_must (refine aG (enc:=dE) iY dS oneCell B2 own2 ((x,y):Cl) H8.out HM.out rfl _ _ rfl rfl rfl ?_);intro v4 w4 own4 hb4 hg4 hd4;rw[HY.out]at own4;obtain⟨A4,c4,rfl,hc4,hm4⟩:=own4.form)
      go_roundw
      case rel=>exact⟨k+1,A4,c4,_,_,rfl,rfl,by omega,by go_num,rfl,own4,hb4⟩
      case measure=>simp[intOf];omega
  . obtain rfl : k = 64 := by omega
    go_wp2;go_ret;exact⟨_,_,rfl,hown,hbel⟩
theorem M9 {n x:Int} (h:n<=x) (r:List Int):rW n (x::r)=n::x::r:=if_pos h
theorem Na {n x:Int} (h:¬n<=x) (r:List Int):rW n (x::r)=x::rW n r:=if_neg h
theorem LB {n x:Int} {l:List Int} {k:Nat} (hk:k<l.length) (hx:l[k]=x):l.drop k=x::l.drop (k+1):=by rw[<-hx];exact List.drop_eq_getElem_cons hk
theorem LC (v:Value) (l:List Int) (n:Int) (w:World) (h:Rd 1 bH w v l) (hl:l.length<=1000):Calls prog 187 #[v,.int .i64 n] w (jA 3 1 aY (rW n l) w):=by
 obtain⟨A,c,rfl,hc,hm⟩:=h.form;have own0:=iK w (E:=3) (size:=1) (enc:=aY) w.heap.size rfl w.heap.size (le_refl _);go_enter Tryz.func187,Tryz.ntmps187
 go_wp2;go_loopw [5,6,8,12] (fun s5 s6 s8 s12 wr=>∃(k:Nat) (dn:Bool) (out:List Int) (D:Option Addr) (d:Nat) (z:Value),s8=z/\k<=l.length/\s12= .int .i64 k/\s6= .bool dn/\s5= .slice D out.length d/\(out.length=k∨(dn=true/\out.length<=k+1))/\aC 3 1 aY w.heap.size wr (.slice D out.length d) out/\Hid ((if dn=true then out++l.drop k else out++rW n (l.drop k))=rW n l)/\Below w.heap.size w wr) (fun _ _ _ i _=>l.length-(intOf i).toNat)
 case atStart=>exact⟨0,false,[],_,_,_,rfl,zero_le _,rfl,rfl,rfl,.inl rfl,own0,OA (by simp),(Below.refl _ _).al _⟩
 case round=>
  obtain⟨k,dn,out,D,d,z,rfl,hk,rfl,rfl,rfl,hol,hown,Hg,hbel⟩:=hrel;clear own0;have hol2:out.length<=k+1:=by rcases hol with q|⟨_,q⟩<;>omega
  have hol3 : dn = false -> out.length = k := fun e => by
   rcases hol with q|⟨q,_⟩
   . exact q
   . rw[e]at q;cases q
  have Hol:=OA hol3;clear hol hol3;have H8:Hid ((out.length+1)*8<=140737488355328):=OA (by omega);have HM:Hid (out.length+1<=maxLen):=OA (by unfold maxLen;omega);by_cases hlt:k<l.length
  . obtain⟨b,off,rfl,hb,c1⟩:=(h.Oz hbel).uE hlt;obtain⟨x,hx⟩:=Oy (l[k]);rw[<-hx]at c1;have hdr:=LB (n:=n) hlt hx.symm;have HD:=OA hdr;clear hx hdr;have hki:(k:Int)<(l.length:Int):=(by omega);cases dn
    . by_cases hnx:n<=x
      . have HG : Hid ((out ++ [n]) ++ [x] ++ l.drop (k + 1) = rW n l) := OA (by
         have:=Hg.out;rw[if_neg (by decide),HD.out]at this;rw[M9 hnx]at this;rw[<-this];simp)
        have H8b:Hid (((out++[n]).length+1)*8<=140737488355328):=OA (by rw[length_append];simp;omega);have HMb:Hid ((out++[n]).length+1<=maxLen):=OA (by rw[length_append];unfold maxLen;simp;omega);have HL:Hid ((out++[n]).length=out.length+1):=OA (by simp);go_wp2_with (first|(at_builtin;(refine aG (enc:=aY) fA aL jD hbel hown n H8.out HM.out rfl _ _ rfl rfl rfl ?_);intro v4 w4 own4 hb4 hg4 hd4;obtain⟨A4,c4,rfl,hc4,hm4⟩:=own4.form;rw[HL.out]at own4)|(at_builtin;go_must (refine aG (enc:=aY) fA aL jD hb4 own4 x H8b.out HMb.out rfl _ _ rfl rfl rfl ?_);intro v5 w5 own5 hb5 hg5 hd5;obtain⟨A5,c5,rfl,hc5,hm5⟩:=own5.form))
        go_roundw
        case rel=>exact⟨k+1,true,(out++[n])++[x],A5,c5,_,rfl,by omega,by go_num,rfl,by simp,.inr ⟨rfl,by have:=Hol.out rfl;simp;omega⟩,own5,OA (by rw[if_pos rfl];exact HG.out),hb5⟩
        case measure=>simp[intOf];omega
      . have HG : Hid ((out ++ [x]) ++ rW n (l.drop (k + 1)) = rW n l) := OA (by
         have:=Hg.out;rw[if_neg (by decide),HD.out]at this;rw[Na hnx]at this;rw[<-this];simp)
        go_wp2_with (at_builtin;go_must (refine aG (enc:=aY) fA aL jD hbel hown x H8.out HM.out rfl _ _ rfl rfl rfl ?_);intro v4 w4 own4 hb4 hg4 hd4;obtain⟨A4,c4,rfl,hc4,hm4⟩:=own4.form)
        go_roundw
        case rel=>exact⟨k+1,false,out++[x],A4,c4,_,rfl,by omega,by go_num,rfl,by simp,.inl (by rw[length_append,Hol.out rfl];rfl),own4,OA (by rw[if_neg (by decide)];exact HG.out),hb4⟩
        case measure=>simp[intOf];omega
    . have HG : Hid ((out ++ [x]) ++ l.drop (k + 1) = rW n l) := OA (by
       have:=Hg.out;rw[if_pos rfl,HD.out]at this;rw[<-this];simp)
      go_wp2_with (at_builtin;go_must (refine aG (enc:=aY) fA aL jD hbel hown x H8.out HM.out rfl _ _ rfl rfl rfl ?_);intro v4 w4 own4 hb4 hg4 hd4;obtain⟨A4,c4,rfl,hc4,hm4⟩:=own4.form)
      go_roundw
      case rel=>exact⟨k+1,true,out++[x],A4,c4,_,rfl,by omega,by go_num,rfl,by simp,.inr ⟨rfl,by simp;omega⟩,own4,OA (by rw[if_pos rfl];exact HG.out),hb4⟩
      case measure=>simp[intOf];omega
  . obtain rfl : k = l.length := by omega
    cases dn
    . have HG : Hid (out ++ [n] = rW n l) := OA (by
       have:=Hg.out;rw[if_neg (by decide),List.drop_length]at this;exact this)
      go_wp2_with (at_builtin;go_must (refine aG (enc:=aY) fA aL jD hbel hown n H8.out HM.out rfl _ _ rfl rfl rfl ?_);rw[HG.out];intro v4 w4 own4 hb4 hg4 hd4;obtain⟨A4,c4,rfl,hc4,hm4⟩:=own4.form)
      go_ret;exact⟨_,_,rfl,own4,hb4⟩
    . have HG : Hid (out = rW n l) := OA (by
       have:=Hg.out;rw[if_pos rfl,List.drop_length,List.append_nil]at this;exact this)
      go_wp2;go_ret;exact⟨D,d,by rw[<-HG.out];rfl,by rw[<-HG.out];exact hown,hbel⟩
theorem rQ {B:Nat} (u v:Value) (T:List (List Dm)) (m:List Dm) (w:World) (h:dF 27 60 3 aT B w u T) (h':Rd 3 aU w v m):Calls prog 131 #[u,v] w (Ret (.int .i64 (lY T m)) w):=by
 obtain⟨A,c,rfl,hc,hm⟩:=h.form;have hTm:T.length<=9223372036854775807:=by unfold maxLen at hm;omega
 go_enter Tryz.func131,Tryz.ntmps131
 go_wp2;go_loopw [5,6,9] (fun s5 s6 s9 wr=>∃(k:Nat) (z5 z6:Value),s5=z5/\s6=z6/\k<=T.length/\s9= .int .i64 k/\Hid (∀j (hj:j<k) (h:j<T.length),T[j]≠m)/\Below w.heap.size w wr) (fun _ _ i _=>T.length-(intOf i).toNat)
 case atStart=>exact⟨0,_,_,rfl,rfl,zero_le _,rfl,OA (fun j hj=>by omega),Below.refl _ _⟩
 case round=>
  obtain⟨k,z5,z6,rfl,rfl,hk,rfl,Hg,hbel⟩:=hrel;by_cases hlt:k<T.length
  . obtain⟨g,D,d,rfl,hg1,hg2,c1,ownk⟩:=(h.below hbel).pick hlt;have hki:(k:Int)<(T.length:Int):=(by omega);obtain⟨t,ht⟩:=Oy (T[k]);rw[<-ht]at c1 ownk;have HT:=OA ht;clear ht;go_wp2_with fail
    refine(qW _ _ t m _ (ownk.rd aB (by decide)) (h'.Oz hbel)).mono ?_;rintro e w1 ⟨rfl,hb1⟩;by_cases he:t=m
    . rw[decide_eq_true he];have HI:Hid (lY T m=(k:Int)):=OA (index_hit hlt (fun j hj=>Hg.out j hj (by omega)) (by rw[<-HT.out];exact he));clear he;go_wp2;go_ret;exact⟨by rw[HI.out];rfl,hbel.tr hb1⟩
    . rw[decide_eq_false he]
      have HN : Hid (∀ j (hj : j < k + 1) (h : j < T.length), T[j] ≠ m) := OA (fun j hj h q => by
       rcases(by omega:j<k∨j=k)with h1|h1
       . exact Hg.out j h1 h q
       . subst h1;rw[<-HT.out]at q;exact he q)
      clear he;go_wp2;go_roundw
      case rel=>exact⟨k+1,_,_,rfl,rfl,by omega,by go_num,HN,hbel.tr hb1⟩
      case measure=>simp[intOf];omega
  . obtain rfl : k = T.length := by omega
    have HI:Hid (lY T m= -1):=OA (BC (fun j hj=>Hg.out j hj hj));go_wp2;go_ret;exact⟨by rw[HI.out];rfl,hbel⟩
theorem NV (x y:Int):GA x++(⟨#[44]⟩:ByteArray)++GA y++(⟨#[114]⟩:ByteArray)=nT (x,y,false):=by
 apply ByteArray.ext;apply Array.toList_inj.1;unfold nT;rw[GD];simp[ByteArray.data_append,GA,Dk]
theorem NY (x y:Int):GA x++(⟨#[44]⟩:ByteArray)++GA y++(⟨#[100]⟩:ByteArray)=nT (x,y,true):=by
 apply ByteArray.ext;apply Array.toList_inj.1;unfold nT;rw[GD];simp[ByteArray.data_append,GA,Dk]
theorem GM {x:Int} (h0:0<=x) (h1:x<=7):(GA x).size=1:=by
 unfold GA;rw[Lib.decDigits_one (by omega)];rfl
theorem EP (x y:Int) (d:Bool) (w:World) (hd:aH (x,y,d)=true) (ht:Tab w):Calls prog 216 #[.agg #[.int .i64 x,.int .i64 y,.bool d]] w (Ret (.string (nT (x,y,d))) w):=by
 have hin:=Dl hd;have Hx0:0<=x:=hin.1.1;have Hx1:x<=9223372036854775807:=by have:=hin.1.2;simp only at this;omega
 have Hy0:0<=y:=hin.2.1;have Hy1:y<=9223372036854775807:=by have:=hin.2.2;simp only at this;omega
 have sX:=GM Hx0 hin.1.2;have sY:=GM Hy0 hin.2.2;have HT:=OA ht;clear ht hin;have B0:=(Below.refl w.heap.size w).al (.cells #[.int .i64 x,.int .i64 y,.bool d] 60);have bP:=Blk.bK w 60 #[.int .i64 x,.int .i64 y,.bool d];go_enter Tryz.func216,Tryz.ntmps216
 go_wp2_with fail
 refine(yE x y d _ hd).mono ?_;rintro e w1 ⟨rfl,hb1⟩;have B1:=B0.tr hb1;have bP1:=bP.bl hb1;have hg:=bP1.lt;obtain⟨y_0,y_1,y_2⟩:=bP1.n3;have Bw:Below w1.heap.size w1 w1:=Below.refl _ _;have hz:w1.heap.size<=w1.heap.size:=le_refl _;cases d
 . have HE:=OA (NV x y);go_wp2_with fail
   have Bw:Below w1.heap.size w1 w1.drew:=Bw.drew;have hz:w1.heap.size<=w1.drew.heap.size:=Bw.size;refine rB (fun w'=>w'.cell? ⟨w.heap.size,0,none⟩=some (.int .i64 x)/\w'.cell? ⟨w.heap.size,1,none⟩=some (.int .i64 y)) fun hHeld=>(tW 0)<|(tW 1)<|(tW 4)<|(tW 5)<|(tR [2])<|tL fun K hK=>?_
   go_simp
   (go_at_call 50;go_must (refine(xG _ _ (by first|exact Hx0|exact Hy0) (by first|exact Hx1|exact Hy1) (HT.out.below (B1.tr Bw))).mono ?_;rintro e wX ⟨rfl,hbX⟩;obtain⟨hcX,hfX,hzX⟩:=bkn hbX w1.heap.size hz;have hz:=hzX;have Bw:=Bw.tr hbX);(try go_wp2_with fail))
   refine tK hK fun hHeld=>?_
   clear hK K;refine(tW 3)<|(tR [6])<|tL fun K hK=>?_
   go_simp
   (go_at_call 50;go_must (refine(xG _ _ (by first|exact Hx0|exact Hy0) (by first|exact Hx1|exact Hy1) (HT.out.below (B1.tr Bw))).mono ?_;rintro e wX ⟨rfl,hbX⟩;obtain⟨hcX,hfX,hzX⟩:=bkn hbX w1.heap.size hz;have hz:=hzX;have Bw:=Bw.tr hbX);(try go_wp2_with fail))
   refine tK hK fun hHeld=>?_
   clear hK K;refine(tW 7)<|(tW 8)<|(tW 9)<|tD ?_
   all_goals
     go_wp2;go_ret;exact⟨congrArg _ (congrArg _ HE.out),B1.tr Bw⟩
 . have HE:=OA (NY x y);go_wp2_with fail
   have Bw:Below w1.heap.size w1 w1.drew:=Bw.drew;have hz:w1.heap.size<=w1.drew.heap.size:=Bw.size;refine rB (fun w'=>w'.cell? ⟨w.heap.size,0,none⟩=some (.int .i64 x)/\w'.cell? ⟨w.heap.size,1,none⟩=some (.int .i64 y)) fun hHeld=>(tW 0)<|(tW 1)<|(tW 4)<|(tW 5)<|(tR [2])<|tL fun K hK=>?_
   go_simp
   (go_at_call 50;go_must (refine(xG _ _ (by first|exact Hx0|exact Hy0) (by first|exact Hx1|exact Hy1) (HT.out.below (B1.tr Bw))).mono ?_;rintro e wX ⟨rfl,hbX⟩;obtain⟨hcX,hfX,hzX⟩:=bkn hbX w1.heap.size hz;have hz:=hzX;have Bw:=Bw.tr hbX);(try go_wp2_with fail))
   refine tK hK fun hHeld=>?_
   clear hK K;refine(tW 3)<|(tR [6])<|tL fun K hK=>?_
   go_simp
   (go_at_call 50;go_must (refine(xG _ _ (by first|exact Hx0|exact Hy0) (by first|exact Hx1|exact Hy1) (HT.out.below (B1.tr Bw))).mono ?_;rintro e wX ⟨rfl,hbX⟩;obtain⟨hcX,hfX,hzX⟩:=bkn hbX w1.heap.size hz;have hz:=hzX;have Bw:=Bw.tr hbX);(try go_wp2_with fail))
   refine tK hK fun hHeld=>?_
   clear hK K;refine(tW 7)<|(tW 8)<|(tW 9)<|tD ?_
   all_goals
     go_wp2;go_ret;exact⟨congrArg _ (congrArg _ HE.out),B1.tr Bw⟩
theorem Et (l : List Dm) : toB (Lib.join ((l.map nT).map fun x => x.data.toList) [32]) = GG l := by
 unfold GG;congr 2
 rw[List.map_map];exact List.map_congr_left fun d _=>rfl
theorem Eu {l : List Dm} (hl : ∀ d ∈ l, aH d = true) (h64 : l.length <= 64) : (Lib.join ((l.map nT).map fun x => x.data.toList) [32]).length <= 1000 := by
 have key : ∀ m : List Dm, (∀ d ∈ m, aH d = true) -> (Lib.joinTail [32] ((m.map nT).map fun x => x.data.toList)).length = 5 * m.length := by
  intro m;induction m with
  |nil=>intro _;simp[Lib.joinTail]
  |cons d m ih=>
   intro hm;have e:∀(x:Bs) (zs:List Bs),Lib.joinTail [32] (x::zs)=32::(x++Lib.joinTail [32] zs):=fun x zs=>by simp[Lib.joinTail]
   rw[map_cons,map_cons,e,length_cons,length_append,ih (fun d hd=>hm d (List.mem_cons_of_mem _ hd)),length_cons]
   have:(nT d).data.toList.length=4:=by
    have:=Er (hm d List.mem_cons_self);have e2:(nT d).size=(nT d).data.toList.length:=by rw[Array.length_toList];rfl
    omega
   omega
 cases l with
 |nil=>exact zero_le _
 |cons d l=>
  rw[map_cons,map_cons,Lib.join_cons,length_append,key l (fun d hd=>hl d (List.mem_cons_of_mem _ hd))]
  have:(nT d).data.toList.length=4:=by
   have:=Er (hl d List.mem_cons_self);have e2:(nT d).size=(nT d).data.toList.length:=by rw[Array.length_toList];rfl
   omega
  rw[length_cons]at h64;omega
theorem FV {l:List Dm} {k:Nat} (h:k<l.length):(l.take k).map nT++[nT l[k]]=(l.take (k+1)).map nT:=by
 rw[List.take_succ_eq_append_getElem h,map_append];rfl
theorem IG {l:List Dm} {k:Nat} (h:k<=l.length):((l.take k).map nT).length=k:=by rw[List.length_map,List.length_take];omega
theorem Kt {B g c : Nat} {w : World} {F : List ByteArray} (h : aC 9 1 G7 B w (.slice (some ⟨g, 0, none⟩) F.length c) F) (hg : g < w.heap.size) (hF : F.length <= 100) (hs : (Lib.join (F.map fun x => x.data.toList) [32]).length <= 1000) :
 Calls prog 116 #[.slice (some ⟨g,0,none⟩) F.length c,.string ⟨#[32]⟩] w (Ret (.string (toB (Lib.join (F.map fun x=>x.data.toList) [32]))) w):=by
 obtain⟨A',c',e,h1,h2⟩:=h.form;injection e with e1 e2 e3;subst e3
 have hcl := Tryz.strings_Join g 0 c F (⟨#[32]⟩ : ByteArray) w (fun j x hj => by
  have hjl:=(List.getElem?_eq_some_iff.1 hj).1;have:=h.slot Md (by decide) hjl 0 (.string F[j]) rfl;rw[(List.getElem?_eq_some_iff.1 hj).2]at this;simpa using this) hg (by omega) h1 (Nat.le_trans hs (by decide))
 refine hcl.mono ?_;rintro e w' ⟨rfl,hb⟩;exact⟨rfl,hb⟩
theorem wL (v:Value) (l:List Dm) (w:World) (h:Rd 3 aU w v l) (hl:∀d∈l,aH d=true) (h64:l.length<=64) (ht:Tab w):Calls prog 186 #[v] w (Ret (.string (GG l)) w):=by
 obtain⟨A,c,rfl,hc,hm⟩:=h.form;have own0:=iK w (E:=9) (size:=1) (enc:=G7) w.heap.size rfl w.heap.size (le_refl _);have HT:=OA ht;have HOK:=OA hl;clear ht hl;go_enter Tryz.func186,Tryz.ntmps186
 go_wp2;go_loopw [3,5,9] (fun s3 s5 s9 wr=>∃(k:Nat) (D:Option Addr) (d:Nat) (z:Value),s5=z/\k<=l.length/\s9= .int .i64 k/\s3= .slice D k d/\aC 9 1 G7 w.heap.size wr (.slice D k d) ((l.take k).map nT)/\Below w.heap.size w wr) (fun _ _ i _=>l.length-(intOf i).toNat)
 case atStart=>exact⟨0,_,_,_,rfl,zero_le _,rfl,rfl,own0,(Below.refl _ _).al _⟩
 case round=>
  obtain⟨k,D,d,z,rfl,hk,rfl,rfl,hown,hbel⟩:=hrel;clear own0;by_cases hlt:k<l.length
  . obtain⟨b,off,rfl,hb,k0,k1,k2⟩:=(h.Oz hbel).jJ hlt;have hki:(k:Int)<(l.length:Int):=(by omega);have hok:=HOK.out l[k] (getElem_mem hlt);have hts:=FV hlt;obtain⟨x,hx⟩:=Oy (l[k]);rw[<-hx]at k0 k1 k2 hok hts;obtain⟨x,y,s⟩:=x;simp only at k0 k1 k2;have Hts:=OA hts;have Hok:=OA hok;have HtL:=OA (IG (l:=l) (k:=k) hk);have H8:Hid ((((l.take k).map nT).length+1)*16<=140737488355328):=OA (by rw[HtL.out];omega);have HM:Hid (((l.take k).map nT).length+1<=maxLen):=OA (by rw[HtL.out];unfold maxLen;omega);clear hx hts hok;have B1:=hbel.al (.cells #[.int .i64 x,.int .i64 y,.bool s] 60);have b1:=Blk.bK wr 60 #[.int .i64 x,.int .i64 y,.bool s];have own1:=hown.alloc (.cells #[.int .i64 x,.int .i64 y,.bool s] 60);go_wp2_with fail
    refine(yE x y s _ Hok.out).mono ?_;rintro e w2 ⟨rfl,hb2⟩;have B2:=B1.tr hb2;have b2:=b1.bl hb2;have own2:=own1.below hb2;obtain⟨q_0,q_1,q_2⟩:=b2.n3;go_wp2_with fail
    refine(EP x y s _ Hok.out (HT.out.below B2)).mono ?_;rintro e w3 ⟨rfl,hb3⟩;have B3:=B2.tr hb3;have own3:=own2.below hb3;obtain⟨S,hS⟩:=Oy (nT (x,y,s));rw[<-hS];have HS:=OA hS;clear hS;go_wp2_with (at_builtin;go_must (refine aG (enc:=G7) NG Md NF B3 own3 S H8.out HM.out rfl _ _ rfl rfl rfl ?_);intro v4 w4 own4 hb4 hg4 hd4;obtain⟨A4,c4,rfl,hc4,hm4⟩:=own4.form)
    have own5:aC 9 1 G7 w.heap.size w4 (.slice A4 (k+1) c4) ((l.take (k+1)).map nT):=by
     have e:((l.take k).map nT++[S]).length=k+1:=by rw[length_append,HtL.out];rfl
     rw[<-Hts.out,<-HS.out,<-e];exact own4
    go_roundw
    case rel=>exact⟨k+1,A4,c4,_,rfl,by omega,by go_num,by simp[HtL.out],own5,hb4⟩
    case measure=>simp[intOf];omega
  . obtain rfl : k = l.length := by omega
    rcases Nat.eq_zero_or_pos l.length with h0|hp
    . have hl0:l=[]:=List.length_eq_zero_iff.1 h0;have hT0:Hid (GG l=(⟨#[]⟩:ByteArray)):=OA (by rw[hl0];rfl);have H0:=OA h0;clear hl0;rw[h0];clear h0;go_wp2_with fail
      refine(Tryz.strings_Join_none D d (⟨#[32]⟩:ByteArray) _).mono ?_;rintro e w5 ⟨rfl,rfl⟩;go_wp2;go_ret;exact⟨by rw[hT0.out];rfl,hbel⟩
    . skip;rw[List.take_length]at hown;have e2:(l.map nT).length=l.length:=List.length_map ..;obtain⟨g,rfl,hB,hgl⟩:=hown.split (k:=0) (by rw[e2];omega);have hown':aC 9 1 G7 w.heap.size wr (.slice (some ⟨g,0,none⟩) (l.map nT).length d) (l.map nT):=by rw[e2];exact hown
      have hcl:=Kt hown' hgl (by rw[e2];omega) (Eu HOK.out h64);rw[e2,Et]at hcl;clear hown';go_wp2_with fail
      refine hcl.mono ?_;rintro e w5 ⟨rfl,hb5⟩;go_wp2;go_ret;exact⟨rfl,hbel.tr hb5⟩
end Go.Proofs.YtljfoohaapckeaaGreatDoor
namespace Go.Proofs.YtljfoohaapckeaaGreatDoor
open Go.ChangeShapes Go.WideShapes Go.ChangeAt Go.RowKit Go.WideMaps Go.Maps
set_option linter.unusedVariables false
set_option linter.unusedSimpArgs false
set_option maxHeartbeats 4000000
set_option maxRecDepth 100000
theorem JL:Row prog 145 24 (.slice none 0 0) 1 24:=⟨Tryz.underlying145,by kernel_rfl,rfl,by decide⟩
theorem Ot:Keyed prog 9:=string_keyed underlying9
theorem Nb (w:World):(zeroValue 3).run prog w= .ok (.int .i64 0) w:=by kernel_rfl
theorem Nc {T:List (List Dm)} (hT:mX T) (hok:∀t∈T,∀d∈t,aH d=true) {j:Nat} (hj:j<T.length) {c:Cl} (hc:c∈dQ (til T j)) (z:DataW Unit):(GK T T.length).atKey (Fg (aS (til T j) c)) z= .lit (.int .i64 (sF T j c)):=by
 have hm:=hT.cl _ (getElem_mem hj) c (by rw[<-iE hj];exact kL.1 hc);rw[iE hj];obtain⟨h1,h2⟩:=lX hm.1;have h3:=JJ hT.nd hok (i:=ix T (aS T[j] c)) z T.length (le_refl _) h1;rw[iE h1,h2]at h3;unfold sF;rw[iE hj];exact h3
theorem JM {l:List Dm} (hl:∀d∈l,aH d=true) (h64:l.length<=64):(GG l).size<=maxLen:=by
 have h1:=Eu hl h64;rw[<-Et];have e:∀x:Bs,(toB x).size=x.length:=fun x=>rfl
 rw[e];unfold maxLen;omega
theorem II {w w':World} (hb:Below w.heap.size w w'):w.grownBy w' none:=⟨hb.os,hb.tape,hb.output,hb.size,fun k hk _=>hb.block k hk⟩
theorem Ku {B:Nat} (v:Value) (T:List (List Dm)) (w:World) (h:dF 27 60 3 aT B w v T) (hT:mX T) (hok:∀t∈T,(∀d∈t,aH d=true)/\t.length<=64) (ht:Tab w):
 Calls prog 134 #[v] w (fun e w'=>∃A c,e= .returned (.slice A T.length c)/\dF 24 3 1 aY w.heap.size w' (.slice A T.length c) (nN T T.length)/\Below w.heap.size w w'):=by
 obtain⟨A,c,rfl,hc,hm⟩:=h.form;have hsm:=hT.sm;have hmm:= @run_makeMap prog;have HT:=OA ht;have HF:=OA hT;have HK:=OA hok;clear ht hT hok hc hm;obtain⟨gM,hgM⟩:=Oy w.heap.size;have hM0:=World.ownsMap_made (H:=Unit) w prog 9 (plainElem (H:=Unit) prog 3);have HGM:=OA hgM;rw[<-hgM]at hM0;go_enter Tryz.func134,Tryz.ntmps134
 rw[<-hgM];clear hgM;go_wp2;go_loopw [4,5,17] (fun s4 s5 s17 wr=>∃(k:Nat) (z4 z5:Value),s4=z4/\s5=z5/\k<=T.length/\s17= .int .i64 k/\wr.ownsMap prog 9 (plainElem (H:=Unit) prog 3) gM k (GK T k)/\Below w.heap.size w wr) (fun _ _ i _=>T.length-(intOf i).toNat)
 case atStart=>exact⟨0,_,_,rfl,rfl,zero_le _,rfl,hM0,(Below.refl _ _).al _⟩
 case round=>
  obtain⟨k,z4,z5,rfl,rfl,hk,rfl,hown,hbel⟩:=hrel;clear hM0;by_cases hlt:k<T.length
  . obtain⟨g,D,d,rfl,hg1,hg2,c1,tk⟩:=(h.below hbel).pick hlt;have hki:(k:Int)<(T.length:Int):=(by omega);obtain⟨l,hl⟩:=Oy (T[k]);have hlo:(∀d∈l,aH d=true)/\l.length<=64:=by rw[hl];exact HK.out _ (getElem_mem hlt)
    have hnx:(GK T k).put (Fg l) (.lit (.int .i64 (k:Int)))=GK T (k+1):=(by rw[yN,iE hlt,hl]);rw[<-hl]at c1 tk;have HL:=OA hl;have HLO:=OA hlo;have HNX:=OA hnx;have hkey:keyOf prog 9 (.string (GG l))=some (Fg l):=keyOf_string_mk underlying9 (JM hlo.1 hlo.2);have HKey:=OA hkey;clear hl hlo hnx hkey;go_wp2_with fail
    refine(wL _ l _ (tk.rd aB (by decide)) HLO.out.1 HLO.out.2 (HT.out.below hbel)).mono ?_;rintro e w1 ⟨rfl,hb1⟩;have B1:=hbel.tr hb1;have own1:=hown.kept (II hb1) (by simp);have hmx:k<maxLen:=by unfold maxLen;omega
    go_wp2_with (at_mapUpdate;go_must (refine wpList_mapUpdate_own _ rfl _ _ _ 181 rfl 9 3 Ot Tryz.underlying181 _ w.heap.size k _ rfl (by rw[<-HGM.out];exact own1) hmx _ _ _ rfl rfl HKey.out _ [] (plainElem_int Tryz.underlying3 (WalkArith.wf_i64 (by omega))) ?_);intro w2 own2 hg2)
    rw[HNX.out,<-HGM.out]at own2;have B2:=B1.grown hg2 B1.size (fun j hj=>by injection hj with hj;subst hj;exact le_refl _);go_roundw
    case rel=>exact⟨k+1,_,_,rfl,rfl,by omega,by go_num,own2,B2⟩
    case measure=>simp[intOf];omega
  . obtain rfl : k = T.length := by omega
    have hgM:gM+1<=wr.heap.size:=by have:=hown.lt;omega
    have oo:=iK wr (E:=24) (size:=1) (enc:=eV) wr.heap.size rfl (gM+1) hgM;have oLL:dF 24 3 1 aY (gM+1) (wr.alloc (.cells #[] 24)) (.slice (some ⟨wr.heap.size,0,none⟩) 0 0) (nN T 0):=⟨[],oo,rfl,fun k u x hu=>by simp at hu⟩;have hown2:=hown.alloc (.cells #[] 24);have B2:=hbel.al (.cells #[] 24);clear oo;go_wp2;go_loopw [6,8,9,11,12,13,30] (fun s6 s8 s9 s11 s12 s13 s30 wr=>∃(k:Nat) (D:Option Addr) (d:Nat) (z8 z9 z11 z12 z13:Value),s8=z8/\s9=z9/\s11=z11/\s12=z12/\s13=z13/\k<=T.length/\s30= .int .i64 k/\s6= .slice D k d/\dF 24 3 1 aY (gM+1) wr (.slice D k d) (nN T k)/\wr.ownsMap prog 9 (plainElem (H:=Unit) prog 3) gM T.length (GK T T.length)/\Below w.heap.size w wr) (fun _ _ _ _ _ _ i _=>T.length-(intOf i).toNat)
    case atStart=>exact⟨0,_,_,_,_,_,_,_,rfl,rfl,rfl,rfl,rfl,zero_le _,rfl,rfl,oLL,hown2,B2⟩
    case round=>
     clear oLL hown2 B2 hgM hown hbel;obtain⟨k,D,d,z8,z9,z11,z12,z13,rfl,rfl,rfl,rfl,rfl,hk,rfl,rfl,oLL,hown,hbel⟩:=hrel;by_cases hlt:k<T.length
     . obtain⟨g,D1,d1,rfl,hg1,hg2,c1,tk⟩:=(h.below hbel).pick hlt;have hki:(k:Int)<(T.length:Int):=(by omega);obtain⟨l,hl⟩:=Oy (T[k]);have hlo:(∀d∈l,aH d=true)/\l.length<=64:=by rw[hl];exact HK.out _ (getElem_mem hlt)
       have htil:til T k=l:=(by rw[iE hlt,hl]);rw[<-hl]at c1 tk;have HLO:=OA hlo;have HTL:=OA htil;have HLt:=OA hlt;have hsl:Small l.length:=by have:=hlo.2;unfold Small;omega
       clear hl hlo htil;have hgM:gM+1<=wr.heap.size:=by have:=hown.lt;omega
       have oi:=iK wr (E:=3) (size:=1) (enc:=aY) wr.heap.size rfl (gM+1) hgM;have tk2:=tk.alloc (.cells #[] 3);go_wp2_with fail
       refine(BK _ l _ (tk2.rd aB (by decide))).mono ?_;rintro e w1 ⟨A6,c6,rfl,oF,hb1⟩;have oi1:=oi.below hb1;have tk1:=tk2.below hb1;have oLL1:=(oLL.alloc (.cells #[] 3)).below hb1;have own1:=(hown.alloc (.cells #[] 3)).kept (II hb1) (by simp);have B1:=(hbel.al (.cells #[] 3)).tr hb1;have hfl:=uO l;obtain⟨F,hF⟩:=Oy (dQ l);rw[<-hF]at oF hfl⊢;have HF2:=OA hF;clear hF oi tk2 oLL hown hbel hb1 tk c1;have hn0:Hid (lZ T k 0=[]):=OA rfl;go_wp2;go_loopw [9,11,12,13,38] (fun s9 s11 s12 s13 s38 wr=>∃(t:Nat) (D:Option Addr) (d:Nat) (z11 z12 z13:Value),s11=z11/\s12=z12/\s13=z13/\t<=F.length/\s38= .int .i64 t/\s9= .slice D t d/\aC 3 1 aY (gM+1) wr (.slice D t d) (lZ T k t)/\Below w1.heap.size w1 wr) (fun _ _ _ _ i _=>F.length-(intOf i).toNat)
       case atStart=>exact⟨0,_,_,_,_,_,rfl,rfl,rfl,zero_le _,rfl,rfl,oi1,Below.refl _ _⟩
       case round=>
        clear oi1;obtain⟨t,D2,d2,z11,z12,z13,rfl,rfl,rfl,ht,rfl,rfl,hown,hbel⟩:=hrel;by_cases hlt2:t<F.length
        . have oF2:=oF.below hbel;obtain⟨b,off,rfl,hb,q0,q1⟩:=(oF2.rd dS (by decide)).eZ hlt2;obtain⟨xy,hxy⟩:=Oy (F[t]);have hmem:xy∈dQ l:=by rw[hxy,<-HF2.out];exact getElem_mem hlt2
          rw[<-hxy]at q0 q1;obtain⟨x,y⟩:=xy;simp only at q0 q1;have hkd:¬kindOf l (x,y)=0:=kL.1 hmem;have hnT:=(HF.out.cl _ (getElem_mem HLt.out) (x,y) (by rw[<-iE HLt.out,HTL.out];exact hkd)).1;rw[<-iE HLt.out,HTL.out]at hnT;have hno:=HK.out _ hnT;have hlk:=fun z=>Nc HF.out (fun t ht=>(HK.out t ht).1) HLt.out (c:=(x,y)) (by rw[HTL.out];exact hmem) z
          rw[HTL.out]at hlk;have hkey:keyOf prog 9 (.string (GG (aS l (x,y))))=some (Fg (aS l (x,y))):=keyOf_string_mk underlying9 (JM hno.1 hno.2)
          have hnx:lZ T k (t+1)=rW (sF T k (x,y)) (lZ T k t):=by
           have hlt3:t<(dQ (til T k)).length:=by rw[HTL.out,<-HF2.out];exact hlt2
           rw[zU hlt3];congr 1
           congr 1
           rw[hxy];congr 1
           . rw[HF2.out,HTL.out]
          have hnl:(lZ T k t).length=t:=BI t (by rw[HTL.out,<-HF2.out];omega);have HNX:=OA hnx;have HNL:=OA hnl;have HKey:=OA hkey;have HLK:=OA hlk;have HNO:=OA hno;have HKD:=OA hkd;clear hnx hnl hkey hlk hno hkd hmem hxy hnT oF2;have hti:(t:Int)<(F.length:Int):=(by omega);have B2:=hbel.al (.cells #[.int .i64 x,.int .i64 y] 70);have b2:=Blk.bK wr 70 #[.int .i64 x,.int .i64 y];have own2:=hown.alloc (.cells #[.int .i64 x,.int .i64 y] 70);have tk2:=tk1.below B2;go_wp2_with fail
          refine(sU _ l x y _ (tk2.rd aB (by decide)) hsl HKD.out).mono ?_;rintro e w2 ⟨A7,c7,rfl,oN,hb2⟩;have B3:=B2.tr hb2;have own3:=own2.below hb2;have oM3:=own1.kept (II B3) (by simp);obtain⟨N,hN⟩:=Oy (aS l (x,y));rw[<-hN]at oN HKey HLK HNO⊢;have HN2:=OA hN;clear hN;go_wp2_with fail
          refine(wL _ N _ (oN.rd aB (by decide)) HNO.out.1 HNO.out.2 (HT.out.below (B1.tr B3))).mono ?_;rintro e w3 ⟨rfl,hb3⟩;have B4:=B3.tr hb3;have own4:=own3.below hb3;have oM4:=own1.kept (II B4) (by simp);go_wp2_with (at_lookup;go_must (refine wpList_lookup_own_int _ rfl _ _ 181 rfl 9 3 .i64 Ot Tryz.underlying181 Tryz.underlying3 (Nb _) w.heap.size T.length _ rfl (by rw[<-HGM.out];exact oM4) _ _ rfl HKey.out ?_);intro cc hat hwc)
          have hcc:cc=sF T k (x,y):=by
           rw[HLK.out]at hat;injection hat with hat;injection hat with _ hat;exact hat.symm
          subst hcc;refine(LC _ (lZ T k t) _ _ (own4.rd aL (by decide)) (by rw[HNL.out];omega)).mono ?_;rintro e w5 ⟨A8,c8,rfl,oP,hb5⟩;have B5:=B4.tr hb5;have hpl:(rW (sF T k (x,y)) (lZ T k t)).length=t+1:=(by rw[Cz,HNL.out]);rw[hpl]at oP⊢;rw[<-HNX.out]at oP;have hgs:gM+1<=w3.heap.size:=by have:=oM4.lt;omega
          go_wp2;go_roundw
          case rel=>exact⟨t+1,A8,c8,_,_,_,rfl,rfl,rfl,by omega,by go_num,rfl,oP.mono hgs,B5⟩
          case measure=>simp[intOf];omega
        . obtain rfl : t = F.length := by omega
          have hnl:lZ T k F.length=FB T k:=by unfold FB;rw[HTL.out,<-HF2.out]
          rw[hnl]at hown;obtain⟨us,h1,h2,h3⟩:=oLL1.below hbel;have huk:us.length=k:=by rw[h2];exact nU T k
          have oM2:=own1.kept (II hbel) (by simp);have B2:=B1.tr hbel;have H8:Hid ((us.length+1)*24<=140737488355328):=OA (by rw[huk];omega);have HM:Hid (us.length+1<=maxLen):=OA (by rw[huk];unfold maxLen;omega);have hsz:gM+1<=wr.heap.size:=by have:=oM2.lt;omega
          have hrow:∀j,(Value.slice D k d).ownBlock=some j->gM+1<=j:=fun j hj=>(World.ownsRow.lt h1 j hj).1
          have HUK:=OA huk;have HNL:=OA (FR T k);have HRow:=OA hrow;clear huk hnl hrow oLL1 own1 B1;go_wp2_with (at_builtin;go_must (refine mJ (enc:=eV) JL zG wr hsz h1 (.slice D2 F.length d2) (by simp[eV,Value.oneCell']) rfl H8.out HM.out rfl _ _ rfl rfl rfl ?_);intro A5 c5 w5 o5 g5 hd5)
          have oN5:=dF.snoc (by decide) h1 h2 h3 hown o5 g5;rw[HNL.out,HUK.out]at oN5;have oM5:=oM2.kept g5 (fun e=>by have:=HRow.out gM e.symm;omega);have B5:=B2.grown g5 B2.size (fun j hj=>by have:=HRow.out j hj;rw[HGM.out]at this;omega);go_roundw
          case rel=>exact⟨k+1,A5,c5,_,_,_,_,_,rfl,rfl,rfl,rfl,rfl,by omega,by go_num,by rw[nU],oN5,oM5,B5⟩
          case measure=>simp[intOf];omega
     . obtain rfl : k = T.length := by omega
       go_wp2;go_ret;exact⟨_,_,rfl,oLL.mono (by omega),by rw[HGM.out];exact hbel⟩
end Go.Proofs.YtljfoohaapckeaaGreatDoor
