/- Repairs, of both sides: the walks. No conditions but sizes. -/
import Derived.Test.YtljfoohaapckeaaGreatDoorDG25
import Derived.Test.YtljfoohaapckeaaGreatDoorDWayS
import Derived.Lib.SliceRun
open _root_.Go.Proofs.Tryz (prog)
namespace Go.Proofs.YtljfoohaapckeaaGreatDoor
open Go.ChangeShapes Go.WideShapes Go.ChangeAt Go.RowKit
set_option linter.unusedVariables false
set_option linter.unusedSimpArgs false
set_option maxHeartbeats 4000000
set_option maxRecDepth 100000
theorem CE (u v:Value) (a b:List Dm) (w:World) (h:Rd 3 aU w u a) (h':Rd 3 aU w v b) (hl:a.length<=1000):Calls prog 136 #[u,v] w (Ret (.int .i64 (chg a b:Nat)) w):=by
 obtain⟨A,c,rfl,hc,hm⟩:=h.form;go_enter Tryz.func136,Tryz.ntmps136
 go_wp2;go_loopw [5,10] (fun s5 s10 wr=>∃(k:Nat),k<=a.length/\s10= .int .i64 k/\s5= .int .i64 (sD a b k:Nat)/\Below w.heap.size w wr) (fun _ i _=>a.length-(intOf i).toNat)
 case atStart=>exact⟨0,Nat.zero_le _,rfl,rfl,Below.refl _ _⟩
 case round=>
  obtain⟨k,hk,rfl,rfl,hbel⟩:=hrel;by_cases hlt:k<a.length
  . obtain⟨bb,off,rfl,hb,q0,q1,q2⟩:=(h.Oz hbel).jJ hlt;have hki:(k:Int)<(a.length:Int):=(by omega);have hst:=BG (b:=b) hlt;have hle:=Gy a b k;obtain⟨x,hx⟩:=Oy (a[k]);rw[<-hx]at q0 q1 q2 hst;obtain⟨x,y,s⟩:=x;simp only at q0 q1 q2;obtain⟨n,hn⟩:=Oy (sD a b k);rw[<-hn]at hst hle⊢;obtain⟨bo,hbo⟩:=Oy (b.contains (x,y,s));have cH:∀W:World,Rd 3 aU W v b->Calls prog 149 #[v,.agg #[.int .i64 x,.int .i64 y,.bool s]] W (Ret (.bool bo) W):=fun W hW=>by rw[hbo];exact fZ v b x y s W hW
    rw[<-hbo]at hst;have HC:=OA cH;have HST:=OA hst;clear hx hn hbo cH hst;have B1:=hbel.al (.cells #[.int .i64 x,.int .i64 y,.bool s] 60);go_wp2_with fail
    refine(HC.out _ (h'.Oz B1)).mono ?_;rintro e w2 ⟨rfl,hb2⟩;have B2:=B1.tr hb2;have hn2:(n:Int)<=1000:=(by omega);cases bo
    . go_wp2;go_roundw
      case rel=>exact⟨k+1,by omega,by go_num,by rw[HST.out];go_num,B2⟩
      case measure=>simp[intOf];omega
    . go_wp2;go_roundw
      case rel=>exact⟨k+1,by omega,by go_num,by rw[HST.out];rfl,B2⟩
      case measure=>simp[intOf];omega
  . obtain rfl : k = a.length := by omega
    rw[Ep];go_wp2;go_ret;exact⟨rfl,hbel⟩
theorem qL (u v:Value) (a b:List Dm) (w:World) (h:Rd 3 aU w u a) (h':Rd 3 aU w v b) (hl:a.length<=1000):Calls prog 32 #[u,v] w (Ret (.int .i64 (chg a b:Nat)) w):=by
 obtain⟨A,c,rfl,hc,hm⟩:=h.form;go_enter Tryz.func32,Tryz.ntmps32
 go_wp2;go_loopw [5,6] (fun s5 s6 wr=>∃(k:Nat),k<=a.length/\s6= .int .i64 k/\s5= .int .i64 (sD a b k:Nat)/\Below w.heap.size w wr) (fun _ i _=>a.length-(intOf i).toNat)
 case atStart=>exact⟨0,Nat.zero_le _,rfl,rfl,Below.refl _ _⟩
 case round=>
  obtain⟨k,hk,rfl,rfl,hbel⟩:=hrel;by_cases hlt:k<a.length
  . obtain⟨bb,off,rfl,hb,q0,q1,q2⟩:=(h.Oz hbel).jJ hlt;have hki:(k:Int)<(a.length:Int):=(by omega);have hst:=BG (b:=b) hlt;have hle:=Gy a b k;obtain⟨x,hx⟩:=Oy (a[k]);rw[<-hx]at q0 q1 q2 hst;obtain⟨x,y,s⟩:=x;simp only at q0 q1 q2;obtain⟨n,hn⟩:=Oy (sD a b k);rw[<-hn]at hst hle⊢;have HST:=OA hst;clear hx hn hst;have hn2:(n:Int)<=1000:=(by omega);rcases hbo:b.contains (x,y,s)with _|_
    . go_wp2_with fail
      refine(vC v b x y s _ (h'.Oz hbel) hbo).mono ?_;rintro e w2 ⟨rfl,hb2⟩;have B2:=hbel.tr hb2;have HS2:Hid (sD a b (k+1)=n+1):=OA (by rw[HST.out,hbo];rfl);clear hbo;go_wp2;go_roundw
      case rel=>exact⟨k+1,by omega,by go_num,by rw[HS2.out];go_num,B2⟩
      case measure=>simp[intOf];omega
    . obtain⟨r,hr0,hcr⟩:=nY v b x y s wr (h'.Oz hbel) hbo;have HS2:Hid (sD a b (k+1)=n):=OA (by rw[HST.out,hbo];rfl);clear hbo;go_wp2_with fail
      refine hcr.mono ?_;rintro e w2 ⟨rfl,hb2⟩;have B2:=hbel.tr hb2;go_wp2;go_roundw
      case rel=>exact⟨k+1,by omega,by go_num,by rw[HS2.out],B2⟩
      case measure=>simp[intOf];omega
  . obtain rfl : k = a.length := by omega
    rw[Ep];go_wp2;go_ret;exact⟨rfl,hbel⟩
def IL (T:List (List Dm)) (B:Nat) (w:World) (v:Value) (o:Option (List Dm)):Prop:=(o=none/\v= .slice none 0 0)∨∃m g d,o=some m/\m∈T/\v= .slice (some ⟨g,0,none⟩) m.length d/\aC 60 3 aT B w (.slice (some ⟨g,0,none⟩) m.length d) m
theorem IL.below {T:List (List Dm)} {B:Nat} {w w':World} {v:Value} {o:Option (List Dm)} (h:IL T B w v o) (hb:Below w.heap.size w w'):IL T B w' v o:=by
 rcases h with h|⟨m,g,d,h1,h2,h3,h4⟩
 . exact .inl h
 . exact .inr ⟨m,g,d,h1,h2,h3,h4.below hb⟩
theorem Ex {l t:List Dm} {d:Dm} {o:Option (List Dm)} (h:t.contains d=true):iH l d o t=o:=by unfold iH;rw[if_pos h]
theorem zZ {l t:List Dm} {d:Dm} (h:t.contains d=false):iH l d none t=some t:=by unfold iH;rw[if_neg (by rw[h];decide)]
theorem Ey {l t m:List Dm} {d:Dm} (h:t.contains d=false) (hl:chg l t<chg l m):iH l d (some m) t=some t:=by unfold iH;rw[if_neg (by rw[h];decide)];simp only;rw[if_pos hl]
theorem Ez {l t m:List Dm} {d:Dm} (h:t.contains d=false) (hl:¬chg l t<chg l m):iH l d (some m) t=some m:=by unfold iH;rw[if_neg (by rw[h];decide)];simp only;rw[if_neg hl]
theorem FX {B:Nat} (u v:Value) (T:List (List Dm)) (l:List Dm) (x y:Int) (s:Bool) (w:World) (h:dF 27 60 3 aT B w u T) (h':Rd 3 aU w v l) (hl:l.length<=1000) (hT:T.length<=300) (hne:∀t∈T,t≠[]):
 Calls prog 132 #[u,v,.agg #[.int .i64 x,.int .i64 y,.bool s]] w (fun e w'=>∃bv,e= .returned bv/\IL T B w' bv (fH T l (x,y,s))/\Below w.heap.size w w'):=by
 obtain⟨A,c,rfl,hc,hm⟩:=h.form;obtain⟨Al,cl,rfl,_,_⟩:=h'.form;have B0:=(Below.refl w.heap.size w).al (.cells #[.int .i64 x,.int .i64 y,.bool s] 60);have bX:=Blk.bK w 60 #[.int .i64 x,.int .i64 y,.bool s];obtain⟨W,hW⟩:=Oy (w.alloc (.cells #[.int .i64 x,.int .i64 y,.bool s] 60));rw[<-hW]at B0 bX;have HW:=OA hW;have HNE:=OA hne;clear hne hc hm;have hnil:=fun(w:World) (a:Option Addr) (n c:Nat)=>Lib.run_eql_slice_nil (P:=prog) w 27 60 a n c 0 0 Tryz.underlying27
 go_enter Tryz.func132,Tryz.ntmps132
 go_wp2;rw[<-hW];clear hW;go_loopw [7,12] (fun s7 s12 wr=>∃(k:Nat),k<=T.length/\s12= .int .i64 k/\IL T B wr s7 (kH T l (x,y,s) k)/\Below W.heap.size W wr) (fun _ i _=>T.length-(intOf i).toNat)
 case atStart=>exact⟨0,Nat.zero_le _,rfl,.inl ⟨rfl,rfl⟩,Below.refl _ _⟩
 case round=>
  obtain⟨k,hk,rfl,hbv,hbel⟩:=hrel;have B1:=B0.tr hbel;have bX1:=bX.bl hbel;by_cases hlt:k<T.length
  . obtain⟨g,D,d,rfl,hg1,hg2,c1,tk⟩:=(h.below B1).pick hlt;have hki:(k:Int)<(T.length:Int):=(by omega);have hst:=zQ (list:=l) (d:=(x,y,s)) hlt;have htT:T[k]∈T:=List.getElem_mem hlt;obtain⟨t,ht⟩:=Oy (T[k]);rw[<-ht]at c1 tk hst htT;have HST:=OA hst;have HtT:=OA htT
    obtain⟨_,gt,hD,_⟩:∃z g',D=some ⟨g',0,none⟩/\z=0:=by
     obtain⟨g',e,_,_⟩:=tk.split (k:=0) (List.length_pos_iff.2 (HNE.out t htT));exact⟨0,g',e,rfl⟩
    subst hD;clear ht hst htT;obtain⟨q_0,q_1,q_2⟩:=bX1.n3;rcases hct:t.contains (x,y,s)with _|_
    . have cH : ∀ W : World, Rd 3 aU W (.slice (some ⟨gt, 0, none⟩) t.length d) t -> Calls prog 149 #[.slice (some ⟨gt, 0, none⟩) t.length d, .agg #[.int .i64 x, .int .i64 y, .bool s]] W (Ret (.bool false) W) := fun W hW => by rw [<- hct]; exact fZ _ t x y s W hW
      have HC:=OA cH;clear cH;rcases hbv with⟨hb0,rfl⟩|⟨m,gm,dm,hb0,hmT,rfl,om⟩
      . have HN : Hid (kH T l (x, y, s) (k + 1) = some t) := OA (by rw [HST.out, hb0]; exact zZ hct);clear hb0 hct;go_wp2_with fail
        refine(HC.out _ (tk.rd aB (by decide))).mono ?_;rintro e w2 ⟨rfl,hb2⟩;go_wp2;go_roundw
        case rel=>exact⟨k+1,by omega,by go_num,.inr ⟨t,gt,d,HN.out,HtT.out,rfl,tk.below hb2⟩,hbel.tr hb2⟩
        case measure=>simp[intOf];omega
      . have h1l : (chg l t : Int) <= 1000 := by have := I7 l t; omega
        go_wp2_with fail
        refine(HC.out _ (tk.rd aB (by decide))).mono ?_;rintro e w2 ⟨rfl,hb2⟩;have B2:=B1.tr hb2;go_wp2_with fail
        refine(CE _ _ l t _ (h'.Oz B2) ((tk.below hb2).rd aB (by decide)) hl).mono ?_;rintro e w3 ⟨rfl,hb3⟩;have B3:=B2.tr hb3;go_wp2_with fail
        refine(CE _ _ l m _ (h'.Oz B3) (((om.below hb2).below hb3).rd aB (by decide)) hl).mono ?_;rintro e w4 ⟨rfl,hb4⟩;have b4:=(hbel.tr hb2).tr hb3|>.tr hb4;by_cases hlt2:chg l t<chg l m
        . have hi2 : (chg l t : Int) < (chg l m : Int) := by omega
          have HN:Hid (kH T l (x,y,s) (k+1)=some t):=OA (by rw[HST.out,hb0];exact Ey hct hlt2);clear hb0 hct;go_wp2;go_roundw
          case rel=>exact⟨k+1,by omega,by go_num,.inr ⟨t,gt,d,HN.out,HtT.out,rfl,((tk.below hb2).below hb3).below hb4⟩,b4⟩
          case measure=>simp[intOf];omega
        . have hi2 : ¬ ((chg l t : Int) < (chg l m : Int)) := by omega
          have HN:Hid (kH T l (x,y,s) (k+1)=some m):=OA (by rw[HST.out,hb0];exact Ez hct hlt2);clear hb0 hct;go_wp2;go_roundw
          case rel=>exact⟨k+1,by omega,by go_num,.inr ⟨m,gm,dm,HN.out,hmT,rfl,((om.below hb2).below hb3).below hb4⟩,b4⟩
          case measure=>simp[intOf];omega
    . have cH : ∀ W : World, Rd 3 aU W (.slice (some ⟨gt, 0, none⟩) t.length d) t -> Calls prog 149 #[.slice (some ⟨gt, 0, none⟩) t.length d, .agg #[.int .i64 x, .int .i64 y, .bool s]] W (Ret (.bool true) W) := fun W hW => by rw [<- hct]; exact fZ _ t x y s W hW
      have HC:=OA cH;clear cH;have HN:Hid (kH T l (x,y,s) (k+1)=kH T l (x,y,s) k):=OA (by rw[HST.out];exact Ex hct);clear hct;go_wp2_with fail
      refine(HC.out _ (tk.rd aB (by decide))).mono ?_;rintro e w2 ⟨rfl,hb2⟩;go_wp2;go_roundw
      case rel=>exact⟨k+1,by omega,by go_num,by rw[HN.out];exact hbv.below hb2,hbel.tr hb2⟩
      case measure=>simp[intOf];omega
  . obtain rfl : k = T.length := by omega
    rw[BH]at hbv;go_wp2;go_ret;exact⟨_,rfl,hbv,B1⟩
def Nz (T:List (List Dm)) (o:Option (List Dm)) (q:Int):Prop:=(o=none/\q= -1)∨∃(j:Nat) (h:j<T.length),o=some T[j]/\q=(j:Int)
theorem Kz {B:Nat} (u v:Value) (T:List (List Dm)) (l:List Dm) (x y:Int) (s:Bool) (w:World) (h:dF 27 60 3 aT B w u T) (h':Rd 3 aU w v l) (hl:l.length<=1000) (hT:T.length<=300):
 Calls prog 199 #[u,v,.agg #[.int .i64 x,.int .i64 y,.bool s]] w (fun e w'=>∃q,e= .returned (.int .i64 q)/\Nz T (fH T l (x,y,s)) q/\Below w.heap.size w w'):=by
 obtain⟨A,c,rfl,hc,hm⟩:=h.form;obtain⟨Al,cl,rfl,_,_⟩:=h'.form;have B0:=(Below.refl w.heap.size w).al (.cells #[.int .i64 x,.int .i64 y,.bool s] 60);have bX:=Blk.bK w 60 #[.int .i64 x,.int .i64 y,.bool s];obtain⟨W,hW⟩:=Oy (w.alloc (.cells #[.int .i64 x,.int .i64 y,.bool s] 60));rw[<-hW]at B0 bX;have HW:=OA hW;clear hc hm;go_enter Tryz.func199,Tryz.ntmps199
 go_wp2;rw[<-hW];clear hW;go_loopw [7,8,9] (fun s7 s8 s9 wr=>∃(k:Nat) (q n:Int),k<=T.length/\s9= .int .i64 k/\s7= .int .i64 q/\s8= .int .i64 n/\Nz T (kH T l (x,y,s) k) q/\(∀m,kH T l (x,y,s) k=some m->n=(chg l m:Nat))/\Below W.heap.size W wr) (fun _ _ i _=>T.length-(intOf i).toNat)
 case atStart=>exact⟨0,-1,0,Nat.zero_le _,rfl,rfl,rfl,.inl ⟨rfl,rfl⟩,(fun m h=>by cases h),Below.refl _ _⟩
 case round=>
  obtain⟨k,q,n,hk,rfl,rfl,rfl,hbq,hbn,hbel⟩:=hrel;have B1:=B0.tr hbel;have bX1:=bX.bl hbel;by_cases hlt:k<T.length
  . obtain⟨g,D,d,rfl,hg1,hg2,c1,oT⟩:=(h.below B1).pick hlt;have hki:(k:Int)<(T.length:Int):=(by omega);have hst:=zQ (list:=l) (d:=(x,y,s)) hlt;obtain⟨t,ht⟩:=Oy (T[k]);rw[<-ht]at c1 oT hst;have HST:=OA hst;have HT:=OA ht;clear ht hst;have h1l:(chg l t:Int)<=1000:=by have:=I7 l t;omega
    obtain⟨q_0,q_1,q_2⟩:=bX1.n3;have hwX:w.heap.size<wr.heap.size:=by have:=bX1.lt;omega
    rcases hct:t.contains (x,y,s)with _|_
    . have Hct:=OA hct;clear hct;have Bw:Below wr.heap.size wr wr.drew:=(Below.refl _ _).drew;have hz:wr.heap.size<=wr.drew.heap.size:=(by simp);go_wp2_with fail
      refine rB (fun w'=>w'.cell? ⟨g,k,none⟩=some (.slice D t.length d)/\w'.cell? ⟨w.heap.size,0,none⟩=some (.int .i64 x)/\w'.cell? ⟨w.heap.size,1,none⟩=some (.int .i64 y)/\w'.cell? ⟨w.heap.size,2,none⟩=some (.bool s)) fun hHeld=>(tW 0)<|(tW 1)<|(tW 2)<|(tW 3)<|(tW 4)<|(tR [5])<|tL fun K hK=>?_
      go_simp
      (go_at_call 81;go_must (refine(vC _ t x y s _ ((oT.below Bw).rd aB (by decide)) Hct.out).mono ?_;rintro e wX ⟨rfl,hbX⟩;obtain⟨hcX,hfX,hzX⟩:=bkn hbX wr.heap.size hz;have hz:=hzX;have Bw:=Bw.tr hbX);(try go_wp2_with fail))
      refine tK hK fun hHeld=>?_
      clear hK K;refine(tW 6)<|tD ?_
      all_goals
        have B2:=B1.tr Bw;have c2:=(Bw.cell (p:=⟨g,k,none⟩) hg2).trans c1;go_wp2_with fail
        refine(qL _ _ l t _ (h'.Oz B2) ((oT.below Bw).rd aB (by decide)) hl).mono ?_;rintro e w3 ⟨rfl,hb3⟩;have Bk:=(hbel.tr Bw).tr hb3;rcases hbq with⟨hb0,rfl⟩|⟨j,hj,hb0,rfl⟩
        . have HN : Hid (kH T l (x, y, s) (k + 1) = some T[k]) := OA (by rw [HST.out, hb0, <- HT.out]; exact zZ Hct.out);clear hb0 hbn;go_wp2;go_roundw
          case rel=>exact⟨k+1,k,_,by omega,by go_num,rfl,rfl,.inr ⟨k,hlt,HN.out,rfl⟩,fun m hm=>by rw[HN.out,<-HT.out]at hm;injection hm with hm;rw[hm],Bk⟩
          case measure=>simp[intOf];omega
        . have hj2 : (j : Int) <= 300 := by omega
          obtain⟨m,hm⟩:=Oy (T[j]);rw[<-hm]at hb0;have hn:=hbn m hb0;have h2l:n<=1000/\0<=n:=by have:=I7 l m;omega
          by_cases hlt2:chg l t<chg l m
          . have hi2 : (chg l t : Int) < n := by omega
            have HN:Hid (kH T l (x,y,s) (k+1)=some T[k]):=OA (by rw[HST.out,hb0,<-HT.out];exact Ey Hct.out hlt2);clear hb0 hbn hn hm;go_wp2;go_roundw
            case rel=>exact⟨k+1,k,_,by omega,by go_num,rfl,rfl,.inr ⟨k,hlt,HN.out,rfl⟩,fun m hm=>by rw[HN.out,<-HT.out]at hm;injection hm with hm;rw[hm],Bk⟩
            case measure=>simp[intOf];omega
          . have hi2 : ¬ ((chg l t : Int) < n) := by omega
            have HN:Hid (kH T l (x,y,s) (k+1)=some m):=OA (by rw[HST.out,hb0];exact Ez Hct.out hlt2);have HM:=OA hm;have Hn:=OA hn;clear hb0 hbn hn hm;go_wp2;go_roundw
            case rel=>exact⟨k+1,j,n,by omega,by go_num,rfl,rfl,.inr ⟨j,hj,by rw[HN.out,HM.out],rfl⟩,fun m' hm'=>by rw[HN.out]at hm';injection hm' with hm';rw[<-hm'];exact Hn.out,Bk⟩
            case measure=>simp[intOf];omega
    . have HN : Hid (kH T l (x, y, s) (k + 1) = kH T l (x, y, s) k) := OA (by rw [HST.out]; exact Ex hct);obtain⟨r,hr0,-⟩:=nY _ t x y s _ (oT.rd aB (by decide)) hct;have Hr:Hid (∀W:World,Rd 3 aU W (.slice D t.length d) t->Calls prog 81 #[.slice D t.length d,.agg #[.int .i64 x,.int .i64 y,.bool s]] W (fun e w'=>∃r:Int,0<=r/\e= .returned (.int .i64 r)/\Below W.heap.size W w')):=OA (fun W hW=>by obtain⟨r,h0,hc⟩:=nY _ t x y s W hW hct;exact hc.mono (fun e w' hh=>⟨r,h0,hh⟩));clear hct hr0;have Bw:Below wr.heap.size wr wr.drew:=(Below.refl _ _).drew;have hz:wr.heap.size<=wr.drew.heap.size:=(by simp);go_wp2_with fail
      refine rB (fun w'=>w'.cell? ⟨g,k,none⟩=some (.slice D t.length d)/\w'.cell? ⟨w.heap.size,0,none⟩=some (.int .i64 x)/\w'.cell? ⟨w.heap.size,1,none⟩=some (.int .i64 y)/\w'.cell? ⟨w.heap.size,2,none⟩=some (.bool s)) fun hHeld=>(tW 0)<|(tW 1)<|(tW 2)<|(tW 3)<|(tW 4)<|(tR [5])<|tL fun K hK=>?_
      go_simp
      (go_at_call 81;go_must (refine(Hr.out _ ((oT.below Bw).rd aB (by decide))).mono ?_;rintro e wX ⟨r,hr0,rfl,hbX⟩;obtain⟨hcX,hfX,hzX⟩:=bkn hbX wr.heap.size hz;have hz:=hzX;have Bw:=Bw.tr hbX);(try go_wp2_with fail))
      refine tK hK fun hHeld=>?_
      clear hK K;refine(tW 6)<|tD ?_
      all_goals
        have Bk:=hbel.tr Bw;go_wp2;go_roundw
        case rel=>exact⟨k+1,q,n,by omega,by go_num,rfl,rfl,by rw[HN.out];exact hbq,by rw[HN.out];exact hbn,Bk⟩
        case measure=>simp[intOf];omega
  . obtain rfl : k = T.length := by omega
    rw[BH]at hbq;go_wp2;go_ret;exact⟨_,rfl,hbq,B1⟩
end Go.Proofs.YtljfoohaapckeaaGreatDoor
