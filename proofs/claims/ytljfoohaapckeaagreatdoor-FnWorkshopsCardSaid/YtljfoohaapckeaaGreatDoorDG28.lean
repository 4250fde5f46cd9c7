/- IndexOf and the links of the tilings, of the reference: the walks. No conditions. The program's counts, its forced dominoes and the region without them: the walks. Conditions: sizes. The first tiling, by the program: the walk. No conditions. -/
import Derived.Test.YtljfoohaapckeaaGreatDoorDG26
import Derived.Test.YtljfoohaapckeaaGreatDoorDG27
import Derived.Test.YtljfoohaapckeaaGreatDoorDListS
import Derived.Test.YtljfoohaapckeaaGreatDoorDK10
import Derived.Test.YtljfoohaapckeaaGreatDoorDK9
import Derived.Test.YtljfoohaapckeaaGreatDoorDK5
import Derived.Test.YtljfoohaapckeaaGreatDoorDK3
import Derived.Test.YtljfoohaapckeaaGreatDoorDG6
open _root_.Go.Proofs.Tryz (prog func183 ntmps183)
namespace Go.Proofs.YtljfoohaapckeaaGreatDoor
open Go.ChangeShapes Go.WideShapes Go.ChangeAt Go.RowKit
set_option linter.unusedVariables false
set_option linter.unusedSimpArgs false
set_option maxHeartbeats 4000000
set_option maxRecDepth 100000
theorem BL (v u:Value) (rows:List Int) (m:List Dm) (w:World) (h:Rd 1 bH w v rows) (h':Rd 3 aU w u m):Calls prog 197 #[.agg #[v],u] w (Ret (.int .i64 (lY (aF rows) m)) w):=by
 have B0:=(Below.refl w.heap.size w).al (.cells #[v] 26);obtain⟨T,hT⟩:=Oy (aF rows);have cL:∀(W:World),Rd 1 bH W v rows->Calls prog 198 #[.agg #[v]] W (Bo T W):=fun W hW=>by rw[hT];exact rA v rows W hW
 rw[<-hT];have HCL:=OA cL;clear hT cL;go_enter Tryz.func197,Tryz.ntmps197
 go_wp2_with fail
 refine(HCL.out _ (h.Oz B0)).mono ?_;rintro e w1 ⟨A,c,rfl,oT,hb1⟩;have B1:=B0.tr hb1
 have hTm:T.length<=9223372036854775807:=by
  obtain⟨_,_,e,h1,h2⟩:=oT.form;unfold maxLen at h2;omega
 clear hb1 B0;go_wp2;go_loopw [6] (fun s6 wr=>∃(k:Nat),k<=T.length/\s6= .int .i64 k/\Hid (∀j (hj:j<k) (h:j<T.length),T[j]≠m)/\Below w1.heap.size w1 wr) (fun i _=>T.length-(intOf i).toNat)
 case atStart=>exact⟨0,Nat.zero_le _,rfl,OA (fun j hj=>by omega),Below.refl _ _⟩
 case round=>
  obtain⟨k,hk,rfl,Hg,hbel⟩:=hrel;by_cases hlt:k<T.length
  . obtain⟨g,D,d,rfl,hg1,hg2,c1,ownk⟩:=(oT.below hbel).pick hlt;have hki:(k:Int)<(T.length:Int):=(by omega);obtain⟨t,ht⟩:=Oy (T[k]);rw[<-ht]at c1 ownk;have HT:=OA ht;clear ht;have B2:=B1.tr hbel;go_wp2_with fail
    refine(nG _ _ t m _ (ownk.rd aB (by decide)) (h'.Oz B2)).mono ?_;rintro e w2 ⟨rfl,hb2⟩;by_cases he:t=m
    . rw[decide_eq_true he];have HI:Hid (lY T m=(k:Int)):=OA (index_hit hlt (fun j hj=>Hg.out j hj (by omega)) (by rw[<-HT.out];exact he));clear he;go_wp2;go_ret;exact⟨by rw[HI.out];rfl,B2.tr hb2⟩
    . rw[decide_eq_false he]
      have HN : Hid (∀ j (hj : j < k + 1) (h : j < T.length), T[j] ≠ m) := OA (fun j hj h q => by
       rcases(by omega:j<k∨j=k)with h1|h1
       . exact Hg.out j h1 h q
       . subst h1;rw[<-HT.out]at q;exact he q)
      clear he;go_wp2;go_roundw
      case rel=>exact⟨k+1,by omega,by go_num,HN,hbel.tr hb2⟩
      case measure=>simp[intOf];omega
  . obtain rfl : k = T.length := by omega
    have HI:Hid (lY T m= -1):=OA (BC (fun j hj=>Hg.out j hj hj));go_wp2;go_ret;exact⟨by rw[HI.out];rfl,B1.tr hbel⟩
def seen (p j:Nat):List Int:=if p<j then[(p:Int)]else[]
theorem LD {p:Nat}:seen p p++[(p:Int)]=seen p (p+1):=by unfold seen;rw[if_neg (by omega),if_pos (by omega)];rfl
theorem Nf {p j:Nat} (h:p≠j):seen p (j+1)=seen p j:=by
 unfold seen;by_cases q:p<j
 . rw[if_pos (by omega),if_pos q]
 . rw[if_neg (by omega),if_neg q]
theorem GN (p j:Nat):(seen p j).length<=1:=by unfold seen;split<;>simp
def lnk (l:List Int) (p j:Nat):List Int:=l++seen p j
theorem GQ (l:List Int) (p:Nat):lnk l p 0=l:=by unfold lnk seen;rw[if_neg (by omega),List.append_nil]
theorem Ng (l:List Int) (p:Nat):lnk l p p++[(p:Int)]=lnk l p (p+1):=by unfold lnk;rw[List.append_assoc,LD]
theorem NZ (l:List Int) {p j:Nat} (h:p≠j):lnk l p (j+1)=lnk l p j:=by unfold lnk;rw[Nf h]
theorem Nh (l:List Int) (p j:Nat):(lnk l p j).length<=l.length+1:=by unfold lnk;rw[List.length_append];have:=GN p j;omega
theorem Ni (l:List Int) {p n:Nat} (h:p<n):lnk l p n=l++[(p:Int)]:=by unfold lnk seen;rw[if_pos h]
theorem IJ {B:Nat} (v:Value) (T:List (List Dm)) (w:World) (h:dF 27 60 3 aT B w v T) (hT:mX T) (hok:∀t∈T,t.length<=64):
 Calls prog 200 #[v] w (fun e w'=>∃A c,e= .returned (.slice A T.length c)/\dF 24 3 1 aY w.heap.size w' (.slice A T.length c) (kY T T.length)/\Below w.heap.size w w'):=by
 obtain⟨A,c,rfl,hc,hm⟩:=h.form;have hsm:=hT.sm;have HF:=OA hT;have HK:=OA hok;have oo:=iK w (E:=24) (size:=1) (enc:=eV) w.heap.size rfl w.heap.size (Nat.le_refl _);have oLL:dF 24 3 1 aY w.heap.size (w.alloc (.cells #[] 24)) (.slice (some ⟨w.heap.size,0,none⟩) 0 0) (kY T 0):=⟨[],oo,rfl,fun k u x hu=>by simp at hu⟩;clear hT hok hc hm oo;go_enter Tryz.func200,Tryz.ntmps200
 go_wp2;go_loopw [3,4] (fun s3 s4 wr=>∃(k:Nat) (D:Option Addr) (d:Nat),k<=T.length/\s4= .int .i64 k/\s3= .slice D k d/\dF 24 3 1 aY w.heap.size wr (.slice D k d) (kY T k)/\Below w.heap.size w wr) (fun _ i _=>T.length-(intOf i).toNat)
 case atStart=>exact⟨0,_,_,Nat.zero_le _,rfl,rfl,oLL,(Below.refl _ _).al _⟩
 case round=>
  clear oLL;obtain⟨k,D,d,hk,rfl,rfl,oLL,hbel⟩:=hrel;by_cases hlt:k<T.length
  . obtain⟨g,D1,d1,rfl,hg1,hg2,c1,tk⟩:=(h.below hbel).pick hlt;have hki:(k:Int)<(T.length:Int):=(by omega);obtain⟨l,hl⟩:=Oy (T[k]);have hlo:l.length<=64:=by rw[hl];exact HK.out _ (List.getElem_mem hlt)
    have htil:til T k=l:=(by rw[iE hlt,hl]);rw[<-hl]at c1 tk;have HTL:=OA htil;have HLt:=OA hlt;have hsl:Small l.length:=by unfold Small;omega
    clear hl htil;go_wp2_with fail
    refine(vU _ l _ (tk.rd aB (by decide))).mono ?_;rintro e w1 ⟨A6,c6,rfl,oF,hb1⟩;have hfl:=uO l;obtain⟨F,hF⟩:=Oy (dQ l);rw[<-hF]at oF hfl⊢;have HF2:=OA hF;have B1:=hbel.tr hb1;have tk1:=tk.below hb1;have oLL1:=oLL.below hb1;have cK:w1.cell? ⟨g,k,none⟩=some (.slice D1 l.length d1):=(hb1.cell (p:=⟨g,k,none⟩) hg2).trans c1;have hgk1:g<w1.heap.size:=Nat.lt_of_lt_of_le hg2 hb1.size;have oi:=iK w1 (E:=3) (size:=1) (enc:=aY) w1.heap.size rfl w1.heap.size (Nat.le_refl _);clear hF oLL hbel hb1 tk c1;go_wp2;go_loopw [6,7] (fun s6 s7 wr=>∃(t:Nat) (D:Option Addr) (d:Nat),t<=F.length/\s7= .int .i64 t/\s6= .slice D t d/\aC 3 1 aY w1.heap.size wr (.slice D t d) (gG T k t)/\Below w1.heap.size w1 wr) (fun _ i _=>F.length-(intOf i).toNat)
    case atStart=>exact⟨0,_,_,Nat.zero_le _,rfl,rfl,oi,(Below.refl _ _).al _⟩
    case round=>
     clear oi;obtain⟨t,D2,d2,ht,rfl,rfl,hown,hbel⟩:=hrel;by_cases hlt2:t<F.length
     . have oF2:=oF.below hbel;obtain⟨b,off,rfl,hb,q0,q1⟩:=(oF2.rd dS (by decide)).eZ hlt2;have cK2:=(hbel.cell (p:=⟨g,k,none⟩) hgk1).trans cK;obtain⟨xy,hxy⟩:=Oy (F[t]);have hmem:xy∈dQ l:=by rw[hxy,<-HF2.out];exact List.getElem_mem hlt2
       rw[<-hxy]at q0 q1;obtain⟨x,y⟩:=xy;simp only at q0 q1;have hkd:¬kindOf l (x,y)=0:=kL.1 hmem;have hnT:=(HF.out.cl _ (List.getElem_mem HLt.out) (x,y) (by rw[<-iE HLt.out,HTL.out];exact hkd)).1;rw[<-iE HLt.out,HTL.out]at hnT;obtain⟨hat,hat2⟩:=lX hnT;obtain⟨p,hp⟩:=Oy (ix T (aS l (x,y)))
       have hnx:gG T k t++[(p:Int)]=gG T k (t+1):=by
        have hlt3:t<(dQ (til T k)).length:=by rw[HTL.out,<-HF2.out];exact hlt2
        rw[<-FQ hlt3];congr 2
        have e:(dQ (til T k))[t]=(x,y):=by
         have:∀(G:List Cl),G=F->∀h:t<G.length,G[t]=(x,y):=fun G e h=>by subst e;exact hxy.symm
         exact this _ (by rw[HTL.out,<-HF2.out]) hlt3
        unfold sF;rw[e,HTL.out,hp]
       have hnl:(gG T k t).length=t:=IB (by rw[HTL.out,<-HF2.out];omega)
       have hTp : ∀ j (h : j < T.length), T[j] = aS l (x, y) ↔ j = p := fun j h => by
        constructor
        . intro e;rw[hp,<-e];exact(Nv HF.out.nd h).symm
        . intro e;subst e;have:=hat2;simp only[<-hp]at this;exact this
       rw[<-hp]at hat;have HNX:=OA hnx;have HNL:=OA hnl;have HKD:=OA hkd;have HTp:=OA hTp;clear hnx hnl hkd hmem hxy hnT oF2 hat2 hp hTp;have hti:(t:Int)<(F.length:Int):=(by omega);obtain⟨W,hW⟩:=Oy wr;rw[<-hW]at hbel hown q0 q1 cK2 hb⊢;clear hW;have hgW:g<W.heap.size:=Nat.lt_of_lt_of_le hgk1 hbel.size;have Bw:Below W.heap.size W W.drew:=(Below.refl _ _).drew;have hz:W.heap.size<=W.drew.heap.size:=(by simp);go_wp2_with fail
       refine rB (fun w'=>w'.cell? ⟨g,k,none⟩=some (.slice D1 l.length d1)/\w'.cell? ⟨b,off+t*2,none⟩=some (.int .i64 x)/\w'.cell? ⟨b,off+t*2+1,none⟩=some (.int .i64 y)) fun hHeld=>(tW 0)<|(tW 1)<|(tW 2)<|(tW 3)<|(tW 4)<|(tW 5)<|(tW 6)<|(tW 7)<|(tR [8])<|tL fun K hK=>?_
       go_simp
       (go_at_call 156;go_must (refine(tJ _ l x y _ ((tk1.below (hbel.tr Bw)).rd aB (by decide)) hsl HKD.out).mono ?_;rintro e wX ⟨A7,c7,rfl,oN,hbX⟩;obtain⟨hcX,hfX,hzX⟩:=bkn hbX W.heap.size hz;have hz:=hzX;have Bw:=Bw.tr hbX);(try go_wp2_with fail))
       refine tK hK fun hHeld=>?_
       clear hK K;refine(tW 9)<|(tW 10)<|(tW 11)<|(tW 12)<|(tW 13)<|tD ?_
       all_goals
         have B2:=hbel.tr Bw;have own2:=hown.below Bw;have oNs:=Nat.le_refl wX.heap.size
       obtain⟨V,hV⟩:=Oy wX;rw[<-hV]at B2 own2 oN Bw⊢;clear hV;obtain⟨N,hN⟩:=Oy (aS l (x,y));rw[<-hN]at oN HTp⊢;clear hN;go_wp2;go_loopw [6,10] (fun s6 s10 wr=>∃(j:Nat) (D:Option Addr) (d:Nat),j<=T.length/\s10= .int .i64 j/\s6= .slice D (lnk (gG T k t) p j).length d/\aC 3 1 aY w1.heap.size wr (.slice D (lnk (gG T k t) p j).length d) (lnk (gG T k t) p j)/\Below w1.heap.size w1 wr/\aC 60 3 aT w1.heap.size wr (.slice A7 N.length c7) N) (fun _ i _=>T.length-(intOf i).toNat)
       case atStart => exact ⟨0, _, _, Nat.zero_le _, rfl, by rw [GQ, HNL.out], by
        rw[GQ,HNL.out];exact own2,B2,oN.mono (by first|exact hbel.size|simpa using hbel.size)⟩
       case round=>
        clear own2 B2 oN;obtain⟨j,D3,d3,hj,rfl,rfl,hown,hbelj,oN⟩:=hrel;by_cases hlj:j<T.length
        . obtain⟨g2,Dj,dj,hge,_,_,cj,tj⟩:=(h.below (B1.tr hbelj)).pick hlj;injection hge with hge;injection hge with hge _;subst hge;have hji:(j:Int)<(T.length:Int):=(by omega);have hiff:=HTp.out j hlj;obtain⟨u,hu⟩:=Oy (T[j]);rw[<-hu]at cj tj hiff;have HIff:=OA hiff;have hsl2:=GN p j;clear hu hiff;go_wp2_with fail
          refine(nG _ _ u N _ (tj.rd aB (by decide)) (oN.rd aB (by decide))).mono ?_;rintro e w5 ⟨rfl,hb5⟩;have own5:=hown.below hb5;have B5:=hbelj.tr hb5;have oN5:=oN.below hb5;by_cases hjp:j=p
          . rw[decide_eq_true (HIff.out.2 hjp)];have HS:Hid ((lnk (gG T k t) p j)++[(j:Int)]=lnk (gG T k t) p (j+1)):=OA (by rw[hjp];exact Ng _ _);have HL2:Hid ((lnk (gG T k t) p j).length<=100):=OA (by have:=Nh (gG T k t) p j;rw[HNL.out]at this;omega);have H8:Hid (((lnk (gG T k t) p j).length+1)*8<=140737488355328):=OA (by have:=HL2.out;omega);have HM:Hid ((lnk (gG T k t) p j).length+1<=maxLen):=OA (by have:=HL2.out;unfold maxLen;omega);have HLn:Hid ((lnk (gG T k t) p (j+1)).length=(lnk (gG T k t) p j).length+1):=OA (by rw[<-HS.out,List.length_append];rfl);clear hjp hsl2;go_wp2_with (at_builtin;go_must (refine aG (enc:=aY) fA aL jD B5 own5 (j:Int) H8.out HM.out rfl _ _ rfl rfl rfl ?_);intro v6 w6 own6 hb6 hg6 hd6;rw[HS.out]at own6;obtain⟨A8,c8,rfl,hc8,hm8⟩:=own6.form)
            have oN6:=aC.kJ (oN5.alloc (.cells (aY (j:Int)).toArray 3)) (own5.alloc (.cells (aY (j:Int)).toArray 3)) (by decide) hg6;go_roundw
            case rel=>exact⟨j+1,A8,c8,by omega,by go_num,by first|rfl|rw[HLn.out],own6,hb6,oN6⟩
            case measure=>simp[intOf];omega
          . rw [decide_eq_false (fun e => hjp (HIff.out.1 e))];have HS:Hid (lnk (gG T k t) p (j+1)=lnk (gG T k t) p j):=OA (NZ _ (fun e=>hjp e.symm));clear hjp hsl2;go_wp2;go_roundw
            case rel=>exact⟨j+1,D3,d3,by omega,by go_num,by rw[HS.out],by rw[HS.out];exact own5,B5,oN5⟩
            case measure=>simp[intOf];omega
        . obtain rfl : j = T.length := by omega
          have HS : Hid (lnk (gG T k t) p T.length = gG T k (t + 1)) := OA (by
           rw[Ni _ hat];exact HNX.out)
          have HLn:Hid ((gG T k (t+1)).length=t+1):=OA (by rw[<-HNX.out,List.length_append,HNL.out];rfl);rw[HS.out,HLn.out]at hown;rw[HS.out,HLn.out];go_wp2;go_roundw
          case rel=>exact⟨t+1,D3,d3,by omega,by go_num,rfl,hown,hbelj⟩
          case measure=>simp[intOf];omega
     . obtain rfl : t = F.length := by omega
       have hnl:gG T k F.length=pQ T k:=(by rw[<-IC,HTL.out,<-HF2.out]);rw[hnl]at hown;obtain⟨us,h1,h2,h3⟩:=oLL1.below hbel;have huk:us.length=k:=by rw[h2];exact mD T k
       have B2:=B1.tr hbel;have H8:Hid ((us.length+1)*24<=140737488355328):=OA (by rw[huk];omega);have HM:Hid (us.length+1<=maxLen):=OA (by rw[huk];unfold maxLen;omega);have hrow:∀j,(Value.slice D k d).ownBlock=some j->w.heap.size<=j:=fun j hj=>(World.ownsRow.lt h1 j hj).1
       have HUK:=OA huk;have HNL:=OA (FT T k);have HRow:=OA hrow;have hown':=hown.mono B1.size;clear huk hnl hrow oLL1 B1;go_wp2_with (at_builtin;go_must (refine mJ (enc:=eV) JL zG wr B2.size h1 (.slice D2 F.length d2) (by simp[eV,Value.oneCell']) rfl H8.out HM.out rfl _ _ rfl rfl rfl ?_);intro A5 c5 w5 o5 g5 hd5)
       have oN5:=dF.snoc (by decide) h1 h2 h3 hown' o5 g5;rw[HNL.out,HUK.out]at oN5;have B5:=B2.grown g5 B2.size (fun j hj=>HRow.out j hj);go_roundw
       case rel=>exact⟨k+1,A5,c5,by omega,by go_num,by rw[mD],oN5,B5⟩
       case measure=>simp[intOf];omega
  . obtain rfl : k = T.length := by omega
    go_wp2;go_ret;exact⟨_,_,rfl,oLL,hbel⟩
theorem LF (s:Nat) (w:World) (hs:s<U64):Calls prog 144 #[.int .u64 s] w (Ret (.int .i64 (gU s)) w):=by
 obtain⟨R,hR⟩:=Oy (gU s);have C:Calls prog 191 #[.int .u64 s,.int .i64 0,.func (.func 192) #[] #[],.func (.func 193) #[] #[]] w (Ret (.int .i64 R) w):=by rw[hR];exact Kh s w hs
 rw[<-hR];clear hR;go_enter Tryz.func144,Tryz.ntmps144
 go_wp2_with fail
 refine C.mono ?_;rintro e w1 ⟨rfl,hb1⟩;go_wp2;go_ret;exact⟨rfl,hb1⟩
theorem FW (v:Value) (rows:List Int) (w:World) (h:Rd 1 bH w v rows):Calls prog 183 #[.agg #[v]] w (Ret (.int .i64 (bG rows)) w):=by
 obtain⟨A,c,rfl,hc,hm⟩:=h.form;have hA:=(Below.refl w.heap.size w).al (.cells #[.slice A rows.length c] 26);have bX:=Blk.bK w 26 #[.slice A rows.length c];rcases hk:aZ rows with _|_
 . have e : bG rows = 0 := by unfold bG; rw [hk]; rfl
   rw[e];have Hk:=OA hk;clear hk e;go_enter func183,ntmps183
   go_wp2_with fail
   refine(lS _ rows _ (h.Oz hA)).mono ?_;rintro e w1 ⟨rfl,hb1⟩;rw[Hk.out];go_wp2;go_ret;exact⟨rfl,hA.tr hb1⟩
 . have e : bG rows = gU (setOf rows) := by unfold bG; rw [if_pos hk]
   rw[e];have Hok:Hid (dJ rows):=OA (aN.1 hk);have Hk:=OA hk;clear hk e;go_enter func183,ntmps183
   go_wp2_with fail
   refine(lS _ rows _ (h.Oz hA)).mono ?_;rintro e w1 ⟨rfl,hb1⟩;rw[Hk.out];have z1:=(bX.bl hb1).c1;go_wp2_with fail
   refine(qD _ rows _ ((h.Oz hA).Oz hb1) Hok).mono ?_;rintro e w2 ⟨rfl,hb2⟩;go_wp2_with fail
   refine(LF _ _ (dX Hok.out)).mono ?_;rintro e w3 ⟨rfl,hb3⟩;go_wp2;go_ret;exact⟨rfl,((hA.tr hb1).tr hb2).tr hb3⟩
def fE (rows:List Int):List Dm:=if bG rows=0 then[]else firstT (setOf rows)
def oZ (rows:List Int):Bool:=decide (bG rows≠0)
theorem pJ (rows:List Int):(fE rows).length<=64:=by
 unfold fE;split
 . simp
 . exact Bl _
def Ny (l:List Dm) (b:Bool) (w:World) (e:Ending) (w':World):Prop:=∃A c,e= .returned (.tuple #[.slice A l.length c,.bool b])/\aC 60 3 aT w.heap.size w' (.slice A l.length c) l/\Below w.heap.size w w'
theorem wM {P:Program} {ops:Array Oper} {rest:List Oper} {o:Oper} {a:Act} {Q:Exit->Act->World->Prop} {α:Type} {t E:TypeId} {z:Value} {size bytes:Nat} (R:Row P t E z size bytes)
    {enc:α->List Value} (henc:∀x,(enc x).length=size) (h1:∀x,∀u∈enc x,u.oneCell'=true)
    {W0 w:World} (hbel:Below W0.heap.size W0 w) {v:Value} {l:List α} (hown:aC E size enc W0.heap.size w v l) (y:α)
    (hlen:(l.length+1)*bytes<=140737488355328) (hlen2:l.length+1<=maxLen) {g:Nat} (hg:g=w.heap.size)
    (hgd:o.guard=none) (s x:Operand) (ho:o.op= .call {callee:= .builtin .append,args:= #[s,x],argTypes:= #[t,t]})
    (hs:a.eval s=v) (hx:a.eval x= .slice (some ⟨g,0,none⟩) 1 1)
    (h:∀v' w',aC E size enc W0.heap.size w' v' (l++[y])->Below W0.heap.size W0 w'->(w.alloc (.cells (enc y).toArray E)).grownBy w' v.ownBlock->(v'.ownBlock=v.ownBlock∨v'.ownBlock=some (w.heap.size+1))->wpList P ops Q rest (a.put o.dst v') w'):
    wpList P ops Q (o::rest) a (w.alloc (.cells (enc y).toArray E)):=by
 subst hg;exact aG R henc h1 hbel hown y hlen hlen2 hgd s x ho hs hx h
theorem LG {s i:Nat} (hs:s<U64):(bits .and .u64 ((s:Int)/2^i) 1==0)= !s.testBit i:=by
 have e:(s:Int)/2^i=((s/2^i:Nat):Int):=(by simp);have h1:s/2^i<18446744073709551616:=Nat.lt_of_le_of_lt (Nat.div_le_self _ _) (by unfold U64 at hs;exact hs);have h2:=u64_and_nat (s/2^i) 1 h1 (by decide);rw[e,show(1:Int)=((1:Nat):Int) from rfl,h2,nat_mask1,Nat.testBit_eq_decide_div_mod_eq];rw[Bool.eq_iff_iff,beq_iff_eq,Bool.not_eq_true',decide_eq_false_iff_not];omega
theorem IK (s i x y:Nat) (w:World) (hs:s<U64) (Hl:Hid (pI s i)) (Hx:Hid (x=i%8)) (Hy:Hid (y=i/8)):Calls prog 141 #[.int .u64 s] w (Ret (.agg #[.int .i64 x,.int .i64 y]) w):=by
 have hi:=Hl.out.1;have hA:=(Below.refl w.heap.size w).al (.cells #[.int .i64 0,.int .i64 0] 70);have bR:=Blk.bK w 70 #[.int .i64 0,.int .i64 0];go_enter Tryz.func141,Tryz.ntmps141
 go_wp2_with fail
 go_loop [3] (fun s3=>∃k:Nat,k<=i/\s3= .int .i64 k) (fun s3=>i-(intOf s3).toNat)
 case atStart=>exact⟨0,by omega,rfl⟩
 case round=>
  obtain⟨k,hk,rfl⟩:=hrel;have hbit:=LG (i:=k) hs;by_cases hlt:k<i
  . have hb:s.testBit k=false:=Hl.out.2.2 k hlt;rw[hb]at hbit;have Hb:=OA hb;clear hb;go_wp2;go_round
    case rel=>exact⟨k+1,by omega,by go_num⟩
    case measure=>simp[intOf];omega
  . obtain rfl : k = i := by omega
    have hb:=Hl.out.2.1;rw[hb]at hbit;have Hb:=OA hb;clear hb;go_wp2_with fail
    refine(zM k x y _ (by omega) Hx.out Hy.out).mono ?_;rintro e w1 ⟨rfl,hb1⟩;have bR1:=bR.bl hb1;have B1:=hA.tr hb1;obtain⟨gR,hgR'⟩:=Oy w.heap.size;have hgR:w.heap.size<=gR:=(by omega);rw[<-hgR']at bR1⊢;clear hgR' bR;obtain⟨z_0,z_1⟩:=bR1.n2;have fR:=fun j=>bR1.frozen j
    have bE:=(bR1.st 0 (.int .i64 x) #[.int .i64 x,.int .i64 0] rfl).st 1 (.int .i64 y) #[.int .i64 x,.int .i64 y] rfl;have BE:=(B1.st ⟨gR,0,none⟩ (.int .i64 x) hgR).st ⟨gR,1,none⟩ (.int .i64 y) hgR;go_wp2;obtain⟨q_0,q_1⟩:=bE.n2;exact bodyPost_ret (v:= .agg #[.int .i64 x,.int .i64 y]) (by simp[results,Tryz.results141,go_sem,q_0,q_1]) rfl ⟨rfl,BE⟩
end Go.Proofs.YtljfoohaapckeaaGreatDoor
