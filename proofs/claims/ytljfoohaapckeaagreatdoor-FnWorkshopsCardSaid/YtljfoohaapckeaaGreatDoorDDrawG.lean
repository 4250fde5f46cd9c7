/- A drawn region, and what the draw leaves as it was: every box but the cursor's. No conditions but sizes. -/
import Derived.Test.YtljfoohaapckeaaGreatDoorDK3
namespace Go.Proofs.YtljfoohaapckeaaGreatDoor
open Go.ChangeShapes Go.WideShapes Go.ChangeAt Go.RowKit
set_option linter.unusedVariables false
set_option linter.unusedSimpArgs false
set_option maxHeartbeats 4000000
set_option maxRecDepth 100000
def jT (w0:World) (g:Nat) (w:World):Prop:=w0.heap.size<=w.heap.size/\∀i,i<w0.heap.size->i≠g->w.heap[i]? =w0.heap[i]?
section
variable {w0 w w' : World} {g : Nat}
theorem jT.refl (w:World) (g:Nat):jT w g w:=⟨Nat.le_refl _,fun _ _ _=>rfl⟩
theorem jT.gr (h:jT w0 g w) (hg:w.grownBy w' (some g)):jT w0 g w':=
 ⟨Nat.le_trans h.1 hg.size,fun i hi hne=>(hg.block i (by have:=h.1;omega) (fun e=>hne (by injection e))).trans (h.2 i hi hne)⟩
theorem jT.bl (h:jT w0 g w) (hb:Below w.heap.size w w'):jT w0 g w':=
 ⟨Nat.le_trans h.1 hb.size,fun i hi hne=>(hb.block i (by have:=h.1;omega)).trans (h.2 i hi hne)⟩
theorem jT.al (h:jT w0 g w) (o:Obj):jT w0 g (w.alloc o):=h.bl ((Below.refl _ _).al o)
theorem jT.drewN (h:jT w0 g w) (n:Nat):jT w0 g (w.drewN n):=h
theorem jT.st (h:jT w0 g w) {p:Addr} (hp:w0.heap.size<=p.block) (u:Value):jT w0 g (w.setCell p u):=
 ⟨by simp[World.setCell];exact h.1,fun i hi hne=>(Below.heap_setCell w p u i (by omega)).trans (h.2 i hi hne)⟩
theorem jT.tr {w1:World} (h:jT w0 g w1) (k:jT w1 g w):jT w0 g w:=⟨Nat.le_trans h.1 k.1,fun i hi hne=>(k.2 i (by have:=h.1;omega) hne).trans (h.2 i hi hne)⟩
theorem jT.own {α:Type} {E:TypeId} {size:Nat} {enc:α->List Value} {B:Nat} {v:Value} {l:List α} (k:jT w0 g w) (ho:w.os=w0.os) (ht:w.tape=w0.tape) (hu:w.output=w0.output) (h:aC E size enc B w0 v l) (hne:v.ownBlock≠some g):aC E size enc B w v l:=by
 refine World.ownsRow.kept h (row:=some g) ⟨ho,ht,hu,k.1,fun i hi hn=>k.2 i hi (fun e=>hn (by rw[e]))⟩ (.inr hne)
end
def FI (W:World) (g:Nat) (u:Value) (n:Nat) (w:World) (e:Ending) (w':World):Prop:=∃(rows:List Int) (A:Option Addr) (c:Nat),e= .returned (.agg #[.slice A rows.length c])/\aC 3 1 aY w.heap.size w' (.slice A rows.length c) rows/\1<=rows.length/\rows.length<=5/\(∀r∈rows,0<=r/\r<=255)/\Cur w' g u n/\Below W.heap.size W w'/\jT w g w'
theorem rG (W : World) (g : Nat) (v : Value) (l : List Int) (w : World) (h : Rd 1 mM W v l) (Hok : Hid (mO (fun x => 0 <= x /\ x <= 255) l)) (hg : W.heap.size <= g) (hbel : Below W.heap.size W w) (hcur : Cur w g v l.length) :
 Calls Tryz.prog 180 #[.pointer (some ⟨g,0,none⟩)] w (FI W g v l.length w):=by
 have hx0:=Blk.bK w 26 #[.slice none 0 0];have hW:=hbel.size;go_enter Tryz.func180,Tryz.ntmps180
 go_wp2_with fail
 refine(aQ 6 W g v l _ h Hok hg (hbel.al _) (hcur.alloc _) (by decide)).mono ?_;rintro e w1 ⟨a,rfl,ha,hcur1,hb1,hg1⟩;have hx1:=hx0.cur (hcur.alloc _) (by decide) hg1;have K1:=((jT.refl w g).al (.cells #[.slice none 0 0] 26)).gr hg1;have haa:0<=a/\a<=5:=by unfold dR at ha;omega
 obtain⟨a,rfl⟩:=Int.eq_ofNat_of_zero_le haa.1;have ha5:a<=5:=(by omega);clear haa ha hx0;go_wp2_with fail
 refine(aQ 5 W g v l _ h Hok hg hb1 hcur1 (by decide)).mono ?_;rintro e w2 ⟨b,rfl,hb,hcur2,hb2,hg2⟩;have hx2:=hx1.cur hcur1 (by decide) hg2;have K2:=K1.gr hg2;have hbb:0<=b/\b<=4:=by unfold dR at hb;omega
 obtain⟨b,rfl⟩:=Int.eq_ofNat_of_zero_le hbb.1;have hb5:b<=4:=(by omega);clear hbb hb hx1;go_wp2_with fail
 rw[show(1:Int)+a=((1+a:Nat):Int) by simp,show(1:Int)+b=((1+b:Nat):Int) by simp];obtain⟨a',ha'⟩:∃a',a'=1+a:=⟨_,rfl⟩;obtain⟨b',hb'⟩:∃b',b'=1+b:=⟨_,rfl⟩;rw[<-ha',<-hb'];have ha1:1<=a':=(by omega);have ha6:a'<=6:=(by omega);have hb1':1<=b':=(by omega);have hb6:b'<=5:=(by omega);clear ha' hb' ha5 hb5;refine(yD a' b' _ ⟨ha1,by omega⟩ ⟨hb1',by omega⟩).mono ?_;rintro e w3 ⟨A3,c3,rfl,own3,hb3⟩;have hrl:(bZ a' b').length=b':=(by simp[bZ]);rw[hrl]at own3⊢;have hx3:=(hx2.below hb3 hx2.lt).alloc (.cells #[.slice A3 b' c3] 26);have hy3:=Blk.bK w3 26 #[.slice A3 b' c3];have cur3:=(hcur2.bl hb3).alloc (.cells #[.slice A3 b' c3] 26);have B3:=(hb2.tr hb3).al (.cells #[.slice A3 b' c3] 26);have K3:=(K2.bl hb3).al (.cells #[.slice A3 b' c3] 26);have own4:=(own3.mono K2.1).alloc (.cells #[.slice A3 b' c3] 26)
 have hrows : ∀ r ∈ bZ a' b', 0 <= r /\ r <= 255 := fun r hr => by
  have:=C9 (w:=a') (by omega);unfold bZ at hr;rw[(List.mem_replicate.1 hr).2];omega
 have hlt0:w.heap.size<w3.heap.size:=by have:=hx2.lt;have:=hb3.size;omega
 clear own3 hcur1 hcur2 hx2 hb1 hb2 hg1 hg2 hb3;go_wp2_with fail
 refine(aQ 5 W g v l _ h Hok hg B3 cur3 (by decide)).mono ?_;rintro e w4 ⟨k0,rfl,hk0,hcur4,hb4,hg4⟩;have hx4:=hx3.cur cur3 (by decide) hg4;have K4:=K3.gr hg4;have hy4:=hy3.cur cur3 (by decide) hg4;have own5:=own4.cur cur3 (by decide) hg4;have hk00:0<=k0/\k0<=4:=by unfold dR at hk0;omega
 obtain⟨k0,rfl⟩:=Int.eq_ofNat_of_zero_le hk00.1;have hk04:k0<=4:=(by omega);obtain⟨br,hbr⟩:=Oy w3.heap.size;rw[<-hbr]at hy4 hlt0;clear hk00 hk0 hx3 hy3 cur3 own4 B3;go_wp2;rw[<-hbr];have Hbr:=OA hbr;have Hrl:=OA hrl;have Hrows:=OA hrows;clear hbr hrl hrows hg4;go_loopw [6] (fun s6 wr=>∃(k:Nat) (rows:List Int),k<=4/\s6= .int .i64 k/\Hid (rows.length=b')/\Hid (∀r∈rows,0<=r/\r<=255)/\aC 3 1 aY w.heap.size wr (.slice A3 b' c3) rows/\Blk wr br 26 #[.slice A3 b' c3]/\Blk wr w.heap.size 26 #[.slice none 0 0]/\Cur wr g v l.length/\Below W.heap.size W wr/\jT w g wr) (fun i _=>(intOf i).toNat)
 case atStart=>exact⟨k0,_,hk04,rfl,Hrl,Hrows,own5,hy4,hx4,hcur4,hb4,K4⟩
 case round=>
  obtain⟨k,rows,hk,rfl,Hl,Hr,hown,hy,hx,hc,hbe,kk⟩:=hrel;clear own5 hy4 hx4 hcur4 hb4;by_cases hk1:0<k
  . go_wp2_with fail
    refine(aQ b' W g v l _ h Hok hg hbe hc (by omega)).mono ?_;rintro e w5 ⟨y,rfl,hyy,hcur5,hb5,hg5⟩;have hyyy:0<=y/\y<b':=by unfold dR at hyy;omega
    obtain⟨y,rfl⟩:=Int.eq_ofNat_of_zero_le hyyy.1;have hyb:y<b':=(by omega);clear hyyy hyy;have own1:=hown.cur hc (by decide) hg5;have hy1:=hy.cur hc (by decide) hg5;have hx1:=hx.cur hc (by decide) hg5;have kk5:=kk.gr hg5;go_wp2_with fail
    refine(aQ a' W g v l _ h Hok hg hb5 hcur5 (by omega)).mono ?_;rintro e w6 ⟨x,rfl,hxx,hcur6,hb6',hg6⟩;have hxxx:0<=x/\x<a':=by unfold dR at hxx;omega
    obtain⟨x,rfl⟩:=Int.eq_ofNat_of_zero_le hxxx.1;have hxa:x<a':=(by omega);clear hxxx hxx;have own2:=own1.cur hcur5 (by decide) hg6;have hy2:=hy1.cur hcur5 (by decide) hg6;have hx2:=hx1.cur hcur5 (by decide) hg6;have kk6:=kk5.gr hg6;have hyl:y<rows.length:=by rw[Hl.out];exact hyb
    obtain⟨r,hr⟩:=Oy (rows[y]);have hrb:=Hr.out rows[y] (List.getElem_mem hyl);rw[<-hr]at hrb;obtain⟨hr0,hr1⟩:=hrb;obtain⟨g5,rfl,hBg,hgl⟩:=own2.split hyl;have s1:=own2.slot aL Nat.one_pos hyl 0 (.int .i64 r) (by rw[hr];rfl);have s2:=own2.free y;rw[Nat.mul_one,Nat.add_zero]at s1;have q1:=hy2.c1;have q2:=hy2.lt;have hyI:(y:Int)<b':=(by omega);have hp:=C9 (w:=x) (by omega);have hge:=Mf (r:=r) (P:=2^x) (h0:=hr0) (hP:=hp.1);have e0:=wR (r/2^x);have Hrr:=OA hr;clear hr hown hy hx hc hg5 hg6 own1 hy1 hx1 hcur5 hb5 hbe;by_cases ht:(r/2^x)%2=1
    . have hge2:=hge ht;have t1:((r/2^x)%2==1)=true:=(by simpa using ht);obtain⟨P,hP⟩:=Oy ((2:Int)^x);rw[<-hP]at hp hge2;have e1:IntKind.i64.wrap ((2:Int)^x)=P:=by rw[<-hP];exact IntWalk.i64_in _ (by omega)
      have e2:IntKind.i64.wrap (r-P)=r-P:=IntWalk.i64_in _ (by omega);have HP:=OA hP;clear ht hge hP;have hgo:g5≠br:=fun e=>(own2.apart hy2 (by decide)) (by rw[e];rfl)
      have hgx:g5≠w.heap.size:=fun e=>(own2.apart hx2 (by decide)) (by rw[e];rfl)
      have hgc:g5≠g:=fun e=>(hcur6.apart own2 (by decide)) (by rw[e];rfl)
      have own3:=(own2.iJ aL (y:=r-P) hyl rfl).drewN 1;have hy3:=(hy2.far (p:=⟨g5,y,none⟩) (fun e=>hgo e.symm) (.int .i64 (r-P))).drewN 1;have hx3:=(hx2.far (p:=⟨g5,y,none⟩) (fun e=>hgx e.symm) (.int .i64 (r-P))).drewN 1;have cur7:=(hcur6.far (p:=⟨g5,y,none⟩) (fun e=>hgc e.symm) (.int .i64 (r-P))).drewN 1;have B7:=below_drewN (hb6'.st ⟨g5,y,none⟩ (.int .i64 (r-P)) (Nat.le_trans hW hBg)) 1;have kk7:=(kk6.st (p:=⟨g5,y,none⟩) hBg (.int .i64 (r-P))).drewN 1;have HL:Hid ((rows.set y (r-P)).length=b'):=OA (by rw[List.length_set];exact Hl.out)
      have HR : Hid (∀ z ∈ rows.set y (r - P), 0 <= z /\ z <= 255) := OA fun z hz => by
       rcases List.mem_or_eq_of_mem_set hz with hz|rfl
       . exact Hr.out z hz
       . omega
      go_wp2_with fail
      go_still_tail 12,(by kernel_rfl)
      change wpList _ _ _ _ _ (World.drew _);clear e0 e1 e2;go_wp2;go_roundw
      case rel=>exact⟨k-1,_,by omega,by go_num,HL,HR,own3,hy3,hx3,cur7,B7,kk7⟩
      case measure=>simp[intOf];omega
    . have t1 : ((r / 2 ^ x) % 2 == 1) = false := by simpa using ht
      clear hge ht;go_wp2;go_roundw
      case rel=>exact⟨k-1,rows,by omega,by go_num,Hl,Hr,own2,hy2,hx2,hcur6,hb6',kk6⟩
      case measure=>simp[intOf];omega
  . obtain rfl : k = 0 := by omega
    by_cases ha:a'<6
    . have haI : (a' : Int) < 6 := by omega
      go_wp2_with fail
      refine(Cm 3 W g v l _ h Hok hg hbe hc (by decide)).mono ?_;rintro e w5 ⟨yes,rfl,hcur5,hb5,hg5⟩;have own1:=hown.cur hc (by decide) hg5;have hy1:=hy.cur hc (by decide) hg5;have hx1:=hx.cur hc (by decide) hg5;have kk5:=kk.gr hg5;rcases yes with _|_
      . skip;have z1:=hy1.c1;have z2:=hy1.lt;have z3:=hx1.frozen 0;have z4:=hx1.lt;have z6:=hx1.c1;have z5:=(hx1.CY 0 (.slice A3 b' c3)).cell 0;simp at z5;go_wp2;refine bodyPost_ret (v:= .agg #[.slice A3 b' c3]) (by simp[results,Tryz.results180,go_sem,z5]) rfl ⟨rows,A3,c3,by rw[Hl.out],?_,by rw[Hl.out];exact hb1',by rw[Hl.out];exact hb6,Hr.out,hcur5.far (fun e=>hcur5.ne hx1 (by decide) e.symm) _,hb5.st _ _ hW,kk5.st (p:=⟨w.heap.size,0,none⟩) (Nat.le_refl _) _⟩;rw[Hl.out];exact own1.far (fun e=>own1.apart hx1 (by decide) e) _
      . go_wp2_with fail
        refine(aQ b' W g v l _ h Hok hg hb5 hcur5 (by omega)).mono ?_;rintro e w6 ⟨y,rfl,hyy,hcur6,hb6',hg6⟩;have hyyy:0<=y/\y<b':=by unfold dR at hyy;omega
        obtain⟨y,rfl⟩:=Int.eq_ofNat_of_zero_le hyyy.1;have hyb:y<b':=(by omega);clear hyyy hyy;have own2:=own1.cur hcur5 (by decide) hg6;have hy2:=hy1.cur hcur5 (by decide) hg6;have hx2:=hx1.cur hcur5 (by decide) hg6;have kk6:=kk5.gr hg6;have hyl:y<rows.length:=by rw[Hl.out];exact hyb
        obtain⟨r,hr⟩:=Oy (rows[y]);have hrb:=Hr.out rows[y] (List.getElem_mem hyl);rw[<-hr]at hrb;obtain⟨hr0,hr1⟩:=hrb;obtain⟨V,e1,hV0,hV1⟩:=KT hr0 hr1 ha;obtain⟨g5,rfl,hBg,hgl⟩:=own2.split hyl;have s1:=own2.slot aL Nat.one_pos hyl 0 (.int .i64 r) (by rw[hr];rfl);have s2:=own2.free y;rw[Nat.mul_one,Nat.add_zero]at s1;have q1:=hy2.c1;have q2:=hy2.lt;have hyI:(y:Int)<b':=(by omega);have Hrr:=OA hr;clear hr hown hy hx hc hg5 hg6 own1 hy1 hx1 hcur5 hb5 hbe;have hgo:g5≠br:=fun e=>(own2.apart hy2 (by decide)) (by rw[e];rfl)
        have hgx:g5≠w.heap.size:=fun e=>(own2.apart hx2 (by decide)) (by rw[e];rfl)
        have hgc:g5≠g:=fun e=>(hcur6.apart own2 (by decide)) (by rw[e];rfl)
        have own3:=own2.iJ aL (y:=V) hyl rfl;have hx3:=hx2.far (p:=⟨g5,y,none⟩) (fun e=>hgx e.symm) (.int .i64 V);have cur7:=hcur6.far (p:=⟨g5,y,none⟩) (fun e=>hgc e.symm) (.int .i64 V);have B7:=hb6'.st ⟨g5,y,none⟩ (.int .i64 V) (Nat.le_trans hW hBg);have kk7:=kk6.st (p:=⟨g5,y,none⟩) hBg (.int .i64 V);have HL:Hid ((rows.set y V).length=b'):=OA (by rw[List.length_set];exact Hl.out)
        have HR : Hid (∀ z ∈ rows.set y V, 0 <= z /\ z <= 255) := OA fun z hz => by
         rcases List.mem_or_eq_of_mem_set hz with hz|rfl
         . exact Hr.out z hz
         . exact⟨hV0,hV1⟩
        have hgo':=hgo.symm;have hgx':=hgx.symm;have z3:=hx2.frozen 0;have z4:=hx2.lt;have z6:=hx2.c1;have z5:=(hx3.CY 0 (.slice (some ⟨g5,0,none⟩) b' c3)).cell 0;simp at z5;go_wp2_with fail
        go_still_tail 12,(by kernel_rfl)
        change wpList _ _ _ _ _ (World.drew _);clear e1;go_wp2;refine bodyPost_ret (v:= .agg #[.slice (some ⟨g5,0,none⟩) b' c3]) (by simp[results,Tryz.results180,go_sem,z5]) rfl ⟨rows.set y V,some ⟨g5,0,none⟩,c3,by rw[HL.out],?_,by rw[HL.out];exact hb1',by rw[HL.out];exact hb6,HR.out,(cur7.far (fun e=>cur7.ne hx3 (by decide) e.symm) _).drewN 1,below_drewN (B7.st _ _ hW) 1,(kk7.st (p:=⟨w.heap.size,0,none⟩) (Nat.le_refl _) _).drewN 1⟩;rw[HL.out];exact(own3.far (fun e=>own3.apart hx3 (by decide) e) _).drewN 1
    . have haI : ¬ (a' : Int) < 6 := by omega
      have z1:=hy.c1;have z2:=hy.lt;have z3:=hx.frozen 0;have z4:=hx.lt;have z6:=hx.c1;have z5:=(hx.CY 0 (.slice A3 b' c3)).cell 0;simp at z5;go_wp2;refine bodyPost_ret (v:= .agg #[.slice A3 b' c3]) (by simp[results,Tryz.results180,go_sem,z5]) rfl ⟨rows,A3,c3,by rw[Hl.out],?_,by rw[Hl.out];exact hb1',by rw[Hl.out];exact hb6,Hr.out,hc.far (fun e=>hc.ne hx (by decide) e.symm) _,hbe.st _ _ hW,kk.st (p:=⟨w.heap.size,0,none⟩) (Nat.le_refl _) _⟩;rw[Hl.out];exact hown.far (fun e=>hown.apart hx (by decide) e) _
end Go.Proofs.YtljfoohaapckeaaGreatDoor
