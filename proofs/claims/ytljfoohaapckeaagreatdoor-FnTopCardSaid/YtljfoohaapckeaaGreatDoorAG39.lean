/- The laws FnExactUndoFlip and FnExactUndoAll: the walks. No conditions. What an act leaves: sizes; the same result in slices. Plain lemmas. Acts done one after another: plain laws, and the words that the walks share. A drawn region, and what the draw leaves as it was: every box but the cursor's. No conditions but sizes. Draws that leave everything but the cursor ac it was: acts, boxes. No conditions but sizes. Slices of one and of three numbers made, in a drawn region. Plain laws of the model's operations. -/
import Derived.Test.YtljfoohaapckeaaGreatDoorAFlAll
import Derived.Test.YtljfoohaapckeaaGreatDoorAG5
import Derived.Test.YtljfoohaapckeaaGreatDoorADoActI
import Derived.Test.YtljfoohaapckeaaGreatDoorADoActS
import Derived.Test.YtljfoohaapckeaaGreatDoorAK3
import Derived.Test.YtljfoohaapckeaaGreatDoorAK6
import Derived.Test.YtljfoohaapckeaaGreatDoorAK1
import Derived.Test.YtljfoohaapckeaaGreatDoorAK2
import Derived.RegionTactic
open _root_.Nat (ne_of_lt le_refl le_trans)
open _root_.Go.Value (oneCell' cells)
open _root_.Go.Proofs.Tryz (prog results180 results126)
namespace Go.Proofs.YtljfoohaapckeaaGreatDoor
open Go.ChangeShapes Go.WideShapes Go.ChangeAt Go.RowKit
set_option linter.unusedVariables false
set_option linter.unusedSimpArgs false
set_option maxHeartbeats 4000000
set_option maxRecDepth 100000
theorem I7 {x z:Fl} {b:Bool} (hs:cZ x) (h:fF x=(z,b)):cZ z:=by
 rcases b with _|_
 . unfold fF at h;split at h
   . cases h
   . injection h with h _;rw[<-h];exact hs
 . exact(yO hs h).2.2.2
theorem KX {y:Wk} (a:Ac) (hs:cZ y.1):cZ (sZ y a).1:=by
 unfold sZ;repeat' split
 . exact mO _ hs
 . exact mY _ hs
 . exact hs
 . exact I7 (b:=(fF y.1).2) hs rfl
 . exact hs
 . exact hs
section
variable {W w w' : World} {gP gR : Nat} {cP cR : Array Value} {u1 u2 u3 u4 v : Value} {x : Fl} {B B' : Nat} {ns : List Int}
structure DB (W w:World) (gP gR:Nat) (cP cR:Array Value):Prop where
  B:Below W.heap.size W w
  p:Blk w gP 32 cP
  r:Blk w gR 32 cR
theorem DB.bl (h:DB W w gP gR cP cR) (hb:Below w.heap.size w w'):DB W w' gP gR cP cR:=⟨h.B.tr hb,h.p.bl hb,h.r.bl hb⟩
theorem DB.al (h:DB W w gP gR cP cR) (o:Obj):DB W (w.alloc o) gP gR cP cR:=⟨h.B.al o,h.p.alloc o,h.r.alloc o⟩
theorem DB.gr {g:Nat} (h:DB W w gP gR cP cR) (hg:w.grownBy w' (some g)) (hW:W.heap.size<=g) (h1:gP≠g) (h3:gR≠g):DB W w' gP gR cP cR:=
 ⟨h.B.grown hg h.B.size (fun k hk=>by injection hk with hk;subst hk;exact hW),h.p.grown hg (by simp;exact h1),h.r.grown hg (by simp;exact h3)⟩
theorem DB.alg {o:Obj} (h:DB W w gP gR cP cR) (hg:(w.alloc o).grownBy w' (some w.heap.size)):DB W w' gP gR cP cR:=
 (h.al o).gr hg h.B.size (ne_of_lt h.p.lt) (ne_of_lt h.r.lt)
theorem DB.app {o:Obj} (h:DB W w gP gR cP cR) (oS:aD 3 1 bQ B' w v ns) (hg:(w.alloc o).grownBy w' v.ownBlock) (hB:Below W.heap.size W w'):DB W w' gP gR cP cR:=
 ⟨hB,(h.p.alloc o).grown hg (fun e=>oS.apart h.p (by decide) e.symm),(h.r.alloc o).grown hg (fun e=>oS.apart h.r (by decide) e.symm)⟩
end
def kI (w0:World) (g:Nat) (w:World):Prop:=w0.heap.size<=w.heap.size/\∀i,i<w0.heap.size->i≠g->w.heap[i]? =w0.heap[i]?
section
variable {w0 w w' : World} {g : Nat}
theorem kI.refl (w:World) (g:Nat):kI w g w:=⟨le_refl _,fun _ _ _=>rfl⟩
theorem kI.gr (h:kI w0 g w) (hg:w.grownBy w' (some g)):kI w0 g w':=
 ⟨le_trans h.1 hg.size,fun i hi hne=>(hg.block i (by have:=h.1;omega) (fun e=>hne (by injection e))).trans (h.2 i hi hne)⟩
theorem kI.bl (h:kI w0 g w) (hb:Below w.heap.size w w'):kI w0 g w':=
 ⟨le_trans h.1 hb.size,fun i hi hne=>(hb.block i (by have:=h.1;omega)).trans (h.2 i hi hne)⟩
theorem kI.al (h:kI w0 g w) (o:Obj):kI w0 g (w.alloc o):=h.bl ((Below.refl _ _).al o)
theorem kI.drewN (h:kI w0 g w) (n:Nat):kI w0 g (w.drewN n):=h
theorem kI.st (h:kI w0 g w) {p:Addr} (hp:w0.heap.size<=p.block) (u:Value):kI w0 g (w.setCell p u):=
 ⟨by simp[World.setCell];exact h.1,fun i hi hne=>(Below.heap_setCell w p u i (by omega)).trans (h.2 i hi hne)⟩
theorem kI.tr {w1:World} (h:kI w0 g w1) (k:kI w1 g w):kI w0 g w:=⟨le_trans h.1 k.1,fun i hi hne=>(k.2 i (by have:=h.1;omega) hne).trans (h.2 i hi hne)⟩
theorem kI.own {α:Type} {E:TypeId} {size:Nat} {enc:α->List Value} {B:Nat} {v:Value} {l:List α} (k:kI w0 g w) (ho:w.os=w0.os) (ht:w.tape=w0.tape) (hu:w.output=w0.output) (h:aD E size enc B w0 v l) (hne:v.ownBlock≠some g):aD E size enc B w v l:=by
 refine World.ownsRow.kept h (row:=some g) ⟨ho,ht,hu,k.1,fun i hi hn=>k.2 i hi (fun e=>hn (by rw[e]))⟩ (.inr hne)
end
def Gf (W:World) (g:Nat) (u:Value) (n:Nat) (w:World) (e:Ending) (w':World):Prop:=∃(rows:List Int) (A:Option Addr) (c:Nat),e= .returned (.agg #[.slice A rows.length c])/\aD 3 1 bQ w.heap.size w' (.slice A rows.length c) rows/\1<=rows.length/\rows.length<=5/\(∀r∈rows,0<=r/\r<=255)/\Cur w' g u n/\Below W.heap.size W w'/\kI w g w'
theorem sK (W : World) (g : Nat) (v : Value) (l : List Int) (w : World) (h : Rd 1 mI W v l) (Hok : Hid (nH (fun x => 0 <= x /\ x <= 255) l)) (hg : W.heap.size <= g) (hbel : Below W.heap.size W w) (hcur : Cur w g v l.length) :
 Calls prog 180 #[.pointer (some ⟨g,0,none⟩)] w (Gf W g v l.length w):=by
 have hx0:=Blk.aW w 26 #[.slice none 0 0];have hW:=hbel.size;go_enter Tryz.func180,Tryz.ntmps180
 go_wp2_with fail
 refine(aO 6 W g v l _ h Hok hg (hbel.al _) (hcur.alloc _) (by decide)).mono ?_;rintro e w1 ⟨a,rfl,ha,hcur1,hb1,hg1⟩;have hx1:=hx0.cur (hcur.alloc _) (by decide) hg1;have K1:=((kI.refl w g).al (.cells #[.slice none 0 0] 26)).gr hg1;have haa:0<=a/\a<=5:=by unfold dV at ha;omega
 obtain⟨a,rfl⟩:=Int.eq_ofNat_of_zero_le haa.1;have ha5:a<=5:=(by omega);clear haa ha hx0;go_wp2_with fail
 refine(aO 5 W g v l _ h Hok hg hb1 hcur1 (by decide)).mono ?_;rintro e w2 ⟨b,rfl,hb,hcur2,hb2,hg2⟩;have hx2:=hx1.cur hcur1 (by decide) hg2;have K2:=K1.gr hg2;have hbb:0<=b/\b<=4:=by unfold dV at hb;omega
 obtain⟨b,rfl⟩:=Int.eq_ofNat_of_zero_le hbb.1;have hb5:b<=4:=(by omega);clear hbb hb hx1;go_wp2_with fail
 rw[show(1:Int)+a=((1+a:Nat):Int) by simp,show(1:Int)+b=((1+b:Nat):Int) by simp];obtain⟨a',ha'⟩:∃a',a'=1+a:=⟨_,rfl⟩;obtain⟨b',hb'⟩:∃b',b'=1+b:=⟨_,rfl⟩;rw[<-ha',<-hb'];have ha1:1<=a':=(by omega);have ha6:a'<=6:=(by omega);have hb1':1<=b':=(by omega);have hb6:b'<=5:=(by omega);clear ha' hb' ha5 hb5;refine(uT a' b' _ ⟨ha1,by omega⟩ ⟨hb1',by omega⟩).mono ?_;rintro e w3 ⟨A3,c3,rfl,own3,hb3⟩;have hrl:(aV a' b').length=b':=(by simp[aV]);rw[hrl]at own3⊢;have hx3:=(hx2.below hb3 hx2.lt).alloc (.cells #[.slice A3 b' c3] 26);have hy3:=Blk.aW w3 26 #[.slice A3 b' c3];have cur3:=(hcur2.bl hb3).alloc (.cells #[.slice A3 b' c3] 26);have B3:=(hb2.tr hb3).al (.cells #[.slice A3 b' c3] 26);have K3:=(K2.bl hb3).al (.cells #[.slice A3 b' c3] 26);have own4:=(own3.mono K2.1).alloc (.cells #[.slice A3 b' c3] 26)
 have hrows : ∀ r ∈ aV a' b', 0 <= r /\ r <= 255 := fun r hr => by
  have:=Db (w:=a') (by omega);unfold aV at hr;rw[(List.mem_replicate.1 hr).2];omega
 have hlt0:w.heap.size<w3.heap.size:=by have:=hx2.lt;have:=hb3.size;omega
 clear own3 hcur1 hcur2 hx2 hb1 hb2 hg1 hg2 hb3;go_wp2_with fail
 refine(aO 5 W g v l _ h Hok hg B3 cur3 (by decide)).mono ?_;rintro e w4 ⟨k0,rfl,hk0,hcur4,hb4,hg4⟩;have hx4:=hx3.cur cur3 (by decide) hg4;have K4:=K3.gr hg4;have hy4:=hy3.cur cur3 (by decide) hg4;have own5:=own4.cur cur3 (by decide) hg4;have hk00:0<=k0/\k0<=4:=by unfold dV at hk0;omega
 obtain⟨k0,rfl⟩:=Int.eq_ofNat_of_zero_le hk00.1;have hk04:k0<=4:=(by omega);obtain⟨br,hbr⟩:=Pj w3.heap.size;rw[<-hbr]at hy4 hlt0;clear hk00 hk0 hx3 hy3 cur3 own4 B3;go_wp2;rw[<-hbr];have Hbr:=Pm hbr;have Hrl:=Pm hrl;have Hrows:=Pm hrows;clear hbr hrl hrows hg4;go_loopw [6] (fun s6 wr=>∃(k:Nat) (rows:List Int),k<=4/\s6= .int .i64 k/\Hid (rows.length=b')/\Hid (∀r∈rows,0<=r/\r<=255)/\aD 3 1 bQ w.heap.size wr (.slice A3 b' c3) rows/\Blk wr br 26 #[.slice A3 b' c3]/\Blk wr w.heap.size 26 #[.slice none 0 0]/\Cur wr g v l.length/\Below W.heap.size W wr/\kI w g wr) (fun i _=>(intOf i).toNat)
 case atStart=>exact⟨k0,_,hk04,rfl,Hrl,Hrows,own5,hy4,hx4,hcur4,hb4,K4⟩
 case round=>
  obtain⟨k,rows,hk,rfl,Hl,Hr,hown,hy,hx,hc,hbe,kk⟩:=hrel;clear own5 hy4 hx4 hcur4 hb4;by_cases hk1:0<k
  . go_wp2_with fail
    refine(aO b' W g v l _ h Hok hg hbe hc (by omega)).mono ?_;rintro e w5 ⟨y,rfl,hyy,hcur5,hb5,hg5⟩;have hyyy:0<=y/\y<b':=by unfold dV at hyy;omega
    obtain⟨y,rfl⟩:=Int.eq_ofNat_of_zero_le hyyy.1;have hyb:y<b':=(by omega);clear hyyy hyy;have own1:=hown.cur hc (by decide) hg5;have hy1:=hy.cur hc (by decide) hg5;have hx1:=hx.cur hc (by decide) hg5;have kk5:=kk.gr hg5;go_wp2_with fail
    refine(aO a' W g v l _ h Hok hg hb5 hcur5 (by omega)).mono ?_;rintro e w6 ⟨x,rfl,hxx,hcur6,hb6',hg6⟩;have hxxx:0<=x/\x<a':=by unfold dV at hxx;omega
    obtain⟨x,rfl⟩:=Int.eq_ofNat_of_zero_le hxxx.1;have hxa:x<a':=(by omega);clear hxxx hxx;have own2:=own1.cur hcur5 (by decide) hg6;have hy2:=hy1.cur hcur5 (by decide) hg6;have hx2:=hx1.cur hcur5 (by decide) hg6;have kk6:=kk5.gr hg6;have hyl:y<rows.length:=by rw[Hl.out];exact hyb
    obtain⟨r,hr⟩:=Pj (rows[y]);have hrb:=Hr.out rows[y] (List.getElem_mem hyl);rw[<-hr]at hrb;obtain⟨hr0,hr1⟩:=hrb;obtain⟨g5,rfl,hBg,hgl⟩:=own2.split hyl;have s1:=own2.slot aJ Nat.one_pos hyl 0 (.int .i64 r) (by rw[hr];rfl);have s2:=own2.free y;rw[Nat.mul_one,Nat.add_zero]at s1;have q1:=hy2.c1;have q2:=hy2.lt;have hyI:(y:Int)<b':=(by omega);have hp:=Db (w:=x) (by omega);have hge:=MH (r:=r) (P:=2^x) (h0:=hr0) (hP:=hp.1);have e0:=xH (r/2^x);have Hrr:=Pm hr;clear hr hown hy hx hc hg5 hg6 own1 hy1 hx1 hcur5 hb5 hbe;by_cases ht:(r/2^x)%2=1
    . have hge2:=hge ht;have t1:((r/2^x)%2==1)=true:=(by simpa using ht);obtain⟨P,hP⟩:=Pj ((2:Int)^x);rw[<-hP]at hp hge2;have e1:IntKind.i64.wrap ((2:Int)^x)=P:=by rw[<-hP];exact IntWalk.i64_in _ (by omega)
      have e2:IntKind.i64.wrap (r-P)=r-P:=IntWalk.i64_in _ (by omega);have HP:=Pm hP;clear ht hge hP;have hgo:g5≠br:=fun e=>(own2.apart hy2 (by decide)) (by rw[e];rfl)
      have hgx:g5≠w.heap.size:=fun e=>(own2.apart hx2 (by decide)) (by rw[e];rfl)
      have hgc:g5≠g:=fun e=>(hcur6.apart own2 (by decide)) (by rw[e];rfl)
      have own3:=(own2.iT aJ (y:=r-P) hyl rfl).drewN 1;have hy3:=(hy2.far (p:=⟨g5,y,none⟩) (fun e=>hgo e.symm) (.int .i64 (r-P))).drewN 1;have hx3:=(hx2.far (p:=⟨g5,y,none⟩) (fun e=>hgx e.symm) (.int .i64 (r-P))).drewN 1;have cur7:=(hcur6.far (p:=⟨g5,y,none⟩) (fun e=>hgc e.symm) (.int .i64 (r-P))).drewN 1;have B7:=below_drewN (hb6'.st ⟨g5,y,none⟩ (.int .i64 (r-P)) (le_trans hW hBg)) 1;have kk7:=(kk6.st (p:=⟨g5,y,none⟩) hBg (.int .i64 (r-P))).drewN 1;have HL:Hid ((rows.set y (r-P)).length=b'):=Pm (by rw[List.length_set];exact Hl.out)
      have HR : Hid (∀ z ∈ rows.set y (r - P), 0 <= z /\ z <= 255) := Pm fun z hz => by
       rcases List.mem_or_eq_of_mem_set hz with hz|rfl
       . exact Hr.out z hz
       . omega
      go_wp2_with fail
      go_still_tail 12,(by kernel_rfl)
      change wpList _ _ _ _ _ (World.drew _);clear e0 e1 e2;go_wp2;go_roundw
      case rel=>exact⟨k-1,_,by omega,by go_num,HL,HR,own3,hy3,hx3,cur7,B7,kk7⟩
      case measure=>simp[intOf];omega
    . have t1 : ((r / 2 ^ x) % 2 == 1) = false := by simpa using ht
      clear hge ht;go_wp2;go_roundw
      case rel=>exact⟨k-1,rows,by omega,by go_num,Hl,Hr,own2,hy2,hx2,hcur6,hb6',kk6⟩
      case measure=>simp[intOf];omega
  . obtain rfl : k = 0 := by omega
    by_cases ha:a'<6
    . have haI : (a' : Int) < 6 := by omega
      go_wp2_with fail
      refine(xI 3 W g v l _ h Hok hg hbe hc (by decide)).mono ?_;rintro e w5 ⟨yes,rfl,hcur5,hb5,hg5⟩;have own1:=hown.cur hc (by decide) hg5;have hy1:=hy.cur hc (by decide) hg5;have hx1:=hx.cur hc (by decide) hg5;have kk5:=kk.gr hg5;rcases yes with _|_
      . skip;have z1:=hy1.c1;have z2:=hy1.lt;have z3:=hx1.frozen 0;have z4:=hx1.lt;have z6:=hx1.c1;have z5:=(hx1.C8 0 (.slice A3 b' c3)).cell 0;simp at z5;go_wp2;refine bodyPost_ret (v:= .agg #[.slice A3 b' c3]) (by simp[results,results180,go_sem,z5]) rfl ⟨rows,A3,c3,by rw[Hl.out],?_,by rw[Hl.out];exact hb1',by rw[Hl.out];exact hb6,Hr.out,hcur5.far (fun e=>hcur5.ne hx1 (by decide) e.symm) _,hb5.st _ _ hW,kk5.st (p:=⟨w.heap.size,0,none⟩) (le_refl _) _⟩;rw[Hl.out];exact own1.far (fun e=>own1.apart hx1 (by decide) e) _
      . go_wp2_with fail
        refine(aO b' W g v l _ h Hok hg hb5 hcur5 (by omega)).mono ?_;rintro e w6 ⟨y,rfl,hyy,hcur6,hb6',hg6⟩;have hyyy:0<=y/\y<b':=by unfold dV at hyy;omega
        obtain⟨y,rfl⟩:=Int.eq_ofNat_of_zero_le hyyy.1;have hyb:y<b':=(by omega);clear hyyy hyy;have own2:=own1.cur hcur5 (by decide) hg6;have hy2:=hy1.cur hcur5 (by decide) hg6;have hx2:=hx1.cur hcur5 (by decide) hg6;have kk6:=kk5.gr hg6;have hyl:y<rows.length:=by rw[Hl.out];exact hyb
        obtain⟨r,hr⟩:=Pj (rows[y]);have hrb:=Hr.out rows[y] (List.getElem_mem hyl);rw[<-hr]at hrb;obtain⟨hr0,hr1⟩:=hrb;obtain⟨V,e1,hV0,hV1⟩:=Lg hr0 hr1 ha;obtain⟨g5,rfl,hBg,hgl⟩:=own2.split hyl;have s1:=own2.slot aJ Nat.one_pos hyl 0 (.int .i64 r) (by rw[hr];rfl);have s2:=own2.free y;rw[Nat.mul_one,Nat.add_zero]at s1;have q1:=hy2.c1;have q2:=hy2.lt;have hyI:(y:Int)<b':=(by omega);have Hrr:=Pm hr;clear hr hown hy hx hc hg5 hg6 own1 hy1 hx1 hcur5 hb5 hbe;have hgo:g5≠br:=fun e=>(own2.apart hy2 (by decide)) (by rw[e];rfl)
        have hgx:g5≠w.heap.size:=fun e=>(own2.apart hx2 (by decide)) (by rw[e];rfl)
        have hgc:g5≠g:=fun e=>(hcur6.apart own2 (by decide)) (by rw[e];rfl)
        have own3:=own2.iT aJ (y:=V) hyl rfl;have hx3:=hx2.far (p:=⟨g5,y,none⟩) (fun e=>hgx e.symm) (.int .i64 V);have cur7:=hcur6.far (p:=⟨g5,y,none⟩) (fun e=>hgc e.symm) (.int .i64 V);have B7:=hb6'.st ⟨g5,y,none⟩ (.int .i64 V) (le_trans hW hBg);have kk7:=kk6.st (p:=⟨g5,y,none⟩) hBg (.int .i64 V);have HL:Hid ((rows.set y V).length=b'):=Pm (by rw[List.length_set];exact Hl.out)
        have HR : Hid (∀ z ∈ rows.set y V, 0 <= z /\ z <= 255) := Pm fun z hz => by
         rcases List.mem_or_eq_of_mem_set hz with hz|rfl
         . exact Hr.out z hz
         . exact⟨hV0,hV1⟩
        have hgo':=hgo.symm;have hgx':=hgx.symm;have z3:=hx2.frozen 0;have z4:=hx2.lt;have z6:=hx2.c1;have z5:=(hx3.C8 0 (.slice (some ⟨g5,0,none⟩) b' c3)).cell 0;simp at z5;go_wp2_with fail
        go_still_tail 12,(by kernel_rfl)
        change wpList _ _ _ _ _ (World.drew _);clear e1;go_wp2;refine bodyPost_ret (v:= .agg #[.slice (some ⟨g5,0,none⟩) b' c3]) (by simp[results,results180,go_sem,z5]) rfl ⟨rows.set y V,some ⟨g5,0,none⟩,c3,by rw[HL.out],?_,by rw[HL.out];exact hb1',by rw[HL.out];exact hb6,HR.out,(cur7.far (fun e=>cur7.ne hx3 (by decide) e.symm) _).drewN 1,below_drewN (B7.st _ _ hW) 1,(kk7.st (p:=⟨w.heap.size,0,none⟩) (le_refl _) _).drewN 1⟩;rw[HL.out];exact(own3.far (fun e=>own3.apart hx3 (by decide) e) _).drewN 1
    . have haI : ¬ (a' : Int) < 6 := by omega
      have z1:=hy.c1;have z2:=hy.lt;have z3:=hx.frozen 0;have z4:=hx.lt;have z6:=hx.c1;have z5:=(hx.C8 0 (.slice A3 b' c3)).cell 0;simp at z5;go_wp2;refine bodyPost_ret (v:= .agg #[.slice A3 b' c3]) (by simp[results,results180,go_sem,z5]) rfl ⟨rows,A3,c3,by rw[Hl.out],?_,by rw[Hl.out];exact hb1',by rw[Hl.out];exact hb6,Hr.out,hc.far (fun e=>hc.ne hx (by decide) e.symm) _,hbe.st _ _ hW,kk.st (p:=⟨w.heap.size,0,none⟩) (le_refl _) _⟩;rw[Hl.out];exact hown.far (fun e=>hown.apart hx (by decide) e) _
section
variable {W w0 w w' : World} {g : Nat} {v : Value} {n : Nat}
theorem OP {w1 w2:World} {r:Option Nat} {b:Nat} (h:w.grownBy w1 r) (k:w1.grownBy w2 (some b)) (hb:w.heap.size<=b):w.grownBy w2 r:=
 ⟨k.os.trans h.os,k.tape.trans h.tape,k.output.trans h.output,le_trans h.size k.size,fun i hi hne=>(k.block i (Nat.lt_of_lt_of_le hi h.size) (fun e=>by injection e with e;omega)).trans (h.block i hi hne)⟩
theorem M8 {w1 w2:World} {r:Option Nat} (h:w.grownBy w1 r) (k:Below w1.heap.size w1 w2):w.grownBy w2 r:=
 ⟨k.os.trans h.os,k.tape.trans h.tape,k.output.trans h.output,le_trans h.size k.size,fun i hi hne=>(k.block i (Nat.lt_of_lt_of_le hi h.size)).trans (h.block i hi hne)⟩
structure DS (W w0 w:World) (g:Nat) (v:Value) (n:Nat):Prop where
  cur:Cur w g v n
  B:Below W.heap.size W w
  gr:w0.grownBy w (some g)
theorem DS.refl (hc:Cur w g v n) (hB:Below W.heap.size W w):DS W w w g v n:=⟨hc,hB,World.grownBy.refl _ _⟩
theorem DS.bl (h:DS W w0 w g v n) (hb:Below w.heap.size w w'):DS W w0 w' g v n:=⟨h.cur.bl hb,h.B.tr hb,M8 h.gr hb⟩
theorem DS.al (h:DS W w0 w g v n) (o:Obj):DS W w0 (w.alloc o) g v n:=h.bl ((Below.refl _ _).al o)
theorem DS.dr (h:DS W w0 w g v n) (hc:Cur w' g v n) (hB:Below W.heap.size W w') (hg:w.grownBy w' (some g)):DS W w0 w' g v n:=⟨hc,hB,uK h.gr hg⟩
theorem DS.tr {w1:World} (h:DS W w0 w1 g v n) (k:DS W w1 w g v n):DS W w0 w g v n:=⟨k.cur,k.B,uK h.gr k.gr⟩
theorem DS.st {b:Nat} (h:DS W w0 w g v n) (hg:w.grownBy w' (some b)) (hb:w0.heap.size<=b) (hW:W.heap.size<=w0.heap.size) (hne:g≠b):DS W w0 w' g v n:=by
 obtain⟨i,x,hi,hk⟩:=h.cur;exact⟨⟨i,x,hi,hk.grown hg (by simp;exact hne)⟩,h.B.grown hg h.B.size (fun k hk=>by injection hk with hk;omega),OP h.gr hg hb⟩
theorem DS.stN {o:Obj} (h:DS W w0 w g v n) (hg:(w.alloc o).grownBy w' (some w.heap.size)) (hW:W.heap.size<=w0.heap.size):DS W w0 w' g v n:=by
 obtain⟨i,x,hi,hk⟩:=h.cur;exact(h.al o).st hg h.gr.size hW (ne_of_lt hk.lt)
theorem DS.app {α:Type} {E:TypeId} {size B:Nat} {enc:α->List Value} {u:Value} {l:List α} (h:DS W w0 w g v n) (own:aD E size enc B w u l) (ht:E≠135) (hB:w0.heap.size<=B) (hW:W.heap.size<=w0.heap.size) (hg:w.grownBy w' u.ownBlock):DS W w0 w' g v n:=by
 have hne:=h.cur.apart own ht;obtain⟨i,x,hi,hk⟩:=h.cur;refine⟨⟨i,x,hi,hk.grown hg (fun e=>hne e.symm)⟩,Below.app h.B own (le_trans hW hB) hg,⟨hg.os.trans h.gr.os,hg.tape.trans h.gr.tape,hg.output.trans h.gr.output,le_trans h.gr.size hg.size,fun i hi hn=>(hg.block i (Nat.lt_of_lt_of_le hi h.gr.size) (fun e=> ?_)).trans (h.gr.block i hi hn)⟩⟩;have:=(World.ownsRow.lt own i e.symm).1;omega
theorem Blk.ds {b:Nat} {t:TypeId} {cs:Array Value} (hb:Blk w b t cs) (hc:Cur w g v n) (hg:w.grownBy w' (some g)) (ht:t≠135):Blk w' b t cs:=hb.cur hc ht hg
theorem aB.cur {B:Nat} {u1 u2 u3 u4:Value} {x:Fl} (h:aB B w u1 u2 u3 u4 x) (hc:Cur w g v n) (hg:w.grownBy w' (some g)):aB B w' u1 u2 u3 u4 x:=by
 obtain⟨_,_,_,b⟩:=hc;exact aB.bZ h b (by decide) (by decide) (by decide) hg
end
def NR (W:World) (g:Nat) (u:Value) (n:Nat) (w:World) (e:Ending) (w':World):Prop:=∃k a b:Int,e= .returned (.agg #[.int .i64 k,.int .i64 a,.int .i64 b])/\mD k a b=true/\DS W w w' g u n
theorem Gg (W : World) (g : Nat) (v : Value) (l : List Int) (w : World) (h : Rd 1 mI W v l) (Hok : Hid (nH (fun x => 0 <= x /\ x <= 255) l)) (hg : W.heap.size <= g) (hbel : Below W.heap.size W w) (hcur : Cur w g v l.length) :
 Calls prog 126 #[.pointer (some ⟨g,0,none⟩)] w (NR W g v l.length w):=by
 have bX:=Blk.aW w 73 #[.int .i64 0,.int .i64 0,.int .i64 0];have D:=(DS.refl hcur hbel).al (.cells #[.int .i64 0,.int .i64 0,.int .i64 0] 73);have hne:=(D.cur.ne bX (by decide)).symm;have hW:=hbel.size;go_enter Tryz.func126,Tryz.ntmps126
 go_wp2_with fail
 refine(aO 9 W g v l _ h Hok hg D.B D.cur (by decide)).mono ?_;rintro e w1 ⟨x,rfl,hx,c1,B1,g1⟩;have bX:=bX.ds D.cur g1 (by decide);have D:=D.dr c1 B1 g1;obtain⟨gX,hgX'⟩:=Pj w.heap.size;rw[<-hgX']at bX hne⊢;have hgX:w.heap.size<=gX:=(by omega);have hxx:x=0∨x=1∨x=2∨x=3∨(x≠0/\x≠1/\x≠2/\x≠3):=(by omega);clear hx c1 B1 g1 hgX';rcases hxx with rfl|rfl|rfl|rfl|⟨e0,e1,e2,e3⟩
 . go_wp2_with fail
   refine(aO 8 W g v l _ h Hok hg D.B D.cur (by decide)).mono ?_;rintro e w2 ⟨y,rfl,hy,c1,B1,g1⟩;have bX:=bX.ds D.cur g1 (by decide);have D:=D.dr c1 B1 g1;go_wp2_with (refine aA rfl 73 _ _ rfl gX #[.int .i64 2,.int .i64 y,.int .i64 0] rfl rfl _ _ bX (by kernel_rfl) rfl (by simp[oneCell']) ?_;intro wE bE hgE)
   obtain⟨q_0,q_1,q_2⟩:=bE.n3;refine bodyPost_ret (v:= .agg #[.int .i64 2,.int .i64 y,.int .i64 0]) (by simp[results,results126,go_sem,q_0,q_1,q_2]) rfl ⟨_,_,_,rfl,(by unfold dV at hy;unfold mD inB;simp;omega),D.st hgE hgX hW hne⟩
 . go_wp2_with fail
   refine(aO 20 W g v l _ h Hok hg D.B D.cur (by decide)).mono ?_;rintro e w2 ⟨y,rfl,hy,c1,B1,g1⟩;have bX:=bX.ds D.cur g1 (by decide);have D:=D.dr c1 B1 g1;have hyr:0<=y/\y<=19:=by unfold dV at hy;omega
   have hwy:IntKind.i64.wrap (1+y)=1+y:=IntWalk.i64_in _ (by omega);go_wp2_with (refine aA rfl 73 _ _ rfl gX #[.int .i64 3,.int .i64 (1+y),.int .i64 0] rfl rfl _ _ bX (by kernel_rfl) rfl (by simp[oneCell']) ?_;intro wE bE hgE)
   obtain⟨q_0,q_1,q_2⟩:=bE.n3;refine bodyPost_ret (v:= .agg #[.int .i64 3,.int .i64 (1+y),.int .i64 0]) (by simp[results,results126,go_sem,q_0,q_1,q_2]) rfl ⟨_,_,_,rfl,(by unfold mD inB;simp;omega),D.st hgE hgX hW hne⟩
 . skip;go_wp2_with (refine aA rfl 73 _ _ rfl gX #[.int .i64 4,.int .i64 0,.int .i64 0] rfl rfl _ _ bX (by kernel_rfl) rfl (by simp[oneCell']) ?_;intro wE bE hgE)
   obtain⟨q_0,q_1,q_2⟩:=bE.n3;refine bodyPost_ret (v:= .agg #[.int .i64 4,.int .i64 0,.int .i64 0]) (by simp[results,results126,go_sem,q_0,q_1,q_2]) rfl ⟨_,_,_,rfl,(by decide),D.st hgE hgX hW hne⟩
 . skip;go_wp2_with (refine aA rfl 73 _ _ rfl gX #[.int .i64 5,.int .i64 0,.int .i64 0] rfl rfl _ _ bX (by kernel_rfl) rfl (by simp[oneCell']) ?_;intro wE bE hgE)
   obtain⟨q_0,q_1,q_2⟩:=bE.n3;refine bodyPost_ret (v:= .agg #[.int .i64 5,.int .i64 0,.int .i64 0]) (by simp[results,results126,go_sem,q_0,q_1,q_2]) rfl ⟨_,_,_,rfl,(by decide),D.st hgE hgX hW hne⟩
 . have f0:(x==0)=false:=beq_false_of_ne e0;have f1:(x==1)=false:=beq_false_of_ne e1;have f2:(x==2)=false:=beq_false_of_ne e2;have f3:(x==3)=false:=beq_false_of_ne e3;go_wp2_with fail
   refine(aO 3 W g v l _ h Hok hg D.B D.cur (by decide)).mono ?_;rintro e w2 ⟨y,rfl,hy,c1,B1,g1⟩;have bX:=bX.ds D.cur g1 (by decide);have D:=D.dr c1 B1 g1;clear c1 B1 g1;go_wp2_with fail
   refine(aO 3 W g v l _ h Hok hg D.B D.cur (by decide)).mono ?_;rintro e w3 ⟨z,rfl,hz,c1,B1,g1⟩;have bX:=bX.ds D.cur g1 (by decide);have D:=D.dr c1 B1 g1;go_wp2_with (refine aA rfl 73 _ _ rfl gX #[.int .i64 1,.int .i64 y,.int .i64 z] rfl rfl _ _ bX (by kernel_rfl) rfl (by simp[oneCell']) ?_;intro wE bE hgE)
   obtain⟨q_0,q_1,q_2⟩:=bE.n3;refine bodyPost_ret (v:= .agg #[.int .i64 1,.int .i64 y,.int .i64 z]) (by simp[results,results126,go_sem,q_0,q_1,q_2]) rfl ⟨_,_,_,rfl,(by unfold dV at hy hz;unfold mD inB;simp;omega),D.st hgE hgX hW hne⟩
def Mj (W:World) (g:Nat) (u:Value) (n:Nat) (w:World) (e:Ending) (w':World):Prop:=∃(l:List (Int×Int×Int)) (A:Option Addr) (c:Nat),e= .returned (.slice A l.length c)/\aD 73 3 xG w.heap.size w' (.slice A l.length c) l/\l.length<=17/\(∀a∈l,mD a.1 a.2.1 a.2.2=true)/\DS W w w' g u n
theorem EP (W : World) (g : Nat) (v : Value) (l : List Int) (w : World) (h : Rd 1 mI W v l) (Hok : Hid (nH (fun x => 0 <= x /\ x <= 255) l)) (hg : W.heap.size <= g) (hbel : Below W.heap.size W w) (hcur : Cur w g v l.length) :
 Calls prog 61 #[.pointer (some ⟨g,0,none⟩)] w (Mj W g v l.length w):=by
 have hW:=hbel.size;have D:=(DS.refl hcur hbel).al (.cells #[] 73);have own0:=iK w (E:=73) (size:=3) (enc:=xG) w.heap.size rfl w.heap.size (le_refl _);go_enter Tryz.func61,Tryz.ntmps61
 go_wp2_with fail
 refine(aO 18 W g v l _ h Hok hg D.B D.cur (by decide)).mono ?_;rintro e w1 ⟨n,rfl,hn,c1,B1,g1⟩;have own1:=own0.cur D.cur (by decide) g1;have D1:=D.dr c1 B1 g1;have hnn:0<=n/\n<=17:=by unfold dV at hn;omega
 clear own0 D c1 B1 g1 hn;go_wp2;go_loopw [3,5] (fun s3 s5 wr=>∃(ac:List (Int×Int×Int)) (A:Option Addr) (c:Nat),(ac.length:Int)<=n/\s5= .int .i64 ac.length/\s3= .slice A ac.length c/\Hid (∀a∈ac,mD a.1 a.2.1 a.2.2=true)/\aD 73 3 xG w.heap.size wr (.slice A ac.length c) ac/\DS W w wr g v l.length) (fun _ i _=>n.toNat-(intOf i).toNat)
 case atStart=>exact⟨[],_,_,by simp;omega,rfl,rfl,Pm (fun x hx=>by cases hx),own1,D1⟩
 case round=>
  obtain⟨ac,A,c,hk,rfl,rfl,Ha,hown,D⟩:=hrel;clear own1 D1;by_cases hlt:(ac.length:Int)<n
  . go_wp2_with fail
    refine(Gg W g v l _ h Hok hg D.B D.cur).mono ?_;rintro e w2 ⟨x,y,z,rfl,hxy,D2⟩;have own2:=(hown.cur D.cur (by decide) D2.gr).alloc (.cells #[.int .i64 x,.int .i64 y,.int .i64 z] 73);have D2:=(D.tr D2).al (.cells #[.int .i64 x,.int .i64 y,.int .i64 z] 73);have H8:Hid ((ac.length+1)*24<=140737488355328):=Pm (by omega);have HM:Hid (ac.length+1<=maxLen):=Pm (by unfold maxLen;omega);obtain⟨W2,hW2⟩:=Pj (w2.alloc (.cells #[.int .i64 x,.int .i64 y,.int .i64 z] 73));have bA:=Blk.aW w2 73 #[.int .i64 x,.int .i64 y,.int .i64 z];go_upto_region 7 with(fail)
    rw[<-hW2]at own2 D2 bA⊢;clear hW2;obtain⟨a_0,a_1,a_2⟩:=bA.n3;go_wp2_with (at_builtin;go_must (refine tF (enc:=xG) Ov CZ Ou (B:=w.heap.size) W2 (le_trans D2.gr.size (le_refl _)) own2 (x,y,z) rfl H8.out HM.out rfl _ _ rfl rfl rfl ?_);intro v4 w4 own4 hg4 hv4;obtain⟨A4,c4,rfl⟩:=hv4)
    have D4:=D2.app own2 (by decide) (le_refl _) hW hg4;go_roundw
    case rel=>exact⟨ac++[(x,y,z)],A4,c4,by simp;omega,by simp,by simp,Pm (fun q hq=>(List.mem_append.1 hq).elim (Ha.out q) (fun hq=>by rw[List.mem_singleton.1 hq];exact hxy)),by rw[List.length_append,List.length_singleton];exact own4,D4⟩
    case measure=>simp[intOf];omega
  . go_wp2;go_ret;exact⟨ac,A,c,rfl,hown,by omega,Ha.out,D⟩
def I8 (W:World) (g:Nat) (u:Value) (n:Nat) (w:World) (e:Ending) (w':World):Prop:=∃(l:List (Int×Int)) (A:Option Addr) (c:Nat),e= .returned (.slice A l.length c)/\aD 102 2 dD w.heap.size w' (.slice A l.length c) l/\1<=l.length/\l.length<=4/\(∀x∈l,Co x)/\DS W w w' g u n
theorem ER (W : World) (g : Nat) (v : Value) (l : List Int) (w : World) (h : Rd 1 mI W v l) (Hok : Hid (nH (fun x => 0 <= x /\ x <= 255) l)) (hg : W.heap.size <= g) (hbel : Below W.heap.size W w) (hcur : Cur w g v l.length) :
 Calls prog 70 #[.pointer (some ⟨g,0,none⟩)] w (I8 W g v l.length w):=by
 have hW:=hbel.size;have D:=(DS.refl hcur hbel).al (.cells #[] 102);have own0:=iK w (E:=102) (size:=2) (enc:=dD) w.heap.size rfl w.heap.size (le_refl _);go_enter Tryz.func70,Tryz.ntmps70
 go_wp2_with fail
 refine(aO 4 W g v l _ h Hok hg D.B D.cur (by decide)).mono ?_;rintro e w1 ⟨n,rfl,hn,c1,B1,g1⟩;have own1:=own0.cur D.cur (by decide) g1;have D1:=D.dr c1 B1 g1;have hnn:0<=n/\n<=3:=by unfold dV at hn;omega
 clear own0 D c1 B1 g1 hn;go_wp2;go_loopw [3,5] (fun s3 s5 wr=>∃(bs:List (Int×Int)) (A:Option Addr) (c:Nat),(bs.length:Int)<=1+n/\s5= .int .i64 bs.length/\s3= .slice A bs.length c/\Hid (∀x∈bs,Co x)/\aD 102 2 dD w.heap.size wr (.slice A bs.length c) bs/\DS W w wr g v l.length) (fun _ i _=>(1+n).toNat-(intOf i).toNat)
 case atStart=>exact⟨[],_,_,by simp;omega,rfl,rfl,Pm (fun x hx=>by cases hx),own1,D1⟩
 case round=>
  obtain⟨bs,A,c,hk,rfl,rfl,Hb,hown,D⟩:=hrel;clear own1 D1;by_cases hlt:(bs.length:Int)<1+n
  . go_wp2_with fail
    refine(aO 12 W g v l _ h Hok hg D.B D.cur (by decide)).mono ?_;rintro e w2 ⟨s,rfl,hs,c2,B2,g2⟩;have own2:=hown.cur D.cur (by decide) g2;have D2:=D.dr c2 B2 g2;have hss:0<=s/\s<=11:=by unfold dV at hs;omega
    clear hs c2 B2 g2;go_wp2_with fail
    refine(aO 9 W g v l _ h Hok hg D2.B D2.cur (by decide)).mono ?_;rintro e w3 ⟨t,rfl,ht,c3,B3,g3⟩;have own3:=own2.cur D2.cur (by decide) g3;have D3:=D2.dr c3 B3 g3;have htt:0<=t/\t<=8:=by unfold dV at ht;omega
    clear ht c3 B3 g3;have H8:Hid ((bs.length+1)*16<=140737488355328):=Pm (by omega);have HM:Hid (bs.length+1<=maxLen):=Pm (by unfold maxLen;omega);go_wp2_with (at_builtin;go_must (refine tF (enc:=dD) Jj fQ Oo (B:=w.heap.size) w3 (le_trans D3.gr.size (le_refl _)) own3 (1+s,1+s+1+t) rfl H8.out HM.out rfl _ _ rfl rfl rfl ?_);intro v4 w4 own4 hg4 hv4;obtain⟨A4,c4,rfl⟩:=hv4)
    have D4:=D3.app own3 (by decide) (le_refl _) hW hg4;go_roundw
    case rel=>exact⟨bs++[(1+s,1+s+1+t)],A4,c4,by simp;omega,by simp,by simp,Pm (fun x hx=>(List.mem_append.1 hx).elim (Hb.out x) (fun hx=>by rw[List.mem_singleton.1 hx];unfold Co;simp only;omega)),by rw[List.length_append,List.length_singleton];exact own4,D4⟩
    case measure=>simp[intOf];omega
  . go_wp2;go_ret;exact⟨bs,A,c,rfl,hown,by omega,by omega,Hb.out,D⟩
theorem OQ (w:World) (x:Int):(Instr.buildSlice 24 1 #[(0,.int .i64 x)]).run prog w= .ok (.slice (some ⟨w.heap.size,0,none⟩) 1 1) (w.alloc (.cells #[.int .i64 x] 3)):=by
 obtain⟨ht,hinfo,hzs,hsz⟩:=fE;obtain⟨i0,hi,hz0,hz1,hz2⟩:=info_parts hinfo;simp[Instr.buildSlice,run_underlying ht,sizeOf,typeInfo,hi,hz1,hz0,newRow,Instr.fill,cells,Array.range,Array.zipIdx];refine congrArg (fun cs=>w.alloc (Obj.cells cs 3)) (Array.ext (by simp[hz1]) (fun i h1 h2=> ?_));obtain rfl:i=0:=by simpa using h2
 simp
theorem uG {ops:Array Oper} {o:Oper} {a:Act} {w:World} {K:Act->World->Prop} {Q:Exit->Act->World->Prop} {E':Prop} {x:Int} (hgd:o.guard=none) (y:Operand) (ho:o.op= .buildSlice 24 1 #[(0,y)]) (hy:a.eval y= .int .i64 x)
    (h:∀g w',Below w.heap.size w w'->Blk w' g 3 #[.int .i64 x]->w.heap.size<=g->K (a.put o.dst (.slice (some ⟨g,0,none⟩) 1 1)) w'):
    if Region.wanted o (yielded ops a.tmps)=true then Oper.wp prog o a w K Q else E':=by
 have hw:Region.wanted o (yielded ops a.tmps)=true:=(by simp[Region.wanted,hgd]);rw[if_pos hw];have hrun:=OQ w x;unfold Oper.wp execOp;simp only[ho,Sem.run_bind,Sem.run_pure,Result.andThen_ok,List.map_toArray,List.map_cons,List.map_nil,hy,hrun];exact h _ _ ((Below.refl _ _).al _) (Blk.aW w 3 #[.int .i64 x]) (le_refl _)
theorem OT (w:World) (x y z:Int):(Instr.buildSlice 24 3 #[(0,.int .i64 x),(1,.int .i64 y),(2,.int .i64 z)]).run prog w= .ok (.slice (some ⟨w.heap.size,0,none⟩) 3 3) (w.alloc (.cells #[.int .i64 x,.int .i64 y,.int .i64 z] 3)):=by
 obtain⟨ht,hinfo,hzs,hsz⟩:=fE;obtain⟨i0,hi,hz0,hz1,hz2⟩:=info_parts hinfo;simp[Instr.buildSlice,run_underlying ht,sizeOf,typeInfo,hi,hz1,hz0,newRow,Instr.fill,cells,Array.range,Array.zipIdx];refine congrArg (fun cs=>w.alloc (Obj.cells cs 3)) (Array.ext (by simp[hz1]) (fun i h1 h2=> ?_));have h3:i=0∨i=1∨i=2:=by simp at h2;omega
 rw[<-Option.some_inj,<-Array.getElem?_eq_getElem,<-Array.getElem?_eq_getElem];rcases h3 with rfl|rfl|rfl<;>simp[Array.getElem?_setIfInBounds,hz1]
theorem Gh {ops:Array Oper} {o:Oper} {a:Act} {w:World} {K:Act->World->Prop} {Q:Exit->Act->World->Prop} {E':Prop} {x y z:Int} (hgd:o.guard=none) (p q r:Operand) (ho:o.op= .buildSlice 24 3 #[(0,p),(1,q),(2,r)]) (hp:a.eval p= .int .i64 x) (hq:a.eval q= .int .i64 y) (hr:a.eval r= .int .i64 z)
    (h:∀g w',Below w.heap.size w w'->aD 3 1 bQ w.heap.size w' (.slice (some ⟨g,0,none⟩) 3 3) [x,y,z]->w.heap.size<=g->K (a.put o.dst (.slice (some ⟨g,0,none⟩) 3 3)) w'):
    if Region.wanted o (yielded ops a.tmps)=true then Oper.wp prog o a w K Q else E':=by
 have hw:Region.wanted o (yielded ops a.tmps)=true:=(by simp[Region.wanted,hgd]);rw[if_pos hw];have hrun:=OT w x y z;unfold Oper.wp execOp;simp only[ho,Sem.run_bind,Sem.run_pure,Result.andThen_ok,List.map_toArray,List.map_cons,List.map_nil,hp,hq,hr,hrun];exact h _ _ ((Below.refl _ _).al _) ⟨by simp[bQ],.inr ⟨w.heap.size,3,#[.int .i64 x,.int .i64 y,.int .i64 z],rfl,le_refl _,heap_alloc_new w _,by simp,by simp[maxLen],by simp,by simp[bQ]⟩⟩ (le_refl _)
end Go.Proofs.YtljfoohaapckeaaGreatDoor
