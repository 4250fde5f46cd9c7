/- ChooseBoxes of both sides, for all arguments, and the law FnExactChooseBoxes. No conditions. -/
import Derived.Test.YtljfoohaapckeaaGreatDoorZChooseS
import Derived.Test.YtljfoohaapckeaaGreatDoorZK3
namespace Go.Proofs.YtljfoohaapckeaaGreatDoor
open Go.ChangeShapes Go.WideShapes Go.ChangeAt Go.RowKit
set_option linter.unusedVariables false
set_option maxHeartbeats 4000000
set_option maxRecDepth 100000
theorem IU {l:List (Int×Int)} (hok:dR l l.length=true) {n:Nat} (hn:n<=500):cheapest l n=lp l n:=by
 rw[nQ hok hn];unfold lp;rw[List.getD_eq_getElem?_getD,List.getElem?_eq_getElem (by rw[fM];omega)];rfl
theorem Eb {l:List (Int×Int)} (hok:dR l l.length=true) {n:Nat} (hn:n<=500):chosen l n=choose l n (lp l n):=by
 obtain⟨hall,h1,h5⟩:=kL _ _ hok;have hne:l≠[]:=by rintro rfl;simp at h1
 have:=nO hall hne n;unfold chosen;rw[IU hok hn,if_pos this,Int.toNat_natCast]
theorem vF {l:List (Int×Int)} {n:Int} (h:(dR l l.length&&inB n 0 500)=false):cheapest l n= -1:=by
 unfold cheapest;rw[h];rfl
theorem Gb {l:List (Int×Int)} {n:Int} (h:(dR l l.length&&inB n 0 500)=false):chosen l n=[]:=by
 unfold chosen;rw[vF h];rfl
theorem IV (v:Value) (l:List (Int×Int)) (n:Int) (w:World) (h:Rd 2 cO w v l):
 Calls Tryz.prog 46 #[v,.int .i64 n] w (iT 3 1 bH (chosen l n) w):=by
 rcases hc:(dR l l.length&&inB n 0 500)with _|_
 . rw[Gb hc];have hch:=vF hc;have Hch:=Sb hch;clear hch hc;go_enter Tryz.func46,Tryz.ntmps46
   go_wp2_with fail
   refine(wW _ l n _ h).mono ?_;rintro e w1 ⟨rfl,hb1⟩;rw[Hch.out];go_wp2;go_ret;exact⟨none,0,rfl,zH _,hb1⟩
 . rw[Bool.and_eq_true]at hc;have hn0:0<=n/\n<=500:=(by simpa[inB]using hc.2);obtain⟨n,rfl⟩:=Int.eq_ofNat_of_zero_le hn0.1;rw[Eb hc.1 (by omega)];exact IP v l n w h hc.1 (by omega)
theorem IW (v:Value) (l:List (Int×Int)) (n:Int) (w:World) (h:Rd 2 cO w v l):
 Calls Tryz.prog 28 #[v,.int .i64 n] w (iT 3 1 bH (chosen l n) w):=by
 rcases hc:(dR l l.length&&inB n 0 500)with _|_
 . rw[Gb hc];have hch:=vF hc;have Hch:=Sb hch;clear hch hc;go_enter Tryz.func28,Tryz.ntmps28
   go_wp2_with fail
   refine(wY _ l n _ h).mono ?_;rintro e w1 ⟨rfl,hb1⟩;rw[Hch.out];go_wp2;go_ret;exact⟨some ⟨w1.heap.size,0,none⟩,0,rfl,gV _ _ rfl _ hb1.size,hb1.al _⟩
 . rw[Bool.and_eq_true]at hc;have hn0:0<=n/\n<=500:=(by simpa[inB]using hc.2);obtain⟨n,rfl⟩:=Int.eq_ofNat_of_zero_le hn0.1;rw[Eb hc.1 (by omega)];exact IQ v l n w h hc.1 (by omega)
end Go.Proofs.YtljfoohaapckeaaGreatDoor
