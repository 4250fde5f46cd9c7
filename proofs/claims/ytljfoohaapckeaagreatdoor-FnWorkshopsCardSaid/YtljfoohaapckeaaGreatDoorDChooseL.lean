/- ChooseBoxes of both sides, for all arguments, and the law FnExactChooseBoxes. No conditions. -/
import Derived.Test.YtljfoohaapckeaaGreatDoorDChooseS
import Derived.Test.YtljfoohaapckeaaGreatDoorDK3
namespace Go.Proofs.YtljfoohaapckeaaGreatDoor
open Go.ChangeShapes Go.WideShapes Go.ChangeAt Go.RowKit
set_option linter.unusedVariables false
set_option maxHeartbeats 4000000
set_option maxRecDepth 100000
theorem Ad {l:List (Int×Int)} (hok:bV l l.length=true) {n:Nat} (hn:n<=500):cheapest l n=lp l n:=by
 rw[kT hok hn];unfold lp;rw[List.getD_eq_getElem?_getD,List.getElem?_eq_getElem (by rw[eH];omega)];rfl
theorem vV {l:List (Int×Int)} (hok:bV l l.length=true) {n:Nat} (hn:n<=500):chosen l n=choose l n (lp l n):=by
 obtain⟨hall,h1,h5⟩:=jG _ _ hok;have hne:l≠[]:=by rintro rfl;simp at h1
 have:=kM hall hne n;unfold chosen;rw[Ad hok hn,if_pos this,Int.toNat_natCast]
theorem tO {l:List (Int×Int)} {n:Int} (h:(bV l l.length&&inB n 0 500)=false):cheapest l n= -1:=by
 unfold cheapest;rw[h];rfl
theorem EC {l:List (Int×Int)} {n:Int} (h:(bV l l.length&&inB n 0 500)=false):chosen l n=[]:=by
 unfold chosen;rw[tO h];rfl
theorem F7 (v:Value) (l:List (Int×Int)) (n:Int) (w:World) (h:Rd 2 bT w v l):
 Calls Tryz.prog 46 #[v,.int .i64 n] w (jA 3 1 aY (chosen l n) w):=by
 rcases hc:(bV l l.length&&inB n 0 500)with _|_
 . rw[EC hc];have hch:=tO hc;have Hch:=OA hch;clear hch hc;go_enter Tryz.func46,Tryz.ntmps46
   go_wp2_with fail
   refine(vG _ l n _ h).mono ?_;rintro e w1 ⟨rfl,hb1⟩;rw[Hch.out];go_wp2;go_ret;exact⟨none,0,rfl,Ji _,hb1⟩
 . rw[Bool.and_eq_true]at hc;have hn0:0<=n/\n<=500:=(by simpa[inB]using hc.2);obtain⟨n,rfl⟩:=Int.eq_ofNat_of_zero_le hn0.1;rw[vV hc.1 (by omega)];exact F5 v l n w h hc.1 (by omega)
theorem Ae (v:Value) (l:List (Int×Int)) (n:Int) (w:World) (h:Rd 2 bT w v l):
 Calls Tryz.prog 28 #[v,.int .i64 n] w (jA 3 1 aY (chosen l n) w):=by
 rcases hc:(bV l l.length&&inB n 0 500)with _|_
 . rw[EC hc];have hch:=tO hc;have Hch:=OA hch;clear hch hc;go_enter Tryz.func28,Tryz.ntmps28
   go_wp2_with fail
   refine(vH _ l n _ h).mono ?_;rintro e w1 ⟨rfl,hb1⟩;rw[Hch.out];go_wp2;go_ret;exact⟨some ⟨w1.heap.size,0,none⟩,0,rfl,iK _ _ rfl _ hb1.size,hb1.al _⟩
 . rw[Bool.and_eq_true]at hc;have hn0:0<=n/\n<=500:=(by simpa[inB]using hc.2);obtain⟨n,rfl⟩:=Int.eq_ofNat_of_zero_le hn0.1;rw[vV hc.1 (by omega)];exact F6 v l n w h hc.1 (by omega)
end Go.Proofs.YtljfoohaapckeaaGreatDoor
