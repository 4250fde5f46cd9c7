/- ChooseBoxes of both sides, for all arguments, and the law FnExactChooseBoxes. No conditions. -/
import Derived.Test.YtljfoohaapckeaaGreatDoorBChooseS
import Derived.Test.YtljfoohaapckeaaGreatDoorBK3
namespace Go.Proofs.YtljfoohaapckeaaGreatDoor
open Go.ChangeShapes Go.WideShapes Go.ChangeAt Go.RowKit
set_option linter.unusedVariables false
set_option maxHeartbeats 4000000
set_option maxRecDepth 100000
theorem GY {l:List (Int×Int)} (hok:dO l l.length=true) {n:Nat} (hn:n<=500):cheapest l n=lp l n:=by
 rw[nG hok hn];unfold lp;rw[List.getD_eq_getElem?_getD,List.getElem?_eq_getElem (by rw[fC];omega)];rfl
theorem CV {l:List (Int×Int)} (hok:dO l l.length=true) {n:Nat} (hn:n<=500):chosen l n=choose l n (lp l n):=by
 obtain⟨hall,h1,h5⟩:=kI _ _ hok;have hne:l≠[]:=by rintro rfl;simp at h1
 have:=nE hall hne n;unfold chosen;rw[GY hok hn,if_pos this,Int.toNat_natCast]
theorem uU {l:List (Int×Int)} {n:Int} (h:(dO l l.length&&inB n 0 500)=false):cheapest l n= -1:=by
 unfold cheapest;rw[h];rfl
theorem Fe {l:List (Int×Int)} {n:Int} (h:(dO l l.length&&inB n 0 500)=false):chosen l n=[]:=by
 unfold chosen;rw[uU h];rfl
theorem GZ (v:Value) (l:List (Int×Int)) (n:Int) (w:World) (h:Rd 2 bV w v l):
 Calls Tryz.prog 46 #[v,.int .i64 n] w (gH 3 1 aX (chosen l n) w):=by
 rcases hc:(dO l l.length&&inB n 0 500)with _|_
 . rw[Fe hc];have hch:=uU hc;have Hch:=Qk hch;clear hch hc;go_enter Tryz.func46,Tryz.ntmps46
   go_wp2_with fail
   refine(vZ _ l n _ h).mono ?_;rintro e w1 ⟨rfl,hb1⟩;rw[Hch.out];go_wp2;go_ret;exact⟨none,0,rfl,vQ _,hb1⟩
 . rw[Bool.and_eq_true]at hc;have hn0:0<=n/\n<=500:=(by simpa[inB]using hc.2);obtain⟨n,rfl⟩:=Int.eq_ofNat_of_zero_le hn0.1;rw[CV hc.1 (by omega)];exact GV v l n w h hc.1 (by omega)
theorem G5 (v:Value) (l:List (Int×Int)) (n:Int) (w:World) (h:Rd 2 bV w v l):
 Calls Tryz.prog 28 #[v,.int .i64 n] w (gH 3 1 aX (chosen l n) w):=by
 rcases hc:(dO l l.length&&inB n 0 500)with _|_
 . rw[Fe hc];have hch:=uU hc;have Hch:=Qk hch;clear hch hc;go_enter Tryz.func28,Tryz.ntmps28
   go_wp2_with fail
   refine(wC _ l n _ h).mono ?_;rintro e w1 ⟨rfl,hb1⟩;rw[Hch.out];go_wp2;go_ret;exact⟨some ⟨w1.heap.size,0,none⟩,0,rfl,fK _ _ rfl _ hb1.size,hb1.al _⟩
 . rw[Bool.and_eq_true]at hc;have hn0:0<=n/\n<=500:=(by simpa[inB]using hc.2);obtain⟨n,rfl⟩:=Int.eq_ofNat_of_zero_le hn0.1;rw[CV hc.1 (by omega)];exact GX v l n w h hc.1 (by omega)
end Go.Proofs.YtljfoohaapckeaaGreatDoor
