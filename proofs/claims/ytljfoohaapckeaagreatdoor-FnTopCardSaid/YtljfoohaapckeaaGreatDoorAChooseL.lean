/- ChooseBoxes of both sides, for all arguments, and the law FnExactChooseBoxes. No conditions. -/
import Derived.Test.YtljfoohaapckeaaGreatDoorAChooseS
import Derived.Test.YtljfoohaapckeaaGreatDoorAK3
namespace Go.Proofs.YtljfoohaapckeaaGreatDoor
open Go.ChangeShapes Go.WideShapes Go.ChangeAt Go.RowKit
set_option linter.unusedVariables false
set_option maxHeartbeats 4000000
set_option maxRecDepth 100000
theorem Gc {l:List (Int×Int)} (hok:dP l l.length=true) {n:Nat} (hn:n<=500):cheapest l n=lp l n:=by
 rw[nA hok hn];unfold lp;rw[List.getD_eq_getElem?_getD,List.getElem?_eq_getElem (by rw[fG];omega)];rfl
theorem Cg {l:List (Int×Int)} (hok:dP l l.length=true) {n:Nat} (hn:n<=500):chosen l n=choose l n (lp l n):=by
 obtain⟨hall,h1,h5⟩:=kJ _ _ hok;have hne:l≠[]:=by rintro rfl;simp at h1
 have:=mZ hall hne n;unfold chosen;rw[Gc hok hn,if_pos this,Int.toNat_natCast]
theorem uF {l:List (Int×Int)} {n:Int} (h:(dP l l.length&&inB n 0 500)=false):cheapest l n= -1:=by
 unfold cheapest;rw[h];rfl
theorem EB {l:List (Int×Int)} {n:Int} (h:(dP l l.length&&inB n 0 500)=false):chosen l n=[]:=by
 unfold chosen;rw[uF h];rfl
theorem nG (v:Value) (l:List (Int×Int)) (n:Int) (w:World) (h:Rd 2 bH w v l):
 Calls Tryz.prog 46 #[v,.int .i64 n] w (iB 3 1 bQ (chosen l n) w):=by
 rcases hc:(dP l l.length&&inB n 0 500)with _|_
 . rw[EB hc];have hch:=uF hc;have Hch:=Pm hch;clear hch hc;go_enter Tryz.func46,Tryz.ntmps46
   go_wp2_with fail
   refine(vN _ l n _ h).mono ?_;rintro e w1 ⟨rfl,hb1⟩;rw[Hch.out];go_wp2;go_ret;exact⟨none,0,rfl,JB _,hb1⟩
 . rw[Bool.and_eq_true]at hc;have hn0:0<=n/\n<=500:=(by simpa[inB]using hc.2);obtain⟨n,rfl⟩:=Int.eq_ofNat_of_zero_le hn0.1;rw[Cg hc.1 (by omega)];exact Ga v l n w h hc.1 (by omega)
theorem Gd (v:Value) (l:List (Int×Int)) (n:Int) (w:World) (h:Rd 2 bH w v l):
 Calls Tryz.prog 28 #[v,.int .i64 n] w (iB 3 1 bQ (chosen l n) w):=by
 rcases hc:(dP l l.length&&inB n 0 500)with _|_
 . rw[EB hc];have hch:=uF hc;have Hch:=Pm hch;clear hch hc;go_enter Tryz.func28,Tryz.ntmps28
   go_wp2_with fail
   refine(vO _ l n _ h).mono ?_;rintro e w1 ⟨rfl,hb1⟩;rw[Hch.out];go_wp2;go_ret;exact⟨some ⟨w1.heap.size,0,none⟩,0,rfl,iK _ _ rfl _ hb1.size,hb1.al _⟩
 . rw[Bool.and_eq_true]at hc;have hn0:0<=n/\n<=500:=(by simpa[inB]using hc.2);obtain⟨n,rfl⟩:=Int.eq_ofNat_of_zero_le hn0.1;rw[Cg hc.1 (by omega)];exact Gb v l n w h hc.1 (by omega)
end Go.Proofs.YtljfoohaapckeaaGreatDoor
