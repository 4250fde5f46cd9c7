/- ChooseBoxes of both sides, for all arguments, and the law FnExactChooseBoxes. No conditions. -/
import Derived.Test.YtfdbcihcdjjdhaaGreatDoorYChooseS
import Derived.Test.YtfdbcihcdjjdhaaGreatDoorYK3
namespace Go.Proofs.YtfdbcihcdjjdhaaGreatDoor
open Go.ChangeShapes Go.WideShapes Go.ChangeAt Go.RowKit
set_option linter.unusedVariables false
set_option maxHeartbeats 4000000
set_option maxRecDepth 100000
theorem cheapest_lp {l:List (Int×Int)} (hok:boxesOk l l.length=true) {n:Nat} (hn:n≤500):cheapest l n=lp l n:=by
 rw[cheapest_ok hok hn];unfold lp;rw[List.getD_eq_getElem?_getD,List.getElem?_eq_getElem (by rw[least_len];omega)];rfl
theorem chosen_yes {l:List (Int×Int)} (hok:boxesOk l l.length=true) {n:Nat} (hn:n≤500):chosen l n=choose l n (lp l n):=by
 obtain⟨hall,h1,h5⟩:=boxesOk_all _ _ hok;have hne:l≠[]:=by rintro rfl;simp at h1
 have:=lp_nonneg hall hne n;unfold chosen;rw[cheapest_lp hok hn,if_pos this,Int.toNat_natCast]
theorem cheapest_no {l:List (Int×Int)} {n:Int} (h:(boxesOk l l.length&&inB n 0 500)=false):cheapest l n= -1:=by
 unfold cheapest;rw[h];rfl
theorem chosen_no {l:List (Int×Int)} {n:Int} (h:(boxesOk l l.length&&inB n 0 500)=false):chosen l n=[]:=by
 unfold chosen;rw[cheapest_no h];rfl
theorem chooseI_any (v:Value) (l:List (Int×Int)) (n:Int) (w:World) (h:Rd 2 RPair w v l):
 Calls Tryz.prog 62 #[v,.int .i64 n] w (RetOwn 3 1 eInt (chosen l n) w):=by
 rcases hc:(boxesOk l l.length&&inB n 0 500)with _|_
 · rw[chosen_no hc];have hch:=cheapest_no hc;have Hch:=Lib.hid hch;clear hch hc;go_enter Tryz.func62,Tryz.ntmps62
   go_wp2_with fail
   refine(cheapI_any _ l n _ h).mono ?_;rintro e w1 ⟨rfl,hb1⟩;rw[Hch.out];go_wp2;go_ret;exact⟨none,0,rfl,own_nil _,hb1⟩
 · rw[Bool.and_eq_true]at hc;have hn0:0≤n∧n≤500:=(by simpa[inB]using hc.2);obtain⟨n,rfl⟩:=Int.eq_ofNat_of_zero_le hn0.1;rw[chosen_yes hc.1 (by omega)];exact chooseI_yes v l n w h hc.1 (by omega)
theorem chooseS_any (v:Value) (l:List (Int×Int)) (n:Int) (w:World) (h:Rd 2 RPair w v l):
 Calls Tryz.prog 54 #[v,.int .i64 n] w (RetOwn 3 1 eInt (chosen l n) w):=by
 rcases hc:(boxesOk l l.length&&inB n 0 500)with _|_
 · rw[chosen_no hc];have hch:=cheapest_no hc;have Hch:=Lib.hid hch;clear hch hc;go_enter Tryz.func54,Tryz.ntmps54
   go_wp2_with fail
   refine(cheapS_any _ l n _ h).mono ?_;rintro e w1 ⟨rfl,hb1⟩;rw[Hch.out];go_wp2;go_ret;exact⟨some ⟨w1.heap.size,0,none⟩,0,rfl,own_mt _ _ rfl _ hb1.size,hb1.al _⟩
 · rw[Bool.and_eq_true]at hc;have hn0:0≤n∧n≤500:=(by simpa[inB]using hc.2);obtain⟨n,rfl⟩:=Int.eq_ofNat_of_zero_le hn0.1;rw[chosen_yes hc.1 (by omega)];exact chooseS_yes v l n w h hc.1 (by omega)
end Go.Proofs.YtfdbcihcdjjdhaaGreatDoor
