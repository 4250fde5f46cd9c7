import Derived.Test.YtjijonhkofhikaaGreatDoorFChooseS
import Derived.Test.YtjijonhkofhikaaGreatDoorFK3
set_option linter.unusedVariables false
set_option maxHeartbeats 4000000
set_option maxRecDepth 100000
namespace Go.Proofs.YtjijonhkofhikaaGreatDoor
open Go.ChangeShapes Go.WideShapes Go.ChangeAt Go.RowKit
theorem JL {l:List (Int×Int)} (a6:dV l l.length=true) {n:Nat} (hn:n<=500):cheapest l n=lp l n:=by
 rw[pM a6 hn];unfold lp;rw[List.getD_eq_getElem?_getD,List.getElem?_eq_getElem (by rw[gJ];omega)];rfl
theorem EI {l:List (Int×Int)} (a6:dV l l.length=true) {n:Nat} (hn:n<=500):chosen l n=choose l n (lp l n):=by
 obtain⟨hall,h1,h5⟩:=lD _ _ a6;have hne:l≠[]:=by rintro rfl;simp at h1
 have:=pK hall hne n;unfold chosen;rw[JL a6 hn,if_pos this,Int.toNat_natCast]
theorem wQ {l:List (Int×Int)} {n:Int} (h:(dV l l.length&&inB n 0 500)=false):cheapest l n= -1:=by
 unfold cheapest;rw[h];rfl
theorem GU {l:List (Int×Int)} {n:Int} (h:(dV l l.length&&inB n 0 500)=false):chosen l n=[]:=by
 unfold chosen;rw[wQ h];rfl
theorem JM (v:Value) (l:List (Int×Int)) (n:Int) (w:World) (h:Rd 2 bT w v l):
 Calls Tryz.prog 100 #[v,.int .i64 n] w (fM 3 1 aW (chosen l n) w):=by
 rcases hc:(dV l l.length&&inB n 0 500)with _|_
 . rw[GU hc];have hch:=wQ hc;have a6:=Tk hch;clear hch hc;go_enter Tryz.func100,Tryz.ntmps100
   go_wp2_with fail
   refine(yH _ l n _ h).mono ?_;rintro e w1 ⟨rfl,hb1⟩;rw[a6.out];go_wp2;go_ret;exact⟨none,0,rfl,nS _,hb1⟩
 . rw[Bool.and_eq_true]at hc;have a7:0<=n/\n<=500:=(by simpa[inB]using hc.2);obtain⟨n,rfl⟩:=Int.eq_ofNat_of_zero_le a7.1;rw[EI hc.1 (by omega)];exact JJ v l n w h hc.1 (by omega)
theorem JN (v:Value) (l:List (Int×Int)) (n:Int) (w:World) (h:Rd 2 bT w v l):
 Calls Tryz.prog 128 #[v,.int .i64 n] w (fM 3 1 aW (chosen l n) w):=by
 rcases hc:(dV l l.length&&inB n 0 500)with _|_
 . rw[GU hc];have hch:=wQ hc;have a6:=Tk hch;clear hch hc;go_enter Tryz.func128,Tryz.ntmps128
   go_wp2_with fail
   refine(yI _ l n _ h).mono ?_;rintro e w1 ⟨rfl,hb1⟩;rw[a6.out];go_wp2;go_ret;exact⟨some ⟨w1.heap.size,0,none⟩,0,rfl,eG _ _ rfl _ hb1.size,hb1.al _⟩
 . rw[Bool.and_eq_true]at hc;have a7:0<=n/\n<=500:=(by simpa[inB]using hc.2);obtain⟨n,rfl⟩:=Int.eq_ofNat_of_zero_le a7.1;rw[EI hc.1 (by omega)];exact JK v l n w h hc.1 (by omega)
end Go.Proofs.YtjijonhkofhikaaGreatDoor
