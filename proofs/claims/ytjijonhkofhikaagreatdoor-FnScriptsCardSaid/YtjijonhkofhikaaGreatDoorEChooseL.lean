import Derived.Test.YtjijonhkofhikaaGreatDoorEChooseS
import Derived.Test.YtjijonhkofhikaaGreatDoorEK3
set_option linter.unusedVariables false
set_option maxHeartbeats 4000000
set_option maxRecDepth 100000
namespace Go.Proofs.YtjijonhkofhikaaGreatDoor
open Go.ChangeShapes Go.WideShapes Go.ChangeAt Go.RowKit
theorem Cx {l:List (Int×Int)} (a6:dF l l.length=true) {n:Nat} (hn:n<=500):cheapest l n=lp l n:=by
 rw[mP a6 hn];unfold lp;rw[List.getD_eq_getElem?_getD,List.getElem?_eq_getElem (by rw[fG];omega)];rfl
theorem zM {l:List (Int×Int)} (a6:dF l l.length=true) {n:Nat} (hn:n<=500):chosen l n=choose l n (lp l n):=by
 obtain⟨hall,h1,h5⟩:=kD _ _ a6;have hne:l≠[]:=by rintro rfl;simp at h1
 have:=mE hall hne n;unfold chosen;rw[Cx a6 hn,if_pos this,Int.toNat_natCast]
theorem wN {l:List (Int×Int)} {n:Int} (h:(dF l l.length&&inB n 0 500)=false):cheapest l n= -1:=by
 unfold cheapest;rw[h];rfl
theorem H9 {l:List (Int×Int)} {n:Int} (h:(dF l l.length&&inB n 0 500)=false):chosen l n=[]:=by
 unfold chosen;rw[wN h];rfl
theorem JW (v:Value) (l:List (Int×Int)) (n:Int) (w:World) (h:Rd 2 cO w v l):
 Calls Tryz.prog 100 #[v,.int .i64 n] w (iH 3 1 bH (chosen l n) w):=by
 rcases hc:(dF l l.length&&inB n 0 500)with _|_
 . rw[H9 hc];have hch:=wN hc;have a6:=TY hch;clear hch hc;go_enter Tryz.func100,Tryz.ntmps100
   go_wp2_with fail
   refine(yH _ l n _ h).mono ?_;rintro e w1 ⟨rfl,hb1⟩;rw[a6.out];go_wp2;go_ret;exact⟨none,0,rfl,nN _,hb1⟩
 . rw[Bool.and_eq_true]at hc;have a7:0<=n/\n<=500:=(by simpa[inB]using hc.2);obtain⟨n,rfl⟩:=Int.eq_ofNat_of_zero_le a7.1;rw[zM hc.1 (by omega)];exact JU v l n w h hc.1 (by omega)
theorem JX (v:Value) (l:List (Int×Int)) (n:Int) (w:World) (h:Rd 2 cO w v l):
 Calls Tryz.prog 128 #[v,.int .i64 n] w (iH 3 1 bH (chosen l n) w):=by
 rcases hc:(dF l l.length&&inB n 0 500)with _|_
 . rw[H9 hc];have hch:=wN hc;have a6:=TY hch;clear hch hc;go_enter Tryz.func128,Tryz.ntmps128
   go_wp2_with fail
   refine(yI _ l n _ h).mono ?_;rintro e w1 ⟨rfl,hb1⟩;rw[a6.out];go_wp2;go_ret;exact⟨some ⟨w1.heap.size,0,none⟩,0,rfl,fI _ _ rfl _ hb1.size,hb1.al _⟩
 . rw[Bool.and_eq_true]at hc;have a7:0<=n/\n<=500:=(by simpa[inB]using hc.2);obtain⟨n,rfl⟩:=Int.eq_ofNat_of_zero_le a7.1;rw[zM hc.1 (by omega)];exact JV v l n w h hc.1 (by omega)
end Go.Proofs.YtjijonhkofhikaaGreatDoor
