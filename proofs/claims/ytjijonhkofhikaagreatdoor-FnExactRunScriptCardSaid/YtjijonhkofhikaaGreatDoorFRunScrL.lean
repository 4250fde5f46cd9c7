import Derived.Test.YtjijonhkofhikaaGreatDoorFRunScrS
set_option linter.unusedVariables false
set_option linter.unusedSimpArgs false
set_option maxHeartbeats 4000000
set_option maxRecDepth 100000
namespace Go.Proofs.YtjijonhkofhikaaGreatDoor
open Go.ChangeShapes Go.WideShapes Go.ChangeAt Go.RowKit
theorem vM (w:World) (tab:Tab w) (a7:Syn w) (mx:OL w) (s0:ByteArray) (hm:s0.size<=maxLen):Calls Tryz.prog 4 #[.string s0] w (Ret (.bool true) w):=by
 by_cases hl:s0.size<=1048576
 . have bB : ¬ ((1048576 : Int) < (s0.size : Int)) := by omega
   obtain⟨x,s,hk,hs,a8,bA⟩:=OA;have CI:=fun W h1 h2 h3=>JQ x s hk hs bA s0 W h1 h2 h3
   have CS:=fun W=>JU x s hk hs a8 s0 W
   have ht:=JP (x,s,0,0) s0;obtain⟨⟨t,o⟩,hR⟩:∃R,R=lY (x,s,0,0) s0:=⟨_,rfl⟩;rw[<-hR]at CI CS ht;simp only at CI CS ht;have HT:=Tk tab;have HS:=Tk a7;have HM:=Tk mx;have HI:=Tk CI;have bC:=Tk CS;clear tab a7 mx CI CS hk hs a8 bA hR;have bD:¬((1:Int)+(t.length:Int)<0):=(by omega);have bE:(o !=o)=false:=by cases o<;>rfl
   go_enter Tryz.func4,Tryz.ntmps4
   go_wp2_with fail
   refine(bC.out _).mono ?_;rintro e w1 ⟨A1,c1,rfl,oW,B⟩;go_wp2_with fail
   refine(HI.out _ (HT.out.below B) (HS.out.below B) (HM.out.below B)).mono ?_;rintro e w2 ⟨A2,c2,rfl,oG,hb⟩;have a6:=O8 (fun k hk=>(World.ownsRow.lt oW k hk).2) (fun k hk=>(World.ownsRow.lt oG k hk).1) (Nat.le_refl _);replace oG:=oG.mono B.size;replace B:=B.tr hb;replace oW:=oW.below hb;clear hb;go_wp2_with fail
   refine(M9 _ _ t _ (oG.rd eZ (by decide)) (oW.rd eZ (by decide))).mono ?_;rintro e w3 ⟨rfl,hb⟩;replace B:=B.tr hb;replace oW:=oW.below hb;replace oG:=oG.below hb;clear hb;go_wp2_with fail
   refine(Ib _ t 1 _ _ oG (by decide) (by decide) ht).mono ?_;rintro e w4 ⟨rfl,oM,hg⟩;have hG:=Grown.of hg;replace oW:=oW.fH hG (a6);replace B:=Below.fH B hG B.size (fun k hk=>(World.ownsRow.lt oG k hk).1);clear hG oG;have oG:=oM;clear oM;go_wp2_with fail
   refine(zW _ 1 t.length _ (aD.rd (l:=mD 1 t.length) oG eZ (by decide)) (by decide) (by decide) ht).mono ?_;rintro e w5 ⟨rfl,hb⟩;replace B:=B.tr hb;replace oW:=oW.below hb;replace oG:=oG.below hb;clear hb;go_wp2_with fail
   refine(HI.out _ (HT.out.below B) (HS.out.below B) (HM.out.below B)).mono ?_;rintro e w6 ⟨A3,c3,rfl,oH,hb⟩;replace oH:=oH.mono B.size;replace B:=B.tr hb;replace oW:=oW.below hb;replace oG:=oG.below hb;clear hb;go_wp2_with fail
   refine(M9 _ _ t _ (oH.rd eZ (by decide)) (oW.rd eZ (by decide))).mono ?_;rintro e w7 ⟨rfl,hb⟩;replace B:=B.tr hb;replace oG:=oG.below hb;clear hb;go_wp2_with fail
   refine(zW _ 1 t.length _ (aD.rd (l:=mD 1 t.length) oG eZ (by decide)) (by decide) (by decide) ht).mono ?_;rintro e w8 ⟨rfl,hb⟩;replace B:=B.tr hb;clear hb;go_wp2;go_ret;exact⟨rfl,B⟩
 . have bB : (1048576 : Int) < (s0.size : Int) := by omega
   go_enter Tryz.func4,Tryz.ntmps4
   go_wp2;go_ret;exact⟨rfl,Below.refl _ _⟩
end Go.Proofs.YtjijonhkofhikaaGreatDoor
