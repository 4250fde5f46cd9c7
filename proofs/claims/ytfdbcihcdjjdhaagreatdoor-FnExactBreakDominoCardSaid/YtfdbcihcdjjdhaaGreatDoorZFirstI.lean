/- The first tiling, by the program: the walk. No conditions. -/
import Derived.Test.YtfdbcihcdjjdhaaGreatDoorZFreeI
namespace Go.Proofs.YtfdbcihcdjjdhaaGreatDoor
open Go.ChangeShapes Go.WideShapes Go.ChangeAt Go.RowKit
set_option linter.unusedVariables false
set_option linter.unusedSimpArgs false
theorem bit_none {s i:Nat} (hs:s<U64):(bits .and .u64 ((s:Int)/2^i) 1==0)= !s.testBit i:=by
 have e:(s:Int)/2^i=((s/2^i:Nat):Int):=by simp
 have h1:s/2^i<18446744073709551616:=Nat.lt_of_le_of_lt (Nat.div_le_self _ _) (by unfold U64 at hs;exact hs)
 have h2:=u64_and_nat (s/2^i) 1 h1 (by decide)
 rw[e,show(1:Int)=((1:Nat):Int) from rfl,h2,nat_mask1,Nat.testBit_eq_decide_div_mod_eq]
 rw[Bool.eq_iff_iff,beq_iff_eq,Bool.not_eq_true',decide_eq_false_iff_not];omega
set_option maxRecDepth 100000 in
theorem firstI_any (s i x y:Nat) (w:World) (hs:s<U64) (Hl:Hid (LowBit s i)) (Hx:Hid (x=i%8)) (Hy:Hid (y=i/8)):Calls Tryz.prog 190 #[.int .u64 s] w (Ret (.agg #[.int .i64 x,.int .i64 y]) w):=by
 have hi:=Hl.out.1
 have hA:=(Below.refl w.heap.size w).al (.cells #[.int .i64 0,.int .i64 0] 77)
 have bR:=Blk.new_ w 77 #[.int .i64 0,.int .i64 0]
 go_enter Tryz.func190,Tryz.ntmps190
 go_wp2_with fail
 go_loop [3] (fun s3=>∃k:Nat,k≤i∧s3= .int .i64 k) (fun s3=>i-(intOf s3).toNat)
 case atStart=>exact⟨0,by omega,rfl⟩
 case round=>
  obtain⟨k,hk,rfl⟩:=hrel
  have hbit:=bit_none (i:=k) hs
  by_cases hlt:k<i
  · have hb:s.testBit k=false:=Hl.out.2.2 k hlt
    rw[hb]at hbit
    have Hb:=Lib.hid hb;clear hb
    go_wp2
    go_round
    case rel=>exact⟨k+1,by omega,by go_num⟩
    case measure=>simp[intOf];omega
  · obtain rfl : k = i := by omega
    have hb:=Hl.out.2.1
    rw[hb]at hbit
    have Hb:=Lib.hid hb;clear hb
    go_wp2_with fail
    refine(cellAtI_nat k x y _ (by omega) Hx.out Hy.out).mono ?_
    rintro e w1 ⟨rfl,hb1⟩
    have bR1:=bR.bl hb1
    have B1:=hA.tr hb1
    obtain⟨gR,hgR'⟩:∃g,g=w.heap.size:=⟨_,rfl⟩
    have hgR:w.heap.size≤gR:=by omega
    rw[←hgR']at bR1⊢
    clear hgR' bR
    obtain⟨z_0,z_1⟩:=bR1.n2
    have fR:=fun j=>bR1.frozen j
    have bE:=(bR1.st 0 (.int .i64 x) #[.int .i64 x,.int .i64 0] rfl).st 1 (.int .i64 y) #[.int .i64 x,.int .i64 y] rfl
    have BE:=(B1.st ⟨gR,0,none⟩ (.int .i64 x) hgR).st ⟨gR,1,none⟩ (.int .i64 y) hgR
    go_wp2
    obtain⟨q_0,q_1⟩:=bE.n2
    exact bodyPost_ret (v:= .agg #[.int .i64 x,.int .i64 y]) (by simp[results,Tryz.results190,go_sem,q_0,q_1]) rfl ⟨rfl,BE⟩
end Go.Proofs.YtfdbcihcdjjdhaaGreatDoor
