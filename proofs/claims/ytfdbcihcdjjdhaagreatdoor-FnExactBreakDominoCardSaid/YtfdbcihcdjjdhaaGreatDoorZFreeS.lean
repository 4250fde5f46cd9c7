/- The reference's counts with a domino, its forced dominoes: the walks. Conditions: sizes. -/
import Derived.Test.YtfdbcihcdjjdhaaGreatDoorZK11
import Derived.Test.YtfdbcihcdjjdhaaGreatDoorZK9
import Derived.Test.YtfdbcihcdjjdhaaGreatDoorZK5
import Derived.Test.YtfdbcihcdjjdhaaGreatDoorZK3
import Derived.Test.YtfdbcihcdjjdhaaGreatDoorZSteps
namespace Go.Proofs.YtfdbcihcdjjdhaaGreatDoor
open Go.ChangeShapes Go.WideShapes Go.ChangeAt Go.RowKit
set_option linter.unusedVariables false
set_option linter.unusedSimpArgs false
theorem cntTilS_any (v:Value) (rows:List Int) (w:World) (h:Rd 1 RInt w v rows):Calls Tryz.prog 229 #[.agg #[v]] w (Ret (.int .i64 (cntRows rows)) w):=by
 obtain⟨A,c,rfl,hc,hm⟩:=h.form
 have hA:=(Below.refl w.heap.size w).al (.cells #[.slice A rows.length c] 32)
 have bX:=Blk.new_ w 32 #[.slice A rows.length c]
 rcases hk:regionOk rows with _|_
 · have e : cntRows rows = 0 := by unfold cntRows; rw [hk]; rfl
   rw[e]
   have Hk:=Lib.hid hk;clear hk e
   go_enter Tryz.func229,Tryz.ntmps229
   go_wp2_with fail
   refine(regionOkS_any _ rows _ (h.below RE.stays hA)).mono ?_
   rintro e w1 ⟨rfl,hb1⟩
   rw[Hk.out]
   go_wp2
   go_ret
   exact⟨rfl,hA.tr hb1⟩
 · have e : cntRows rows = cntSet (setOf rows) := by unfold cntRows; rw [if_pos hk]
   rw[e]
   have Hok:Hid (RowsOk rows):=Lib.hid (regionOk_iff.1 hk)
   have Hk:=Lib.hid hk;clear hk e
   obtain⟨R,hR⟩:∃R,R=cntSet (setOf rows):=⟨_,rfl⟩
   have C:∀(u:Value) (w:World),Rd 1 RInt w u rows→Calls Tryz.prog 245 #[.agg #[u]] w (Ret (.int .i64 R) w):=fun u w k1=>by rw[hR];exact countS_yes u rows w k1 Hok
   rw[←hR]
   clear hR
   go_enter Tryz.func229,Tryz.ntmps229
   go_wp2_with fail
   refine(regionOkS_any _ rows _ (h.below RE.stays hA)).mono ?_
   rintro e w1 ⟨rfl,hb1⟩
   rw[Hk.out]
   have z1:=(bX.bl hb1).c1
   go_wp2_with fail
   refine(C _ _ ((h.below RE.stays hA).below RE.stays hb1)).mono ?_
   rintro e w2 ⟨rfl,hb2⟩
   go_wp2
   go_ret
   exact⟨rfl,(hA.tr hb1).tr hb2⟩
end Go.Proofs.YtfdbcihcdjjdhaaGreatDoor
