/- The program's counts, its forced dominoes and the region without them: the walks. Conditions: sizes. -/
import Derived.Test.YtfdbcihcdjjdhaaGreatDoorZK10
import Derived.Test.YtfdbcihcdjjdhaaGreatDoorZK9
import Derived.Test.YtfdbcihcdjjdhaaGreatDoorZK5
import Derived.Test.YtfdbcihcdjjdhaaGreatDoorZK3
import Derived.Test.YtfdbcihcdjjdhaaGreatDoorZSteps
namespace Go.Proofs.YtfdbcihcdjjdhaaGreatDoor
open Go.ChangeShapes Go.WideShapes Go.ChangeAt Go.RowKit
set_option linter.unusedVariables false
set_option linter.unusedSimpArgs false
theorem cntI_any (s:Nat) (w:World) (hs:s<U64):Calls Tryz.prog 193 #[.int .u64 s] w (Ret (.int .i64 (cntSet s)) w):=by
 obtain⟨R,hR⟩:∃R,R=cntSet s:=⟨_,rfl⟩
 have C:Calls Tryz.prog 247 #[.int .u64 s,.int .i64 0,.func (.func 248) #[] #[],.func (.func 249) #[] #[]] w (Ret (.int .i64 R) w):=by rw[hR];exact profN_any s w hs
 rw[←hR];clear hR
 go_enter Tryz.func193,Tryz.ntmps193
 go_wp2_with fail
 refine C.mono ?_
 rintro e w1 ⟨rfl,hb1⟩
 go_wp2
 go_ret
 exact⟨rfl,hb1⟩
theorem cntTilI_any (v:Value) (rows:List Int) (w:World) (h:Rd 1 RInt w v rows):Calls Tryz.prog 233 #[.agg #[v]] w (Ret (.int .i64 (cntRows rows)) w):=by
 obtain⟨A,c,rfl,hc,hm⟩:=h.form
 have hA:=(Below.refl w.heap.size w).al (.cells #[.slice A rows.length c] 32)
 have bX:=Blk.new_ w 32 #[.slice A rows.length c]
 rcases hk:regionOk rows with _|_
 · have e : cntRows rows = 0 := by unfold cntRows; rw [hk]; rfl
   rw[e]
   have Hk:=Lib.hid hk;clear hk e
   go_enter Tryz.func233,Tryz.ntmps233
   go_wp2_with fail
   refine(regionOkI_any _ rows _ (h.below RE.stays hA)).mono ?_
   rintro e w1 ⟨rfl,hb1⟩
   rw[Hk.out]
   go_wp2
   go_ret
   exact⟨rfl,hA.tr hb1⟩
 · have e : cntRows rows = cntSet (setOf rows) := by unfold cntRows; rw [if_pos hk]
   rw[e]
   have Hok:Hid (RowsOk rows):=Lib.hid (regionOk_iff.1 hk)
   have Hk:=Lib.hid hk;clear hk e
   go_enter Tryz.func233,Tryz.ntmps233
   go_wp2_with fail
   refine(regionOkI_any _ rows _ (h.below RE.stays hA)).mono ?_
   rintro e w1 ⟨rfl,hb1⟩
   rw[Hk.out]
   have z1:=(bX.bl hb1).c1
   go_wp2_with fail
   refine(setI_any _ rows _ ((h.below RE.stays hA).below RE.stays hb1) Hok).mono ?_
   rintro e w2 ⟨rfl,hb2⟩
   go_wp2_with fail
   refine(cntI_any _ _ (setOf_lt Hok.out)).mono ?_
   rintro e w3 ⟨rfl,hb3⟩
   go_wp2
   go_ret
   exact⟨rfl,((hA.tr hb1).tr hb2).tr hb3⟩
end Go.Proofs.YtfdbcihcdjjdhaaGreatDoor
