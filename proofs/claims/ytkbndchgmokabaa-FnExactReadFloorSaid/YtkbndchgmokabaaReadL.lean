/- FnExactReadFloor: the walk of the law. No conditions. -/
import Derived.Test.YtkbndchgmokabaaReadS
import Derived.Test.YtkbndchgmokabaaFloorL
namespace Go.Proofs.Ytkbndchgmokabaa
open Go.ChangeShapes Go.WideShapes Go.ChangeAt Go.RowKit
set_option linter.unusedVariables false
set_option linter.unusedSimpArgs false

set_option maxHeartbeats 4000000 in
set_option maxRecDepth 100000 in
theorem FnExactReadFloor_walk (w : World) (v : Value) (ls : List ByteArray) (h : Rd 1 (RE eStr) w v ls) (okl : AllOk (fun s => s.size ≤ maxLen) ls) :
    Calls Try.prog 8 #[v] w (Ret (.bool true) w) := by
  rcases szStrs_cases ls 1048576 (by decide) with h1 | ⟨h1, h1'⟩
  · go_enter Try.func8, Try.ntmps8
    go_wp2_with fail
    refine (szStrs_any _ ls _ _ h okl (by decide) (by decide)).mono ?_
    rintro e w0 ⟨rfl, rfl⟩
    rw [h1]
    go_wp2
    go_ret
    exact ⟨rfl, Below.refl _ _⟩
  · have hl : Small ls.length := by unfold Small; omega
    have hll : ls.length ≤ 1048576 := hl
    have hnn : 0 ≤ szStrs 1048576 ls := by omega
    clear h1 h1'
    have hR8 := readRows_le ls
    have hL8 := readDoms_le ls
    have hRs : (readRows ls).length ≤ 1048576 := by omega
    have hLs : (readDoms ls).length ≤ 1048576 := by omega
    go_enter Try.func8, Try.ntmps8
    go_wp2_with fail
    refine (szStrs_any _ ls _ _ h okl (by decide) (by decide)).mono ?_
    rintro e w0 ⟨rfl, rfl⟩
    go_wp2_with fail
    refine (toStrs_any _ ls _ h hl).mono ?_
    rintro e w1 ⟨A1, c1, rfl, own1, hb1⟩
    go_wp2_with fail
    refine (readS_any _ ls _ (own1.rd lenStr (by decide))).mono ?_
    rintro e w2 ⟨A2, c2, D2, d2, rfl, ownR2, ownD2, hb2⟩
    have B2 := (hb1.tr hb2).al (.cells #[.slice A2 (readRows ls).length c2] 31)
    have bW := Blk.new_ w2 31 #[.slice A2 (readRows ls).length c2]
    have oR2 := ownR2.alloc (.cells #[.slice A2 (readRows ls).length c2] 31)
    have oD2 := ownD2.alloc (.cells #[.slice A2 (readRows ls).length c2] 31)
    go_wp2_with fail
    refine (toStrs_any _ ls _ (h.below RE.stays B2) hl).mono ?_
    rintro e w3 ⟨A3, c3, rfl, own3, hb3⟩
    go_wp2_with fail
    refine (readI_any _ ls _ (own3.rd lenStr (by decide))).mono ?_
    rintro e w4 ⟨A4, c4, D4, d4, rfl, ownR4, ownD4, hb4⟩
    have B4 := ((B2.tr hb3).tr hb4).al (.cells #[.slice A4 (readRows ls).length c4] 31)
    have bG := Blk.new_ w4 31 #[.slice A4 (readRows ls).length c4]
    have bW4 := ((bW.bl hb3).bl hb4).alloc (.cells #[.slice A4 (readRows ls).length c4] 31)
    have oR24 := ((oR2.below hb3).below hb4).alloc (.cells #[.slice A4 (readRows ls).length c4] 31)
    have oD24 := ((oD2.below hb3).below hb4).alloc (.cells #[.slice A4 (readRows ls).length c4] 31)
    have oR4 := ownR4.alloc (.cells #[.slice A4 (readRows ls).length c4] 31)
    have oD4 := ownD4.alloc (.cells #[.slice A4 (readRows ls).length c4] 31)
    have oX4 := (own3.below hb4).alloc (.cells #[.slice A4 (readRows ls).length c4] 31)
    have z1 := bW4.c1
    have z2 := bG.c1
    have hzW : w2.heap.size < w4.heap.size := by have := hb3.size; have := hb4.size; simp at *; omega
    go_wp2_with fail
    refine (eqRegion_same _ _ (readRows ls) _ (oR4.rd lenInt (by decide)) (oR24.rd lenInt (by decide))).mono ?_
    rintro e w5 ⟨rfl, hb5⟩
    go_wp2_with fail
    refine (eqDoms_same _ _ (readDoms ls) _ ((oD4.below hb5).rd lenDom (by decide)) ((oD24.below hb5).rd lenDom (by decide))).mono ?_
    rintro e w6 ⟨rfl, hb6⟩
    have B6 := (B4.tr hb5).tr hb6
    go_wp2_with fail
    refine (toStrs_any _ ls _ (h.below RE.stays B6) hl).mono ?_
    rintro e w7 ⟨A7, c7, rfl, own7, hb7⟩
    have B7 := B6.tr hb7
    go_wp2_with fail
    refine (eqStrs_same _ _ ls _ ((((oX4.below hb5).below hb6).below hb7).rd lenStr (by decide)) (own7.rd lenStr (by decide))).mono ?_
    rintro e w8 ⟨rfl, hb8⟩
    have B8 := B7.tr hb8
    have oX8 := (((oX4.below hb5).below hb6).below hb7).below hb8
    have oR28 := (((oR24.below hb5).below hb6).below hb7).below hb8
    have oD28 := (((oD24.below hb5).below hb6).below hb7).below hb8
    have oR48 := (((oR4.below hb5).below hb6).below hb7).below hb8
    have oD48 := (((oD4.below hb5).below hb6).below hb7).below hb8
    have bW8 := (((bW4.bl hb5).bl hb6).bl hb7).bl hb8
    have bG8 := (((bG.bl hb5).bl hb6).bl hb7).bl hb8
    clear z1 z2 oR24 oD24 oR4 oD4 bW4 bG
    go_wp2_with fail
    refine (markStrs_any _ ls 1 _ _ oX8 (by decide) (by decide) hll).mono ?_
    rintro e w9 ⟨rfl, own9, hg9⟩
    have B9 := below_mark B8 oX8 (by have := B2.size; omega) hg9
    have oR29 := oR28.keptE oX8 (by decide) hg9
    have oD29 := oD28.keptE oX8 (by decide) hg9
    have oR49 := oR48.keptE oX8 (by decide) hg9
    have oD49 := oD48.keptE oX8 (by decide) hg9
    have bW9 := bW8.grown hg9 (fun e => (oX8.apart bW8 (by decide)) e.symm)
    have bG9 := bG8.grown hg9 (fun e => (oX8.apart bG8 (by decide)) e.symm)
    have z1 := bW9.c1
    have z2 := bG9.c1
    have hk : ¬ (((1 + ls.length : Nat) : Int) < 0) := by omega
    go_wp2_with fail
    refine (eqRegion_same _ _ (readRows ls) _ (oR49.rd lenInt (by decide)) (oR29.rd lenInt (by decide))).mono ?_
    rintro e w10 ⟨rfl, hb10⟩
    go_wp2_with fail
    refine (eqDoms_same _ _ (readDoms ls) _ ((oD49.below hb10).rd lenDom (by decide)) ((oD29.below hb10).rd lenDom (by decide))).mono ?_
    rintro e w11 ⟨rfl, hb11⟩
    have B11 := (B9.tr hb10).tr hb11
    have oR211 := (oR29.below hb10).below hb11
    have oD211 := (oD29.below hb10).below hb11
    have oR411 := (oR49.below hb10).below hb11
    have oD411 := (oD49.below hb10).below hb11
    have bW11 := (bW9.bl hb10).bl hb11
    have bG11 := (bG9.bl hb10).bl hb11
    clear z1 z2
    have z2 := bG11.c1
    go_wp2_with fail
    refine (markRegion_any _ (readRows ls) 1 _ _ oR411 (by decide) (by decide) hRs).mono ?_
    rintro e w12 ⟨rfl, own12, hg12⟩
    have B12 := below_mark B11 oR411 (by have := B2.size; have := hb3.size; omega) hg12
    have oR212 := OwnL.kept_ oR2 ownR4 hb3.size oR211 hg12
    have oD212 := oD211.keptE oR411 (by decide) hg12
    have oD412 := oD411.keptE oR411 (by decide) hg12
    have bW12 := bW11.grown hg12 (fun e => (oR411.apart bW11 (by decide)) e.symm)
    have bG12 := bG11.grown hg12 (fun e => (oR411.apart bG11 (by decide)) e.symm)
    clear z2
    have hk1 : (0 : Int) ≤ 1 + ((readRows ls).length : Int) := by omega
    go_wp2_with fail
    refine (markDoms_any _ (readDoms ls) _ _ _ oD412 (by omega) (by omega) hLs).mono ?_
    rintro e w13 ⟨rfl, own13, hg13⟩
    have B13 := below_mark B12 oD412 (by have := B2.size; have := hb3.size; omega) hg13
    have oD213 := OwnL.kept_ oD2 ownD4 hb3.size oD212 hg13
    have oR213 := oR212.keptE oD412 (by decide) hg13
    have oR413 := own12.keptE oD412 (by decide) hg13
    have bW13 := bW12.grown hg13 (fun e => (oD412.apart bW12 (by decide)) e.symm)
    have bG13 := bG12.grown hg13 (fun e => (oD412.apart bG12 (by decide)) e.symm)
    have z2 := bG13.c1
    go_wp2_with fail
    refine (heldRegion_any _ 1 (readRows ls).length _ (oR413.rd lenInt (by decide)) (by decide) (by decide) hRs).mono ?_
    rintro e w14 ⟨rfl, hb14⟩
    have hk3 : ¬ ((1 : Int) + ((readRows ls).length : Int) < 0) := by omega
    go_wp2_with fail
    refine (heldDoms_any _ _ (readDoms ls).length _ ((own13.below hb14).rd lenDom (by decide)) (by omega) (by omega) hLs).mono ?_
    rintro e w15 ⟨rfl, rfl⟩
    have hk4 : ¬ ((1 : Int) + ((readRows ls).length : Int) + 3 * ((readDoms ls).length : Int) < 0) := by omega
    have B14 := B13.tr hb14
    clear z2
    go_wp2_with fail
    refine (toStrs_any _ ls _ (h.below RE.stays B14) hl).mono ?_
    rintro e w16 ⟨A16, c16, rfl, own16, hb16⟩
    go_wp2_with fail
    refine (readI_any _ ls _ (own16.rd lenStr (by decide))).mono ?_
    rintro e w17 ⟨A17, c17, D17, d17, rfl, ownR17, ownD17, hb17⟩
    have B17 := ((B14.tr hb16).tr hb17).al (.cells #[.slice A17 (readRows ls).length c17] 31)
    have bH := Blk.new_ w17 31 #[.slice A17 (readRows ls).length c17]
    have bW17 := (((bW13.bl hb14).bl hb16).bl hb17).alloc (.cells #[.slice A17 (readRows ls).length c17] 31)
    have bG17 := (((bG13.bl hb14).bl hb16).bl hb17).alloc (.cells #[.slice A17 (readRows ls).length c17] 31)
    have oR217 := (((oR213.below hb14).below hb16).below hb17).alloc (.cells #[.slice A17 (readRows ls).length c17] 31)
    have oD217 := (((oD213.below hb14).below hb16).below hb17).alloc (.cells #[.slice A17 (readRows ls).length c17] 31)
    have oR417 := (((oR413.below hb14).below hb16).below hb17).alloc (.cells #[.slice A17 (readRows ls).length c17] 31)
    have oD417 := (((own13.below hb14).below hb16).below hb17).alloc (.cells #[.slice A17 (readRows ls).length c17] 31)
    have oR17 := ownR17.alloc (.cells #[.slice A17 (readRows ls).length c17] 31)
    have oD17 := ownD17.alloc (.cells #[.slice A17 (readRows ls).length c17] 31)
    have z1 := bW17.c1
    have z2 := bG17.c1
    have z3 := bH.c1
    go_wp2_with fail
    refine (eqRegion_same _ _ (readRows ls) _ (oR17.rd lenInt (by decide)) (oR217.rd lenInt (by decide))).mono ?_
    rintro e w18 ⟨rfl, hb18⟩
    go_wp2_with fail
    refine (eqDoms_same _ _ (readDoms ls) _ ((oD17.below hb18).rd lenDom (by decide)) ((oD217.below hb18).rd lenDom (by decide))).mono ?_
    rintro e w19 ⟨rfl, hb19⟩
    have bG19 := (bG17.bl hb18).bl hb19
    clear z1 z2 z3
    have z2 := bG19.c1
    go_wp2_with fail
    refine (heldRegion_any _ 1 (readRows ls).length _ (((oR417.below hb18).below hb19).rd lenInt (by decide)) (by decide) (by decide) hRs).mono ?_
    rintro e w20 ⟨rfl, hb20⟩
    go_wp2_with fail
    refine (heldDoms_any _ _ (readDoms ls).length _ ((((oD417.below hb18).below hb19).below hb20).rd lenDom (by decide)) (by omega) (by omega) hLs).mono ?_
    rintro e w21 ⟨rfl, rfl⟩
    go_wp2
    go_ret
    exact ⟨rfl, ((B17.tr hb18).tr hb19).tr hb20⟩
end Go.Proofs.Ytkbndchgmokabaa
