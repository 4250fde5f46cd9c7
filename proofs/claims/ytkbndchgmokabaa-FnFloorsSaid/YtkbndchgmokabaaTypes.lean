/- The argument types of the laws of this seat, opened. Plain lemmas; no conditions. -/
import Derived.Test.YtkbndchgmokabaaOpen
namespace Go.Proofs.Ytkbndchgmokabaa
open Go.ChangeShapes Go.WideShapes Go.RowKit Go.Deep
set_option linter.unusedVariables false

theorem RSl.stays {α : Type} {size : Nat} {R : World → List Value → α → Prop} (hR : Stays R) : Stays (RSl size R) := fun w w' cs l ⟨v, h1, h2⟩ hb => ⟨v, h1, h2.below hR hb⟩

section
variable {W : World}
theorem o_int : Opens Try.prog W 3 1 RInt I64 := Opens.int Try.underlying3 (by kernel_rfl)
theorem o_bool : Opens Try.prog W 4 1 RBool Always := Opens.bool Try.underlying4 (by kernel_rfl)
theorem o_str : Opens Try.prog W 9 1 RStr (fun s => s.size ≤ maxLen) := Opens.str Try.underlying9 (by kernel_rfl)
theorem pair_conv {P : Program} {t : TypeId} (h : Opens P W t (1 + 1) (fun w cs (x : Int × Int) => ∃ a b, cs = a ++ b ∧ RInt w a x.1 ∧ RInt w b x.2) (fun x => I64 x.1 ∧ I64 x.2)) : Opens P W t 2 RPair (fun x => I64 x.1 ∧ I64 x.2) :=
  h.conv fun cs x ⟨a, b, hcs, ha, hb⟩ ok => ⟨x, by show cs = _; rw [hcs, ha, hb]; rfl, ok⟩
theorem trip_conv {P : Program} {t : TypeId} (h : Opens P W t (1 + 1 + 1) (fun w cs (x : Int × Int × Int) => ∃ a b c, cs = a ++ b ++ c ∧ RInt w a x.1 ∧ RInt w b x.2.1 ∧ RInt w c x.2.2) (fun x => I64 x.1 ∧ I64 x.2.1 ∧ I64 x.2.2)) :
    Opens P W t 3 RTrip (fun x => I64 x.1 ∧ I64 x.2.1 ∧ I64 x.2.2) :=
  h.conv fun cs x ⟨a, b, c, hcs, ha, hb, hc⟩ ok => ⟨x, by show cs = _; rw [hcs, ha, hb, hc]; rfl, ok⟩
theorem quad_conv {P : Program} {t : TypeId} (h : Opens P W t (1 + 1 + 1 + 1) (fun w cs (x : Int × Int × Int × Int) => ∃ a b c d, cs = a ++ b ++ c ++ d ∧ RInt w a x.1 ∧ RInt w b x.2.1 ∧ RInt w c x.2.2.1 ∧ RInt w d x.2.2.2) (fun x => I64 x.1 ∧ I64 x.2.1 ∧ I64 x.2.2.1 ∧ I64 x.2.2.2)) :
    Opens P W t 4 RQuad (fun x => I64 x.1 ∧ I64 x.2.1 ∧ I64 x.2.2.1 ∧ I64 x.2.2.2) :=
  h.conv fun cs x ⟨a, b, c, d, hcs, ha, hb, hc, hd⟩ ok => ⟨x, by show cs = _; rw [hcs, ha, hb, hc, hd]; rfl, ok⟩
theorem dom_conv {P : Program} {t : TypeId} (h : Opens P W t (1 + 1 + 1) (fun w cs (x : Int × Int × Bool) => ∃ a b c, cs = a ++ b ++ c ∧ RInt w a x.1 ∧ RInt w b x.2.1 ∧ RBool w c x.2.2) (fun x => I64 x.1 ∧ I64 x.2.1 ∧ Always x.2.2)) :
    Opens P W t 3 RDom (fun x => I64 x.1 ∧ I64 x.2.1 ∧ Always x.2.2) :=
  h.conv fun cs x ⟨a, b, c, hcs, ha, hb, hc⟩ ok => ⟨x, by show cs = _; rw [hcs, ha, hb, hc]; rfl, ok⟩

theorem o_cell : Opens Try.prog W 175 2 RPair (fun x => I64 x.1 ∧ I64 x.2) := pair_conv (Opens.struct2 Try.underlying175 (by kernel_rfl) rfl rfl o_int o_int)
theorem o_cells : Opens Try.prog W 93 1 (RSl 2 RPair) (AllOk fun x => I64 x.1 ∧ I64 x.2) := Opens.slice Try.underlying93 (by kernel_rfl) (by decide) o_cell
theorem o_dom : Opens Try.prog W 134 3 RDom (fun x => I64 x.1 ∧ I64 x.2.1 ∧ Always x.2.2) := dom_conv (Opens.struct3 Try.underlying134 (by kernel_rfl) rfl rfl rfl o_int o_int o_bool)
theorem o_doms : Opens Try.prog W 49 1 (RSl 3 RDom) (AllOk fun x => I64 x.1 ∧ I64 x.2.1 ∧ Always x.2.2) := Opens.slice Try.underlying49 (by kernel_rfl) (by decide) o_dom
theorem o_prices : Opens Try.prog W 23 4 RQuad (fun x => I64 x.1 ∧ I64 x.2.1 ∧ I64 x.2.2.1 ∧ I64 x.2.2.2) := quad_conv (Opens.struct4 Try.underlying23 (by kernel_rfl) rfl rfl rfl rfl o_int o_int o_int o_int)
theorem o_ints : Opens Try.prog W 24 1 (RSl 1 RInt) (AllOk I64) := Opens.slice Try.underlying24 (by kernel_rfl) (by decide) o_int
theorem o_strs : Opens Try.prog W 40 1 (RSl 1 RStr) (AllOk fun s => s.size ≤ maxLen) := Opens.slice Try.underlying40 (by kernel_rfl) (by decide) o_str
theorem o_bytes : Opens Try.prog W 35 1 (RSl 1 RByte) (AllOk fun x => 0 ≤ x ∧ x ≤ 255) := Opens.slice Try.underlying35 (by kernel_rfl) (by decide) (Opens.byte Try.underlying5 (by kernel_rfl))
theorem o_region : Opens Try.prog W 26 1 (RSl 1 RInt) (AllOk I64) := Opens.struct1 Try.underlying26 (by kernel_rfl) rfl o_ints
end
theorem own : ownKnob Try.prog.godebug = none := by kernel_rfl
theorem laidOut : laidOutB Try.prog = true := by kernel_rfl
end Go.Proofs.Ytkbndchgmokabaa
