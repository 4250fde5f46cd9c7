/- What is free behind a head of dominoes; the cells that are free; a list's steps. Plain laws. -/
import Derived.Test.YtfdbcihcdjjdhaaGreatDoorZListPl
import Derived.Test.YtfdbcihcdjjdhaaGreatDoorZK4
import Derived.Test.YtfdbcihcdjjdhaaGreatDoorZK5
namespace Go.Proofs.YtfdbcihcdjjdhaaGreatDoor
set_option linter.unusedVariables false
def freeOf (rows:List Int) (h:List Dm):Nat:=sDiff (setOf rows) (coverGo 0 h)
theorem freeOf_lt {rows:List Int} (hr:RowsOk rows) (h:List Dm):freeOf rows h<U64:=sDiff_lt (setOf_lt hr)
theorem coverGo_bit0 (h : List Dm) (j : Nat) : (coverGo 0 h).testBit j = h.any fun d => domOk d && (domSet d).testBit j := by
 rw[coverGo_bit,Nat.zero_testBit,Bool.false_or]
theorem freeOf_bit {rows:List Int} (hr:RowsOk rows) (h:List Dm) (j:Nat):(freeOf rows h).testBit j=((setOf rows).testBit j&& !(coverGo 0 h).testBit j):=
 sDiff_bit (setOf_lt hr) (coverGo_lt h 0 (by decide)) j
theorem freeOf_nil {rows:List Int} (hr:RowsOk rows):freeOf rows []=setOf rows:=by
 refine Nat.eq_of_testBit_eq fun j=> ?_
 rw[freeOf_bit hr,coverGo_bit0];simp
theorem freeOf_snoc {rows:List Int} (hr:RowsOk rows) (h:List Dm) {d:Dm} (hd:domOk d=true):freeOf rows (h++[d])=sDiff (freeOf rows h) (domSet d):=by
 refine Nat.eq_of_testBit_eq fun j=> ?_
 rw[sDiff_bit (freeOf_lt hr h) (domSet_lt hd),freeOf_bit hr,freeOf_bit hr,coverGo_bit0,coverGo_bit0,List.any_append]
 simp[hd,Bool.and_assoc]
theorem domAt_bit (l:List Dm) {c:Cl} (hc:cellOk c=true):decide (domAt l c<0)= !(coverGo 0 l).testBit (cellIx c).toNat:=by
 have e:decide (domAt l c<0)=(covOf l c).isNone:=by
  rcases domAt_spec l c with⟨a,b⟩|⟨j,hj,a,b⟩
  · rw[a,b];rfl
  · rw[a,b];simp
 rw[e,coverGo_bit0]
 unfold covOf
 have q : (fun d : Dm => domOk d && (domSet d).testBit (cellIx c).toNat) = fun d => domHas d c := by
  funext d
  rcases h:domOk d with _|_
  · rw[domHas_no h];rfl
  · rw[←domHas_bit h c,hc]
 rw[q]
 rcases h:l.any fun d=>domHas d c with _|_
 · rw [List.find?_eq_none.2 (fun x hx => by
    have:=List.any_eq_false.1 h x hx
    simpa using this)];rfl
 · obtain⟨x,hx,hp⟩:=List.any_eq_true.1 h
   rcases hf:l.find? (fun d=>domHas d c)with _|y
   · exact absurd hp (by simpa using List.find?_eq_none.1 hf x hx)
   · rfl
theorem ixCell_ok {i:Nat} (hi:i<64):cellOk (ixCell i)=true∧(cellIx (ixCell i)).toNat=i:=by
 have h:cellOk (ixCell i)=true:=by rw[cellOk_iff];unfold ixCell;simp only;omega
 refine⟨h,?_⟩
 rw[(cellIx_in h).1];unfold ixCell;simp only;omega
def uncF (rows:List Int) (l:List Dm):List Cl:=(regCells rows).filter fun c=>decide (domAt l c<0)
theorem uncF_is {rows:List Int} (hr:RowsOk rows) (l:List Dm):uncF rows l=cellsTo (freeOf rows l) 64:=by
 unfold uncF regCells
 rw[if_pos (regionOk_iff.2 hr)]
 unfold cellsTo
 rw[List.filter_map,List.filter_filter]
 congr 1
 refine List.filter_congr fun i hi=> ?_
 have hi':=List.mem_range.1 hi
 obtain⟨h1,h2⟩:=ixCell_ok hi'
 rw[freeOf_bit hr,Function.comp_apply,domAt_bit l h1,h2,Bool.and_comm]
theorem fits_second {rows:List Int} (hr:RowsOk rows) (l:List Dm) {d:Dm} (hd:domOk d=true) (hi:(freeOf rows l).testBit (domI d)=true):
 fitsD (freeOf rows l) d=(hasCellP rows (sec d)&&decide (domAt l (sec d)<0)):=by
 obtain⟨h1,h2⟩:=domOk_cells hd
 unfold hasCellP
 rw[domAt_bit l h2,regionOk_iff.2 hr,h2,Bool.true_and,Bool.true_and,show(cellIx (sec d)).toNat=domJ d from rfl,←freeOf_bit hr]
 unfold fitsD
 rw[hd,Bool.true_and]
 rw[Bool.eq_iff_iff,decide_eq_true_iff]
 constructor
 · intro h
   exact and_sub h _ (by rw[domSet_bit hd];simp)
 · intro h
   refine Nat.eq_of_testBit_eq fun j=> ?_
   rw[Nat.testBit_and,domSet_bit hd]
   by_cases e1:domI d=j
   · subst e1;simp[hi]
   · by_cases e2:domJ d=j
     · subst e2;simp[h]
     · simp[e1,e2]
theorem low_next {s i j:Nat} {d:Dm} (hs:s<U64) (hl:LowBit s i) (hd:domOk d=true) (hI:domI d=i):∀k,k<i+1→(sDiff s (domSet d)).testBit k=false:=by
 intro k hk
 rw[sDiff_bit hs (domSet_lt hd),domSet_bit hd]
 by_cases e:k=i
 · subst e;simp[hI]
 · rw[hl.2.2 k (by omega)];rfl
theorem low_ge {s i j:Nat} (hl:LowBit s i) (hj:∀k,k<j→s.testBit k=false):j≤i:=by
 rcases Nat.lt_or_ge i j with h|h
 · have:=hj i h;rw[hl.2.1]at this;cases this
 · exact h
theorem domI_rt {i:Nat} (h:domOk (domRt i)=true) (hi:i<64):domI (domRt i)=i:=by
 have:=rt_ok hi;rw[h]at this;exact(rt_facts hi (of_decide_eq_true this.symm)).2.1
theorem domI_dn {i:Nat} (h:domOk (domDn i)=true) (hi:i<64):domI (domDn i)=i:=by
 have:=dn_ok hi;rw[h]at this;exact(dn_facts (of_decide_eq_true this.symm)).2.1
end Go.Proofs.YtfdbcihcdjjdhaaGreatDoor
