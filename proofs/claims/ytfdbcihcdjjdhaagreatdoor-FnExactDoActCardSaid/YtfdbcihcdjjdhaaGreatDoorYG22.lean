/- All tilings behind a head, step by step; the first of the cheapest. Plain laws. What is free behind a head of dominoes; the cells that are free; a list's steps. Plain laws. Tilings and dominoes: a member is a tiling; the tilings with a domino are the tilings without its cells. Plain laws. Lists of lists of the call's own: a slice whose cells hold slices of the call's own. Plain lemmas. -/
import Derived.Test.YtfdbcihcdjjdhaaGreatDoorYK9
import Derived.Test.YtfdbcihcdjjdhaaGreatDoorYK4
import Derived.Test.YtfdbcihcdjjdhaaGreatDoorYK5
import Derived.Test.YtfdbcihcdjjdhaaGreatDoorYSteps
namespace Go.Proofs.YtfdbcihcdjjdhaaGreatDoor
set_option linter.unusedVariables false
set_option maxHeartbeats 4000000
set_option maxRecDepth 100000
def tilsFrom (s:Nat) (head:List Dm):List (List Dm):=(tils s).map (head++·)
theorem from_nil (s:Nat):tilsFrom s []=tils s:=by
 unfold tilsFrom;simp
theorem from_zero (head:List Dm):tilsFrom 0 head=[head]:=by
 unfold tilsFrom;rw[tils_zero];simp
theorem from_len (s:Nat) (head:List Dm):(tilsFrom s head).length=(tils s).length:=by
 unfold tilsFrom;simp
theorem from_step {s i:Nat} (hs:s<U64) (hl:LowBit s i) (head:List Dm):tilsFrom s head=
    (if fitsD s (domRt i)then tilsFrom (sDiff s (domSet (domRt i))) (head++[domRt i])else[])++(if fitsD s (domDn i)then tilsFrom (sDiff s (domSet (domDn i))) (head++[domDn i])else[]):=by
 unfold tilsFrom;rw[tils_step hs hl,List.map_append];congr 1
 · split
   · rw[List.map_map];congr 1;funext t;simp
   · rfl
 · split
   · rw[List.map_map];congr 1;funext t;simp
   · rfl
def freeOf (rows:List Int) (h:List Dm):Nat:=sDiff (setOf rows) (coverGo 0 h)
theorem freeOf_lt {rows:List Int} (hr:RowsOk rows) (h:List Dm):freeOf rows h<U64:=sDiff_lt (setOf_lt hr)
theorem coverGo_bit0 (h : List Dm) (j : Nat) : (coverGo 0 h).testBit j = h.any fun d => domOk d && (domSet d).testBit j := by
 rw[coverGo_bit,Nat.zero_testBit,Bool.false_or]
theorem freeOf_bit {rows:List Int} (hr:RowsOk rows) (h:List Dm) (j:Nat):(freeOf rows h).testBit j=((setOf rows).testBit j&& !(coverGo 0 h).testBit j):=
 sDiff_bit (setOf_lt hr) (coverGo_lt h 0 (by decide)) j
theorem freeOf_nil {rows:List Int} (hr:RowsOk rows):freeOf rows []=setOf rows:=by
 refine Nat.eq_of_testBit_eq fun j=> ?_
 rw[freeOf_bit hr,coverGo_bit0];simp
theorem freeOf_snoc {rows:List Int} (hr:RowsOk rows) (h:List Dm) {d:Dm} (hd:domOk d=true):freeOf rows (h++[d])=sDiff (freeOf rows h) (domSet d):=by
 refine Nat.eq_of_testBit_eq fun j=> ?_
 rw[sDiff_bit (freeOf_lt hr h) (domSet_lt hd),freeOf_bit hr,freeOf_bit hr,coverGo_bit0,coverGo_bit0,List.any_append];simp[hd,Bool.and_assoc]
theorem domAt_bit (l:List Dm) {c:Cl} (hc:cellOk c=true):decide (domAt l c<0)= !(coverGo 0 l).testBit (cellIx c).toNat:=by
 have e:decide (domAt l c<0)=(covOf l c).isNone:=by
  rcases domAt_spec l c with⟨a,b⟩|⟨j,hj,a,b⟩
  · rw[a,b];rfl
  · rw[a,b];simp
 rw[e,coverGo_bit0];unfold covOf
 have q : (fun d : Dm => domOk d && (domSet d).testBit (cellIx c).toNat) = fun d => domHas d c := by
  funext d
  rcases h:domOk d with _|_
  · rw[domHas_no h];rfl
  · rw[←domHas_bit h c,hc]
 rw[q];rcases h:l.any fun d=>domHas d c with _|_
 · rw [List.find?_eq_none.2 (fun x hx => by
    have:=List.any_eq_false.1 h x hx;simpa using this)];rfl
 · obtain⟨x,hx,hp⟩:=List.any_eq_true.1 h;rcases hf:l.find? (fun d=>domHas d c)with _|y
   · exact absurd hp (by simpa using List.find?_eq_none.1 hf x hx)
   · rfl
theorem ixCell_ok {i:Nat} (hi:i<64):cellOk (ixCell i)=true∧(cellIx (ixCell i)).toNat=i:=by
 have h:cellOk (ixCell i)=true:=by rw[cellOk_iff];unfold ixCell;simp only;omega
 refine⟨h,?_⟩;rw[(cellIx_in h).1];unfold ixCell;simp only;omega
def uncF (rows:List Int) (l:List Dm):List Cl:=(regCells rows).filter fun c=>decide (domAt l c<0)
theorem uncF_is {rows:List Int} (hr:RowsOk rows) (l:List Dm):uncF rows l=cellsTo (freeOf rows l) 64:=by
 unfold uncF regCells;rw[if_pos (regionOk_iff.2 hr)];unfold cellsTo;rw[List.filter_map,List.filter_filter];congr 1
 refine List.filter_congr fun i hi=> ?_
 have hi':=List.mem_range.1 hi;obtain⟨h1,h2⟩:=ixCell_ok hi';rw[freeOf_bit hr,Function.comp_apply,domAt_bit l h1,h2,Bool.and_comm]
theorem fits_second {rows:List Int} (hr:RowsOk rows) (l:List Dm) {d:Dm} (hd:domOk d=true) (hi:(freeOf rows l).testBit (domI d)=true):
 fitsD (freeOf rows l) d=(hasCellP rows (sec d)&&decide (domAt l (sec d)<0)):=by
 obtain⟨h1,h2⟩:=domOk_cells hd;unfold hasCellP;rw[domAt_bit l h2,regionOk_iff.2 hr,h2,Bool.true_and,Bool.true_and,show(cellIx (sec d)).toNat=domJ d from rfl,←freeOf_bit hr];unfold fitsD;rw[hd,Bool.true_and];rw[Bool.eq_iff_iff,decide_eq_true_iff];constructor
 · intro h;exact and_sub h _ (by rw[domSet_bit hd];simp)
 · intro h;refine Nat.eq_of_testBit_eq fun j=> ?_
   rw[Nat.testBit_and,domSet_bit hd];by_cases e1:domI d=j
   · subst e1;simp[hi]
   · by_cases e2:domJ d=j
     · subst e2;simp[h]
     · simp[e1,e2]
theorem low_next {s i j:Nat} {d:Dm} (hs:s<U64) (hl:LowBit s i) (hd:domOk d=true) (hI:domI d=i):∀k,k<i+1→(sDiff s (domSet d)).testBit k=false:=by
 intro k hk;rw[sDiff_bit hs (domSet_lt hd),domSet_bit hd];by_cases e:k=i
 · subst e;simp[hI]
 · rw[hl.2.2 k (by omega)];rfl
theorem low_ge {s i j:Nat} (hl:LowBit s i) (hj:∀k,k<j→s.testBit k=false):j≤i:=by
 rcases Nat.lt_or_ge i j with h|h
 · have:=hj i h;rw[hl.2.1]at this;cases this
 · exact h
theorem domI_rt {i:Nat} (h:domOk (domRt i)=true) (hi:i<64):domI (domRt i)=i:=by
 have:=rt_ok hi;rw[h]at this;exact(rt_facts hi (of_decide_eq_true this.symm)).2.1
theorem domI_dn {i:Nat} (h:domOk (domDn i)=true) (hi:i<64):domI (domDn i)=i:=by
 have:=dn_ok hi;rw[h]at this;exact(dn_facts (of_decide_eq_true this.symm)).2.1
theorem tils_til {s:Nat} {t:List Dm}:t∈tils s↔Til 0 s.testBit t:=tl_til 64 0 s.testBit t rfl
theorem Til.part {s:Nat} {t:List Dm} (h:Til 0 s.testBit t):PartOk s t:=
 ⟨fun d hd=>by obtain⟨a,_,c,e⟩:=h.ok d hd;exact in_iff.2 ⟨a,c,e⟩,h.ord,h.ap⟩
theorem tils_part {s:Nat} {t:List Dm} (h:t∈tils s):PartOk s t:=(tils_til.1 h).part
theorem tils_ok {s:Nat} {t:List Dm} (h:t∈tils s):∀d∈t,domOk d=true:=fun d hd=>(in_iff.1 ((tils_part h).1 d hd)).1
theorem cntRows_is {rows:List Int} (hr:RowsOk rows):cntRows rows=((tils (setOf rows)).length:Nat):=by
 unfold cntRows;rw[if_pos (regionOk_iff.2 hr),cntSet_is (setOf_lt hr)]
end Go.Proofs.YtfdbcihcdjjdhaaGreatDoor
namespace Go.Proofs.YtfdbcihcdjjdhaaGreatDoor
open Go.ChangeShapes Go.WideShapes Go.ChangeAt Go.RowKit
set_option linter.unusedVariables false
set_option maxHeartbeats 4000000
set_option maxRecDepth 100000
def eV (u:Value):List Value:=[u]
theorem lenV:∀u:Value,(eV u).length=1:=fun _=>rfl
def OwnLL {α:Type} (E0 E:TypeId) (size:Nat) (enc:α→List Value) (B:Nat) (w:World) (v:Value) (ls:List (List α)):Prop:=
 ∃us:List Value,OwnL E0 1 eV B w v us∧us.length=ls.length∧∀(k:Nat) (u:Value) (x:List α),us[k]? =some u→ls[k]? =some x→OwnL E size enc B w u x
section
variable {α : Type} {E0 E : TypeId} {size : Nat} {enc : α → List Value} {B B' : Nat} {w w' : World} {v v' : Value} {ls : List (List α)}
theorem OwnLL.nil_:OwnLL E0 E size enc B w (.slice none 0 0) ([]:List (List α)):=⟨[],OwnL.nil_,rfl,fun k u x h=>by simp at h⟩
theorem OwnLL.below (h:OwnLL E0 E size enc B w v ls) (hb:Below w.heap.size w w'):OwnLL E0 E size enc B w' v ls:=by
 obtain⟨us,h1,h2,h3⟩:=h;exact⟨us,h1.below hb,h2,fun k u x hu hx=>(h3 k u x hu hx).below hb⟩
theorem OwnLL.alloc (h:OwnLL E0 E size enc B w v ls) (o:Obj):OwnLL E0 E size enc B (w.alloc o) v ls:=by
 obtain⟨us,h1,h2,h3⟩:=h;exact⟨us,h1.alloc o,h2,fun k u x hu hx=>(h3 k u x hu hx).alloc o⟩
theorem OwnLL.mono (h:OwnLL E0 E size enc B w v ls) (hb:B'≤B):OwnLL E0 E size enc B' w v ls:=by
 obtain⟨us,h1,h2,h3⟩:=h;exact⟨us,h1.mono hb,h2,fun k u x hu hx=>(h3 k u x hu hx).mono hb⟩
theorem OwnLL.form (h:OwnLL E0 E size enc B w v ls):∃A c,v= .slice A ls.length c∧ls.length≤c∧c≤maxLen:=by
 obtain⟨us,h1,h2,h3⟩:=h;obtain⟨A,c,q,r,s⟩:=h1.form;rw[h2]at q r;exact⟨A,c,q,r,s⟩
theorem OwnLL.snoc {us:List Value} (hne:E≠E0) (h1:OwnL E0 1 eV B w v us) (h2:us.length=ls.length) (h3:∀(k:Nat) (u:Value) (x:List α),us[k]? =some u→ls[k]? =some x→OwnL E size enc B w u x)
    {u:Value} {x:List α} (hu:OwnL E size enc B w u x) (h':OwnL E0 1 eV B w' v' (us++[u])) (hg:w.grownBy w' v.ownBlock):OwnLL E0 E size enc B w' v' (ls++[x]):=by
 refine⟨us++[u],h',by simp[h2],fun k z y hz hy=> ?_⟩;by_cases hk:k<us.length
 · rw[List.getElem?_append_left hk]at hz;rw[List.getElem?_append_left (by omega)]at hy;exact OwnL.keptF (h3 k z y hz hy) h1 hne hg
 · have e:k=us.length:=by
    have:=(List.getElem?_eq_some_iff.1 hz).1;rw[List.length_append,List.length_singleton]at this;omega
   subst e;rw[List.getElem?_append_right (Nat.le_refl _),Nat.sub_self]at hz;rw[List.getElem?_append_right (by omega),show us.length-ls.length=0 by omega]at hy;simp only[List.getElem?_cons_zero,Option.some.injEq]at hz hy;subst hz;subst hy;exact OwnL.keptF hu h1 hne hg
theorem OwnLL.app {us us2:List Value} {ls2:List (List α)} (hne:E≠E0) (h1:OwnL E0 1 eV B w v us) (h2:us.length=ls.length) (h3:∀(k:Nat) (u:Value) (x:List α),us[k]? =some u→ls[k]? =some x→OwnL E size enc B w u x)
    (g2:us2.length=ls2.length) (g3:∀(k:Nat) (u:Value) (x:List α),us2[k]? =some u→ls2[k]? =some x→OwnL E size enc B w u x) (h':OwnL E0 1 eV B w' v' (us++us2)) (hg:w.grownBy w' v.ownBlock):OwnLL E0 E size enc B w' v' (ls++ls2):=by
 refine⟨us++us2,h',by simp[h2,g2],fun k z y hz hy=> ?_⟩;by_cases hk:k<us.length
 · rw[List.getElem?_append_left hk]at hz;rw[List.getElem?_append_left (by omega)]at hy;exact OwnL.keptF (h3 k z y hz hy) h1 hne hg
 · rw [List.getElem?_append_right (by omega)] at hz;rw[List.getElem?_append_right (by omega),←h2]at hy;exact OwnL.keptF (g3 _ z y hz hy) h1 hne hg
theorem OwnLL.at_ (h:OwnLL E0 E size enc B w v ls) {k:Nat} (hk:k<ls.length):∃us:List Value,OwnL E0 1 eV B w v us∧∃u,us[k]? =some u∧OwnL E size enc B w u ls[k]:=by
 obtain⟨us,h1,h2,h3⟩:=h;have hk':k<us.length:=(by omega);exact⟨us,h1,us[k],List.getElem?_eq_getElem hk',h3 k _ _ (List.getElem?_eq_getElem hk') (List.getElem?_eq_getElem hk)⟩
end
end Go.Proofs.YtfdbcihcdjjdhaaGreatDoor
