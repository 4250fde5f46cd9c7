/- Small laws for drawn regions and for objects of the call's own: a struct stored whole, a variable made, what leaves an object as it is. Plain lemmas. Floors of the call's own: four slices, no two of them in one block; and what leaves them as they are. Plain lemmas. Floors and workshops copied, compared, measured. Conditions: sizes. Floors and workshops of the call's own: marked, and the marks read back. Conditions: sizes.. Conditions, where there are any, stand in the statements. A copy of dominoes, by the program: the walk. Conditions: sizes. -/
import Derived.Test.YtljfoohaapckeaaGreatDoorDK2
import Derived.IntWalk
import Derived.BigRegion
import Derived.Deep.RegionHeld3
import Derived.Deep.DeepCutAuto
import Derived.Test.YtljfoohaapckeaaGreatDoorDK1
import Derived.Test.YtljfoohaapckeaaGreatDoorDK3
import Derived.Test.YtljfoohaapckeaaGreatDoorDK5
namespace Go.Proofs.YtljfoohaapckeaaGreatDoor
open Go.RowKit
set_option linter.unusedVariables false
set_option maxHeartbeats 4000000
set_option maxRecDepth 100000
theorem I1 {w:World} {g:Nat} (cs:Array Value):w.grownBy (w.setRow g cs) (some g):=⟨rfl,rfl,rfl,by simp[World.setRow],fun k hk hne=>setRow_other w g k cs (fun e=>hne (by rw[e]))⟩
theorem aJ {P:Program} {ops:Array Oper} {o:Oper} {a:Act} {w:World} {K:Act->World->Prop} {Q:Exit->Act->World->Prop} {E':Prop} (hgd:o.guard=none) (ty:TypeId) (x y:Operand) (ho:o.op= .store ty x y)
    (g:Nat) (cells:Array Value) (hx:a.eval x= .pointer (some ⟨g,0,none⟩)) (hy:a.eval y= .agg cells)
    (t:TypeId) (old:Array Value) (hg:Blk w g t old) (hi:(P.info? ty).map (·.size)=some cells.size) (hold:old.size=cells.size) (h1:cells.all (·.oneCell')=true)
    (h:∀w',Blk w' g t cells->w.grownBy w' (some g)->K (a.put o.dst undef) w'):
    if Region.wanted o (yielded ops a.tmps)=true then Oper.wp P o a w K Q else E':=by
 have hw:Region.wanted o (yielded ops a.tmps)=true:=(by simp[Region.wanted,hgd]);rw[if_pos hw];exact wp_store_row ty x y ho g cells hx hy t old hg hi hold h1 (h _ (setRow_heap w g old cells t (0,0) hg) (I1 cells))
theorem lU {P:Program} {ops:Array Oper} {o:Oper} {a:Act} {w:World} {K:Act->World->Prop} {Q:Exit->Act->World->Prop} {E':Prop} (hgd:o.guard=none) (ty:TypeId) (cells:Array Value) (ho:o.op= .alloc ty) (hz:∀w,(zeroValue ty).run P w= .ok (.agg cells) w)
    (h:∀g w',Blk w' g ty cells->Below w.heap.size w w'->w.heap.size<=g->g<w'.heap.size->w.heap.size<=w'.heap.size->K (a.put o.dst (.pointer (some ⟨g,0,none⟩))) w'):
    if Region.wanted o (yielded ops a.tmps)=true then Oper.wp P o a w K Q else E':=by
 have hw:Region.wanted o (yielded ops a.tmps)=true:=(by simp[Region.wanted,hgd]);rw[if_pos hw]
 have hrun:(Instr.alloc ty true (.tuple #[])).run P w= .ok (.pointer (some ⟨w.heap.size,0,none⟩)) (w.alloc (.cells cells ty)):=by
  simp[Instr.alloc,hz,newVar,newRow,Value.cells]
 unfold Oper.wp execOp;simp only[ho,Sem.run_bind,Sem.run_pure,Result.andThen_ok,hrun];exact h _ _ (Blk.bK w ty cells) ((Below.refl _ _).al _) (Nat.le_refl _) (by simp) (by simp)
section
variable {α β : Type} {E E2 : TypeId} {size s2 : Nat} {enc : α -> List Value} {e2 : β -> List Value} {B B2 : Nat} {w w' w2 : World} {v v2 : Value} {l : List α} {l2 : List β}
theorem aC.early (h:aC E size enc B w v l) (h2:aC E2 s2 e2 B2 w2 v2 l2) (hb:w.heap.size<=B2) {g:Nat} (hg:v.ownBlock=some g):v2.ownBlock≠some g:=by
 intro h3;have k1:=(World.ownsRow.lt h g hg).2;have k2:=(World.ownsRow.lt h2 g h3).1;omega
theorem aC.Nq (a:aC E size enc B w v l) (b:aC E2 s2 e2 B2 w v2 l2) (hne:E≠E2) {g:Nat} (h1:v.ownBlock=some g):v2.ownBlock≠some g:=by
 rcases b.2 with⟨rfl,_⟩|⟨g2,cap,cur,rfl,_,hh,_⟩
 . simp[Value.ownBlock]
 . intro he;have:g2=g:=(by simpa[Value.ownBlock]using he);subst this;exact(a.apart (g:=g2) (t:=E2) (cs:=cur) hh hne) h1
end
structure Grown (S:Nat->Prop) (w w':World):Prop where
  os:w'.os=w.os
  tape:w'.tape=w.tape
  output:w'.output=w.output
  size:w.heap.size<=w'.heap.size
  block:∀k,k<w.heap.size->¬S k->w'.heap[k]? =w.heap[k]?
section
variable {S T : Nat -> Prop} {w w' w'' w0 : World}
theorem Grown.of {v:Value} (h:w.grownBy w' v.ownBlock):Grown (fun k=>v.ownBlock=some k) w w':=⟨h.os,h.tape,h.output,h.size,fun k hk hs=>h.block k hk fun e=>hs e.symm⟩
theorem Grown.tr (h:Grown S w w') (h':Grown S w' w''):Grown S w w'':=⟨h'.os.trans h.os,h'.tape.trans h.tape,h'.output.trans h.output,Nat.le_trans h.size h'.size,fun k hk hs=>(h'.block k (Nat.lt_of_lt_of_le hk h.size) hs).trans (h.block k hk hs)⟩
theorem aC.nC {α:Type} {E:TypeId} {size:Nat} {enc:α->List Value} {B:Nat} {v:Value} {l:List α} (h:aC E size enc B w v l) (hg:Grown S w w') (hne:∀g,v.ownBlock=some g->¬S g):aC E size enc B w' v l:=by
 rcases h.2 with⟨e,h0⟩|⟨g,cap,cur,e,hb,hh,hc⟩
 . exact⟨h.1,.inl ⟨e,h0⟩⟩
 . refine ⟨h.1, .inr ⟨g, cap, cur, e, hb, (hg.block g ?_ (hne g (by rw [e]; rfl))).trans hh, hc⟩⟩;exact(World.ownsRow.lt h g (by rw[e];rfl)).2
theorem Blk.nC {g:Nat} {t:TypeId} {cs:Array Value} (h:Blk w g t cs) (hg:Grown S w w') (hne:¬S g):Blk w' g t cs:=(hg.block g h.lt hne).trans h
theorem Below.nC {B:Nat} (h:Below B w0 w) (hg:Grown S w w') (hB:B<=w.heap.size) (hS:∀k,S k->B<=k):Below B w0 w':=
 ⟨hg.os.trans h.os,hg.tape.trans h.tape,hg.output.trans h.output,Nat.le_trans h.size hg.size,fun k hk=>(hg.block k (by omega) (fun e=>by have:=hS k e;omega)).trans (h.block k hk)⟩
end
theorem aC.DY {α:Type} {E:TypeId} {size:Nat} {enc:α->List Value} {B g:Nat} {w w':World} {v:Value} {l:List α} {t:TypeId} {cs:Array Value} (h:aC E size enc B w v l) (hb:Blk w g t cs) (hne:E≠t) (hg:w.grownBy w' (some g)):aC E size enc B w' v l:=
 h.nC (S:=fun k=>k=g) ⟨hg.os,hg.tape,hg.output,hg.size,fun k hk hs=>hg.block k hk (fun e=>hs (by injection e))⟩ (fun k hk e=>h.apart hb hne (e▸hk))
theorem aC.kJ {α β:Type} {E1 E2:TypeId} {s1 s2:Nat} {e1:α->List Value} {e2:β->List Value} {B1 B2:Nat} {w w':World} {v1 v2:Value} {l1:List α} {l2:List β} (a:aC E1 s1 e1 B1 w v1 l1) (b:aC E2 s2 e2 B2 w v2 l2) (hne:E1≠E2) (hg:w.grownBy w' v2.ownBlock):aC E1 s1 e1 B1 w' v1 l1:=by
 refine World.ownsRow.kept a hg ?_;rcases h1:v1.ownBlock with _|g1
 . exact .inl rfl
 . exact .inr fun h=>a.Nq b hne h1 h.symm
end Go.Proofs.YtljfoohaapckeaaGreatDoor
namespace Go.Proofs.YtljfoohaapckeaaGreatDoor
open Go.ChangeShapes Go.WideShapes Go.ChangeAt Go.RowKit
set_option linter.unusedVariables false
set_option linter.unusedSimpArgs false
set_option maxHeartbeats 4000000
set_option maxRecDepth 100000
structure aD (B:Nat) (w:World) (v1 v2 v3 v4:Value) (x:Fl):Prop where
  a:aC 3 1 aY B w v1 x.1
  b:aC 60 3 aT B w v2 x.2.1
  c:aC 60 3 aT B w v3 x.2.2.1
  d:aC 70 2 dE B w v4 x.2.2.2
  ap:∀g,v2.ownBlock=some g->v3.ownBlock≠some g
def MJ (v1 v2 v3 v4:Value) (k:Nat):Prop:=v1.ownBlock=some k∨v2.ownBlock=some k∨v3.ownBlock=some k∨v4.ownBlock=some k
section
variable {B B' : Nat} {w w' w2 w3 : World} {v1 v2 v3 v4 u1 u2 u3 u4 : Value} {x y : Fl} {S : Nat -> Prop}
theorem aD.lt (h:aD B w v1 v2 v3 v4 x) {k:Nat} (hk:MJ v1 v2 v3 v4 k):B<=k/\k<w.heap.size:=by
 rcases hk with q|q|q|q
 . exact World.ownsRow.lt h.a k q
 . exact World.ownsRow.lt h.b k q
 . exact World.ownsRow.lt h.c k q
 . exact World.ownsRow.lt h.d k q
theorem aD.below (h:aD B w v1 v2 v3 v4 x) (hb:Below w.heap.size w w'):aD B w' v1 v2 v3 v4 x:=⟨h.a.below hb,h.b.below hb,h.c.below hb,h.d.below hb,h.ap⟩
theorem aD.alloc (h:aD B w v1 v2 v3 v4 x) (o:Obj):aD B (w.alloc o) v1 v2 v3 v4 x:=⟨h.a.alloc o,h.b.alloc o,h.c.alloc o,h.d.alloc o,h.ap⟩
theorem aD.mono (h:aD B w v1 v2 v3 v4 x) (hb:B'<=B):aD B' w v1 v2 v3 v4 x:=⟨h.a.mono hb,h.b.mono hb,h.c.mono hb,h.d.mono hb,h.ap⟩
theorem aD.nC (h:aD B w v1 v2 v3 v4 x) (hg:Grown S w w') (hne:∀k,MJ v1 v2 v3 v4 k->¬S k):aD B w' v1 v2 v3 v4 x:=
 ⟨h.a.nC hg (fun g q=>hne g (.inl q)),h.b.nC hg (fun g q=>hne g (.inr (.inl q))),h.c.nC hg (fun g q=>hne g (.inr (.inr (.inl q)))),h.d.nC hg (fun g q=>hne g (.inr (.inr (.inr q)))),h.ap⟩
theorem aD.ra (h:aD B w v1 v2 v3 v4 x):Rd 1 bH w v1 x.1:=h.a.rd aL (by decide)
theorem aD.rb (h:aD B w v1 v2 v3 v4 x):Rd 3 aU w v2 x.2.1:=h.b.rd aB (by decide)
theorem aD.rc (h:aD B w v1 v2 v3 v4 x):Rd 3 aU w v3 x.2.2.1:=h.c.rd aB (by decide)
theorem aD.rd (h:aD B w v1 v2 v3 v4 x):Rd 2 bT w v4 x.2.2.2:=h.d.rd dS (by decide)
theorem aD.early (h : aD B w v1 v2 v3 v4 x) (h2 : aD B' w2 u1 u2 u3 u4 y) (hb : w.heap.size <= B') {k : Nat} (hk : MJ v1 v2 v3 v4 k) : ¬ MJ u1 u2 u3 u4 k := fun hu => by
 have k1:=(h.lt hk).2;have k2:=(h2.lt hu).1;omega
theorem aD.apart {g:Nat} {t:TypeId} {cs:Array Value} (h:aD B w v1 v2 v3 v4 x) (hb:Blk w g t cs) (h1:3≠t) (h2:60≠t) (h3:70≠t):¬MJ v1 v2 v3 v4 g:=by
 rintro(q|q|q|q)
 . exact h.a.apart hb h1 q
 . exact h.b.apart hb h2 q
 . exact h.c.apart hb h2 q
 . exact h.d.apart hb h3 q
end
theorem aD.eD {B g:Nat} {w w':World} {v1 v2 v3 v4:Value} {x:Fl} {t:TypeId} {cs:Array Value} (h:aD B w v1 v2 v3 v4 x) (hb:Blk w g t cs) (h1:3≠t) (h2:60≠t) (h3:70≠t) (hg:w.grownBy w' (some g)):aD B w' v1 v2 v3 v4 x:=
 h.nC (S:=fun k=>k=g) ⟨hg.os,hg.tape,hg.output,hg.size,fun k hk hs=>hg.block k hk (fun e=>hs (by injection e))⟩ (fun k hk e=>h.apart hb h1 h2 h3 (e▸hk))
section
variable {P : Program} {ops : Array Oper} {o : Oper} {a : Act} {w : World} {K : Act -> World -> Prop} {Q : Exit -> Act -> World -> Prop} {E' : Prop} {t E : TypeId} {z : Value} {size bytes : Nat}
theorem fV (R:Row P t E z size bytes) (hgd:o.guard=none) (ho:o.op= .buildSlice t 0 #[])
    (h:∀g w',Blk w' g E #[]->Below w.heap.size w w'->w.heap.size<=g->g<w'.heap.size->w.heap.size<=w'.heap.size->K (a.put o.dst (.slice (some ⟨g,0,none⟩) 0 0)) w'):
    if Region.wanted o (yielded ops a.tmps)=true then Oper.wp P o a w K Q else E':=by
 have hw:Region.wanted o (yielded ops a.tmps)=true:=(by simp[Region.wanted,hgd]);rw[if_pos hw];obtain⟨ht,hinfo,hzs,hsz⟩:=R;obtain⟨i0,hi,hz0,hz1,hz2⟩:=info_parts hinfo
 have hrun:(Instr.buildSlice t 0 #[]).run P w= .ok (.slice (some ⟨w.heap.size,0,none⟩) 0 0) (w.alloc (.cells #[] E)):=by
  simp[Instr.buildSlice,run_underlying ht,sizeOf,typeInfo,hi,newRow,Instr.fill];have e:(Array.map (fun _=>(default:Value)) (Array.range 0))= #[]:=by apply Array.eq_empty_of_size_eq_zero;simp
  rw[e]
 unfold Oper.wp execOp;simp only[ho,Sem.run_bind,Sem.run_pure,Result.andThen_ok,List.map_toArray,List.map_nil,Array.map_empty,hrun];exact h _ _ (Blk.bK w E #[]) ((Below.refl _ _).al _) (Nat.le_refl _) (by simp) (by simp)
theorem iC (R:Row P t E z size bytes) {α:Type} {enc:α->List Value} (henc:∀x,(enc x).length=size) (h1:∀x,∀u∈enc x,u.oneCell'=true) {B g:Nat} (hb:Blk w g E #[]) (hB:B<=g) {A:Option Addr} {c:Nat} {m:List α} (hm:Rd size (RE enc) w (.slice A m.length c) m)
    (hlen:m.length*bytes<=140737488355328) (hlen2:m.length<=maxLen) (hgd:o.guard=none) (s x:Operand) (ho:o.op= .call {callee:= .builtin .append,args:= #[s,x],argTypes:= #[t,t]})
    (hs:a.eval s= .slice (some ⟨g,0,none⟩) 0 0) (hx:a.eval x= .slice A m.length c)
    (h:∀A' c' w',aC E size enc B w' (.slice A' m.length c') m->Below w.heap.size w w'->(∀k,(Value.slice A' m.length c').ownBlock=some k->k=g∨(w.heap.size<=k/\k<w'.heap.size))->w.heap.size<=w'.heap.size->K (a.put o.dst (.slice A' m.length c')) w'):
    if Region.wanted o (yielded ops a.tmps)=true then Oper.wp P o a w K Q else E':=by
 have hw:Region.wanted o (yielded ops a.tmps)=true:=(by simp[Region.wanted,hgd]);rw[if_pos hw];obtain⟨ht,hinfo,hzs,hsz⟩:=R;obtain⟨i0,hi,hz0,hz1,hz2⟩:=info_parts hinfo;have hown:aC E size enc B w (.slice (some ⟨g,0,none⟩) 0 0) ([]:List α):=⟨by simp,.inr ⟨g,0,#[],rfl,hB,hb,Nat.le_refl _,Nat.zero_le _,by simp,by simp⟩⟩
 have key:∃A' c' w',(Builtin.append_ #[t,t] o.type #[.slice (some ⟨g,0,none⟩) 0 0,.slice A m.length c]).run P w= .ok (.slice A' m.length c') w'/\aC E size enc B w' (.slice A' m.length c') m/\Below w.heap.size w w'/\(∀k,(Value.slice A' m.length c').ownBlock=some k->k=g∨(w.heap.size<=k/\k<w'.heap.size))/\w.heap.size<=w'.heap.size:=by
  by_cases hA:m=[]
  . subst hA;refine⟨some ⟨g,0,none⟩,0,w,?_,hown,Below.refl _ _,fun k hk=> .inl (by simpa[Value.ownBlock]using hk.symm),Nat.le_refl _⟩;rcases A with _|ad
    . simp[Builtin.append_,run_underlying ht,sizeOf,typeInfo,hi,Builtin.lenOf,Builtin.firstCells,storeCells]
    . simp[Builtin.append_,run_underlying ht,sizeOf,typeInfo,hi,Builtin.lenOf,Builtin.firstCells,storeCells,loadCells,loadCellsFrom]
  . have hm0:0<m.length:=List.length_pos_iff.2 hA
    obtain⟨ad,rfl⟩:∃ad,A=some ad:=by
     obtain⟨A',c',e,_,_,h3⟩:=hm;injection e with e1 e2 e3;obtain⟨b,off,e4,_⟩:=h3 hm0;exact⟨_,e1.trans e4⟩
    have hcells:∀j u,(m.flatMap enc)[j]? =some u->w.cell? (ad.add j)=some u:=by
     intro j u hj;obtain⟨i,x,r,k1,k2,k3⟩:=Ci henc m j u hj;have hi':i<m.length:=(List.getElem?_eq_some_iff.1 k1).1;obtain⟨b,off,e,_,hc⟩:=hm.at_ hi';injection e with e;subst e;have hx:m[i]=x:=by rw[List.getElem?_eq_getElem hi']at k1;injection k1
     have:=hc r u (by rw[hx];exact k2)
     have e:(Addr.mk b off none).add j=⟨b,off+i*size+r,none⟩:=by
      unfold Addr.add;split
      . simp_all
      . simp[k3,Nat.add_assoc]
     rw[e];exact this
    have hgl:g<w.heap.size:=hb.lt
    obtain⟨v',w',hrun,h2,h3,_,h5⟩:=run_append_own_at (P:=P) w B t o.type E i0 z size bytes ht hi hz0 hz1 hz2 hzs hsz _ 0 ([]:List Value) hown
      ad m.length c (m.flatMap enc) (gW henc m) hcells (IX h1 m) (by simpa using hlen2) (by simpa using hlen) (by omega)
    have hr:=run_append_grow (P:=P) w t o.type E i0 z ht hi hz0 ⟨g,0,none⟩ 0 0 [] (by simp) (by simp) ad m.length c (m.flatMap enc) (by rw[hz1];exact gW henc m) hcells (by omega) (by unfold maxLen at hlen2;omega) (growslice_fits (by omega) (by rw[hz2];simpa using hlen));rw[hr]at hrun;injection hrun with e1 e2;subst e1;subst e2;simp only[Nat.zero_add,List.nil_append]at h2 hr⊢;refine⟨_,_,_,hr,by unfold aC;exact h2,?_,?_,?_⟩
    . exact((Below.refl _ _).drew).al _
    . intro k hk;right;have:w.heap.size=k:=(by simpa[Value.ownBlock]using hk);subst this;simp
    . simp
 obtain⟨A',c',w',hrun,hO,hbl,hk,hz⟩:=key;unfold Oper.wp execOp;simp only[ho,resolve,invoke,builtin,Sem.run_bind,Sem.run_pure,Result.andThen_ok,List.map_toArray,List.map_cons,List.map_nil,hs,hx,hrun];exact h A' c' w' hO hbl hk hz
end
def I4 (w:World) (cs:List Value) (x:Fl):Prop:=∃a b c d,cs=a++b++c++d/\RSl 1 bH w a x.1/\RSl 3 aU w b x.2.1/\RSl 3 aU w c x.2.2.1/\RSl 2 bT w d x.2.2.2
theorem I4.form {w:World} {cs:List Value} {x:Fl} (h:I4 w cs x):∃v1 v2 v3 v4,cs=[v1,v2,v3,v4]/\Rd 1 bH w v1 x.1/\Rd 3 aU w v2 x.2.1/\Rd 3 aU w v3 x.2.2.1/\Rd 2 bT w v4 x.2.2.2:=by
 obtain⟨a,b,c,d,rfl,⟨v1,rfl,h1⟩,⟨v2,rfl,h2⟩,⟨v3,rfl,h3⟩,⟨v4,rfl,h4⟩⟩:=h;exact⟨v1,v2,v3,v4,rfl,h1,h2,h3,h4⟩
def wW (x:Fl) (w:World) (e:Ending) (w':World):Prop:=∃A1 c1 A2 c2 A3 c3 A4 c4,e= .returned (.agg #[.slice A1 x.1.length c1,.slice A2 x.2.1.length c2,.slice A3 x.2.2.1.length c3,.slice A4 x.2.2.2.length c4])/\
  aD w.heap.size w' (.slice A1 x.1.length c1) (.slice A2 x.2.1.length c2) (.slice A3 x.2.2.1.length c3) (.slice A4 x.2.2.2.length c4) x/\Below w.heap.size w w'
def dZ (x:Fl):Prop:=Small x.1.length/\Small x.2.1.length/\Small x.2.2.1.length/\Small x.2.2.2.length
abbrev Wk:=Fl×Int×Int×Int
def Nr (w:World) (cs:List Value) (y:Wk):Prop:=∃a b c d,cs=a++b++c++d/\I4 w a y.1/\bH w b y.2.1/\bH w c y.2.2.1/\bH w d y.2.2.2
theorem Nr.form {w:World} {cs:List Value} {y:Wk} (h:Nr w cs y):∃v1 v2 v3 v4,cs=[v1,v2,v3,v4,.int .i64 y.2.1,.int .i64 y.2.2.1,.int .i64 y.2.2.2]/\Rd 1 bH w v1 y.1.1/\Rd 3 aU w v2 y.1.2.1/\Rd 3 aU w v3 y.1.2.2.1/\Rd 2 bT w v4 y.1.2.2.2:=by
 obtain⟨a,b,c,d,rfl,hf,rfl,rfl,rfl⟩:=h;obtain⟨v1,v2,v3,v4,rfl,h1,h2,h3,h4⟩:=hf.form;exact⟨v1,v2,v3,v4,rfl,h1,h2,h3,h4⟩
def rY (x:Fl) (b:Bool) (w:World) (e:Ending) (w':World):Prop:=∃A1 c1 A2 c2 A3 c3 A4 c4,e= .returned (.tuple #[.agg #[.slice A1 x.1.length c1,.slice A2 x.2.1.length c2,.slice A3 x.2.2.1.length c3,.slice A4 x.2.2.2.length c4],.bool b])/\
  aD w.heap.size w' (.slice A1 x.1.length c1) (.slice A2 x.2.1.length c2) (.slice A3 x.2.2.1.length c3) (.slice A4 x.2.2.2.length c4) x/\Below w.heap.size w w'
theorem aD.Ou {B:Nat} {w w':World} {v1 v2 v3 v4 u4:Value} {r:List Int} {f n:List Dm} {c c':List Cl} (h:aD B w v1 v2 v3 v4 (r,f,n,c)) (o:aC 70 2 dE B w' u4 c') (hg:w.grownBy w' v4.ownBlock):aD B w' v1 v2 v3 u4 (r,f,n,c'):=
 ⟨h.a.nC (Grown.of hg) (fun g q=>h.a.Nq h.d (by decide) q),h.b.nC (Grown.of hg) (fun g q=>h.b.Nq h.d (by decide) q),h.c.nC (Grown.of hg) (fun g q=>h.c.Nq h.d (by decide) q),o,h.ap⟩
theorem cZ (v:Value) (l:List Dm) (w:World) (h:Rd 3 aU w v l) (hl:Small l.length):Calls Tryz.prog 88 #[v] w (jA 60 3 aT l w):=by
 obtain⟨A,c,rfl,hc,hm⟩:=h.form;have h':=h.Oz ((Below.refl _ _).al (.cells #[] 60));have hs8:(0+l.length)*24<=140737488355328:=by unfold Small at hl;omega
 have hsm:0+l.length<=maxLen:=by have:=hl.max;omega
 have H8:=OA hs8;have HM:=OA hsm;clear hs8 hsm;go_enter Tryz.func88,Tryz.ntmps88
 go_wp2_with (at_builtin;go_must (refine dY (enc:=aT) aI aB aM (B:=w.heap.size) (by simp) (fB w) h' H8.out HM.out rfl _ _ rfl rfl rfl ?_);intro v1 w1 own1 hb1 hv1;obtain⟨A1,c1,rfl⟩:=hv1;simp only[List.nil_append,List.length_nil,Nat.zero_add]at own1)
 go_wp2;go_ret;exact⟨A1,c1,rfl,own1,((Below.refl _ _).al _).trans hb1⟩
end Go.Proofs.YtljfoohaapckeaaGreatDoor
