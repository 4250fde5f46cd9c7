import Derived.Test.YtjijonhkofhikaaGreatDoorEK5
open _root_.Nat renaming le_refl->TZ
open _root_.Go.Value renaming ownBlock->T9,oneCell'->Ua
set_option linter.unusedVariables false
set_option maxHeartbeats 4000000
set_option maxRecDepth 100000
set_option linter.unusedSimpArgs false
namespace Go.Proofs.YtjijonhkofhikaaGreatDoor
open Go.RowKit
theorem Je {w:World} {g:Nat} (cs:Array Value):w.grownBy (w.setRow g cs) (some g):=⟨rfl,rfl,rfl,by simp[World.setRow],fun k hk hne=>setRow_other w g k cs (fun e=>hne (by rw[e]))⟩
theorem aL {P:Program} {ops:Array Oper} {o:Oper} {a:Act} {w:World} {K:Act->World->Prop} {Q:Exit->Act->World->Prop} {E':Prop} (hgd:o.guard=none) (ty:TypeId) (x y:Operand) (ho:o.op= .store ty x y)
    (g:Nat) (cells:Array Value) (hx:a.eval x= .pointer (some ⟨g,0,none⟩)) (hy:a.eval y= .agg cells)
    (t:TypeId) (old:Array Value) (hg:Blk w g t old) (hi:(P.info? ty).map (·.size)=some cells.size) (hold:old.size=cells.size) (h1:cells.all (·.oneCell')=true)
    (h:∀w',Blk w' g t cells->w.grownBy w' (some g)->K (a.put o.dst undef) w'):
    if Region.wanted o (yielded ops a.tmps)=true then Oper.wp P o a w K Q else E':=by
 have hw:Region.wanted o (yielded ops a.tmps)=true:=(by simp[Region.wanted,hgd]);rw[if_pos hw];exact wp_store_row ty x y ho g cells hx hy t old hg hi hold h1 (h _ (setRow_heap w g old cells t (0,0) hg) (Je cells))
theorem nW {P:Program} {ops:Array Oper} {o:Oper} {a:Act} {w:World} {K:Act->World->Prop} {Q:Exit->Act->World->Prop} {E':Prop} (hgd:o.guard=none) (ty:TypeId) (cells:Array Value) (ho:o.op= .alloc ty) (hz:∀w,(zeroValue ty).run P w= .ok (.agg cells) w)
    (h:∀g w',Blk w' g ty cells->Below w.heap.size w w'->w.heap.size<=g->g<w'.heap.size->w.heap.size<=w'.heap.size->K (a.put o.dst (.pointer (some ⟨g,0,none⟩))) w'):
    if Region.wanted o (yielded ops a.tmps)=true then Oper.wp P o a w K Q else E':=by
 have hw:Region.wanted o (yielded ops a.tmps)=true:=(by simp[Region.wanted,hgd]);rw[if_pos hw]
 have hrun:(Instr.alloc ty true (.tuple #[])).run P w= .ok (.pointer (some ⟨w.heap.size,0,none⟩)) (w.alloc (.cells cells ty)):=by
  simp[Instr.alloc,hz,newVar,newRow,Value.cells]
 unfold Oper.wp execOp;simp only[ho,Sem.run_bind,Sem.run_pure,Result.andThen_ok,hrun];exact h _ _ (Blk.aZ w ty cells) ((Below.refl _ _).al _) (TZ _) (by simp) (by simp)
section
variable {α β : Type} {E E2 : TypeId} {size s2 : Nat} {enc : α -> List Value} {e2 : β -> List Value} {B B2 : Nat} {w w' w2 : World} {v v2 : Value} {l : List α} {l2 : List β}
theorem aD.early (h:aD E size enc B w v l) (h2:aD E2 s2 e2 B2 w2 v2 l2) (hb:w.heap.size<=B2) {g:Nat} (hg:v.ownBlock=some g):v2.ownBlock≠some g:=by
 intro h3;have k1:=(World.ownsRow.lt h g hg).2;have k2:=(World.ownsRow.lt h2 g h3).1;omega
theorem aD.Ep (a:aD E size enc B w v l) (b:aD E2 s2 e2 B2 w v2 l2) (hne:E≠E2) {g:Nat} (h1:v.ownBlock=some g):v2.ownBlock≠some g:=by
 rcases b.2 with⟨rfl,_⟩|⟨g2,cap,cur,rfl,_,hh,_⟩
 . simp[T9]
 . intro he;have:g2=g:=(by simpa[T9]using he);subst this;exact(a.apart (g:=g2) (t:=E2) (cs:=cur) hh hne) h1
end
structure Grown (S:Nat->Prop) (w w':World):Prop where
  os:w'.os=w.os
  tape:w'.tape=w.tape
  output:w'.output=w.output
  size:w.heap.size<=w'.heap.size
  block:∀k,k<w.heap.size->¬S k->w'.heap[k]? =w.heap[k]?
section
variable {S T : Nat -> Prop} {w w' w'' w0 : World}
theorem Grown.of {v:Value} (h:w.grownBy w' v.ownBlock):Grown (fun k=>v.ownBlock=some k) w w':=⟨h.os,h.tape,h.output,h.size,fun k hk hs=>h.block k hk fun e=>hs e.symm⟩
theorem Grown.tr (h:Grown S w w') (h':Grown S w' w''):Grown S w w'':=⟨h'.os.trans h.os,h'.tape.trans h.tape,h'.output.trans h.output,Nat.le_trans h.size h'.size,fun k hk hs=>(h'.block k (Nat.lt_of_lt_of_le hk h.size) hs).trans (h.block k hk hs)⟩
theorem aD.jC {α:Type} {E:TypeId} {size:Nat} {enc:α->List Value} {B:Nat} {v:Value} {l:List α} (h:aD E size enc B w v l) (hg:Grown S w w') (hne:∀g,v.ownBlock=some g->¬S g):aD E size enc B w' v l:=by
 rcases h.2 with⟨e,h0⟩|⟨g,cap,cur,e,hb,hh,hc⟩
 . exact⟨h.1,.inl ⟨e,h0⟩⟩
 . refine ⟨h.1, .inr ⟨g, cap, cur, e, hb, (hg.block g ?_ (hne g (by rw [e]; rfl))).trans hh, hc⟩⟩;exact(World.ownsRow.lt h g (by rw[e];rfl)).2
theorem Blk.jC {g:Nat} {t:TypeId} {cs:Array Value} (h:Blk w g t cs) (hg:Grown S w w') (hne:¬S g):Blk w' g t cs:=(hg.block g h.lt hne).trans h
theorem Below.jC {B:Nat} (h:Below B w0 w) (hg:Grown S w w') (hB:B<=w.heap.size) (hS:∀k,S k->B<=k):Below B w0 w':=
 ⟨hg.os.trans h.os,hg.tape.trans h.tape,hg.output.trans h.output,Nat.le_trans h.size hg.size,fun k hk=>(hg.block k (by omega) (fun e=>by have:=hS k e;omega)).trans (h.block k hk)⟩
end
theorem aD.yZ {α:Type} {E:TypeId} {size:Nat} {enc:α->List Value} {B g:Nat} {w w':World} {v:Value} {l:List α} {t:TypeId} {cs:Array Value} (h:aD E size enc B w v l) (hb:Blk w g t cs) (hne:E≠t) (hg:w.grownBy w' (some g)):aD E size enc B w' v l:=
 h.jC (S:=fun k=>k=g) ⟨hg.os,hg.tape,hg.output,hg.size,fun k hk hs=>hg.block k hk (fun e=>hs (by injection e))⟩ (fun k hk e=>h.apart hb hne (e▸hk))
theorem aD.lX {α β:Type} {E1 E2:TypeId} {s1 s2:Nat} {e1:α->List Value} {e2:β->List Value} {B1 B2:Nat} {w w':World} {v1 v2:Value} {l1:List α} {l2:List β} (a:aD E1 s1 e1 B1 w v1 l1) (b:aD E2 s2 e2 B2 w v2 l2) (hne:E1≠E2) (hg:w.grownBy w' v2.ownBlock):aD E1 s1 e1 B1 w' v1 l1:=by
 refine World.ownsRow.kept a hg ?_;rcases h1:v1.ownBlock with _|g1
 . exact .inl rfl
 . exact .inr fun h=>a.Ep b hne h1 h.symm
end Go.Proofs.YtjijonhkofhikaaGreatDoor
namespace Go.Proofs.YtjijonhkofhikaaGreatDoor
open Go.ChangeShapes Go.WideShapes Go.ChangeAt Go.RowKit
structure aB (B:Nat) (w:World) (v1 v2 v3 v4:Value) (x:Fl):Prop where
  a:aD 3 1 bH B w v1 x.1
  b:aD 99 3 aX B w v2 x.2.1
  c:aD 99 3 aX B w v3 x.2.2.1
  d:aD 83 2 dH B w v4 x.2.2.2
  ap:∀g,v2.ownBlock=some g->v3.ownBlock≠some g
def Ry (v1 v2 v3 v4:Value) (k:Nat):Prop:=v1.ownBlock=some k∨v2.ownBlock=some k∨v3.ownBlock=some k∨v4.ownBlock=some k
section
variable {B B' : Nat} {w w' w2 w3 : World} {v1 v2 v3 v4 u1 u2 u3 u4 : Value} {x y : Fl} {S : Nat -> Prop}
theorem aB.lt (h:aB B w v1 v2 v3 v4 x) {k:Nat} (hk:Ry v1 v2 v3 v4 k):B<=k/\k<w.heap.size:=by
 rcases hk with q|q|q|q
 . exact World.ownsRow.lt h.a k q
 . exact World.ownsRow.lt h.b k q
 . exact World.ownsRow.lt h.c k q
 . exact World.ownsRow.lt h.d k q
theorem aB.below (h:aB B w v1 v2 v3 v4 x) (hb:Below w.heap.size w w'):aB B w' v1 v2 v3 v4 x:=⟨h.a.below hb,h.b.below hb,h.c.below hb,h.d.below hb,h.ap⟩
theorem aB.alloc (h:aB B w v1 v2 v3 v4 x) (o:Obj):aB B (w.alloc o) v1 v2 v3 v4 x:=⟨h.a.alloc o,h.b.alloc o,h.c.alloc o,h.d.alloc o,h.ap⟩
theorem aB.mono (h:aB B w v1 v2 v3 v4 x) (hb:B'<=B):aB B' w v1 v2 v3 v4 x:=⟨h.a.mono hb,h.b.mono hb,h.c.mono hb,h.d.mono hb,h.ap⟩
theorem aB.jC (h:aB B w v1 v2 v3 v4 x) (hg:Grown S w w') (hne:∀k,Ry v1 v2 v3 v4 k->¬S k):aB B w' v1 v2 v3 v4 x:=
 ⟨h.a.jC hg (fun g q=>hne g (.inl q)),h.b.jC hg (fun g q=>hne g (.inr (.inl q))),h.c.jC hg (fun g q=>hne g (.inr (.inr (.inl q)))),h.d.jC hg (fun g q=>hne g (.inr (.inr (.inr q)))),h.ap⟩
theorem aB.ra (h:aB B w v1 v2 v3 v4 x):Rd 1 bG w v1 x.1:=h.a.rd aJ (by decide)
theorem aB.rb (h:aB B w v1 v2 v3 v4 x):Rd 3 aU w v2 x.2.1:=h.b.rd aC (by decide)
theorem aB.rc (h:aB B w v1 v2 v3 v4 x):Rd 3 aU w v3 x.2.2.1:=h.c.rd aC (by decide)
theorem aB.rd (h:aB B w v1 v2 v3 v4 x):Rd 2 cO w v4 x.2.2.2:=h.d.rd eG (by decide)
theorem aB.early (h : aB B w v1 v2 v3 v4 x) (h2 : aB B' w2 u1 u2 u3 u4 y) (hb : w.heap.size <= B') {k : Nat} (hk : Ry v1 v2 v3 v4 k) : ¬ Ry u1 u2 u3 u4 k := fun hu => by
 have k1:=(h.lt hk).2;have k2:=(h2.lt hu).1;omega
theorem aB.apart {g:Nat} {t:TypeId} {cs:Array Value} (h:aB B w v1 v2 v3 v4 x) (hb:Blk w g t cs) (h1:3≠t) (h2:99≠t) (h3:83≠t):¬Ry v1 v2 v3 v4 g:=by
 rintro(q|q|q|q)
 . exact h.a.apart hb h1 q
 . exact h.b.apart hb h2 q
 . exact h.c.apart hb h2 q
 . exact h.d.apart hb h3 q
end
theorem aB.dD {B g:Nat} {w w':World} {v1 v2 v3 v4:Value} {x:Fl} {t:TypeId} {cs:Array Value} (h:aB B w v1 v2 v3 v4 x) (hb:Blk w g t cs) (h1:3≠t) (h2:99≠t) (h3:83≠t) (hg:w.grownBy w' (some g)):aB B w' v1 v2 v3 v4 x:=
 h.jC (S:=fun k=>k=g) ⟨hg.os,hg.tape,hg.output,hg.size,fun k hk hs=>hg.block k hk (fun e=>hs (by injection e))⟩ (fun k hk e=>h.apart hb h1 h2 h3 (e▸hk))
section
variable {P : Program} {ops : Array Oper} {o : Oper} {a : Act} {w : World} {K : Act -> World -> Prop} {Q : Exit -> Act -> World -> Prop} {E' : Prop} {t E : TypeId} {z : Value} {size bytes : Nat}
theorem iA (R:Row P t E z size bytes) (hgd:o.guard=none) (ho:o.op= .buildSlice t 0 #[])
    (h:∀g w',Blk w' g E #[]->Below w.heap.size w w'->w.heap.size<=g->g<w'.heap.size->w.heap.size<=w'.heap.size->K (a.put o.dst (.slice (some ⟨g,0,none⟩) 0 0)) w'):
    if Region.wanted o (yielded ops a.tmps)=true then Oper.wp P o a w K Q else E':=by
 have hw:Region.wanted o (yielded ops a.tmps)=true:=(by simp[Region.wanted,hgd]);rw[if_pos hw];obtain⟨ht,a6,hzs,hsz⟩:=R;obtain⟨i0,hi,hz0,hz1,hz2⟩:=info_parts a6
 have hrun:(Instr.buildSlice t 0 #[]).run P w= .ok (.slice (some ⟨w.heap.size,0,none⟩) 0 0) (w.alloc (.cells #[] E)):=by
  simp[Instr.buildSlice,run_underlying ht,sizeOf,typeInfo,hi,newRow,Instr.fill];have e:(Array.map (fun _=>(default:Value)) (Array.range 0))= #[]:=by apply Array.eq_empty_of_size_eq_zero;simp
  rw[e]
 unfold Oper.wp execOp;simp only[ho,Sem.run_bind,Sem.run_pure,Result.andThen_ok,List.map_toArray,List.map_nil,Array.map_empty,hrun];exact h _ _ (Blk.aZ w E #[]) ((Below.refl _ _).al _) (TZ _) (by simp) (by simp)
theorem iT (R:Row P t E z size bytes) {α:Type} {enc:α->List Value} (a8:∀x,(enc x).length=size) (h1:∀x,∀u∈enc x,u.oneCell'=true) {B g:Nat} (hb:Blk w g E #[]) (hB:B<=g) {A:Option Addr} {c:Nat} {m:List α} (hm:Rd size (RE enc) w (.slice A m.length c) m)
    (hlen:m.length*bytes<=140737488355328) (a7:m.length<=maxLen) (hgd:o.guard=none) (s x:Operand) (ho:o.op= .call {callee:= .builtin .append,args:= #[s,x],argTypes:= #[t,t]})
    (hs:a.eval s= .slice (some ⟨g,0,none⟩) 0 0) (hx:a.eval x= .slice A m.length c)
    (h:∀A' c' w',aD E size enc B w' (.slice A' m.length c') m->Below w.heap.size w w'->(∀k,(Value.slice A' m.length c').ownBlock=some k->k=g∨(w.heap.size<=k/\k<w'.heap.size))->w.heap.size<=w'.heap.size->K (a.put o.dst (.slice A' m.length c')) w'):
    if Region.wanted o (yielded ops a.tmps)=true then Oper.wp P o a w K Q else E':=by
 have hw:Region.wanted o (yielded ops a.tmps)=true:=(by simp[Region.wanted,hgd]);rw[if_pos hw];obtain⟨ht,bA,hzs,hsz⟩:=R;obtain⟨i0,hi,hz0,hz1,hz2⟩:=info_parts bA;have hown:aD E size enc B w (.slice (some ⟨g,0,none⟩) 0 0) ([]:List α):=⟨by simp,.inr ⟨g,0,#[],rfl,hB,hb,TZ _,Nat.zero_le _,by simp,by simp⟩⟩
 have key:∃A' c' w',(Builtin.append_ #[t,t] o.type #[.slice (some ⟨g,0,none⟩) 0 0,.slice A m.length c]).run P w= .ok (.slice A' m.length c') w'/\aD E size enc B w' (.slice A' m.length c') m/\Below w.heap.size w w'/\(∀k,(Value.slice A' m.length c').ownBlock=some k->k=g∨(w.heap.size<=k/\k<w'.heap.size))/\w.heap.size<=w'.heap.size:=by
  by_cases hA:m=[]
  . subst hA;refine⟨some ⟨g,0,none⟩,0,w,?_,hown,Below.refl _ _,fun k hk=> .inl (by simpa[T9]using hk.symm),TZ _⟩;rcases A with _|ad
    . simp[Builtin.append_,run_underlying ht,sizeOf,typeInfo,hi,Builtin.lenOf,Builtin.firstCells,storeCells]
    . simp[Builtin.append_,run_underlying ht,sizeOf,typeInfo,hi,Builtin.lenOf,Builtin.firstCells,storeCells,loadCells,loadCellsFrom]
  . have bB:0<m.length:=List.length_pos_iff.2 hA
    obtain⟨ad,rfl⟩:∃ad,A=some ad:=by
     obtain⟨A',c',e,_,_,h3⟩:=hm;injection e with e1 e2 e3;obtain⟨b,off,e4,_⟩:=h3 bB;exact⟨_,e1.trans e4⟩
    have a6:∀j u,(m.flatMap enc)[j]? =some u->w.cell? (ad.add j)=some u:=by
     intro j u hj;obtain⟨i,x,r,k1,k2,k3⟩:=E9 a8 m j u hj;have hi':i<m.length:=(List.getElem?_eq_some_iff.1 k1).1;obtain⟨b,off,e,_,hc⟩:=hm.at_ hi';injection e with e;subst e;have hx:m[i]=x:=by rw[List.getElem?_eq_getElem hi']at k1;injection k1
     have:=hc r u (by rw[hx];exact k2)
     have e:(Addr.mk b off none).add j=⟨b,off+i*size+r,none⟩:=by
      unfold Addr.add;split
      . simp_all
      . simp[k3,Nat.add_assoc]
     rw[e];exact this
    have bC:g<w.heap.size:=hb.lt
    obtain⟨v',w',hrun,h2,h3,_,h5⟩:=run_append_own_at (P:=P) w B t o.type E i0 z size bytes ht hi hz0 hz1 hz2 hzs hsz _ 0 ([]:List Value) hown
      ad m.length c (m.flatMap enc) (fZ a8 m) a6 (I8 h1 m) (by simpa using a7) (by simpa using hlen) (by omega)
    have hr:=run_append_grow (P:=P) w t o.type E i0 z ht hi hz0 ⟨g,0,none⟩ 0 0 [] (by simp) (by simp) ad m.length c (m.flatMap enc) (by rw[hz1];exact fZ a8 m) a6 (by omega) (by unfold maxLen at a7;omega) (growslice_fits (by omega) (by rw[hz2];simpa using hlen));rw[hr]at hrun;injection hrun with e1 e2;subst e1;subst e2;simp only[Nat.zero_add,List.nil_append]at h2 hr⊢;refine⟨_,_,_,hr,by unfold aD;exact h2,?_,?_,?_⟩
    . exact((Below.refl _ _).drew).al _
    . intro k hk;right;have:w.heap.size=k:=(by simpa[T9]using hk);subst this;simp
    . simp
 obtain⟨A',c',w',hrun,hO,hbl,hk,hz⟩:=key;unfold Oper.wp execOp;simp only[ho,resolve,invoke,builtin,Sem.run_bind,Sem.run_pure,Result.andThen_ok,List.map_toArray,List.map_cons,List.map_nil,hs,hx,hrun];exact h A' c' w' hO hbl hk hz
end
def Mo (w:World) (cs:List Value) (x:Fl):Prop:=∃a b c d,cs=a++b++c++d/\RSl 1 bG w a x.1/\RSl 3 aU w b x.2.1/\RSl 3 aU w c x.2.2.1/\RSl 2 cO w d x.2.2.2
theorem Mo.form {w:World} {cs:List Value} {x:Fl} (h:Mo w cs x):∃v1 v2 v3 v4,cs=[v1,v2,v3,v4]/\Rd 1 bG w v1 x.1/\Rd 3 aU w v2 x.2.1/\Rd 3 aU w v3 x.2.2.1/\Rd 2 cO w v4 x.2.2.2:=by
 obtain⟨a,b,c,d,rfl,⟨v1,rfl,h1⟩,⟨v2,rfl,h2⟩,⟨v3,rfl,h3⟩,⟨v4,rfl,h4⟩⟩:=h;exact⟨v1,v2,v3,v4,rfl,h1,h2,h3,h4⟩
def Ar (x:Fl) (w:World) (e:Ending) (w':World):Prop:=∃A1 c1 A2 c2 A3 c3 A4 c4,e= .returned (.agg #[.slice A1 x.1.length c1,.slice A2 x.2.1.length c2,.slice A3 x.2.2.1.length c3,.slice A4 x.2.2.2.length c4])/\
  aB w.heap.size w' (.slice A1 x.1.length c1) (.slice A2 x.2.1.length c2) (.slice A3 x.2.2.1.length c3) (.slice A4 x.2.2.2.length c4) x/\Below w.heap.size w w'
def bZ (x:Fl):Prop:=Small x.1.length/\Small x.2.1.length/\Small x.2.2.1.length/\Small x.2.2.2.length
abbrev Wk:=Fl×Int×Int×Int
def Su (w:World) (cs:List Value) (y:Wk):Prop:=∃a b c d,cs=a++b++c++d/\Mo w a y.1/\bG w b y.2.1/\bG w c y.2.2.1/\bG w d y.2.2.2
theorem Su.form {w:World} {cs:List Value} {y:Wk} (h:Su w cs y):∃v1 v2 v3 v4,cs=[v1,v2,v3,v4,.int .i64 y.2.1,.int .i64 y.2.2.1,.int .i64 y.2.2.2]/\Rd 1 bG w v1 y.1.1/\Rd 3 aU w v2 y.1.2.1/\Rd 3 aU w v3 y.1.2.2.1/\Rd 2 cO w v4 y.1.2.2.2:=by
 obtain⟨a,b,c,d,rfl,hf,rfl,rfl,rfl⟩:=h;obtain⟨v1,v2,v3,v4,rfl,h1,h2,h3,h4⟩:=hf.form;exact⟨v1,v2,v3,v4,rfl,h1,h2,h3,h4⟩
def nD (x:Fl) (b:Bool) (w:World) (e:Ending) (w':World):Prop:=∃A1 c1 A2 c2 A3 c3 A4 c4,e= .returned (.tuple #[.agg #[.slice A1 x.1.length c1,.slice A2 x.2.1.length c2,.slice A3 x.2.2.1.length c3,.slice A4 x.2.2.2.length c4],.bool b])/\
  aB w.heap.size w' (.slice A1 x.1.length c1) (.slice A2 x.2.1.length c2) (.slice A3 x.2.2.1.length c3) (.slice A4 x.2.2.2.length c4) x/\Below w.heap.size w w'
theorem aB.TP {B:Nat} {w w':World} {v1 v2 v3 v4 u4:Value} {r:List Int} {f n:List Dm} {c c':List Cl} (h:aB B w v1 v2 v3 v4 (r,f,n,c)) (o:aD 83 2 dH B w' u4 c') (hg:w.grownBy w' v4.ownBlock):aB B w' v1 v2 v3 u4 (r,f,n,c'):=
 ⟨h.a.jC (Grown.of hg) (fun g q=>h.a.Ep h.d (by decide) q),h.b.jC (Grown.of hg) (fun g q=>h.b.Ep h.d (by decide) q),h.c.jC (Grown.of hg) (fun g q=>h.c.Ep h.d (by decide) q),o,h.ap⟩
theorem dG (v:Value) (l:List Dm) (w:World) (h:Rd 3 aU w v l) (hl:Small l.length):Calls Tryz.prog 90 #[v] w (iH 99 3 aX l w):=by
 obtain⟨A,c,rfl,hc,hm⟩:=h.form;have h':=h.TW ((Below.refl _ _).al (.cells #[] 99));have a7:(0+l.length)*24<=140737488355328:=by unfold Small at hl;omega
 have hsm:0+l.length<=maxLen:=by have:=hl.max;omega
 have H8:=TY a7;have HM:=TY hsm;clear a7 hsm;go_enter Tryz.func90,Tryz.ntmps90
 go_wp2_with (at_builtin;go_must (refine dX (enc:=aX) aK aC aM (B:=w.heap.size) (by simp) (eZ w) h' H8.out HM.out rfl _ _ rfl rfl rfl ?_);intro v1 w1 a6 hb1 a8;obtain⟨A1,c1,rfl⟩:=a8;simp only[List.nil_append,List.length_nil,Nat.zero_add]at a6)
 go_wp2;go_ret;exact⟨A1,c1,rfl,a6,((Below.refl _ _).al _).trans hb1⟩
theorem kE (v1 v2 v3 v4:Value) (x:Fl) (w:World) (h1:Rd 1 bG w v1 x.1) (h2:Rd 3 aU w v2 x.2.1) (h3:Rd 3 aU w v3 x.2.2.1) (h4:Rd 2 cO w v4 x.2.2.2) (hs:bZ x):Calls Tryz.prog 49 #[.agg #[v1,v2,v3,v4]] w (Ar x w):=by
 obtain⟨rows,f,n,cs⟩:=x;simp only at h1 h2 h3 h4;obtain⟨s1,s2,s3,s4⟩:=hs;simp only at s1 s2 s3 s4;obtain⟨A1,c1,rfl,hc1,cG⟩:=h1.form;obtain⟨A2,c2,rfl,hc2,cH⟩:=h2.form;obtain⟨A3,c3,rfl,hc3,cI⟩:=h3.form;obtain⟨A4,c4,rfl,cJ,cK⟩:=h4.form;have B0:=((Below.refl w.heap.size w).al (.cells #[.slice A1 rows.length c1,.slice A2 f.length c2,.slice A3 n.length c3,.slice A4 cs.length c4] 30)).al (.cells #[.slice none 0 0,.slice none 0 0,.slice none 0 0,.slice none 0 0] 30);have bP:=(Blk.aZ w 30 #[.slice A1 rows.length c1,.slice A2 f.length c2,.slice A3 n.length c3,.slice A4 cs.length c4]).alloc (.cells #[.slice none 0 0,.slice none 0 0,.slice none 0 0,.slice none 0 0] 30);have bR:=Blk.gZ (w.alloc (.cells #[.slice A1 rows.length c1,.slice A2 f.length c2,.slice A3 n.length c3,.slice A4 cs.length c4] 30)) 30 #[.slice none 0 0,.slice none 0 0,.slice none 0 0,.slice none 0 0] (w.heap.size+1) (by simp);have H4:Hid (cs.length*16<=140737488355328):=TY (by unfold Small at s4;omega);have M4:=TY s4.max;go_enter Tryz.func49,Tryz.ntmps49
 go_wp2_with fail
 obtain⟨W0,hW0⟩:=TV ((w.alloc (.cells #[.slice A1 rows.length c1,.slice A2 f.length c2,.slice A3 n.length c3,.slice A4 cs.length c4] 30)).alloc (.cells #[.slice none 0 0,.slice none 0 0,.slice none 0 0,.slice none 0 0] 30));obtain⟨gP,cB⟩:=TV w.heap.size;obtain⟨gR,bY⟩:=TV (w.heap.size+1);rw[<-hW0]at B0 bP bR⊢;rw[<-bY]at bR⊢;rw[<-cB]at bP⊢;have b5:w.heap.size<=gR:=(by omega);have cL:gP≠gR:=(by omega);have hw0:w.heap.size<=W0.heap.size:=B0.size;clear hW0 cB bY;obtain⟨cM,cN,cP,cQ⟩:=bP.n4;have cR:=bP.lt;have cS:=bR.lt;have Bw:Below W0.heap.size W0 W0.drew:=(Below.refl _ _).drew;have hz:W0.heap.size<=W0.drew.heap.size:=(by simp);have bR:=bR.bl Bw;refine rB (fun w'=>w'.cell? ⟨gP,0,none⟩=some (.slice A1 rows.length c1)/\w'.cell? ⟨gP,1,none⟩=some (.slice A2 f.length c2)/\w'.cell? ⟨gP,2,none⟩=some (.slice A3 n.length c3)/\w'.cell? ⟨gP,3,none⟩=some (.slice A4 cs.length c4)) fun hHeld=>(tW 0)<|(tW 1)<|(tW 3)<|(tW 4)<|(tW 6)<|(tW 7)<|(tW 10)<|(tW 11)<|(tR [2,9])<|tC (fun K hK=>?_) ?_
 (go_simp;go_at_call 89;go_must (refine(yL _ rows _ (h1.TW (B0.tr Bw)) s1).mono ?_;rintro e wX ⟨C1,e1,rfl,bA,a6⟩;have bA:=bA.mono (show w.heap.size<=_ by omega);have bE:=a6.size;obtain⟨bF,bJ,bD⟩:=bkn a6 W0.heap.size hz;have hz:=bD;have Bw:=Bw.tr a6;have bR:=bR.bl a6;(try have bA:=bA.below a6);(try have a8:=a8.below a6);(try have a7:=a7.below a6);(try have bB:=bB.below a6);(try have b3:=b3.bl a6);(try have b7:=b7.bl a6);(try have bC:=bC.bl a6)))
 refine tK hK fun hHeld=>?_
 clear hK K;refine(tR [5,9])<|tC (fun K hK=>?_) ?_;(go_simp;go_at_call 90;go_must (refine(dG _ f _ (h2.TW (B0.tr Bw)) s2).mono ?_;rintro e wX ⟨C2,e2,rfl,a8,a6⟩;have a8:=a8.mono (show w.heap.size<=_ by omega);have bE:=a6.size;obtain⟨bF,bJ,bD⟩:=bkn a6 W0.heap.size hz;have hz:=bD;have Bw:=Bw.tr a6;have bR:=bR.bl a6;(try have bA:=bA.below a6);(try have a8:=a8.below a6);(try have a7:=a7.below a6);(try have bB:=bB.below a6);(try have b3:=b3.bl a6);(try have b7:=b7.bl a6);(try have bC:=bC.bl a6)))
 refine tK hK fun hHeld=>?_
 clear hK K;refine(tR [8,9])<|tC (fun K hK=>?_) ?_;(go_simp;go_at_call 90;go_must (refine(dG _ n _ (h3.TW (B0.tr Bw)) s3).mono ?_;rintro e wX ⟨C3,e3,rfl,a7,a6⟩;have bK:∀k,(Value.slice C2 f.length e2).ownBlock=some k->(Value.slice C3 n.length e3).ownBlock≠some k:=fun k q=>a8.early a7 (TZ _) q;have a7:=a7.mono (show w.heap.size<=_ by omega);have bE:=a6.size;obtain⟨bF,bJ,bD⟩:=bkn a6 W0.heap.size hz;have hz:=bD;have Bw:=Bw.tr a6;have bR:=bR.bl a6;(try have bA:=bA.below a6);(try have a8:=a8.below a6);(try have a7:=a7.below a6);(try have bB:=bB.below a6);(try have b3:=b3.bl a6);(try have b7:=b7.bl a6);(try have bC:=bC.bl a6)))
 refine tK hK fun hHeld=>?_
 clear hK K;refine(tR [9])<|tL fun K hK=>?_
 (refine iA jE rfl rfl ?_;intro g11 wX bC a6 bN bO bU;have bE:=a6.size;obtain⟨bF,bJ,bD⟩:=bkn a6 W0.heap.size hz;have hz:=bD;have Bw:=Bw.tr a6;have bR:=bR.bl a6;(try have bA:=bA.below a6);(try have a8:=a8.below a6);(try have a7:=a7.below a6);(try have bB:=bB.below a6);(try have b3:=b3.bl a6);(try have b7:=b7.bl a6);(try have bC:=bC.bl a6))
 refine tK hK fun hHeld=>?_
 clear hK K;refine(tR [12])<|tL fun K hK=>?_
 (refine iT jE eG oneCell (B:=w.heap.size) bC (by omega) (h4.TW (B0.tr Bw)) H4.out M4.out rfl _ _ rfl rfl rfl ?_;intro C4 e4 wX bB a6 hk4 bU;have bE:=a6.size;obtain⟨bF,bJ,bD⟩:=bkn a6 W0.heap.size hz;have hz:=bD;have Bw:=Bw.tr a6;have bR:=bR.bl a6;(try have bA:=bA.below a6);(try have a8:=a8.below a6);(try have a7:=a7.below a6);(try have bB:=bB.below a6);(try have b3:=b3.bl a6);(try have b7:=b7.bl a6);(try have bC:=bC.bl a6))
 refine tK hK fun hHeld=>?_
 clear hK K;refine(tW 13)<|(tR [14])<|tL fun K hK=>?_
 (refine aL rfl 30 _ _ rfl gR _ rfl rfl _ _ bR (by kernel_rfl) rfl (by simp[Ua]) ?_;intro wX bX bL;have oF:aB w.heap.size wX _ _ _ _ (rows,f,n,cs):=aB.dD ⟨bA,a8,a7,bB,bK⟩ bR (by decide) (by decide) (by decide) bL;have BX:=(B0.tr Bw).grown bL (B0.tr Bw).size (fun k hk=>by injection hk with hk;subst hk;exact b5);have bW:=(bP.bl Bw).grown bL (by simp;omega);obtain⟨b6,b8,b9,cA⟩:=bW.n4;clear bA a8 a7 bB)
 refine tK hK fun hHeld=>?_
 clear hK K;refine tD ?_
 rotate_left 1
 refine tL fun K hK=>?_
 (refine iA jE rfl rfl ?_;intro g11 wX bC a6 bN bO bU;have bE:=a6.size;obtain⟨bF,bJ,bD⟩:=bkn a6 W0.heap.size hz;have hz:=bD;have Bw:=Bw.tr a6;have bR:=bR.bl a6;(try have bA:=bA.below a6);(try have a8:=a8.below a6);(try have a7:=a7.below a6);(try have bB:=bB.below a6);(try have b3:=b3.bl a6);(try have b7:=b7.bl a6);(try have bC:=bC.bl a6))
 refine tK hK fun hHeld=>?_
 clear hK K;refine(tR [8])<|tL fun K hK=>?_
 (go_simp;go_at_call 90;go_must (refine(dG _ n _ (h3.TW (B0.tr Bw)) s3).mono ?_;rintro e wX ⟨C3,e3,rfl,a7,a6⟩;have bK:∀k,(Value.slice C2 f.length e2).ownBlock=some k->(Value.slice C3 n.length e3).ownBlock≠some k:=fun k q=>a8.early a7 (TZ _) q;have a7:=a7.mono (show w.heap.size<=_ by omega);have bE:=a6.size;obtain⟨bF,bJ,bD⟩:=bkn a6 W0.heap.size hz;have hz:=bD;have Bw:=Bw.tr a6;have bR:=bR.bl a6;(try have bA:=bA.below a6);(try have a8:=a8.below a6);(try have a7:=a7.below a6);(try have bB:=bB.below a6);(try have b3:=b3.bl a6);(try have b7:=b7.bl a6);(try have bC:=bC.bl a6)))
 refine tK hK fun hHeld=>?_
 clear hK K;refine(tR [12])<|tL fun K hK=>?_
 (refine iT jE eG oneCell (B:=w.heap.size) bC (by omega) (h4.TW (B0.tr Bw)) H4.out M4.out rfl _ _ rfl rfl rfl ?_;intro C4 e4 wX bB a6 hk4 bU;have bE:=a6.size;obtain⟨bF,bJ,bD⟩:=bkn a6 W0.heap.size hz;have hz:=bD;have Bw:=Bw.tr a6;have bR:=bR.bl a6;(try have bA:=bA.below a6);(try have a8:=a8.below a6);(try have a7:=a7.below a6);(try have bB:=bB.below a6);(try have b3:=b3.bl a6);(try have b7:=b7.bl a6);(try have bC:=bC.bl a6))
 refine tK hK fun hHeld=>?_
 clear hK K;refine(tW 13)<|(tR [14])<|tL fun K hK=>?_
 (refine aL rfl 30 _ _ rfl gR _ rfl rfl _ _ bR (by kernel_rfl) rfl (by simp[Ua]) ?_;intro wX bX bL;have oF:aB w.heap.size wX _ _ _ _ (rows,f,n,cs):=aB.dD ⟨bA,a8,a7,bB,bK⟩ bR (by decide) (by decide) (by decide) bL;have BX:=(B0.tr Bw).grown bL (B0.tr Bw).size (fun k hk=>by injection hk with hk;subst hk;exact b5);have bW:=(bP.bl Bw).grown bL (by simp;omega);obtain⟨b6,b8,b9,cA⟩:=bW.n4;clear bA a8 a7 bB)
 refine tK hK fun hHeld=>?_
 clear hK K;refine tD ?_
 rotate_left 1
 refine tL fun K hK=>?_
 (refine iA jE rfl rfl ?_;intro g11 wX bC a6 bN bO bU;have bE:=a6.size;obtain⟨bF,bJ,bD⟩:=bkn a6 W0.heap.size hz;have hz:=bD;have Bw:=Bw.tr a6;have bR:=bR.bl a6;(try have bA:=bA.below a6);(try have a8:=a8.below a6);(try have a7:=a7.below a6);(try have bB:=bB.below a6);(try have b3:=b3.bl a6);(try have b7:=b7.bl a6);(try have bC:=bC.bl a6))
 refine tK hK fun hHeld=>?_
 clear hK K;refine(tR [5])<|tL fun K hK=>?_
 (go_simp;go_at_call 90;go_must (refine(dG _ f _ (h2.TW (B0.tr Bw)) s2).mono ?_;rintro e wX ⟨C2,e2,rfl,a8,a6⟩;have a8:=a8.mono (show w.heap.size<=_ by omega);have bE:=a6.size;obtain⟨bF,bJ,bD⟩:=bkn a6 W0.heap.size hz;have hz:=bD;have Bw:=Bw.tr a6;have bR:=bR.bl a6;(try have bA:=bA.below a6);(try have a8:=a8.below a6);(try have a7:=a7.below a6);(try have bB:=bB.below a6);(try have b3:=b3.bl a6);(try have b7:=b7.bl a6);(try have bC:=bC.bl a6)))
 refine tK hK fun hHeld=>?_
 clear hK K;refine(tR [8])<|tL fun K hK=>?_
 (go_simp;go_at_call 90;go_must (refine(dG _ n _ (h3.TW (B0.tr Bw)) s3).mono ?_;rintro e wX ⟨C3,e3,rfl,a7,a6⟩;have bK:∀k,(Value.slice C2 f.length e2).ownBlock=some k->(Value.slice C3 n.length e3).ownBlock≠some k:=fun k q=>a8.early a7 (TZ _) q;have a7:=a7.mono (show w.heap.size<=_ by omega);have bE:=a6.size;obtain⟨bF,bJ,bD⟩:=bkn a6 W0.heap.size hz;have hz:=bD;have Bw:=Bw.tr a6;have bR:=bR.bl a6;(try have bA:=bA.below a6);(try have a8:=a8.below a6);(try have a7:=a7.below a6);(try have bB:=bB.below a6);(try have b3:=b3.bl a6);(try have b7:=b7.bl a6);(try have bC:=bC.bl a6)))
 refine tK hK fun hHeld=>?_
 clear hK K;refine(tR [12])<|tL fun K hK=>?_
 (refine iT jE eG oneCell (B:=w.heap.size) bC (by omega) (h4.TW (B0.tr Bw)) H4.out M4.out rfl _ _ rfl rfl rfl ?_;intro C4 e4 wX bB a6 hk4 bU;have bE:=a6.size;obtain⟨bF,bJ,bD⟩:=bkn a6 W0.heap.size hz;have hz:=bD;have Bw:=Bw.tr a6;have bR:=bR.bl a6;(try have bA:=bA.below a6);(try have a8:=a8.below a6);(try have a7:=a7.below a6);(try have bB:=bB.below a6);(try have b3:=b3.bl a6);(try have b7:=b7.bl a6);(try have bC:=bC.bl a6))
 refine tK hK fun hHeld=>?_
 clear hK K;refine(tW 13)<|(tR [14])<|tL fun K hK=>?_
 (refine aL rfl 30 _ _ rfl gR _ rfl rfl _ _ bR (by kernel_rfl) rfl (by simp[Ua]) ?_;intro wX bX bL;have oF:aB w.heap.size wX _ _ _ _ (rows,f,n,cs):=aB.dD ⟨bA,a8,a7,bB,bK⟩ bR (by decide) (by decide) (by decide) bL;have BX:=(B0.tr Bw).grown bL (B0.tr Bw).size (fun k hk=>by injection hk with hk;subst hk;exact b5);have bW:=(bP.bl Bw).grown bL (by simp;omega);obtain⟨b6,b8,b9,cA⟩:=bW.n4;clear bA a8 a7 bB)
 refine tK hK fun hHeld=>?_
 clear hK K;refine tD ?_
 rotate_left 1
 refine tL fun K hK=>?_
 (refine iA jE rfl rfl ?_;intro g11 wX bC a6 bN bO bU;have bE:=a6.size;obtain⟨bF,bJ,bD⟩:=bkn a6 W0.heap.size hz;have hz:=bD;have Bw:=Bw.tr a6;have bR:=bR.bl a6;(try have bA:=bA.below a6);(try have a8:=a8.below a6);(try have a7:=a7.below a6);(try have bB:=bB.below a6);(try have b3:=b3.bl a6);(try have b7:=b7.bl a6);(try have bC:=bC.bl a6))
 refine tK hK fun hHeld=>?_
 clear hK K;refine(tR [2])<|tL fun K hK=>?_
 (go_simp;go_at_call 89;go_must (refine(yL _ rows _ (h1.TW (B0.tr Bw)) s1).mono ?_;rintro e wX ⟨C1,e1,rfl,bA,a6⟩;have bA:=bA.mono (show w.heap.size<=_ by omega);have bE:=a6.size;obtain⟨bF,bJ,bD⟩:=bkn a6 W0.heap.size hz;have hz:=bD;have Bw:=Bw.tr a6;have bR:=bR.bl a6;(try have bA:=bA.below a6);(try have a8:=a8.below a6);(try have a7:=a7.below a6);(try have bB:=bB.below a6);(try have b3:=b3.bl a6);(try have b7:=b7.bl a6);(try have bC:=bC.bl a6)))
 refine tK hK fun hHeld=>?_
 clear hK K;refine(tR [5])<|tL fun K hK=>?_
 (go_simp;go_at_call 90;go_must (refine(dG _ f _ (h2.TW (B0.tr Bw)) s2).mono ?_;rintro e wX ⟨C2,e2,rfl,a8,a6⟩;have a8:=a8.mono (show w.heap.size<=_ by omega);have bE:=a6.size;obtain⟨bF,bJ,bD⟩:=bkn a6 W0.heap.size hz;have hz:=bD;have Bw:=Bw.tr a6;have bR:=bR.bl a6;(try have bA:=bA.below a6);(try have a8:=a8.below a6);(try have a7:=a7.below a6);(try have bB:=bB.below a6);(try have b3:=b3.bl a6);(try have b7:=b7.bl a6);(try have bC:=bC.bl a6)))
 refine tK hK fun hHeld=>?_
 clear hK K;refine(tR [8])<|tL fun K hK=>?_
 (go_simp;go_at_call 90;go_must (refine(dG _ n _ (h3.TW (B0.tr Bw)) s3).mono ?_;rintro e wX ⟨C3,e3,rfl,a7,a6⟩;have bK:∀k,(Value.slice C2 f.length e2).ownBlock=some k->(Value.slice C3 n.length e3).ownBlock≠some k:=fun k q=>a8.early a7 (TZ _) q;have a7:=a7.mono (show w.heap.size<=_ by omega);have bE:=a6.size;obtain⟨bF,bJ,bD⟩:=bkn a6 W0.heap.size hz;have hz:=bD;have Bw:=Bw.tr a6;have bR:=bR.bl a6;(try have bA:=bA.below a6);(try have a8:=a8.below a6);(try have a7:=a7.below a6);(try have bB:=bB.below a6);(try have b3:=b3.bl a6);(try have b7:=b7.bl a6);(try have bC:=bC.bl a6)))
 refine tK hK fun hHeld=>?_
 clear hK K;refine(tR [12])<|tL fun K hK=>?_
 (refine iT jE eG oneCell (B:=w.heap.size) bC (by omega) (h4.TW (B0.tr Bw)) H4.out M4.out rfl _ _ rfl rfl rfl ?_;intro C4 e4 wX bB a6 hk4 bU;have bE:=a6.size;obtain⟨bF,bJ,bD⟩:=bkn a6 W0.heap.size hz;have hz:=bD;have Bw:=Bw.tr a6;have bR:=bR.bl a6;(try have bA:=bA.below a6);(try have a8:=a8.below a6);(try have a7:=a7.below a6);(try have bB:=bB.below a6);(try have b3:=b3.bl a6);(try have b7:=b7.bl a6);(try have bC:=bC.bl a6))
 refine tK hK fun hHeld=>?_
 clear hK K;refine(tW 13)<|(tR [14])<|tL fun K hK=>?_
 (refine aL rfl 30 _ _ rfl gR _ rfl rfl _ _ bR (by kernel_rfl) rfl (by simp[Ua]) ?_;intro wX bX bL;have oF:aB w.heap.size wX _ _ _ _ (rows,f,n,cs):=aB.dD ⟨bA,a8,a7,bB,bK⟩ bR (by decide) (by decide) (by decide) bL;have BX:=(B0.tr Bw).grown bL (B0.tr Bw).size (fun k hk=>by injection hk with hk;subst hk;exact b5);have bW:=(bP.bl Bw).grown bL (by simp;omega);obtain⟨b6,b8,b9,cA⟩:=bW.n4;clear bA a8 a7 bB)
 refine tK hK fun hHeld=>?_
 clear hK K;refine tD ?_
 all_goals
   go_wp2_with fail
   obtain⟨cC,cD,cE,cF⟩:=bX.n4;refine bodyPost_ret (v:= .agg #[.slice C1 rows.length e1,.slice C2 f.length e2,.slice C3 n.length e3,.slice C4 cs.length e4]) (by simp[results,Tryz.results49,go_sem,cC,cD,cE,cF]) rfl ⟨C1,e1,C2,e2,C3,e3,C4,e4,rfl,oF,BX⟩
end Go.Proofs.YtjijonhkofhikaaGreatDoor
