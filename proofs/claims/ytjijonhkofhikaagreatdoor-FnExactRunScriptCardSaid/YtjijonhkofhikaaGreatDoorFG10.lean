import Derived.Test.YtjijonhkofhikaaGreatDoorFK5
open _root_.Nat renaming le_refl->Tm
open _root_.Go.Value (slice)
open _root_.Go.Value renaming ownBlock->Tn,oneCell'->Tp
set_option linter.unusedVariables false
set_option maxHeartbeats 4000000
set_option maxRecDepth 100000
set_option linter.unusedSimpArgs false
namespace Go.Proofs.YtjijonhkofhikaaGreatDoor
open Go.RowKit
theorem IZ {w:World} {g:Nat} (cs:Array Value):w.grownBy (w.setRow g cs) (some g):=⟨rfl,rfl,rfl,by simp[World.setRow],fun k hk hne=>setRow_other w g k cs (fun e=>hne (by rw[e]))⟩
theorem aK {P:Program} {ops:Array Oper} {o:Oper} {a:Act} {w:World} {K:Act->World->Prop} {Q:Exit->Act->World->Prop} {E':Prop} (hgd:o.guard=none) (ty:TypeId) (x y:Operand) (ho:o.op= .store ty x y)
    (g:Nat) (cells:Array Value) (hx:a.eval x= .pointer (some ⟨g,0,none⟩)) (hy:a.eval y= .agg cells)
    (t:TypeId) (old:Array Value) (hg:Blk w g t old) (hi:(P.info? ty).map (·.size)=some cells.size) (hold:old.size=cells.size) (h1:cells.all (·.oneCell')=true)
    (h:∀w',Blk w' g t cells->w.grownBy w' (some g)->K (a.put o.dst undef) w'):
    if Region.wanted o (yielded ops a.tmps)=true then Oper.wp P o a w K Q else E':=by
 have hw:Region.wanted o (yielded ops a.tmps)=true:=(by simp[Region.wanted,hgd]);rw[if_pos hw];exact wp_store_row ty x y ho g cells hx hy t old hg hi hold h1 (h _ (setRow_heap w g old cells t (0,0) hg) (IZ cells))
theorem kP {P:Program} {ops:Array Oper} {o:Oper} {a:Act} {w:World} {K:Act->World->Prop} {Q:Exit->Act->World->Prop} {E':Prop} (hgd:o.guard=none) (ty:TypeId) (cells:Array Value) (ho:o.op= .alloc ty) (hz:∀w,(zeroValue ty).run P w= .ok (.agg cells) w)
    (h:∀g w',Blk w' g ty cells->Below w.heap.size w w'->w.heap.size<=g->g<w'.heap.size->w.heap.size<=w'.heap.size->K (a.put o.dst (.pointer (some ⟨g,0,none⟩))) w'):
    if Region.wanted o (yielded ops a.tmps)=true then Oper.wp P o a w K Q else E':=by
 have hw:Region.wanted o (yielded ops a.tmps)=true:=(by simp[Region.wanted,hgd]);rw[if_pos hw]
 have hrun:(Instr.alloc ty true (.tuple #[])).run P w= .ok (.pointer (some ⟨w.heap.size,0,none⟩)) (w.alloc (.cells cells ty)):=by
  simp[Instr.alloc,hz,newVar,newRow,Value.cells]
 unfold Oper.wp execOp;simp only[ho,Sem.run_bind,Sem.run_pure,Result.andThen_ok,hrun];exact h _ _ (Blk.aX w ty cells) ((Below.refl _ _).al _) (Tm _) (by simp) (by simp)
section
variable {α β : Type} {E E2 : TypeId} {size s2 : Nat} {enc : α -> List Value} {e2 : β -> List Value} {B B2 : Nat} {w w' w2 : World} {v v2 : Value} {l : List α} {l2 : List β}
theorem aD.early (h:aD E size enc B w v l) (h2:aD E2 s2 e2 B2 w2 v2 l2) (hb:w.heap.size<=B2) {g:Nat} (hg:v.ownBlock=some g):v2.ownBlock≠some g:=by
 intro h3;have k1:=(World.ownsRow.lt h g hg).2;have k2:=(World.ownsRow.lt h2 g h3).1;omega
theorem aD.vO (a:aD E size enc B w v l) (b:aD E2 s2 e2 B2 w v2 l2) (hne:E≠E2) {g:Nat} (h1:v.ownBlock=some g):v2.ownBlock≠some g:=by
 rcases b.2 with⟨rfl,_⟩|⟨g2,cap,cur,rfl,_,hh,_⟩
 . simp[Tn]
 . intro he;have:g2=g:=(by simpa[Tn]using he);subst this;exact(a.apart (g:=g2) (t:=E2) (cs:=cur) hh hne) h1
end
structure Grown (S:Nat->Prop) (w w':World):Prop where
  os:w'.os=w.os
  tape:w'.tape=w.tape
  output:w'.output=w.output
  size:w.heap.size<=w'.heap.size
  block:∀k,k<w.heap.size->¬S k->w'.heap[k]? =w.heap[k]?
section
variable {S T : Nat -> Prop} {w w' w'' w0 : World}
theorem Grown.of {v:Value} (h:w.grownBy w' v.ownBlock):Grown (fun k=>v.ownBlock=some k) w w':=⟨h.os,h.tape,h.output,h.size,fun k hk hs=>h.block k hk fun e=>hs e.symm⟩
theorem aD.fH {α:Type} {E:TypeId} {size:Nat} {enc:α->List Value} {B:Nat} {v:Value} {l:List α} (h:aD E size enc B w v l) (hg:Grown S w w') (hne:∀g,v.ownBlock=some g->¬S g):aD E size enc B w' v l:=by
 rcases h.2 with⟨e,h0⟩|⟨g,cap,cur,e,hb,hh,hc⟩
 . exact⟨h.1,.inl ⟨e,h0⟩⟩
 . refine ⟨h.1, .inr ⟨g, cap, cur, e, hb, (hg.block g ?_ (hne g (by rw [e]; rfl))).trans hh, hc⟩⟩;exact(World.ownsRow.lt h g (by rw[e];rfl)).2
theorem Below.fH {B:Nat} (h:Below B w0 w) (hg:Grown S w w') (hB:B<=w.heap.size) (hS:∀k,S k->B<=k):Below B w0 w':=
 ⟨hg.os.trans h.os,hg.tape.trans h.tape,hg.output.trans h.output,Nat.le_trans h.size hg.size,fun k hk=>(hg.block k (by omega) (fun e=>by have:=hS k e;omega)).trans (h.block k hk)⟩
end
theorem O8 {S T : Nat -> Prop} {n m : Nat} (a : ∀ k, S k -> k < n) (b : ∀ k, T k -> m <= k) (h : n <= m) : ∀ k, S k -> ¬ T k := fun k hk ht => by
 have h1:=a k hk;have h2:=b k ht;omega
theorem aD.FC {α:Type} {E:TypeId} {size:Nat} {enc:α->List Value} {B g:Nat} {w w':World} {v:Value} {l:List α} {t:TypeId} {cs:Array Value} (h:aD E size enc B w v l) (hb:Blk w g t cs) (hne:E≠t) (hg:w.grownBy w' (some g)):aD E size enc B w' v l:=
 h.fH (S:=fun k=>k=g) ⟨hg.os,hg.tape,hg.output,hg.size,fun k hk hs=>hg.block k hk (fun e=>hs (by injection e))⟩ (fun k hk e=>h.apart hb hne (e▸hk))
theorem aD.mG {α β:Type} {E1 E2:TypeId} {s1 s2:Nat} {e1:α->List Value} {e2:β->List Value} {B1 B2:Nat} {w w':World} {v1 v2:Value} {l1:List α} {l2:List β} (a:aD E1 s1 e1 B1 w v1 l1) (b:aD E2 s2 e2 B2 w v2 l2) (hne:E1≠E2) (hg:w.grownBy w' v2.ownBlock):aD E1 s1 e1 B1 w' v1 l1:=by
 refine World.ownsRow.kept a hg ?_;rcases h1:v1.ownBlock with _|g1
 . exact .inl rfl
 . exact .inr fun h=>a.vO b hne h1 h.symm
end Go.Proofs.YtjijonhkofhikaaGreatDoor
namespace Go.Proofs.YtjijonhkofhikaaGreatDoor
open Go.ChangeShapes Go.WideShapes Go.ChangeAt Go.RowKit
structure aB (B:Nat) (w:World) (v1 v2 v3 v4:Value) (x:Fl):Prop where
  a:aD 3 1 aW B w v1 x.1
  b:aD 99 3 aV B w v2 x.2.1
  c:aD 99 3 aV B w v3 x.2.2.1
  d:aD 83 2 dM B w v4 x.2.2.2
  ap:∀g,v2.ownBlock=some g->v3.ownBlock≠some g
def SG (v1 v2 v3 v4:Value) (k:Nat):Prop:=v1.ownBlock=some k∨v2.ownBlock=some k∨v3.ownBlock=some k∨v4.ownBlock=some k
section
variable {B B' : Nat} {w w' w2 w3 : World} {v1 v2 v3 v4 u1 u2 u3 u4 : Value} {x y : Fl} {S : Nat -> Prop}
theorem aB.lt (h:aB B w v1 v2 v3 v4 x) {k:Nat} (hk:SG v1 v2 v3 v4 k):B<=k/\k<w.heap.size:=by
 rcases hk with q|q|q|q
 . exact World.ownsRow.lt h.a k q
 . exact World.ownsRow.lt h.b k q
 . exact World.ownsRow.lt h.c k q
 . exact World.ownsRow.lt h.d k q
theorem aB.below (h:aB B w v1 v2 v3 v4 x) (hb:Below w.heap.size w w'):aB B w' v1 v2 v3 v4 x:=⟨h.a.below hb,h.b.below hb,h.c.below hb,h.d.below hb,h.ap⟩
theorem aB.alloc (h:aB B w v1 v2 v3 v4 x) (o:Obj):aB B (w.alloc o) v1 v2 v3 v4 x:=⟨h.a.alloc o,h.b.alloc o,h.c.alloc o,h.d.alloc o,h.ap⟩
theorem aB.mono (h:aB B w v1 v2 v3 v4 x) (hb:B'<=B):aB B' w v1 v2 v3 v4 x:=⟨h.a.mono hb,h.b.mono hb,h.c.mono hb,h.d.mono hb,h.ap⟩
theorem aB.fH (h:aB B w v1 v2 v3 v4 x) (hg:Grown S w w') (hne:∀k,SG v1 v2 v3 v4 k->¬S k):aB B w' v1 v2 v3 v4 x:=
 ⟨h.a.fH hg (fun g q=>hne g (.inl q)),h.b.fH hg (fun g q=>hne g (.inr (.inl q))),h.c.fH hg (fun g q=>hne g (.inr (.inr (.inl q)))),h.d.fH hg (fun g q=>hne g (.inr (.inr (.inr q)))),h.ap⟩
theorem aB.ra (h:aB B w v1 v2 v3 v4 x):Rd 1 aZ w v1 x.1:=h.a.rd aM (by decide)
theorem aB.rb (h:aB B w v1 v2 v3 v4 x):Rd 3 aQ w v2 x.2.1:=h.b.rd aC (by decide)
theorem aB.rc (h:aB B w v1 v2 v3 v4 x):Rd 3 aQ w v3 x.2.2.1:=h.c.rd aC (by decide)
theorem aB.rd (h:aB B w v1 v2 v3 v4 x):Rd 2 bT w v4 x.2.2.2:=h.d.rd eB (by decide)
theorem aB.apart {g:Nat} {t:TypeId} {cs:Array Value} (h:aB B w v1 v2 v3 v4 x) (hb:Blk w g t cs) (h1:3≠t) (h2:99≠t) (h3:83≠t):¬SG v1 v2 v3 v4 g:=by
 rintro(q|q|q|q)
 . exact h.a.apart hb h1 q
 . exact h.b.apart hb h2 q
 . exact h.c.apart hb h2 q
 . exact h.d.apart hb h3 q
end
theorem aB.cO {B g:Nat} {w w':World} {v1 v2 v3 v4:Value} {x:Fl} {t:TypeId} {cs:Array Value} (h:aB B w v1 v2 v3 v4 x) (hb:Blk w g t cs) (h1:3≠t) (h2:99≠t) (h3:83≠t) (hg:w.grownBy w' (some g)):aB B w' v1 v2 v3 v4 x:=
 h.fH (S:=fun k=>k=g) ⟨hg.os,hg.tape,hg.output,hg.size,fun k hk hs=>hg.block k hk (fun e=>hs (by injection e))⟩ (fun k hk e=>h.apart hb h1 h2 h3 (e▸hk))
section
variable {P : Program} {ops : Array Oper} {o : Oper} {a : Act} {w : World} {K : Act -> World -> Prop} {Q : Exit -> Act -> World -> Prop} {E' : Prop} {t E : TypeId} {z : Value} {size bytes : Nat}
theorem iK (R:Row P t E z size bytes) (hgd:o.guard=none) (ho:o.op= .buildSlice t 0 #[])
    (h:∀g w',Blk w' g E #[]->Below w.heap.size w w'->w.heap.size<=g->g<w'.heap.size->w.heap.size<=w'.heap.size->K (a.put o.dst (.slice (some ⟨g,0,none⟩) 0 0)) w'):
    if Region.wanted o (yielded ops a.tmps)=true then Oper.wp P o a w K Q else E':=by
 have hw:Region.wanted o (yielded ops a.tmps)=true:=(by simp[Region.wanted,hgd]);rw[if_pos hw];obtain⟨ht,a6,hzs,hsz⟩:=R;obtain⟨i0,hi,hz0,hz1,hz2⟩:=info_parts a6
 have hrun:(Instr.buildSlice t 0 #[]).run P w= .ok (.slice (some ⟨w.heap.size,0,none⟩) 0 0) (w.alloc (.cells #[] E)):=by
  simp[Instr.buildSlice,run_underlying ht,sizeOf,typeInfo,hi,newRow,Instr.fill];have e:(Array.map (fun _=>(default:Value)) (Array.range 0))= #[]:=by apply Array.eq_empty_of_size_eq_zero;simp
  rw[e]
 unfold Oper.wp execOp;simp only[ho,Sem.run_bind,Sem.run_pure,Result.andThen_ok,List.map_toArray,List.map_nil,Array.map_empty,hrun];exact h _ _ (Blk.aX w E #[]) ((Below.refl _ _).al _) (Tm _) (by simp) (by simp)
theorem jD (R:Row P t E z size bytes) {α:Type} {enc:α->List Value} (a8:∀x,(enc x).length=size) (h1:∀x,∀u∈enc x,u.oneCell'=true) {B g:Nat} (hb:Blk w g E #[]) (hB:B<=g) {A:Option Addr} {c:Nat} {m:List α} (hm:Rd size (RE enc) w (.slice A m.length c) m)
    (hlen:m.length*bytes<=140737488355328) (a7:m.length<=maxLen) (hgd:o.guard=none) (s x:Operand) (ho:o.op= .call {callee:= .builtin .append,args:= #[s,x],argTypes:= #[t,t]})
    (hs:a.eval s= .slice (some ⟨g,0,none⟩) 0 0) (hx:a.eval x= .slice A m.length c)
    (h:∀A' c' w',aD E size enc B w' (.slice A' m.length c') m->Below w.heap.size w w'->(∀k,(slice A' m.length c').ownBlock=some k->k=g∨(w.heap.size<=k/\k<w'.heap.size))->w.heap.size<=w'.heap.size->K (a.put o.dst (.slice A' m.length c')) w'):
    if Region.wanted o (yielded ops a.tmps)=true then Oper.wp P o a w K Q else E':=by
 have hw:Region.wanted o (yielded ops a.tmps)=true:=(by simp[Region.wanted,hgd]);rw[if_pos hw];obtain⟨ht,bA,hzs,hsz⟩:=R;obtain⟨i0,hi,hz0,hz1,hz2⟩:=info_parts bA;have hown:aD E size enc B w (.slice (some ⟨g,0,none⟩) 0 0) ([]:List α):=⟨by simp,.inr ⟨g,0,#[],rfl,hB,hb,Tm _,Nat.zero_le _,by simp,by simp⟩⟩
 have key:∃A' c' w',(Builtin.append_ #[t,t] o.type #[.slice (some ⟨g,0,none⟩) 0 0,.slice A m.length c]).run P w= .ok (.slice A' m.length c') w'/\aD E size enc B w' (.slice A' m.length c') m/\Below w.heap.size w w'/\(∀k,(slice A' m.length c').ownBlock=some k->k=g∨(w.heap.size<=k/\k<w'.heap.size))/\w.heap.size<=w'.heap.size:=by
  by_cases hA:m=[]
  . subst hA;refine⟨some ⟨g,0,none⟩,0,w,?_,hown,Below.refl _ _,fun k hk=> .inl (by simpa[Tn]using hk.symm),Tm _⟩;rcases A with _|ad
    . simp[Builtin.append_,run_underlying ht,sizeOf,typeInfo,hi,Builtin.lenOf,Builtin.firstCells,storeCells]
    . simp[Builtin.append_,run_underlying ht,sizeOf,typeInfo,hi,Builtin.lenOf,Builtin.firstCells,storeCells,loadCells,loadCellsFrom]
  . have bB:0<m.length:=List.length_pos_iff.2 hA
    obtain⟨ad,rfl⟩:∃ad,A=some ad:=by
     obtain⟨A',c',e,_,_,h3⟩:=hm;injection e with e1 e2 e3;obtain⟨b,off,e4,_⟩:=h3 bB;exact⟨_,e1.trans e4⟩
    have a6:∀j u,(m.flatMap enc)[j]? =some u->w.cell? (ad.add j)=some u:=by
     intro j u hj;obtain⟨i,x,r,k1,k2,k3⟩:=EU a8 m j u hj;have hi':i<m.length:=(List.getElem?_eq_some_iff.1 k1).1;obtain⟨b,off,e,_,hc⟩:=hm.at_ hi';injection e with e;subst e;have hx:m[i]=x:=by rw[List.getElem?_eq_getElem hi']at k1;injection k1
     have:=hc r u (by rw[hx];exact k2)
     have e:(Addr.mk b off none).add j=⟨b,off+i*size+r,none⟩:=by
      unfold Addr.add;split
      . simp_all
      . simp[k3,Nat.add_assoc]
     rw[e];exact this
    have bC:g<w.heap.size:=hb.lt
    obtain⟨v',w',hrun,h2,h3,_,h5⟩:=run_append_own_at (P:=P) w B t o.type E i0 z size bytes ht hi hz0 hz1 hz2 hzs hsz _ 0 ([]:List Value) hown
      ad m.length c (m.flatMap enc) (iB a8 m) a6 (IL h1 m) (by simpa using a7) (by simpa using hlen) (by omega)
    have hr:=run_append_grow (P:=P) w t o.type E i0 z ht hi hz0 ⟨g,0,none⟩ 0 0 [] (by simp) (by simp) ad m.length c (m.flatMap enc) (by rw[hz1];exact iB a8 m) a6 (by omega) (by unfold maxLen at a7;omega) (growslice_fits (by omega) (by rw[hz2];simpa using hlen));rw[hr]at hrun;injection hrun with e1 e2;subst e1;subst e2;simp only[Nat.zero_add,List.nil_append]at h2 hr⊢;refine⟨_,_,_,hr,by unfold aD;exact h2,?_,?_,?_⟩
    . exact((Below.refl _ _).drew).al _
    . intro k hk;right;have:w.heap.size=k:=(by simpa[Tn]using hk);subst this;simp
    . simp
 obtain⟨A',c',w',hrun,hO,hbl,hk,hz⟩:=key;unfold Oper.wp execOp;simp only[ho,resolve,invoke,builtin,Sem.run_bind,Sem.run_pure,Result.andThen_ok,List.map_toArray,List.map_cons,List.map_nil,hs,hx,hrun];exact h A' c' w' hO hbl hk hz
end
def uE (x:Fl) (w:World) (e:Ending) (w':World):Prop:=∃A1 c1 A2 c2 A3 c3 A4 c4,e= .returned (.agg #[.slice A1 x.1.length c1,.slice A2 x.2.1.length c2,.slice A3 x.2.2.1.length c3,.slice A4 x.2.2.2.length c4])/\
  aB w.heap.size w' (.slice A1 x.1.length c1) (.slice A2 x.2.1.length c2) (.slice A3 x.2.2.1.length c3) (.slice A4 x.2.2.2.length c4) x/\Below w.heap.size w w'
def bQ (x:Fl):Prop:=Small x.1.length/\Small x.2.1.length/\Small x.2.2.1.length/\Small x.2.2.2.length
abbrev Wk:=Fl×Int×Int×Int
def kW (x:Fl) (b:Bool) (w:World) (e:Ending) (w':World):Prop:=∃A1 c1 A2 c2 A3 c3 A4 c4,e= .returned (.tuple #[.agg #[.slice A1 x.1.length c1,.slice A2 x.2.1.length c2,.slice A3 x.2.2.1.length c3,.slice A4 x.2.2.2.length c4],.bool b])/\
  aB w.heap.size w' (.slice A1 x.1.length c1) (.slice A2 x.2.1.length c2) (.slice A3 x.2.2.1.length c3) (.slice A4 x.2.2.2.length c4) x/\Below w.heap.size w w'
theorem aB.Ta {B:Nat} {w w':World} {v1 v2 v3 v4 u4:Value} {r:List Int} {f n:List Dm} {c c':List Cl} (h:aB B w v1 v2 v3 v4 (r,f,n,c)) (o:aD 83 2 dM B w' u4 c') (hg:w.grownBy w' v4.ownBlock):aB B w' v1 v2 v3 u4 (r,f,n,c'):=
 ⟨h.a.fH (Grown.of hg) (fun g q=>h.a.vO h.d (by decide) q),h.b.fH (Grown.of hg) (fun g q=>h.b.vO h.d (by decide) q),h.c.fH (Grown.of hg) (fun g q=>h.c.vO h.d (by decide) q),o,h.ap⟩
theorem dH (v:Value) (l:List Dm) (w:World) (h:Rd 3 aQ w v l) (hl:Small l.length):Calls Tryz.prog 90 #[v] w (fM 99 3 aV l w):=by
 obtain⟨A,c,rfl,hc,hm⟩:=h.form;have h':=h.Tj ((Below.refl _ _).al (.cells #[] 99));have a7:(0+l.length)*24<=140737488355328:=by unfold Small at hl;omega
 have hsm:0+l.length<=maxLen:=by have:=hl.max;omega
 have H8:=Tk a7;have HM:=Tk hsm;clear a7 hsm;go_enter Tryz.func90,Tryz.ntmps90
 go_wp2_with (at_builtin;go_must (refine dN (enc:=aV) aJ aC aL (B:=w.heap.size) (by simp) (fF w) h' H8.out HM.out rfl _ _ rfl rfl rfl ?_);intro v1 w1 a6 hb1 a8;obtain⟨A1,c1,rfl⟩:=a8;simp only[List.nil_append,List.length_nil,Nat.zero_add]at a6)
 go_wp2;go_ret;exact⟨A1,c1,rfl,a6,((Below.refl _ _).al _).trans hb1⟩
theorem kL (v1 v2 v3 v4:Value) (x:Fl) (w:World) (h1:Rd 1 aZ w v1 x.1) (h2:Rd 3 aQ w v2 x.2.1) (h3:Rd 3 aQ w v3 x.2.2.1) (h4:Rd 2 bT w v4 x.2.2.2) (hs:bQ x):Calls Tryz.prog 49 #[.agg #[v1,v2,v3,v4]] w (uE x w):=by
 obtain⟨rows,f,n,cs⟩:=x;simp only at h1 h2 h3 h4;obtain⟨s1,s2,s3,s4⟩:=hs;simp only at s1 s2 s3 s4;obtain⟨A1,c1,rfl,hc1,cF⟩:=h1.form;obtain⟨A2,c2,rfl,hc2,cG⟩:=h2.form;obtain⟨A3,c3,rfl,hc3,cH⟩:=h3.form;obtain⟨A4,c4,rfl,cI,cJ⟩:=h4.form;have B0:=((Below.refl w.heap.size w).al (.cells #[.slice A1 rows.length c1,.slice A2 f.length c2,.slice A3 n.length c3,.slice A4 cs.length c4] 30)).al (.cells #[.slice none 0 0,.slice none 0 0,.slice none 0 0,.slice none 0 0] 30);have bP:=(Blk.aX w 30 #[.slice A1 rows.length c1,.slice A2 f.length c2,.slice A3 n.length c3,.slice A4 cs.length c4]).alloc (.cells #[.slice none 0 0,.slice none 0 0,.slice none 0 0,.slice none 0 0] 30);have bR:=Blk.gI (w.alloc (.cells #[.slice A1 rows.length c1,.slice A2 f.length c2,.slice A3 n.length c3,.slice A4 cs.length c4] 30)) 30 #[.slice none 0 0,.slice none 0 0,.slice none 0 0,.slice none 0 0] (w.heap.size+1) (by simp);have H4:Hid (cs.length*16<=140737488355328):=Tk (by unfold Small at s4;omega);have M4:=Tk s4.max;go_enter Tryz.func49,Tryz.ntmps49
 go_wp2_with fail
 obtain⟨W0,hW0⟩:=Ti ((w.alloc (.cells #[.slice A1 rows.length c1,.slice A2 f.length c2,.slice A3 n.length c3,.slice A4 cs.length c4] 30)).alloc (.cells #[.slice none 0 0,.slice none 0 0,.slice none 0 0,.slice none 0 0] 30));obtain⟨gP,cA⟩:=Ti w.heap.size;obtain⟨gR,bU⟩:=Ti (w.heap.size+1);rw[<-hW0]at B0 bP bR⊢;rw[<-bU]at bR⊢;rw[<-cA]at bP⊢;have bY:w.heap.size<=gR:=(by omega);have cK:gP≠gR:=(by omega);have hw0:w.heap.size<=W0.heap.size:=B0.size;clear hW0 cA bU;obtain⟨cL,cM,cN,cP⟩:=bP.n4;have cQ:=bP.lt;have cR:=bR.lt;have Bw:Below W0.heap.size W0 W0.drew:=(Below.refl _ _).drew;have hz:W0.heap.size<=W0.drew.heap.size:=(by simp);have bR:=bR.bl Bw;refine rB (fun w'=>w'.cell? ⟨gP,0,none⟩=some (.slice A1 rows.length c1)/\w'.cell? ⟨gP,1,none⟩=some (.slice A2 f.length c2)/\w'.cell? ⟨gP,2,none⟩=some (.slice A3 n.length c3)/\w'.cell? ⟨gP,3,none⟩=some (.slice A4 cs.length c4)) fun hHeld=>(tW 0)<|(tW 1)<|(tW 3)<|(tW 4)<|(tW 6)<|(tW 7)<|(tW 10)<|(tW 11)<|(tR [2,9])<|tC (fun K hK=>?_) ?_
 (go_simp;go_at_call 89;go_must (refine(yL _ rows _ (h1.Tj (B0.tr Bw)) s1).mono ?_;rintro e wX ⟨C1,e1,rfl,bA,a6⟩;have bA:=bA.mono (show w.heap.size<=_ by omega);have bE:=a6.size;obtain⟨bF,bJ,bD⟩:=bkn a6 W0.heap.size hz;have hz:=bD;have Bw:=Bw.tr a6;have bR:=bR.bl a6;(try have bA:=bA.below a6);(try have a8:=a8.below a6);(try have a7:=a7.below a6);(try have bB:=bB.below a6);(try have b3:=b3.bl a6);(try have b7:=b7.bl a6);(try have bC:=bC.bl a6)))
 refine tK hK fun hHeld=>?_
 clear hK K;refine(tR [5,9])<|tC (fun K hK=>?_) ?_;(go_simp;go_at_call 90;go_must (refine(dH _ f _ (h2.Tj (B0.tr Bw)) s2).mono ?_;rintro e wX ⟨C2,e2,rfl,a8,a6⟩;have a8:=a8.mono (show w.heap.size<=_ by omega);have bE:=a6.size;obtain⟨bF,bJ,bD⟩:=bkn a6 W0.heap.size hz;have hz:=bD;have Bw:=Bw.tr a6;have bR:=bR.bl a6;(try have bA:=bA.below a6);(try have a8:=a8.below a6);(try have a7:=a7.below a6);(try have bB:=bB.below a6);(try have b3:=b3.bl a6);(try have b7:=b7.bl a6);(try have bC:=bC.bl a6)))
 refine tK hK fun hHeld=>?_
 clear hK K;refine(tR [8,9])<|tC (fun K hK=>?_) ?_;(go_simp;go_at_call 90;go_must (refine(dH _ n _ (h3.Tj (B0.tr Bw)) s3).mono ?_;rintro e wX ⟨C3,e3,rfl,a7,a6⟩;have bK:∀k,(slice C2 f.length e2).ownBlock=some k->(slice C3 n.length e3).ownBlock≠some k:=fun k q=>a8.early a7 (Tm _) q;have a7:=a7.mono (show w.heap.size<=_ by omega);have bE:=a6.size;obtain⟨bF,bJ,bD⟩:=bkn a6 W0.heap.size hz;have hz:=bD;have Bw:=Bw.tr a6;have bR:=bR.bl a6;(try have bA:=bA.below a6);(try have a8:=a8.below a6);(try have a7:=a7.below a6);(try have bB:=bB.below a6);(try have b3:=b3.bl a6);(try have b7:=b7.bl a6);(try have bC:=bC.bl a6)))
 refine tK hK fun hHeld=>?_
 clear hK K;refine(tR [9])<|tL fun K hK=>?_
 (refine iK jK rfl rfl ?_;intro g11 wX bC a6 bM bN bO;have bE:=a6.size;obtain⟨bF,bJ,bD⟩:=bkn a6 W0.heap.size hz;have hz:=bD;have Bw:=Bw.tr a6;have bR:=bR.bl a6;(try have bA:=bA.below a6);(try have a8:=a8.below a6);(try have a7:=a7.below a6);(try have bB:=bB.below a6);(try have b3:=b3.bl a6);(try have b7:=b7.bl a6);(try have bC:=bC.bl a6))
 refine tK hK fun hHeld=>?_
 clear hK K;refine(tR [12])<|tL fun K hK=>?_
 (refine jD jK eB oneCell (B:=w.heap.size) bC (by omega) (h4.Tj (B0.tr Bw)) H4.out M4.out rfl _ _ rfl rfl rfl ?_;intro C4 e4 wX bB a6 hk4 bO;have bE:=a6.size;obtain⟨bF,bJ,bD⟩:=bkn a6 W0.heap.size hz;have hz:=bD;have Bw:=Bw.tr a6;have bR:=bR.bl a6;(try have bA:=bA.below a6);(try have a8:=a8.below a6);(try have a7:=a7.below a6);(try have bB:=bB.below a6);(try have b3:=b3.bl a6);(try have b7:=b7.bl a6);(try have bC:=bC.bl a6))
 refine tK hK fun hHeld=>?_
 clear hK K;refine(tW 13)<|(tR [14])<|tL fun K hK=>?_
 (refine aK rfl 30 _ _ rfl gR _ rfl rfl _ _ bR (by kernel_rfl) rfl (by simp[Tp]) ?_;intro wX bX bL;have oF:aB w.heap.size wX _ _ _ _ (rows,f,n,cs):=aB.cO ⟨bA,a8,a7,bB,bK⟩ bR (by decide) (by decide) (by decide) bL;have BX:=(B0.tr Bw).grown bL (B0.tr Bw).size (fun k hk=>by injection hk with hk;subst hk;exact bY);have bS:=(bP.bl Bw).grown bL (by simp;omega);obtain⟨b5,b6,b8,b9⟩:=bS.n4;clear bA a8 a7 bB)
 refine tK hK fun hHeld=>?_
 clear hK K;refine tD ?_
 rotate_left 1
 refine tL fun K hK=>?_
 (refine iK jK rfl rfl ?_;intro g11 wX bC a6 bM bN bO;have bE:=a6.size;obtain⟨bF,bJ,bD⟩:=bkn a6 W0.heap.size hz;have hz:=bD;have Bw:=Bw.tr a6;have bR:=bR.bl a6;(try have bA:=bA.below a6);(try have a8:=a8.below a6);(try have a7:=a7.below a6);(try have bB:=bB.below a6);(try have b3:=b3.bl a6);(try have b7:=b7.bl a6);(try have bC:=bC.bl a6))
 refine tK hK fun hHeld=>?_
 clear hK K;refine(tR [8])<|tL fun K hK=>?_
 (go_simp;go_at_call 90;go_must (refine(dH _ n _ (h3.Tj (B0.tr Bw)) s3).mono ?_;rintro e wX ⟨C3,e3,rfl,a7,a6⟩;have bK:∀k,(slice C2 f.length e2).ownBlock=some k->(slice C3 n.length e3).ownBlock≠some k:=fun k q=>a8.early a7 (Tm _) q;have a7:=a7.mono (show w.heap.size<=_ by omega);have bE:=a6.size;obtain⟨bF,bJ,bD⟩:=bkn a6 W0.heap.size hz;have hz:=bD;have Bw:=Bw.tr a6;have bR:=bR.bl a6;(try have bA:=bA.below a6);(try have a8:=a8.below a6);(try have a7:=a7.below a6);(try have bB:=bB.below a6);(try have b3:=b3.bl a6);(try have b7:=b7.bl a6);(try have bC:=bC.bl a6)))
 refine tK hK fun hHeld=>?_
 clear hK K;refine(tR [12])<|tL fun K hK=>?_
 (refine jD jK eB oneCell (B:=w.heap.size) bC (by omega) (h4.Tj (B0.tr Bw)) H4.out M4.out rfl _ _ rfl rfl rfl ?_;intro C4 e4 wX bB a6 hk4 bO;have bE:=a6.size;obtain⟨bF,bJ,bD⟩:=bkn a6 W0.heap.size hz;have hz:=bD;have Bw:=Bw.tr a6;have bR:=bR.bl a6;(try have bA:=bA.below a6);(try have a8:=a8.below a6);(try have a7:=a7.below a6);(try have bB:=bB.below a6);(try have b3:=b3.bl a6);(try have b7:=b7.bl a6);(try have bC:=bC.bl a6))
 refine tK hK fun hHeld=>?_
 clear hK K;refine(tW 13)<|(tR [14])<|tL fun K hK=>?_
 (refine aK rfl 30 _ _ rfl gR _ rfl rfl _ _ bR (by kernel_rfl) rfl (by simp[Tp]) ?_;intro wX bX bL;have oF:aB w.heap.size wX _ _ _ _ (rows,f,n,cs):=aB.cO ⟨bA,a8,a7,bB,bK⟩ bR (by decide) (by decide) (by decide) bL;have BX:=(B0.tr Bw).grown bL (B0.tr Bw).size (fun k hk=>by injection hk with hk;subst hk;exact bY);have bS:=(bP.bl Bw).grown bL (by simp;omega);obtain⟨b5,b6,b8,b9⟩:=bS.n4;clear bA a8 a7 bB)
 refine tK hK fun hHeld=>?_
 clear hK K;refine tD ?_
 rotate_left 1
 refine tL fun K hK=>?_
 (refine iK jK rfl rfl ?_;intro g11 wX bC a6 bM bN bO;have bE:=a6.size;obtain⟨bF,bJ,bD⟩:=bkn a6 W0.heap.size hz;have hz:=bD;have Bw:=Bw.tr a6;have bR:=bR.bl a6;(try have bA:=bA.below a6);(try have a8:=a8.below a6);(try have a7:=a7.below a6);(try have bB:=bB.below a6);(try have b3:=b3.bl a6);(try have b7:=b7.bl a6);(try have bC:=bC.bl a6))
 refine tK hK fun hHeld=>?_
 clear hK K;refine(tR [5])<|tL fun K hK=>?_
 (go_simp;go_at_call 90;go_must (refine(dH _ f _ (h2.Tj (B0.tr Bw)) s2).mono ?_;rintro e wX ⟨C2,e2,rfl,a8,a6⟩;have a8:=a8.mono (show w.heap.size<=_ by omega);have bE:=a6.size;obtain⟨bF,bJ,bD⟩:=bkn a6 W0.heap.size hz;have hz:=bD;have Bw:=Bw.tr a6;have bR:=bR.bl a6;(try have bA:=bA.below a6);(try have a8:=a8.below a6);(try have a7:=a7.below a6);(try have bB:=bB.below a6);(try have b3:=b3.bl a6);(try have b7:=b7.bl a6);(try have bC:=bC.bl a6)))
 refine tK hK fun hHeld=>?_
 clear hK K;refine(tR [8])<|tL fun K hK=>?_
 (go_simp;go_at_call 90;go_must (refine(dH _ n _ (h3.Tj (B0.tr Bw)) s3).mono ?_;rintro e wX ⟨C3,e3,rfl,a7,a6⟩;have bK:∀k,(slice C2 f.length e2).ownBlock=some k->(slice C3 n.length e3).ownBlock≠some k:=fun k q=>a8.early a7 (Tm _) q;have a7:=a7.mono (show w.heap.size<=_ by omega);have bE:=a6.size;obtain⟨bF,bJ,bD⟩:=bkn a6 W0.heap.size hz;have hz:=bD;have Bw:=Bw.tr a6;have bR:=bR.bl a6;(try have bA:=bA.below a6);(try have a8:=a8.below a6);(try have a7:=a7.below a6);(try have bB:=bB.below a6);(try have b3:=b3.bl a6);(try have b7:=b7.bl a6);(try have bC:=bC.bl a6)))
 refine tK hK fun hHeld=>?_
 clear hK K;refine(tR [12])<|tL fun K hK=>?_
 (refine jD jK eB oneCell (B:=w.heap.size) bC (by omega) (h4.Tj (B0.tr Bw)) H4.out M4.out rfl _ _ rfl rfl rfl ?_;intro C4 e4 wX bB a6 hk4 bO;have bE:=a6.size;obtain⟨bF,bJ,bD⟩:=bkn a6 W0.heap.size hz;have hz:=bD;have Bw:=Bw.tr a6;have bR:=bR.bl a6;(try have bA:=bA.below a6);(try have a8:=a8.below a6);(try have a7:=a7.below a6);(try have bB:=bB.below a6);(try have b3:=b3.bl a6);(try have b7:=b7.bl a6);(try have bC:=bC.bl a6))
 refine tK hK fun hHeld=>?_
 clear hK K;refine(tW 13)<|(tR [14])<|tL fun K hK=>?_
 (refine aK rfl 30 _ _ rfl gR _ rfl rfl _ _ bR (by kernel_rfl) rfl (by simp[Tp]) ?_;intro wX bX bL;have oF:aB w.heap.size wX _ _ _ _ (rows,f,n,cs):=aB.cO ⟨bA,a8,a7,bB,bK⟩ bR (by decide) (by decide) (by decide) bL;have BX:=(B0.tr Bw).grown bL (B0.tr Bw).size (fun k hk=>by injection hk with hk;subst hk;exact bY);have bS:=(bP.bl Bw).grown bL (by simp;omega);obtain⟨b5,b6,b8,b9⟩:=bS.n4;clear bA a8 a7 bB)
 refine tK hK fun hHeld=>?_
 clear hK K;refine tD ?_
 rotate_left 1
 refine tL fun K hK=>?_
 (refine iK jK rfl rfl ?_;intro g11 wX bC a6 bM bN bO;have bE:=a6.size;obtain⟨bF,bJ,bD⟩:=bkn a6 W0.heap.size hz;have hz:=bD;have Bw:=Bw.tr a6;have bR:=bR.bl a6;(try have bA:=bA.below a6);(try have a8:=a8.below a6);(try have a7:=a7.below a6);(try have bB:=bB.below a6);(try have b3:=b3.bl a6);(try have b7:=b7.bl a6);(try have bC:=bC.bl a6))
 refine tK hK fun hHeld=>?_
 clear hK K;refine(tR [2])<|tL fun K hK=>?_
 (go_simp;go_at_call 89;go_must (refine(yL _ rows _ (h1.Tj (B0.tr Bw)) s1).mono ?_;rintro e wX ⟨C1,e1,rfl,bA,a6⟩;have bA:=bA.mono (show w.heap.size<=_ by omega);have bE:=a6.size;obtain⟨bF,bJ,bD⟩:=bkn a6 W0.heap.size hz;have hz:=bD;have Bw:=Bw.tr a6;have bR:=bR.bl a6;(try have bA:=bA.below a6);(try have a8:=a8.below a6);(try have a7:=a7.below a6);(try have bB:=bB.below a6);(try have b3:=b3.bl a6);(try have b7:=b7.bl a6);(try have bC:=bC.bl a6)))
 refine tK hK fun hHeld=>?_
 clear hK K;refine(tR [5])<|tL fun K hK=>?_
 (go_simp;go_at_call 90;go_must (refine(dH _ f _ (h2.Tj (B0.tr Bw)) s2).mono ?_;rintro e wX ⟨C2,e2,rfl,a8,a6⟩;have a8:=a8.mono (show w.heap.size<=_ by omega);have bE:=a6.size;obtain⟨bF,bJ,bD⟩:=bkn a6 W0.heap.size hz;have hz:=bD;have Bw:=Bw.tr a6;have bR:=bR.bl a6;(try have bA:=bA.below a6);(try have a8:=a8.below a6);(try have a7:=a7.below a6);(try have bB:=bB.below a6);(try have b3:=b3.bl a6);(try have b7:=b7.bl a6);(try have bC:=bC.bl a6)))
 refine tK hK fun hHeld=>?_
 clear hK K;refine(tR [8])<|tL fun K hK=>?_
 (go_simp;go_at_call 90;go_must (refine(dH _ n _ (h3.Tj (B0.tr Bw)) s3).mono ?_;rintro e wX ⟨C3,e3,rfl,a7,a6⟩;have bK:∀k,(slice C2 f.length e2).ownBlock=some k->(slice C3 n.length e3).ownBlock≠some k:=fun k q=>a8.early a7 (Tm _) q;have a7:=a7.mono (show w.heap.size<=_ by omega);have bE:=a6.size;obtain⟨bF,bJ,bD⟩:=bkn a6 W0.heap.size hz;have hz:=bD;have Bw:=Bw.tr a6;have bR:=bR.bl a6;(try have bA:=bA.below a6);(try have a8:=a8.below a6);(try have a7:=a7.below a6);(try have bB:=bB.below a6);(try have b3:=b3.bl a6);(try have b7:=b7.bl a6);(try have bC:=bC.bl a6)))
 refine tK hK fun hHeld=>?_
 clear hK K;refine(tR [12])<|tL fun K hK=>?_
 (refine jD jK eB oneCell (B:=w.heap.size) bC (by omega) (h4.Tj (B0.tr Bw)) H4.out M4.out rfl _ _ rfl rfl rfl ?_;intro C4 e4 wX bB a6 hk4 bO;have bE:=a6.size;obtain⟨bF,bJ,bD⟩:=bkn a6 W0.heap.size hz;have hz:=bD;have Bw:=Bw.tr a6;have bR:=bR.bl a6;(try have bA:=bA.below a6);(try have a8:=a8.below a6);(try have a7:=a7.below a6);(try have bB:=bB.below a6);(try have b3:=b3.bl a6);(try have b7:=b7.bl a6);(try have bC:=bC.bl a6))
 refine tK hK fun hHeld=>?_
 clear hK K;refine(tW 13)<|(tR [14])<|tL fun K hK=>?_
 (refine aK rfl 30 _ _ rfl gR _ rfl rfl _ _ bR (by kernel_rfl) rfl (by simp[Tp]) ?_;intro wX bX bL;have oF:aB w.heap.size wX _ _ _ _ (rows,f,n,cs):=aB.cO ⟨bA,a8,a7,bB,bK⟩ bR (by decide) (by decide) (by decide) bL;have BX:=(B0.tr Bw).grown bL (B0.tr Bw).size (fun k hk=>by injection hk with hk;subst hk;exact bY);have bS:=(bP.bl Bw).grown bL (by simp;omega);obtain⟨b5,b6,b8,b9⟩:=bS.n4;clear bA a8 a7 bB)
 refine tK hK fun hHeld=>?_
 clear hK K;refine tD ?_
 all_goals
   go_wp2_with fail
   obtain⟨cB,cC,cD,cE⟩:=bX.n4;refine bodyPost_ret (v:= .agg #[.slice C1 rows.length e1,.slice C2 f.length e2,.slice C3 n.length e3,.slice C4 cs.length e4]) (by simp[results,Tryz.results49,go_sem,cB,cC,cD,cE]) rfl ⟨C1,e1,C2,e2,C3,e3,C4,e4,rfl,oF,BX⟩
end Go.Proofs.YtjijonhkofhikaaGreatDoor
