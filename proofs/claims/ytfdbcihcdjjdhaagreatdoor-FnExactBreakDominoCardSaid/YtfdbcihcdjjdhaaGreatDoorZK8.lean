/- Floors of the call's own: four slices, no two of them in one block; and what leaves them as they are. Plain lemmas. Floors and workshops copied, compared, measured. Conditions: sizes. Floors and workshops of the call's own: marked, and the marks read back. Conditions: sizes.. Conditions, where there are any, stand in the statements. -/
import Derived.Test.YtfdbcihcdjjdhaaGreatDoorZK1
import Derived.Test.YtfdbcihcdjjdhaaGreatDoorZK3
import Derived.Test.YtfdbcihcdjjdhaaGreatDoorZK5
import Derived.Test.YtfdbcihcdjjdhaaGreatDoorZSteps
namespace Go.Proofs.YtfdbcihcdjjdhaaGreatDoor
open Go.ChangeShapes Go.WideShapes Go.ChangeAt Go.RowKit
set_option linter.unusedVariables false
set_option linter.unusedSimpArgs false
structure OwnFl (B:Nat) (w:World) (v1 v2 v3 v4:Value) (x:Fl):Prop where
  a:OwnL 3 1 eInt B w v1 x.1
  b:OwnL 90 3 eDom B w v2 x.2.1
  c:OwnL 90 3 eDom B w v3 x.2.2.1
  d:OwnL 77 2 ePair B w v4 x.2.2.2
  ap:∀g,v2.ownBlock=some g→v3.ownBlock≠some g
def InFl (v1 v2 v3 v4:Value) (k:Nat):Prop:=v1.ownBlock=some k∨v2.ownBlock=some k∨v3.ownBlock=some k∨v4.ownBlock=some k
section
variable {B B' : Nat} {w w' w2 w3 : World} {v1 v2 v3 v4 u1 u2 u3 u4 : Value} {x y : Fl} {S : Nat → Prop}
theorem OwnFl.lt (h:OwnFl B w v1 v2 v3 v4 x) {k:Nat} (hk:InFl v1 v2 v3 v4 k):B≤k∧k<w.heap.size:=by
 rcases hk with q|q|q|q
 · exact World.ownsRow.lt h.a k q
 · exact World.ownsRow.lt h.b k q
 · exact World.ownsRow.lt h.c k q
 · exact World.ownsRow.lt h.d k q
theorem OwnFl.below (h:OwnFl B w v1 v2 v3 v4 x) (hb:Below w.heap.size w w'):OwnFl B w' v1 v2 v3 v4 x:=⟨h.a.below hb,h.b.below hb,h.c.below hb,h.d.below hb,h.ap⟩
theorem OwnFl.alloc (h:OwnFl B w v1 v2 v3 v4 x) (o:Obj):OwnFl B (w.alloc o) v1 v2 v3 v4 x:=⟨h.a.alloc o,h.b.alloc o,h.c.alloc o,h.d.alloc o,h.ap⟩
theorem OwnFl.mono (h:OwnFl B w v1 v2 v3 v4 x) (hb:B'≤B):OwnFl B' w v1 v2 v3 v4 x:=⟨h.a.mono hb,h.b.mono hb,h.c.mono hb,h.d.mono hb,h.ap⟩
theorem OwnFl.grownS (h:OwnFl B w v1 v2 v3 v4 x) (hg:Grown S w w') (hne:∀k,InFl v1 v2 v3 v4 k→¬S k):OwnFl B w' v1 v2 v3 v4 x:=
 ⟨h.a.grownS hg (fun g q=>hne g (.inl q)),h.b.grownS hg (fun g q=>hne g (.inr (.inl q))),h.c.grownS hg (fun g q=>hne g (.inr (.inr (.inl q)))),h.d.grownS hg (fun g q=>hne g (.inr (.inr (.inr q)))),h.ap⟩
theorem OwnFl.ra (h:OwnFl B w v1 v2 v3 v4 x):Rd 1 RInt w v1 x.1:=h.a.rd lenInt (by decide)
theorem OwnFl.rb (h:OwnFl B w v1 v2 v3 v4 x):Rd 3 RDom w v2 x.2.1:=h.b.rd lenDom (by decide)
theorem OwnFl.rc (h:OwnFl B w v1 v2 v3 v4 x):Rd 3 RDom w v3 x.2.2.1:=h.c.rd lenDom (by decide)
theorem OwnFl.rd (h:OwnFl B w v1 v2 v3 v4 x):Rd 2 RPair w v4 x.2.2.2:=h.d.rd lenCell (by decide)
theorem OwnFl.early (h : OwnFl B w v1 v2 v3 v4 x) (h2 : OwnFl B' w2 u1 u2 u3 u4 y) (hb : w.heap.size ≤ B') {k : Nat} (hk : InFl v1 v2 v3 v4 k) : ¬ InFl u1 u2 u3 u4 k := fun hu => by
 have k1:=(h.lt hk).2
 have k2:=(h2.lt hu).1
 omega
theorem OwnFl.apart {g:Nat} {t:TypeId} {cs:Array Value} (h:OwnFl B w v1 v2 v3 v4 x) (hb:Blk w g t cs) (h1:3≠t) (h2:90≠t) (h3:77≠t):¬InFl v1 v2 v3 v4 g:=by
 rintro(q|q|q|q)
 · exact h.a.apart hb h1 q
 · exact h.b.apart hb h2 q
 · exact h.c.apart hb h2 q
 · exact h.d.apart hb h3 q
end
theorem OwnFl.rowI {B g:Nat} {w w':World} {v1 v2 v3 v4:Value} {x:Fl} {t:TypeId} {cs:Array Value} (h:OwnFl B w v1 v2 v3 v4 x) (hb:Blk w g t cs) (h1:3≠t) (h2:90≠t) (h3:77≠t) (hg:w.grownBy w' (some g)):OwnFl B w' v1 v2 v3 v4 x:=
 h.grownS (S:=fun k=>k=g) ⟨hg.os,hg.tape,hg.output,hg.size,fun k hk hs=>hg.block k hk (fun e=>hs (by injection e))⟩ (fun k hk e=>h.apart hb h1 h2 h3 (e▸hk))
section
variable {P : Program} {ops : Array Oper} {o : Oper} {a : Act} {w : World} {K : Act → World → Prop} {Q : Exit → Act → World → Prop} {E' : Prop} {t E : TypeId} {z : Value} {size bytes : Nat}
theorem step_buildE (R:Row P t E z size bytes) (hgd:o.guard=none) (ho:o.op= .buildSlice t 0 #[])
    (h:∀g w',Blk w' g E #[]→Below w.heap.size w w'→w.heap.size≤g→g<w'.heap.size→w.heap.size≤w'.heap.size→K (a.put o.dst (.slice (some ⟨g,0,none⟩) 0 0)) w'):
    if Region.wanted o (yielded ops a.tmps)=true then Oper.wp P o a w K Q else E':=by
 have hw:Region.wanted o (yielded ops a.tmps)=true:=by simp[Region.wanted,hgd]
 rw[if_pos hw]
 obtain⟨ht,hinfo,hzs,hsz⟩:=R
 obtain⟨i0,hi,hz0,hz1,hz2⟩:=info_parts hinfo
 have hrun:(Instr.buildSlice t 0 #[]).run P w= .ok (.slice (some ⟨w.heap.size,0,none⟩) 0 0) (w.alloc (.cells #[] E)):=by
  simp[Instr.buildSlice,run_underlying ht,sizeOf,typeInfo,hi,newRow,Instr.fill]
  have e:(Array.map (fun _=>(default:Value)) (Array.range 0))= #[]:=by apply Array.eq_empty_of_size_eq_zero;simp
  rw[e]
 unfold Oper.wp execOp
 simp only[ho,Sem.run_bind,Sem.run_pure,Result.andThen_ok,List.map_toArray,List.map_nil,Array.map_empty,hrun]
 exact h _ _ (Blk.new_ w E #[]) ((Below.refl _ _).al _) (Nat.le_refl _) (by simp) (by simp)
theorem step_appE (R:Row P t E z size bytes) {α:Type} {enc:α→List Value} (henc:∀x,(enc x).length=size) (h1:∀x,∀u∈enc x,u.oneCell'=true) {B g:Nat} (hb:Blk w g E #[]) (hB:B≤g) {A:Option Addr} {c:Nat} {m:List α} (hm:Rd size (RE enc) w (.slice A m.length c) m)
    (hlen:m.length*bytes≤140737488355328) (hlen2:m.length≤maxLen) (hgd:o.guard=none) (s x:Operand) (ho:o.op= .call {callee:= .builtin .append,args:= #[s,x],argTypes:= #[t,t]})
    (hs:a.eval s= .slice (some ⟨g,0,none⟩) 0 0) (hx:a.eval x= .slice A m.length c)
    (h:∀A' c' w',OwnL E size enc B w' (.slice A' m.length c') m→Below w.heap.size w w'→(∀k,(Value.slice A' m.length c').ownBlock=some k→k=g∨(w.heap.size≤k∧k<w'.heap.size))→w.heap.size≤w'.heap.size→K (a.put o.dst (.slice A' m.length c')) w'):
    if Region.wanted o (yielded ops a.tmps)=true then Oper.wp P o a w K Q else E':=by
 have hw:Region.wanted o (yielded ops a.tmps)=true:=by simp[Region.wanted,hgd]
 rw[if_pos hw]
 obtain⟨ht,hinfo,hzs,hsz⟩:=R
 obtain⟨i0,hi,hz0,hz1,hz2⟩:=info_parts hinfo
 have hown:OwnL E size enc B w (.slice (some ⟨g,0,none⟩) 0 0) ([]:List α):=⟨by simp,.inr ⟨g,0,#[],rfl,hB,hb,Nat.le_refl _,Nat.zero_le _,by simp,by simp⟩⟩
 have key:∃A' c' w',(Builtin.append_ #[t,t] o.type #[.slice (some ⟨g,0,none⟩) 0 0,.slice A m.length c]).run P w= .ok (.slice A' m.length c') w'∧OwnL E size enc B w' (.slice A' m.length c') m∧Below w.heap.size w w'∧(∀k,(Value.slice A' m.length c').ownBlock=some k→k=g∨(w.heap.size≤k∧k<w'.heap.size))∧w.heap.size≤w'.heap.size:=by
  by_cases hA:m=[]
  · subst hA
    refine⟨some ⟨g,0,none⟩,0,w,?_,hown,Below.refl _ _,fun k hk=> .inl (by simpa[Value.ownBlock]using hk.symm),Nat.le_refl _⟩
    rcases A with _|ad
    · simp[Builtin.append_,run_underlying ht,sizeOf,typeInfo,hi,Builtin.lenOf,Builtin.firstCells,storeCells]
    · simp[Builtin.append_,run_underlying ht,sizeOf,typeInfo,hi,Builtin.lenOf,Builtin.firstCells,storeCells,loadCells,loadCellsFrom]
  · have hm0:0<m.length:=List.length_pos_iff.2 hA
    obtain⟨ad,rfl⟩:∃ad,A=some ad:=by
     obtain⟨A',c',e,_,_,h3⟩:=hm
     injection e with e1 e2 e3
     obtain⟨b,off,e4,_⟩:=h3 hm0
     exact⟨_,e1.trans e4⟩
    have hcells:∀j u,(m.flatMap enc)[j]? =some u→w.cell? (ad.add j)=some u:=by
     intro j u hj
     obtain⟨i,x,r,k1,k2,k3⟩:=flat_inv henc m j u hj
     have hi':i<m.length:=(List.getElem?_eq_some_iff.1 k1).1
     obtain⟨b,off,e,_,hc⟩:=hm.at_ hi'
     injection e with e;subst e
     have hx:m[i]=x:=by rw[List.getElem?_eq_getElem hi']at k1;injection k1
     have:=hc r u (by rw[hx];exact k2)
     have e:(Addr.mk b off none).add j=⟨b,off+i*size+r,none⟩:=by
      unfold Addr.add;split
      · simp_all
      · simp[k3,Nat.add_assoc]
     rw[e];exact this
    have hgl:g<w.heap.size:=hb.lt
    obtain⟨v',w',hrun,h2,h3,_,h5⟩:=run_append_own_at (P:=P) w B t o.type E i0 z size bytes ht hi hz0 hz1 hz2 hzs hsz _ 0 ([]:List Value) hown
      ad m.length c (m.flatMap enc) (flat_len henc m) hcells (one_of h1 m) (by simpa using hlen2) (by simpa using hlen) (by omega)
    have hr:=run_append_grow (P:=P) w t o.type E i0 z ht hi hz0 ⟨g,0,none⟩ 0 0 [] (by simp) (by simp) ad m.length c (m.flatMap enc) (by rw[hz1];exact flat_len henc m) hcells (by omega) (by unfold maxLen at hlen2;omega) (growslice_fits (by omega) (by rw[hz2];simpa using hlen))
    rw[hr]at hrun
    injection hrun with e1 e2
    subst e1;subst e2
    simp only[Nat.zero_add,List.nil_append]at h2 hr⊢
    refine⟨_,_,_,hr,by unfold OwnL;exact h2,?_,?_,?_⟩
    · exact((Below.refl _ _).drew).al _
    · intro k hk
      right
      have:w.heap.size=k:=by simpa[Value.ownBlock]using hk
      subst this
      simp
    · simp
 obtain⟨A',c',w',hrun,hO,hbl,hk,hz⟩:=key
 unfold Oper.wp execOp
 simp only[ho,resolve,invoke,builtin,Sem.run_bind,Sem.run_pure,Result.andThen_ok,List.map_toArray,List.map_cons,List.map_nil,hs,hx,hrun]
 exact h A' c' w' hO hbl hk hz
end
end Go.Proofs.YtfdbcihcdjjdhaaGreatDoor
namespace Go.Proofs.YtfdbcihcdjjdhaaGreatDoor
open Go.ChangeShapes Go.WideShapes Go.ChangeAt Go.RowKit
set_option linter.unusedVariables false
set_option linter.unusedSimpArgs false
def RFloor (w:World) (cs:List Value) (x:Fl):Prop:=∃a b c d,cs=a++b++c++d∧RSl 1 RInt w a x.1∧RSl 3 RDom w b x.2.1∧RSl 3 RDom w c x.2.2.1∧RSl 2 RPair w d x.2.2.2
def FloorIn (x:Fl):Prop:=AllOk I64 x.1∧AllOk (fun x=>I64 x.1∧I64 x.2.1∧Always x.2.2) x.2.1∧AllOk (fun x=>I64 x.1∧I64 x.2.1∧Always x.2.2) x.2.2.1∧AllOk (fun x=>I64 x.1∧I64 x.2) x.2.2.2
theorem o_floor {W:World}:Opens Tryz.prog W 28 4 RFloor FloorIn:=
 Opens.struct4 (n0:=1) (n1:=1) (n2:=1) (n3:=1) Tryz.underlying28 (by kernel_rfl) rfl rfl rfl rfl o_region o_doms o_doms o_cells
theorem RFloor.form {w:World} {cs:List Value} {x:Fl} (h:RFloor w cs x):∃v1 v2 v3 v4,cs=[v1,v2,v3,v4]∧Rd 1 RInt w v1 x.1∧Rd 3 RDom w v2 x.2.1∧Rd 3 RDom w v3 x.2.2.1∧Rd 2 RPair w v4 x.2.2.2:=by
 obtain⟨a,b,c,d,rfl,⟨v1,rfl,h1⟩,⟨v2,rfl,h2⟩,⟨v3,rfl,h3⟩,⟨v4,rfl,h4⟩⟩:=h
 exact⟨v1,v2,v3,v4,rfl,h1,h2,h3,h4⟩
def RetFloor (x:Fl) (w:World) (e:Ending) (w':World):Prop:=∃A1 c1 A2 c2 A3 c3 A4 c4,e= .returned (.agg #[.slice A1 x.1.length c1,.slice A2 x.2.1.length c2,.slice A3 x.2.2.1.length c3,.slice A4 x.2.2.2.length c4])∧
  OwnFl w.heap.size w' (.slice A1 x.1.length c1) (.slice A2 x.2.1.length c2) (.slice A3 x.2.2.1.length c3) (.slice A4 x.2.2.2.length c4) x∧Below w.heap.size w w'
def Small4 (x:Fl):Prop:=Small x.1.length∧Small x.2.1.length∧Small x.2.2.1.length∧Small x.2.2.2.length
set_option maxHeartbeats 2000000 in
set_option maxRecDepth 100000 in
theorem toFloor_any (v1 v2 v3 v4:Value) (x:Fl) (w:World) (h1:Rd 1 RInt w v1 x.1) (h2:Rd 3 RDom w v2 x.2.1) (h3:Rd 3 RDom w v3 x.2.2.1) (h4:Rd 2 RPair w v4 x.2.2.2) (hs:Small4 x):Calls Tryz.prog 86 #[.agg #[v1,v2,v3,v4]] w (RetFloor x w):=by
 obtain⟨rows,f,n,cs⟩:=x
 simp only at h1 h2 h3 h4
 obtain⟨s1,s2,s3,s4⟩:=hs
 simp only at s1 s2 s3 s4
 obtain⟨A1,c1,rfl,hc1,hm1⟩:=h1.form
 obtain⟨A2,c2,rfl,hc2,hm2⟩:=h2.form
 obtain⟨A3,c3,rfl,hc3,hm3⟩:=h3.form
 obtain⟨A4,c4,rfl,hc4,hm4⟩:=h4.form
 obtain⟨L,hL⟩:∃L:Array Value,L= #[.slice A1 rows.length c1,.slice A2 f.length c2,.slice A3 n.length c3,.slice A4 cs.length c4]:=⟨_,rfl⟩
 have hA:=(((Below.refl w.heap.size w).al (.cells #[.slice A1 rows.length c1,.slice A2 f.length c2,.slice A3 n.length c3,.slice A4 cs.length c4] 28)).al (.cells #[.slice none 0 0,.slice none 0 0,.slice none 0 0,.slice none 0 0] 36)).al (.cells #[.slice none 0 0,.slice none 0 0,.slice none 0 0,.slice none 0 0] 36)
 have bA:=((Blk.new_ w 28 #[.slice A1 rows.length c1,.slice A2 f.length c2,.slice A3 n.length c3,.slice A4 cs.length c4]).alloc (.cells #[.slice none 0 0,.slice none 0 0,.slice none 0 0,.slice none 0 0] 36)).alloc (.cells #[.slice none 0 0,.slice none 0 0,.slice none 0 0,.slice none 0 0] 36)
 have bR:=(Blk.new2 (w.alloc (.cells #[.slice A1 rows.length c1,.slice A2 f.length c2,.slice A3 n.length c3,.slice A4 cs.length c4] 28)) 36 #[.slice none 0 0,.slice none 0 0,.slice none 0 0,.slice none 0 0] (w.heap.size+1) (by simp)).alloc (.cells #[.slice none 0 0,.slice none 0 0,.slice none 0 0,.slice none 0 0] 36)
 have bO:=Blk.new2 ((w.alloc (.cells #[.slice A1 rows.length c1,.slice A2 f.length c2,.slice A3 n.length c3,.slice A4 cs.length c4] 28)).alloc (.cells #[.slice none 0 0,.slice none 0 0,.slice none 0 0,.slice none 0 0] 36)) 36 #[.slice none 0 0,.slice none 0 0,.slice none 0 0,.slice none 0 0] (w.heap.size+1+1) (by simp)
 clear hL L
 go_enter Tryz.func86,Tryz.ntmps86
 go_wp2_with fail
 refine(toRegion_any _ rows _ (h1.below RE.stays hA) s1).mono ?_
 rintro e w1 ⟨B1,d1,rfl,own1,hb1⟩
 have bA1:=bA.bl hb1
 have bR1:=bR.bl hb1
 have bO1:=bO.bl hb1
 have BB1:=hA.tr hb1
 have own1:=own1.mono hA.size
 clear bA bR bO hb1 hA
 obtain⟨gA,hgA⟩:∃g,g=w.heap.size:=⟨_,rfl⟩
 obtain⟨gR,hgR⟩:∃g,g=w.heap.size+1:=⟨_,rfl⟩
 obtain⟨gO,hgO⟩:∃g,g=w.heap.size+1+1:=⟨_,rfl⟩
 have hAO:gA≠gO:=by omega
 have hRO:gR≠gO:=by omega
 have hAR:gA≠gR:=by omega
 have hO:w.heap.size≤gO:=by omega
 have hR:w.heap.size≤gR:=by omega
 rw[←hgO]at bO1⊢
 rw[←hgR]at bR1⊢
 rw[←hgA]at bA1⊢
 clear hgA hgR hgO
 have zA:=bA1.cell 1
 have zO:=bO1.cell 0
 simp only[List.getElem?_toArray,List.getElem?_cons_zero,List.getElem?_cons_succ]at zA zO
 have fO:∀j,w1.frozen? ⟨gO,j,none⟩=false:=fun j=>bO1.frozen j
 have hOA:=hAO.symm
 have bA2:=bA1.far (p:=⟨gO,0,none⟩) hAO (.slice B1 rows.length d1)
 have bR2:=bR1.far (p:=⟨gO,0,none⟩) hRO (.slice B1 rows.length d1)
 have bO2:=bO1.set_ 0 (.slice B1 rows.length d1)
 have own12:=own1.far (a:=⟨gO,0,none⟩) (own1.apart bO1 (by decide)) (.slice B1 rows.length d1)
 have BB2:=BB1.st ⟨gO,0,none⟩ (.slice B1 rows.length d1) hO
 go_wp2_with fail
 refine(toDoms_any _ f _ (h2.below RE.stays BB2) s2).mono ?_
 rintro e w2 ⟨B2,d2,rfl,own2,hb2⟩
 have bA3:=bA2.bl hb2
 have bR3:=bR2.bl hb2
 have bO3:=bO2.bl hb2
 have own13:=own12.below hb2
 have BB3:=BB2.tr hb2
 have own2:=own2.mono BB2.size
 clear zA zO fO bA1 bR1 bO1 own1 bA2 bR2 bO2 own12 hb2
 have zA:=bA3.cell 2
 have zO:=bO3.cell 1
 simp at zA zO
 have fO:∀j,w2.frozen? ⟨gO,j,none⟩=false:=fun j=>bO3.frozen j
 have bA4:=bA3.far (p:=⟨gO,1,none⟩) hAO (.slice B2 f.length d2)
 have bR4:=bR3.far (p:=⟨gO,1,none⟩) hRO (.slice B2 f.length d2)
 have bO4:=bO3.set_ 1 (.slice B2 f.length d2)
 have own14:=own13.far (a:=⟨gO,1,none⟩) (own13.apart bO3 (by decide)) (.slice B2 f.length d2)
 have own24:=own2.far (a:=⟨gO,1,none⟩) (own2.apart bO3 (by decide)) (.slice B2 f.length d2)
 have BB4:=BB3.st ⟨gO,1,none⟩ (.slice B2 f.length d2) hO
 go_wp2_with fail
 refine(toDoms_any _ n _ (h3.below RE.stays BB4) s3).mono ?_
 rintro e w3 ⟨B3,d3,rfl,own3,hb3⟩
 have bA5:=bA4.bl hb3
 have bR5:=bR4.bl hb3
 have bO5:=bO4.bl hb3
 have ap23:∀g,(Value.slice B2 f.length d2).ownBlock=some g→(Value.slice B3 n.length d3).ownBlock≠some g:=fun g hg=>own24.early own3 (Nat.le_refl _) hg
 have own15:=own14.below hb3
 have own25:=own24.below hb3
 have BB5:=BB4.tr hb3
 have own3:=own3.mono BB4.size
 clear zA zO fO bA3 bR3 bO3 own13 own2 bA4 bR4 bO4 own14 own24 hb3
 have zA:=bA5.cell 3
 have zO:=bO5.cell 2
 simp at zA zO
 have fO:∀j,w3.frozen? ⟨gO,j,none⟩=false:=fun j=>bO5.frozen j
 have bR6:=bR5.far (p:=⟨gO,2,none⟩) hRO (.slice B3 n.length d3)
 have bO6:=bO5.set_ 2 (.slice B3 n.length d3)
 have own16:=own15.far (a:=⟨gO,2,none⟩) (own15.apart bO5 (by decide)) (.slice B3 n.length d3)
 have own26:=own25.far (a:=⟨gO,2,none⟩) (own25.apart bO5 (by decide)) (.slice B3 n.length d3)
 have own36:=own3.far (a:=⟨gO,2,none⟩) (own3.apart bO5 (by decide)) (.slice B3 n.length d3)
 have BB6:=BB5.st ⟨gO,2,none⟩ (.slice B3 n.length d3) hO
 go_wp2_with fail
 refine(toCells_any _ cs _ (h4.below RE.stays BB6) s4).mono ?_
 rintro e w4 ⟨B4,d4,rfl,own4,hb4⟩
 have bR7:=bR6.bl hb4
 have bO7:=bO6.bl hb4
 have own17:=own16.below hb4
 have own27:=own26.below hb4
 have own37:=own36.below hb4
 have BB7:=BB6.tr hb4
 have own4:=own4.mono BB6.size
 clear zA zO fO bA5 bR5 bO5 own15 own25 own3 bR6 bO6 own16 own26 own36 hb4
 have zO:=bO7.cell 3
 simp at zO
 have fO:∀j,w4.frozen? ⟨gO,j,none⟩=false:=fun j=>bO7.frozen j
 have zO0:=bO7.cell 0
 have zO1:=bO7.cell 1
 have zO2:=bO7.cell 2
 simp at zO0 zO1 zO2
 have zR0:=bR7.cell 0
 have zR1:=bR7.cell 1
 have zR2:=bR7.cell 2
 have zR3:=bR7.cell 3
 simp only[List.getElem?_toArray,List.getElem?_cons_zero,List.getElem?_cons_succ]at zR0 zR1 zR2 zR3
 have fR:∀j,w4.frozen? ⟨gR,j,none⟩=false:=fun j=>bR7.frozen j
 have hOR:=hRO.symm
 go_wp2
 have e1:(Value.slice B1 rows.length d1).ownBlock≠some gO:=own17.apart bO7 (by decide)
 have e2:(Value.slice B2 f.length d2).ownBlock≠some gO:=own27.apart bO7 (by decide)
 have e3:(Value.slice B3 n.length d3).ownBlock≠some gO:=own37.apart bO7 (by decide)
 have e4:(Value.slice B4 cs.length d4).ownBlock≠some gO:=own4.apart bO7 (by decide)
 have r1:(Value.slice B1 rows.length d1).ownBlock≠some gR:=own17.apart bR7 (by decide)
 have r2:(Value.slice B2 f.length d2).ownBlock≠some gR:=own27.apart bR7 (by decide)
 have r3:(Value.slice B3 n.length d3).ownBlock≠some gR:=own37.apart bR7 (by decide)
 have r4:(Value.slice B4 cs.length d4).ownBlock≠some gR:=own4.apart bR7 (by decide)
 obtain⟨W8,hW8⟩:∃W8,W8=(((((w4.setCell ⟨gO,3,none⟩ (.slice B4 cs.length d4)).setCell ⟨gR,0,none⟩ (.slice B1 rows.length d1)).setCell ⟨gR,1,none⟩ (.slice B2 f.length d2)).setCell ⟨gR,2,none⟩ (.slice B3 n.length d3)).setCell ⟨gR,3,none⟩ (.slice B4 cs.length d4)):=⟨_,rfl⟩
 have bR8:Blk W8 gR 36 #[.slice B1 rows.length d1,.slice B2 f.length d2,.slice B3 n.length d3,.slice B4 cs.length d4]:=by
  rw[hW8]
  exact((((bR7.far (p:=⟨gO,3,none⟩) hRO _).st 0 _ #[.slice B1 rows.length d1,.slice none 0 0,.slice none 0 0,.slice none 0 0] rfl).st 1 _ #[.slice B1 rows.length d1,.slice B2 f.length d2,.slice none 0 0,.slice none 0 0] rfl).st 2 _ #[.slice B1 rows.length d1,.slice B2 f.length d2,.slice B3 n.length d3,.slice none 0 0] rfl).st 3 _ _ rfl
 have o1:OwnL 3 1 eInt w.heap.size W8 (.slice B1 rows.length d1) rows:=by rw[hW8];exact((((own17.far e1 _).far r1 _).far r1 _).far r1 _).far r1 _
 have o2:OwnL 90 3 eDom w.heap.size W8 (.slice B2 f.length d2) f:=by rw[hW8];exact((((own27.far e2 _).far r2 _).far r2 _).far r2 _).far r2 _
 have o3:OwnL 90 3 eDom w.heap.size W8 (.slice B3 n.length d3) n:=by rw[hW8];exact((((own37.far e3 _).far r3 _).far r3 _).far r3 _).far r3 _
 have o4:OwnL 77 2 ePair w.heap.size W8 (.slice B4 cs.length d4) cs:=by rw[hW8];exact((((own4.far e4 _).far r4 _).far r4 _).far r4 _).far r4 _
 have BB8:Below w.heap.size w W8:=by rw[hW8];exact((((BB7.st _ _ hO).st _ _ hR).st _ _ hR).st _ _ hR).st _ _ hR
 rw[←hW8]
 clear hW8
 have q0:=bR8.cell 0
 have q1:=bR8.cell 1
 have q2:=bR8.cell 2
 have q3:=bR8.cell 3
 simp only[List.getElem?_toArray,List.getElem?_cons_zero,List.getElem?_cons_succ]at q0 q1 q2 q3
 refine bodyPost_ret (v:= .agg #[.slice B1 rows.length d1,.slice B2 f.length d2,.slice B3 n.length d3,.slice B4 cs.length d4]) (by simp[results,Tryz.results86,go_sem,q0,q1,q2,q3]) rfl ⟨B1,d1,B2,d2,B3,d3,B4,d4,rfl,⟨o1,o2,o3,o4,ap23⟩,BB8⟩
def total (x:Fl):Nat:=x.1.length+x.2.1.length+x.2.2.1.length+x.2.2.2.length
set_option maxHeartbeats 2000000 in
set_option maxRecDepth 100000 in
theorem szFloor_ok (v1 v2 v3 v4:Value) (x:Fl) (left:Int) (w:World) (h1:Rd 1 RInt w v1 x.1) (h2:Rd 3 RDom w v2 x.2.1) (h3:Rd 3 RDom w v3 x.2.2.1) (h4:Rd 2 RPair w v4 x.2.2.2) (hl:left≤1048576) (hs:(total x:Int)≤left):
 Calls Tryz.prog 80 #[.agg #[v1,v2,v3,v4],.int .i64 left] w (Ret (.int .i64 (left-x.1.length-x.2.1.length-x.2.2.1.length-x.2.2.2.length)) w):=by
 obtain⟨rows,f,n,cs⟩:=x
 unfold total at hs
 simp only at h1 h2 h3 h4 hs
 obtain⟨A1,c1,rfl,hc1,hm1⟩:=h1.form
 obtain⟨A2,c2,rfl,hc2,hm2⟩:=h2.form
 obtain⟨A3,c3,rfl,hc3,hm3⟩:=h3.form
 obtain⟨A4,c4,rfl,hc4,hm4⟩:=h4.form
 have hA:=(Below.refl w.heap.size w).al (.cells #[.slice A1 rows.length c1,.slice A2 f.length c2,.slice A3 n.length c3,.slice A4 cs.length c4] 28)
 have bA:=Blk.new_ w 28 #[.slice A1 rows.length c1,.slice A2 f.length c2,.slice A3 n.length c3,.slice A4 cs.length c4]
 have k1:¬(left-(rows.length:Int)<0):=by omega
 have k2:¬(left-(rows.length:Int)-(f.length:Int)<0):=by omega
 have k3:¬(left-(rows.length:Int)-(f.length:Int)-(n.length:Int)<0):=by omega
 have k4:¬(left-(rows.length:Int)-(f.length:Int)-(n.length:Int)-(cs.length:Int)<0):=by omega
 go_enter Tryz.func80,Tryz.ntmps80
 go_wp2_with fail
 refine(szRegion_any _ rows left _ (h1.below RE.stays hA) (by omega) (by omega)).mono ?_
 rintro e w1 ⟨rfl,hb1⟩
 rw[szOf_ok (by omega)]
 have bA1:=bA.bl hb1
 have B1:=hA.tr hb1
 have z1:=bA1.cell 1
 have z2:=bA1.cell 2
 have z3:=bA1.cell 3
 simp only[List.getElem?_toArray,List.getElem?_cons_zero,List.getElem?_cons_succ]at z1 z2 z3
 go_wp2_with fail
 refine(szDoms_any _ f _ _ (h2.below RE.stays B1) (by omega) (by omega)).mono ?_
 rintro e w2 ⟨rfl,rfl⟩
 rw[szOf_ok (by omega)]
 go_wp2_with fail
 refine(szDoms_any _ n _ _ (h3.below RE.stays B1) (by omega) (by omega)).mono ?_
 rintro e w3 ⟨rfl,rfl⟩
 rw[szOf_ok (by omega)]
 go_wp2_with fail
 refine(szCells_any _ cs _ _ (h4.below RE.stays B1) (by omega) (by omega)).mono ?_
 rintro e w4 ⟨rfl,rfl⟩
 rw[szOf_ok (by omega)]
 go_wp2
 go_ret
 exact⟨rfl,B1⟩
set_option maxHeartbeats 2000000 in
set_option maxRecDepth 100000 in
theorem szFloor_no (v1 v2 v3 v4:Value) (x:Fl) (left:Int) (w:World) (h1:Rd 1 RInt w v1 x.1) (h2:Rd 3 RDom w v2 x.2.1) (h3:Rd 3 RDom w v3 x.2.2.1) (h4:Rd 2 RPair w v4 x.2.2.2) (h0:0≤left) (hl:left≤1048576) (hs:¬(total x:Int)≤left):
 Calls Tryz.prog 80 #[.agg #[v1,v2,v3,v4],.int .i64 left] w (Ret (.int .i64 (-1)) w):=by
 obtain⟨rows,f,n,cs⟩:=x
 unfold total at hs
 simp only at h1 h2 h3 h4 hs
 obtain⟨A1,c1,rfl,hc1,hm1⟩:=h1.form
 obtain⟨A2,c2,rfl,hc2,hm2⟩:=h2.form
 obtain⟨A3,c3,rfl,hc3,hm3⟩:=h3.form
 obtain⟨A4,c4,rfl,hc4,hm4⟩:=h4.form
 have hA:=(Below.refl w.heap.size w).al (.cells #[.slice A1 rows.length c1,.slice A2 f.length c2,.slice A3 n.length c3,.slice A4 cs.length c4] 28)
 have bA:=Blk.new_ w 28 #[.slice A1 rows.length c1,.slice A2 f.length c2,.slice A3 n.length c3,.slice A4 cs.length c4]
 go_enter Tryz.func80,Tryz.ntmps80
 go_wp2_with fail
 refine(szRegion_any _ rows left _ (h1.below RE.stays hA) (by omega) (by omega)).mono ?_
 rintro e w1 ⟨rfl,hb1⟩
 have bA1:=bA.bl hb1
 have B1:=hA.tr hb1
 by_cases k1:(rows.length:Int)≤left
 · have j1 : ¬ (left - (rows.length : Int) < 0) := by omega
   rw[szOf_ok k1]
   have z1:=bA1.cell 1
   have z2:=bA1.cell 2
   have z3:=bA1.cell 3
   simp only[List.getElem?_toArray,List.getElem?_cons_zero,List.getElem?_cons_succ]at z1 z2 z3
   go_wp2_with fail
   refine(szDoms_any _ f _ _ (h2.below RE.stays B1) (by omega) (by omega)).mono ?_
   rintro e w2 ⟨rfl,rfl⟩
   by_cases k2:(f.length:Int)≤left-rows.length
   · have j2 : ¬ (left - (rows.length : Int) - (f.length : Int) < 0) := by omega
     rw[szOf_ok k2]
     go_wp2_with fail
     refine(szDoms_any _ n _ _ (h3.below RE.stays B1) (by omega) (by omega)).mono ?_
     rintro e w3 ⟨rfl,rfl⟩
     by_cases k3:(n.length:Int)≤left-rows.length-f.length
     · have j3 : ¬ (left - (rows.length : Int) - (f.length : Int) - (n.length : Int) < 0) := by omega
       rw[szOf_ok k3]
       go_wp2_with fail
       refine(szCells_any _ cs _ _ (h4.below RE.stays B1) (by omega) (by omega)).mono ?_
       rintro e w4 ⟨rfl,rfl⟩
       rw[szOf_no (by omega)]
       go_wp2
       go_ret
       exact⟨rfl,B1⟩
     · rw[szOf_no k3]
       go_wp2
       go_ret
       exact⟨rfl,B1⟩
   · rw[szOf_no k2]
     go_wp2
     go_ret
     exact⟨rfl,B1⟩
 · rw[szOf_no k1]
   go_wp2
   go_ret
   exact⟨rfl,B1⟩
theorem eqDomsQ (u v:Value) (l:List Dm) (w:World) (h:Rd 3 RDom w u l) (h':Rd 3 RDom w v l):Calls Tryz.prog 174 #[u,v] w (Ret (.bool true) w):=by
 have:=eqDoms_any u v l l w h h';rw[beq_self_eq_true]at this;exact this
theorem eqCellsQ (u v:Value) (l:List Cl) (w:World) (h:Rd 2 RPair w u l) (h':Rd 2 RPair w v l):Calls Tryz.prog 175 #[u,v] w (Ret (.bool true) w):=by
 have:=eqCells_any u v l l w h h';rw[beq_self_eq_true]at this;exact this
theorem eqRegionQ (u v:Value) (l:List Int) (w:World) (h:Rd 1 RInt w u l) (h':Rd 1 RInt w v l):Calls Tryz.prog 173 #[.agg #[u],.agg #[v]] w (Ret (.bool true) w):=by
 have:=eqRegion_any u v l l w h h';rw[beq_self_eq_true]at this;exact this
set_option maxHeartbeats 2000000 in
set_option maxRecDepth 100000 in
theorem eqFloor_same (u1 u2 u3 u4 v1 v2 v3 v4:Value) (x:Fl) (w:World) (g1:Rd 1 RInt w u1 x.1) (g2:Rd 3 RDom w u2 x.2.1) (g3:Rd 3 RDom w u3 x.2.2.1) (g4:Rd 2 RPair w u4 x.2.2.2)
    (h1:Rd 1 RInt w v1 x.1) (h2:Rd 3 RDom w v2 x.2.1) (h3:Rd 3 RDom w v3 x.2.2.1) (h4:Rd 2 RPair w v4 x.2.2.2):Calls Tryz.prog 92 #[.agg #[u1,u2,u3,u4],.agg #[v1,v2,v3,v4]] w (Ret (.bool true) w):=by
 obtain⟨rows,f,n,cs⟩:=x
 simp only at h1 h2 h3 h4 g1 g2 g3 g4
 have hA:=((Below.refl w.heap.size w).al (.cells #[u1,u2,u3,u4] 36)).al (.cells #[v1,v2,v3,v4] 36)
 have bU:=(Blk.new_ w 36 #[u1,u2,u3,u4]).alloc (.cells #[v1,v2,v3,v4] 36)
 have bV:=Blk.new2 (w.alloc (.cells #[u1,u2,u3,u4] 36)) 36 #[v1,v2,v3,v4] (w.heap.size+1) (by simp)
 obtain⟨A1,c1,rfl,hc1,hm1⟩:=g1.form
 obtain⟨A2,c2,rfl,hc2,hm2⟩:=g2.form
 obtain⟨A3,c3,rfl,hc3,hm3⟩:=g3.form
 obtain⟨A4,c4,rfl,hc4,hm4⟩:=g4.form
 obtain⟨D1,d1,rfl,hd1,he1⟩:=h1.form
 obtain⟨D2,d2,rfl,hd2,he2⟩:=h2.form
 obtain⟨D3,d3,rfl,hd3,he3⟩:=h3.form
 obtain⟨D4,d4,rfl,hd4,he4⟩:=h4.form
 clear hc1 hc2 hc3 hc4 hd1 hd2 hd3 hd4 hm1 hm2 hm3 hm4 he1 he2 he3 he4
 go_enter Tryz.func92,Tryz.ntmps92
 go_wp2_with fail
 refine(eqRegionQ _ _ rows _ (g1.below RE.stays hA) (h1.below RE.stays hA)).mono ?_
 rintro e w1 ⟨rfl,hb1⟩
 have B1:=hA.tr hb1
 have bU1:=bU.bl hb1
 have bV1:=bV.bl hb1
 have zU:=bU1.cell 1
 have zV:=bV1.cell 1
 simp only[List.getElem?_toArray,List.getElem?_cons_zero,List.getElem?_cons_succ]at zU zV
 go_wp2_with fail
 refine(eqDomsQ _ _ f _ (g2.below RE.stays B1) (h2.below RE.stays B1)).mono ?_
 rintro e w2 ⟨rfl,hb2⟩
 have B2:=B1.tr hb2
 have bU2:=bU1.bl hb2
 have bV2:=bV1.bl hb2
 clear zU zV
 have zU:=bU2.cell 2
 have zV:=bV2.cell 2
 simp only[List.getElem?_toArray,List.getElem?_cons_zero,List.getElem?_cons_succ]at zU zV
 go_wp2_with fail
 refine(eqDomsQ _ _ n _ (g3.below RE.stays B2) (h3.below RE.stays B2)).mono ?_
 rintro e w3 ⟨rfl,hb3⟩
 have B3:=B2.tr hb3
 have bU3:=bU2.bl hb3
 have bV3:=bV2.bl hb3
 clear zU zV
 have zU:=bU3.cell 3
 have zV:=bV3.cell 3
 simp only[List.getElem?_toArray,List.getElem?_cons_zero,List.getElem?_cons_succ]at zU zV
 go_wp2_with fail
 refine(eqCellsQ _ _ cs _ (g4.below RE.stays B3) (h4.below RE.stays B3)).mono ?_
 rintro e w4 ⟨rfl,hb4⟩
 go_wp2
 go_ret
 exact⟨rfl,B3.tr hb4⟩
abbrev Wk:=Fl×Int×Int×Int
def RWork (w:World) (cs:List Value) (y:Wk):Prop:=∃a b c d,cs=a++b++c++d∧RFloor w a y.1∧RInt w b y.2.1∧RInt w c y.2.2.1∧RInt w d y.2.2.2
def WorkIn (y:Wk):Prop:=FloorIn y.1∧I64 y.2.1∧I64 y.2.2.1∧I64 y.2.2.2
theorem o_workshop {W:World}:Opens Tryz.prog W 30 7 RWork WorkIn:=
 Opens.struct4 (n0:=4) (n1:=1) (n2:=1) (n3:=1) Tryz.underlying30 (by kernel_rfl) rfl rfl rfl rfl o_floor o_int o_int o_int
theorem RWork.form {w:World} {cs:List Value} {y:Wk} (h:RWork w cs y):∃v1 v2 v3 v4,cs=[v1,v2,v3,v4,.int .i64 y.2.1,.int .i64 y.2.2.1,.int .i64 y.2.2.2]∧Rd 1 RInt w v1 y.1.1∧Rd 3 RDom w v2 y.1.2.1∧Rd 3 RDom w v3 y.1.2.2.1∧Rd 2 RPair w v4 y.1.2.2.2:=by
 obtain⟨a,b,c,d,rfl,hf,rfl,rfl,rfl⟩:=h
 obtain⟨v1,v2,v3,v4,rfl,h1,h2,h3,h4⟩:=hf.form
 exact⟨v1,v2,v3,v4,rfl,h1,h2,h3,h4⟩
def RetWork (y:Wk) (w:World) (e:Ending) (w':World):Prop:=∃A1 c1 A2 c2 A3 c3 A4 c4,e= .returned (.agg #[.slice A1 y.1.1.length c1,.slice A2 y.1.2.1.length c2,.slice A3 y.1.2.2.1.length c3,.slice A4 y.1.2.2.2.length c4,.int .i64 y.2.1,.int .i64 y.2.2.1,.int .i64 y.2.2.2])∧
  OwnFl w.heap.size w' (.slice A1 y.1.1.length c1) (.slice A2 y.1.2.1.length c2) (.slice A3 y.1.2.2.1.length c3) (.slice A4 y.1.2.2.2.length c4) y.1∧Below w.heap.size w w'
set_option maxHeartbeats 2000000 in
set_option maxRecDepth 100000 in
theorem eqWork_same (u1 u2 u3 u4 v1 v2 v3 v4:Value) (x:Fl) (s p r:Int) (w:World) (g1:Rd 1 RInt w u1 x.1) (g2:Rd 3 RDom w u2 x.2.1) (g3:Rd 3 RDom w u3 x.2.2.1) (g4:Rd 2 RPair w u4 x.2.2.2)
    (h1:Rd 1 RInt w v1 x.1) (h2:Rd 3 RDom w v2 x.2.1) (h3:Rd 3 RDom w v3 x.2.2.1) (h4:Rd 2 RPair w v4 x.2.2.2):
    Calls Tryz.prog 21 #[.agg #[u1,u2,u3,u4,.int .i64 s,.int .i64 p,.int .i64 r],.agg #[v1,v2,v3,v4,.int .i64 s,.int .i64 p,.int .i64 r]] w (Ret (.bool true) w):=by
 have hA:=((Below.refl w.heap.size w).al (.cells #[u1,u2,u3,u4,.int .i64 s,.int .i64 p,.int .i64 r] 38)).al (.cells #[v1,v2,v3,v4,.int .i64 s,.int .i64 p,.int .i64 r] 38)
 have bU:=(Blk.new_ w 38 #[u1,u2,u3,u4,.int .i64 s,.int .i64 p,.int .i64 r]).alloc (.cells #[v1,v2,v3,v4,.int .i64 s,.int .i64 p,.int .i64 r] 38)
 have bV:=Blk.new2 (w.alloc (.cells #[u1,u2,u3,u4,.int .i64 s,.int .i64 p,.int .i64 r] 38)) 38 #[v1,v2,v3,v4,.int .i64 s,.int .i64 p,.int .i64 r] (w.heap.size+1) (by simp)
 obtain⟨A1,c1,rfl,_,_⟩:=g1.form
 obtain⟨A2,c2,rfl,_,_⟩:=g2.form
 obtain⟨A3,c3,rfl,_,_⟩:=g3.form
 obtain⟨A4,c4,rfl,_,_⟩:=g4.form
 obtain⟨D1,d1,rfl,_,_⟩:=h1.form
 obtain⟨D2,d2,rfl,_,_⟩:=h2.form
 obtain⟨D3,d3,rfl,_,_⟩:=h3.form
 obtain⟨D4,d4,rfl,_,_⟩:=h4.form
 go_enter Tryz.func21,Tryz.ntmps21
 go_wp2_with fail
 refine(eqFloor_same _ _ _ _ _ _ _ _ x _ (g1.below RE.stays hA) (g2.below RE.stays hA) (g3.below RE.stays hA) (g4.below RE.stays hA) (h1.below RE.stays hA) (h2.below RE.stays hA) (h3.below RE.stays hA) (h4.below RE.stays hA)).mono ?_
 rintro e w1 ⟨rfl,hb1⟩
 have bU1:=bU.bl hb1
 have bV1:=bV.bl hb1
 have zU4:=bU1.cell 4
 have zU5:=bU1.cell 5
 have zU6:=bU1.cell 6
 have zV4:=bV1.cell 4
 have zV5:=bV1.cell 5
 have zV6:=bV1.cell 6
 simp at zU4 zU5 zU6 zV4 zV5 zV6
 go_wp2
 go_ret
 exact⟨rfl,hA.tr hb1⟩
set_option maxHeartbeats 1000000 in
set_option maxRecDepth 100000 in
theorem szWork_ok (v1 v2 v3 v4:Value) (x:Fl) (s p r:Int) (w:World) (h1:Rd 1 RInt w v1 x.1) (h2:Rd 3 RDom w v2 x.2.1) (h3:Rd 3 RDom w v3 x.2.2.1) (h4:Rd 2 RPair w v4 x.2.2.2) (hs:(total x:Int)≤1048576):
 Calls Tryz.prog 17 #[.agg #[v1,v2,v3,v4,.int .i64 s,.int .i64 p,.int .i64 r],.int .i64 1048576] w (Ret (.int .i64 (1048576-x.1.length-x.2.1.length-x.2.2.1.length-x.2.2.2.length)) w):=by
 have hA:=(Below.refl w.heap.size w).al (.cells #[v1,v2,v3,v4,.int .i64 s,.int .i64 p,.int .i64 r] 30)
 obtain⟨A1,c1,rfl,_,_⟩:=h1.form
 obtain⟨A2,c2,rfl,_,_⟩:=h2.form
 obtain⟨A3,c3,rfl,_,_⟩:=h3.form
 obtain⟨A4,c4,rfl,_,_⟩:=h4.form
 have hk:¬((1048576:Int)-x.1.length-x.2.1.length-x.2.2.1.length-x.2.2.2.length<0):=by unfold total at hs;omega
 have HZ:=Lib.hid hs;clear hs
 go_enter Tryz.func17,Tryz.ntmps17
 go_wp2_with fail
 refine(szFloor_ok _ _ _ _ x 1048576 _ (h1.below RE.stays hA) (h2.below RE.stays hA) (h3.below RE.stays hA) (h4.below RE.stays hA) (by decide) HZ.out).mono ?_
 rintro e w1 ⟨rfl,hb1⟩
 go_wp2
 go_ret
 exact⟨rfl,hA.tr hb1⟩
set_option maxHeartbeats 1000000 in
set_option maxRecDepth 100000 in
theorem szWork_no (v1 v2 v3 v4:Value) (x:Fl) (s p r:Int) (w:World) (h1:Rd 1 RInt w v1 x.1) (h2:Rd 3 RDom w v2 x.2.1) (h3:Rd 3 RDom w v3 x.2.2.1) (h4:Rd 2 RPair w v4 x.2.2.2) (hs:¬(total x:Int)≤1048576):
 Calls Tryz.prog 17 #[.agg #[v1,v2,v3,v4,.int .i64 s,.int .i64 p,.int .i64 r],.int .i64 1048576] w (Ret (.int .i64 (-1)) w):=by
 have hA:=(Below.refl w.heap.size w).al (.cells #[v1,v2,v3,v4,.int .i64 s,.int .i64 p,.int .i64 r] 30)
 obtain⟨A1,c1,rfl,_,_⟩:=h1.form
 obtain⟨A2,c2,rfl,_,_⟩:=h2.form
 obtain⟨A3,c3,rfl,_,_⟩:=h3.form
 obtain⟨A4,c4,rfl,_,_⟩:=h4.form
 have HZ:=Lib.hid hs;clear hs
 go_enter Tryz.func17,Tryz.ntmps17
 go_wp2_with fail
 refine(szFloor_no _ _ _ _ x 1048576 _ (h1.below RE.stays hA) (h2.below RE.stays hA) (h3.below RE.stays hA) (h4.below RE.stays hA) (by decide) (by decide) (by have:=HZ.out;omega)).mono ?_
 rintro e w1 ⟨rfl,hb1⟩
 go_wp2
 go_ret
 exact⟨rfl,hA.tr hb1⟩
set_option maxHeartbeats 4000000 in
set_option maxRecDepth 100000 in
theorem toWork_any (v1 v2 v3 v4:Value) (y:Wk) (w:World) (h1:Rd 1 RInt w v1 y.1.1) (h2:Rd 3 RDom w v2 y.1.2.1) (h3:Rd 3 RDom w v3 y.1.2.2.1) (h4:Rd 2 RPair w v4 y.1.2.2.2) (hs:Small4 y.1):
 Calls Tryz.prog 19 #[.agg #[v1,v2,v3,v4,.int .i64 y.2.1,.int .i64 y.2.2.1,.int .i64 y.2.2.2]] w (RetWork y w):=by
 obtain⟨⟨rows,f,n,fl⟩,s,p,r⟩:=y
 simp only at h1 h2 h3 h4 hs⊢
 obtain⟨P1,q1,rfl,_,_⟩:=h1.form
 obtain⟨P2,q2,rfl,_,_⟩:=h2.form
 obtain⟨P3,q3,rfl,_,_⟩:=h3.form
 obtain⟨P4,q4,rfl,_,_⟩:=h4.form
 have hA:=(((Below.refl w.heap.size w).al (.cells #[.slice P1 rows.length q1,.slice P2 f.length q2,.slice P3 n.length q3,.slice P4 fl.length q4,.int .i64 s,.int .i64 p,.int .i64 r] 30)).al (.cells #[.slice none 0 0,.slice none 0 0,.slice none 0 0,.slice none 0 0,.int .i64 0,.int .i64 0,.int .i64 0] 38)).al (.cells #[.slice none 0 0,.slice none 0 0,.slice none 0 0,.slice none 0 0,.int .i64 0,.int .i64 0,.int .i64 0] 38)
 have bA:=((Blk.new_ w 30 #[.slice P1 rows.length q1,.slice P2 f.length q2,.slice P3 n.length q3,.slice P4 fl.length q4,.int .i64 s,.int .i64 p,.int .i64 r]).alloc (.cells #[.slice none 0 0,.slice none 0 0,.slice none 0 0,.slice none 0 0,.int .i64 0,.int .i64 0,.int .i64 0] 38)).alloc (.cells #[.slice none 0 0,.slice none 0 0,.slice none 0 0,.slice none 0 0,.int .i64 0,.int .i64 0,.int .i64 0] 38)
 have bR:=(Blk.new2 (w.alloc (.cells #[.slice P1 rows.length q1,.slice P2 f.length q2,.slice P3 n.length q3,.slice P4 fl.length q4,.int .i64 s,.int .i64 p,.int .i64 r] 30)) 38 #[.slice none 0 0,.slice none 0 0,.slice none 0 0,.slice none 0 0,.int .i64 0,.int .i64 0,.int .i64 0] (w.heap.size+1) (by simp)).alloc (.cells #[.slice none 0 0,.slice none 0 0,.slice none 0 0,.slice none 0 0,.int .i64 0,.int .i64 0,.int .i64 0] 38)
 have bO:=Blk.new2 ((w.alloc (.cells #[.slice P1 rows.length q1,.slice P2 f.length q2,.slice P3 n.length q3,.slice P4 fl.length q4,.int .i64 s,.int .i64 p,.int .i64 r] 30)).alloc (.cells #[.slice none 0 0,.slice none 0 0,.slice none 0 0,.slice none 0 0,.int .i64 0,.int .i64 0,.int .i64 0] 38)) 38 #[.slice none 0 0,.slice none 0 0,.slice none 0 0,.slice none 0 0,.int .i64 0,.int .i64 0,.int .i64 0] (w.heap.size+1+1) (by simp)
 go_enter Tryz.func19,Tryz.ntmps19
 go_wp2_with fail
 refine(toFloor_any _ _ _ _ (rows,f,n,fl) _ (h1.below RE.stays hA) (h2.below RE.stays hA) (h3.below RE.stays hA) (h4.below RE.stays hA) hs).mono ?_
 rintro e w1 ⟨D1,d1,D2,d2,D3,d3,D4,d4,rfl,⟨o1,o2,o3,o4,apF⟩,hb1⟩
 have bA1:=bA.bl hb1
 have bR1:=bR.bl hb1
 have bO1:=bO.bl hb1
 have BB1:=hA.tr hb1
 have o1:=o1.mono hA.size
 have o2:=o2.mono hA.size
 have o3:=o3.mono hA.size
 have o4:=o4.mono hA.size
 clear bA bR bO hb1 hA
 obtain⟨gA,hgA⟩:∃g,g=w.heap.size:=⟨_,rfl⟩
 obtain⟨gR,hgR⟩:∃g,g=w.heap.size+1:=⟨_,rfl⟩
 obtain⟨gO,hgO⟩:∃g,g=w.heap.size+1+1:=⟨_,rfl⟩
 have hAO:gA≠gO:=by omega
 have hRO:gR≠gO:=by omega
 have hOA:=hAO.symm
 have hOR:=hRO.symm
 have hO:w.heap.size≤gO:=by omega
 have hR:w.heap.size≤gR:=by omega
 rw[←hgO]at bO1⊢
 rw[←hgR]at bR1⊢
 rw[←hgA]at bA1⊢
 clear hgA hgR hgO
 have zA4:=bA1.cell 4
 have zA5:=bA1.cell 5
 have zA6:=bA1.cell 6
 have zO0:=bO1.cell 0
 have zO1:=bO1.cell 1
 have zO2:=bO1.cell 2
 have zO3:=bO1.cell 3
 have zO4:=bO1.cell 4
 have zO5:=bO1.cell 5
 have zO6:=bO1.cell 6
 simp at zA4 zA5 zA6 zO0 zO1 zO2 zO3 zO4 zO5 zO6
 have fO:∀j,w1.frozen? ⟨gO,j,none⟩=false:=fun j=>bO1.frozen j
 have zR0:=bR1.cell 0
 have zR1:=bR1.cell 1
 have zR2:=bR1.cell 2
 have zR3:=bR1.cell 3
 have zR4:=bR1.cell 4
 have zR5:=bR1.cell 5
 have zR6:=bR1.cell 6
 simp at zR0 zR1 zR2 zR3 zR4 zR5 zR6
 have fR:∀j,w1.frozen? ⟨gR,j,none⟩=false:=fun j=>bR1.frozen j
 go_wp2
 have e1:(Value.slice D1 rows.length d1).ownBlock≠some gO:=o1.apart bO1 (by decide)
 have e2:(Value.slice D2 f.length d2).ownBlock≠some gO:=o2.apart bO1 (by decide)
 have e3:(Value.slice D3 n.length d3).ownBlock≠some gO:=o3.apart bO1 (by decide)
 have e4:(Value.slice D4 fl.length d4).ownBlock≠some gO:=o4.apart bO1 (by decide)
 have r1:(Value.slice D1 rows.length d1).ownBlock≠some gR:=o1.apart bR1 (by decide)
 have r2:(Value.slice D2 f.length d2).ownBlock≠some gR:=o2.apart bR1 (by decide)
 have r3:(Value.slice D3 n.length d3).ownBlock≠some gR:=o3.apart bR1 (by decide)
 have r4:(Value.slice D4 fl.length d4).ownBlock≠some gR:=o4.apart bR1 (by decide)
 obtain⟨W8,hW8⟩:∃W8,W8=((((((((((((((w1.setCell ⟨gO,0,none⟩ (.slice D1 rows.length d1)).setCell ⟨gO,1,none⟩ (.slice D2 f.length d2)).setCell ⟨gO,2,none⟩ (.slice D3 n.length d3)).setCell ⟨gO,3,none⟩ (.slice D4 fl.length d4)).setCell ⟨gO,4,none⟩ (.int .i64 s)).setCell ⟨gO,5,none⟩ (.int .i64 p)).setCell ⟨gO,6,none⟩ (.int .i64 r)).setCell ⟨gR,0,none⟩ (.slice D1 rows.length d1)).setCell ⟨gR,1,none⟩ (.slice D2 f.length d2)).setCell ⟨gR,2,none⟩ (.slice D3 n.length d3)).setCell ⟨gR,3,none⟩ (.slice D4 fl.length d4)).setCell ⟨gR,4,none⟩ (.int .i64 s)).setCell ⟨gR,5,none⟩ (.int .i64 p)).setCell ⟨gR,6,none⟩ (.int .i64 r)):=⟨_,rfl⟩
 have bR8:Blk W8 gR 38 #[.slice D1 rows.length d1,.slice D2 f.length d2,.slice D3 n.length d3,.slice D4 fl.length d4,.int .i64 s,.int .i64 p,.int .i64 r]:=by
  rw[hW8]
  exact((((((((((((((bR1.far (p:=⟨gO,0,none⟩) hRO _).far (p:=⟨gO,1,none⟩) hRO _).far (p:=⟨gO,2,none⟩) hRO _).far (p:=⟨gO,3,none⟩) hRO _).far (p:=⟨gO,4,none⟩) hRO _).far (p:=⟨gO,5,none⟩) hRO _).far (p:=⟨gO,6,none⟩) hRO _).st 0 _ #[.slice D1 rows.length d1,.slice none 0 0,.slice none 0 0,.slice none 0 0,.int .i64 0,.int .i64 0,.int .i64 0] rfl).st 1 _ #[.slice D1 rows.length d1,.slice D2 f.length d2,.slice none 0 0,.slice none 0 0,.int .i64 0,.int .i64 0,.int .i64 0] rfl).st 2 _ #[.slice D1 rows.length d1,.slice D2 f.length d2,.slice D3 n.length d3,.slice none 0 0,.int .i64 0,.int .i64 0,.int .i64 0] rfl).st 3 _ #[.slice D1 rows.length d1,.slice D2 f.length d2,.slice D3 n.length d3,.slice D4 fl.length d4,.int .i64 0,.int .i64 0,.int .i64 0] rfl).st 4 _ #[.slice D1 rows.length d1,.slice D2 f.length d2,.slice D3 n.length d3,.slice D4 fl.length d4,.int .i64 s,.int .i64 0,.int .i64 0] rfl).st 5 _ #[.slice D1 rows.length d1,.slice D2 f.length d2,.slice D3 n.length d3,.slice D4 fl.length d4,.int .i64 s,.int .i64 p,.int .i64 0] rfl).st 6 _ #[.slice D1 rows.length d1,.slice D2 f.length d2,.slice D3 n.length d3,.slice D4 fl.length d4,.int .i64 s,.int .i64 p,.int .i64 r] rfl)
 have o1S:OwnL 3 1 eInt w.heap.size W8 (.slice D1 rows.length d1) rows:=by rw[hW8];exact((((((((((((((o1.far (a:=⟨gO,0,none⟩) e1 _).far (a:=⟨gO,1,none⟩) e1 _).far (a:=⟨gO,2,none⟩) e1 _).far (a:=⟨gO,3,none⟩) e1 _).far (a:=⟨gO,4,none⟩) e1 _).far (a:=⟨gO,5,none⟩) e1 _).far (a:=⟨gO,6,none⟩) e1 _).far (a:=⟨gR,0,none⟩) r1 _).far (a:=⟨gR,1,none⟩) r1 _).far (a:=⟨gR,2,none⟩) r1 _).far (a:=⟨gR,3,none⟩) r1 _).far (a:=⟨gR,4,none⟩) r1 _).far (a:=⟨gR,5,none⟩) r1 _).far (a:=⟨gR,6,none⟩) r1 _)
 have o2S:OwnL 90 3 eDom w.heap.size W8 (.slice D2 f.length d2) f:=by rw[hW8];exact((((((((((((((o2.far (a:=⟨gO,0,none⟩) e2 _).far (a:=⟨gO,1,none⟩) e2 _).far (a:=⟨gO,2,none⟩) e2 _).far (a:=⟨gO,3,none⟩) e2 _).far (a:=⟨gO,4,none⟩) e2 _).far (a:=⟨gO,5,none⟩) e2 _).far (a:=⟨gO,6,none⟩) e2 _).far (a:=⟨gR,0,none⟩) r2 _).far (a:=⟨gR,1,none⟩) r2 _).far (a:=⟨gR,2,none⟩) r2 _).far (a:=⟨gR,3,none⟩) r2 _).far (a:=⟨gR,4,none⟩) r2 _).far (a:=⟨gR,5,none⟩) r2 _).far (a:=⟨gR,6,none⟩) r2 _)
 have o3S:OwnL 90 3 eDom w.heap.size W8 (.slice D3 n.length d3) n:=by rw[hW8];exact((((((((((((((o3.far (a:=⟨gO,0,none⟩) e3 _).far (a:=⟨gO,1,none⟩) e3 _).far (a:=⟨gO,2,none⟩) e3 _).far (a:=⟨gO,3,none⟩) e3 _).far (a:=⟨gO,4,none⟩) e3 _).far (a:=⟨gO,5,none⟩) e3 _).far (a:=⟨gO,6,none⟩) e3 _).far (a:=⟨gR,0,none⟩) r3 _).far (a:=⟨gR,1,none⟩) r3 _).far (a:=⟨gR,2,none⟩) r3 _).far (a:=⟨gR,3,none⟩) r3 _).far (a:=⟨gR,4,none⟩) r3 _).far (a:=⟨gR,5,none⟩) r3 _).far (a:=⟨gR,6,none⟩) r3 _)
 have o4S:OwnL 77 2 ePair w.heap.size W8 (.slice D4 fl.length d4) fl:=by rw[hW8];exact((((((((((((((o4.far (a:=⟨gO,0,none⟩) e4 _).far (a:=⟨gO,1,none⟩) e4 _).far (a:=⟨gO,2,none⟩) e4 _).far (a:=⟨gO,3,none⟩) e4 _).far (a:=⟨gO,4,none⟩) e4 _).far (a:=⟨gO,5,none⟩) e4 _).far (a:=⟨gO,6,none⟩) e4 _).far (a:=⟨gR,0,none⟩) r4 _).far (a:=⟨gR,1,none⟩) r4 _).far (a:=⟨gR,2,none⟩) r4 _).far (a:=⟨gR,3,none⟩) r4 _).far (a:=⟨gR,4,none⟩) r4 _).far (a:=⟨gR,5,none⟩) r4 _).far (a:=⟨gR,6,none⟩) r4 _)
 have BB8:Below w.heap.size w W8:=by rw[hW8];exact((((((((((((((BB1.st ⟨gO,0,none⟩ _ hO).st ⟨gO,1,none⟩ _ hO).st ⟨gO,2,none⟩ _ hO).st ⟨gO,3,none⟩ _ hO).st ⟨gO,4,none⟩ _ hO).st ⟨gO,5,none⟩ _ hO).st ⟨gO,6,none⟩ _ hO).st ⟨gR,0,none⟩ _ hR).st ⟨gR,1,none⟩ _ hR).st ⟨gR,2,none⟩ _ hR).st ⟨gR,3,none⟩ _ hR).st ⟨gR,4,none⟩ _ hR).st ⟨gR,5,none⟩ _ hR).st ⟨gR,6,none⟩ _ hR)
 rw[←hW8]
 clear hW8
 have q0:=bR8.cell 0
 have q1:=bR8.cell 1
 have q2:=bR8.cell 2
 have q3:=bR8.cell 3
 have q4:=bR8.cell 4
 have q5:=bR8.cell 5
 have q6:=bR8.cell 6
 simp only[List.getElem?_toArray,List.getElem?_cons_zero,List.getElem?_cons_succ]at q0 q1 q2 q3 q4 q5 q6
 refine bodyPost_ret (v:= .agg #[.slice D1 rows.length d1,.slice D2 f.length d2,.slice D3 n.length d3,.slice D4 fl.length d4,.int .i64 s,.int .i64 p,.int .i64 r]) (by simp[results,Tryz.results19,go_sem,q0,q1,q2,q3,q4,q5,q6]) rfl ⟨D1,d1,D2,d2,D3,d3,D4,d4,rfl,⟨o1S,o2S,o3S,o4S,apF⟩,BB8⟩
end Go.Proofs.YtfdbcihcdjjdhaaGreatDoor
namespace Go.Proofs.YtfdbcihcdjjdhaaGreatDoor
open Go.ChangeShapes Go.WideShapes Go.ChangeAt Go.RowKit
set_option linter.unusedVariables false
set_option linter.unusedSimpArgs false
def mkFl (x:Fl):Fl:=(marksInt 1 x.1.length,marksDom (1+x.1.length) x.2.1.length,marksDom (1+x.1.length+3*x.2.1.length) x.2.2.1.length,marksCell (1+x.1.length+3*x.2.1.length+3*x.2.2.1.length) x.2.2.2.length)
def mkEnd (x:Fl):Int:=1+x.1.length+3*x.2.1.length+3*x.2.2.1.length+2*x.2.2.2.length
theorem mkEnd_pos (x:Fl):¬(mkEnd x<0):=by unfold mkEnd;omega
def MarkedFl (B:Nat) (v1 v2 v3 v4:Value) (x:Fl) (w:World) (e:Ending) (w':World):Prop:=e= .returned (.int .i64 (mkEnd x))∧OwnFl B w' v1 v2 v3 v4 (mkFl x)∧Grown (InFl v1 v2 v3 v4) w w'
section
variable {B : Nat} {w w' : World} {v1 v2 v3 v4 : Value} {r r' : List Int} {f f' n n' : List Dm} {c c' : List Cl}
theorem OwnFl.setA (h:OwnFl B w v1 v2 v3 v4 (r,f,n,c)) (o:OwnL 3 1 eInt B w' v1 r') (hg:w.grownBy w' v1.ownBlock):OwnFl B w' v1 v2 v3 v4 (r',f,n,c):=
 ⟨o,h.b.grownS (Grown.of hg) (fun g q=>h.b.twoE h.a (by decide) q),h.c.grownS (Grown.of hg) (fun g q=>h.c.twoE h.a (by decide) q),h.d.grownS (Grown.of hg) (fun g q=>h.d.twoE h.a (by decide) q),h.ap⟩
theorem OwnFl.setB (h:OwnFl B w v1 v2 v3 v4 (r,f,n,c)) (o:OwnL 90 3 eDom B w' v2 f') (hg:w.grownBy w' v2.ownBlock):OwnFl B w' v1 v2 v3 v4 (r,f',n,c):=
 ⟨h.a.grownS (Grown.of hg) (fun g q=>h.a.twoE h.b (by decide) q),o,h.c.grownS (Grown.of hg) (fun g q p=>h.ap g p q),h.d.grownS (Grown.of hg) (fun g q=>h.d.twoE h.b (by decide) q),h.ap⟩
theorem OwnFl.setC (h:OwnFl B w v1 v2 v3 v4 (r,f,n,c)) (o:OwnL 90 3 eDom B w' v3 n') (hg:w.grownBy w' v3.ownBlock):OwnFl B w' v1 v2 v3 v4 (r,f,n',c):=
 ⟨h.a.grownS (Grown.of hg) (fun g q=>h.a.twoE h.c (by decide) q),h.b.grownS (Grown.of hg) (fun g q p=>h.ap g q p),o,h.d.grownS (Grown.of hg) (fun g q=>h.d.twoE h.c (by decide) q),h.ap⟩
theorem OwnFl.setD (h:OwnFl B w v1 v2 v3 v4 (r,f,n,c)) (o:OwnL 77 2 ePair B w' v4 c') (hg:w.grownBy w' v4.ownBlock):OwnFl B w' v1 v2 v3 v4 (r,f,n,c'):=
 ⟨h.a.grownS (Grown.of hg) (fun g q=>h.a.twoE h.d (by decide) q),h.b.grownS (Grown.of hg) (fun g q=>h.b.twoE h.d (by decide) q),h.c.grownS (Grown.of hg) (fun g q=>h.c.twoE h.d (by decide) q),o,h.ap⟩
end
set_option maxHeartbeats 2000000 in
set_option maxRecDepth 100000 in
theorem markFloor_any (v1 v2 v3 v4:Value) (x:Fl) (B:Nat) (w:World) (h:OwnFl B w v1 v2 v3 v4 x) (hs:Small4 x):Calls Tryz.prog 93 #[.agg #[v1,v2,v3,v4],.int .i64 1] w (MarkedFl B v1 v2 v3 v4 x w):=by
 obtain⟨rows,f,n,cs⟩:=x
 obtain⟨s1,s2,s3,s4⟩:=hs
 unfold Small at s1 s2 s3 s4
 simp only at s1 s2 s3 s4
 obtain⟨A1,c1,rfl,_,_⟩:=h.a.form
 obtain⟨A2,c2,rfl,_,_⟩:=h.b.form
 obtain⟨A3,c3,rfl,_,_⟩:=h.c.form
 obtain⟨A4,c4,rfl,_,_⟩:=h.d.form
 simp only at*
 have H0:=h.alloc (.cells #[.slice A1 rows.length c1,.slice A2 f.length c2,.slice A3 n.length c3,.slice A4 cs.length c4] 36)
 have b0:=Blk.new_ w 36 #[.slice A1 rows.length c1,.slice A2 f.length c2,.slice A3 n.length c3,.slice A4 cs.length c4]
 have G0:Grown (InFl (.slice A1 rows.length c1) (.slice A2 f.length c2) (.slice A3 n.length c3) (.slice A4 cs.length c4)) w _:=Grown.ofBelow ((Below.refl w.heap.size w).al (.cells #[.slice A1 rows.length c1,.slice A2 f.length c2,.slice A3 n.length c3,.slice A4 cs.length c4] 36))
 go_enter Tryz.func93,Tryz.ntmps93
 go_wp2_with fail
 refine(markRegion_any _ rows 1 B _ H0.a (by decide) (by decide) (by omega)).mono ?_
 rintro e w1 ⟨rfl,own1,hg1⟩
 have H1:=H0.setA own1 hg1
 have b1:=b0.grownS (Grown.of hg1) (fun e=>H0.apart b0 (by decide) (by decide) (by decide) (.inl e))
 have G1:=G0.tr ((Grown.of hg1).wide (T:=InFl (.slice A1 rows.length c1) (.slice A2 f.length c2) (.slice A3 n.length c3) (.slice A4 cs.length c4)) (fun k q=> .inl q))
 clear H0 b0 G0
 obtain⟨z_0,z_1,z_2,z_3⟩:=b1.n4
 go_wp2_with fail
 refine(markDoms_any _ f _ B _ H1.b (by omega) (by omega) (by omega)).mono ?_
 rintro e w2 ⟨rfl,own2,hg2⟩
 have H2:=H1.setB own2 hg2
 have b2:=b1.grownS (Grown.of hg2) (fun e=>H1.apart b1 (by decide) (by decide) (by decide) (.inr (.inl e)))
 have G2:=G1.tr ((Grown.of hg2).wide (T:=InFl (.slice A1 rows.length c1) (.slice A2 f.length c2) (.slice A3 n.length c3) (.slice A4 cs.length c4)) (fun k q=> .inr (.inl q)))
 clear z_0 z_1 z_2 z_3
 obtain⟨z_0,z_1,z_2,z_3⟩:=b2.n4
 go_wp2_with fail
 refine(markDoms_any _ n _ B _ H2.c (by omega) (by omega) (by omega)).mono ?_
 rintro e w3 ⟨rfl,own3,hg3⟩
 have H3:=H2.setC own3 hg3
 have b3:=b2.grownS (Grown.of hg3) (fun e=>H2.apart b2 (by decide) (by decide) (by decide) (.inr (.inr (.inl e))))
 have G3:=G2.tr ((Grown.of hg3).wide (T:=InFl (.slice A1 rows.length c1) (.slice A2 f.length c2) (.slice A3 n.length c3) (.slice A4 cs.length c4)) (fun k q=> .inr (.inr (.inl q))))
 clear z_0 z_1 z_2 z_3
 obtain⟨z_0,z_1,z_2,z_3⟩:=b3.n4
 go_wp2_with fail
 refine(markCells_any _ cs _ B _ H3.d (by omega) (by omega) (by omega)).mono ?_
 rintro e w4 ⟨rfl,own4,hg4⟩
 have H4:=H3.setD own4 hg4
 have G4:=G3.tr ((Grown.of hg4).wide (T:=InFl (.slice A1 rows.length c1) (.slice A2 f.length c2) (.slice A3 n.length c3) (.slice A4 cs.length c4)) (fun k q=> .inr (.inr (.inr q))))
 clear z_0 z_1 z_2 z_3
 go_wp2
 go_ret
 exact⟨rfl,H4,G4⟩
set_option maxHeartbeats 2000000 in
set_option maxRecDepth 100000 in
theorem heldFloor_any (v1 v2 v3 v4:Value) (x:Fl) (B:Nat) (w:World) (h:OwnFl B w v1 v2 v3 v4 (mkFl x)) (hs:Small4 x):Calls Tryz.prog 94 #[.agg #[v1,v2,v3,v4],.int .i64 1] w (Ret (.int .i64 (mkEnd x)) w):=by
 obtain⟨rows,f,n,cs⟩:=x
 obtain⟨s1,s2,s3,s4⟩:=hs
 unfold Small at s1 s2 s3 s4
 simp only at s1 s2 s3 s4
 unfold mkFl at h
 obtain⟨A1,c1,rfl,_,_⟩:=h.a.form
 obtain⟨A2,c2,rfl,_,_⟩:=h.b.form
 obtain⟨A3,c3,rfl,_,_⟩:=h.c.form
 obtain⟨A4,c4,rfl,_,_⟩:=h.d.form
 simp only at*
 obtain⟨m1,hm1⟩:∃m,m=marksInt 1 rows.length:=⟨_,rfl⟩
 obtain⟨m2,hm2⟩:∃m,m=marksDom (1+rows.length) f.length:=⟨_,rfl⟩
 obtain⟨m3,hm3⟩:∃m,m=marksDom (1+rows.length+3*f.length) n.length:=⟨_,rfl⟩
 obtain⟨m4,hm4⟩:∃m,m=marksCell (1+rows.length+3*f.length+3*n.length) cs.length:=⟨_,rfl⟩
 rw[←hm1,←hm2,←hm3,←hm4]at h
 have K1:∀(v:Value) (w:World),Rd 1 RInt w v m1→Calls Tryz.prog 179 #[.agg #[v],.int .i64 1] w (Ret (.int .i64 (1+rows.length)) w):=fun v w k=>heldRegion_any v 1 rows.length w (hm1▸k) (by decide) (by decide) (by omega)
 have K2:∀(v:Value) (w:World),Rd 3 RDom w v m2→Calls Tryz.prog 180 #[v,.int .i64 (1+rows.length)] w (Pure (.int .i64 (1+rows.length+3*f.length)) w):=fun v w k=>heldDoms_any v _ f.length w (hm2▸k) (by omega) (by omega) (by omega)
 have K3:∀(v:Value) (w:World),Rd 3 RDom w v m3→Calls Tryz.prog 180 #[v,.int .i64 (1+rows.length+3*f.length)] w (Pure (.int .i64 (1+rows.length+3*f.length+3*n.length)) w):=fun v w k=>heldDoms_any v _ n.length w (hm3▸k) (by omega) (by omega) (by omega)
 have K4:∀(v:Value) (w:World),Rd 2 RPair w v m4→Calls Tryz.prog 181 #[v,.int .i64 (1+rows.length+3*f.length+3*n.length)] w (Pure (.int .i64 (1+rows.length+3*f.length+3*n.length+2*cs.length)) w):=fun v w k=>heldCells_any v _ cs.length w (hm4▸k) (by omega) (by omega) (by omega)
 rw[←hm1,←hm2,←hm3,←hm4]
 clear hm1 hm2 hm3 hm4
 have H0:=h.alloc (.cells #[.slice A1 m1.length c1,.slice A2 m2.length c2,.slice A3 m3.length c3,.slice A4 m4.length c4] 36)
 have b0:=Blk.new_ w 36 #[.slice A1 m1.length c1,.slice A2 m2.length c2,.slice A3 m3.length c3,.slice A4 m4.length c4]
 have B0:=(Below.refl w.heap.size w).al (.cells #[.slice A1 m1.length c1,.slice A2 m2.length c2,.slice A3 m3.length c3,.slice A4 m4.length c4] 36)
 have n1:¬((1:Int)+rows.length<0):=by omega
 have n2:¬((1:Int)+rows.length+3*f.length<0):=by omega
 have n3:¬((1:Int)+rows.length+3*f.length+3*n.length<0):=by omega
 have n4:¬((1:Int)+rows.length+3*f.length+3*n.length+2*cs.length<0):=by omega
 go_enter Tryz.func94,Tryz.ntmps94
 go_wp2_with fail
 refine(K1 _ _ H0.ra).mono ?_
 rintro e w1 ⟨rfl,hb1⟩
 have H1:=H0.below hb1
 have b1:=b0.bl hb1
 have B1:=B0.tr hb1
 obtain⟨z_0,z_1,z_2,z_3⟩:=b1.n4
 go_wp2_with fail
 refine(K2 _ _ H1.rb).mono ?_
 rintro e w2 ⟨rfl,rfl⟩
 go_wp2_with fail
 refine(K3 _ _ H1.rc).mono ?_
 rintro e w3 ⟨rfl,rfl⟩
 go_wp2_with fail
 refine(K4 _ _ H1.rd).mono ?_
 rintro e w4 ⟨rfl,rfl⟩
 go_wp2
 go_ret
 exact⟨rfl,B1⟩
set_option maxHeartbeats 2000000 in
set_option maxRecDepth 100000 in
theorem markWork_any (v1 v2 v3 v4:Value) (x:Fl) (s p r:Int) (B:Nat) (w:World) (h:OwnFl B w v1 v2 v3 v4 x) (hs:Small4 x):Calls Tryz.prog 22 #[.agg #[v1,v2,v3,v4,.int .i64 s,.int .i64 p,.int .i64 r],.int .i64 1] w (MarkedFl B v1 v2 v3 v4 x w):=by
 have ha:=h.a.form;have hb:=h.b.form;have hc:=h.c.form;have hd:=h.d.form
 obtain⟨A1,c1,rfl,_,_⟩:=ha
 obtain⟨A2,c2,rfl,_,_⟩:=hb
 obtain⟨A3,c3,rfl,_,_⟩:=hc
 obtain⟨A4,c4,rfl,_,_⟩:=hd
 have H0:=h.alloc (.cells #[.slice A1 x.1.length c1,.slice A2 x.2.1.length c2,.slice A3 x.2.2.1.length c3,.slice A4 x.2.2.2.length c4,.int .i64 s,.int .i64 p,.int .i64 r] 38)
 have G0:Grown (InFl (.slice A1 x.1.length c1) (.slice A2 x.2.1.length c2) (.slice A3 x.2.2.1.length c3) (.slice A4 x.2.2.2.length c4)) w _:=Grown.ofBelow ((Below.refl w.heap.size w).al (.cells #[.slice A1 x.1.length c1,.slice A2 x.2.1.length c2,.slice A3 x.2.2.1.length c3,.slice A4 x.2.2.2.length c4,.int .i64 s,.int .i64 p,.int .i64 r] 38))
 go_enter Tryz.func22,Tryz.ntmps22
 go_wp2_with fail
 refine(markFloor_any _ _ _ _ x B _ H0 hs).mono ?_
 rintro e w1 ⟨rfl,own1,G1⟩
 go_wp2
 go_ret
 exact⟨rfl,own1,G0.tr G1⟩
set_option maxHeartbeats 2000000 in
set_option maxRecDepth 100000 in
theorem heldWork_any (v1 v2 v3 v4:Value) (x:Fl) (s p r:Int) (B:Nat) (w:World) (h:OwnFl B w v1 v2 v3 v4 (mkFl x)) (hs:Small4 x):Calls Tryz.prog 23 #[.agg #[v1,v2,v3,v4,.int .i64 s,.int .i64 p,.int .i64 r],.int .i64 1] w (Ret (.int .i64 (mkEnd x)) w):=by
 obtain⟨y,hy⟩:∃y,y=mkFl x:=⟨_,rfl⟩
 rw[←hy]at h
 have K1:∀(u1 u2 u3 u4:Value) (w:World),OwnFl B w u1 u2 u3 u4 y→Calls Tryz.prog 94 #[.agg #[u1,u2,u3,u4],.int .i64 1] w (Ret (.int .i64 (mkEnd x)) w):=fun u1 u2 u3 u4 w k=>heldFloor_any u1 u2 u3 u4 x B w (hy▸k) hs
 clear hy
 have ha:=h.a.form;have hb:=h.b.form;have hc:=h.c.form;have hd:=h.d.form
 obtain⟨A1,c1,rfl,_,_⟩:=ha
 obtain⟨A2,c2,rfl,_,_⟩:=hb
 obtain⟨A3,c3,rfl,_,_⟩:=hc
 obtain⟨A4,c4,rfl,_,_⟩:=hd
 have H0:=h.alloc (.cells #[.slice A1 y.1.length c1,.slice A2 y.2.1.length c2,.slice A3 y.2.2.1.length c3,.slice A4 y.2.2.2.length c4,.int .i64 s,.int .i64 p,.int .i64 r] 38)
 have B0:=(Below.refl w.heap.size w).al (.cells #[.slice A1 y.1.length c1,.slice A2 y.2.1.length c2,.slice A3 y.2.2.1.length c3,.slice A4 y.2.2.2.length c4,.int .i64 s,.int .i64 p,.int .i64 r] 38)
 have hn:=mkEnd_pos x
 go_enter Tryz.func23,Tryz.ntmps23
 go_wp2_with fail
 refine(K1 _ _ _ _ _ H0).mono ?_
 rintro e w1 ⟨rfl,hb1⟩
 go_wp2
 go_ret
 exact⟨rfl,B0.tr hb1⟩
end Go.Proofs.YtfdbcihcdjjdhaaGreatDoor
