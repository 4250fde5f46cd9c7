/- The state of the program's listing: the list at hand, the lists that were found, the three variables of its closure. Plain lemmas. -/
import Derived.Test.YtljfoohaapckeaaGreatDoorDOwnLL
import Derived.Test.YtljfoohaapckeaaGreatDoorDG13
import Derived.Test.YtljfoohaapckeaaGreatDoorDK9
import Derived.Test.YtljfoohaapckeaaGreatDoorDK1
namespace Go.Proofs.YtljfoohaapckeaaGreatDoor
open Go.ChangeShapes Go.WideShapes Go.ChangeAt Go.RowKit
set_option linter.unusedVariables false
set_option maxHeartbeats 4000000
set_option maxRecDepth 100000
theorem Blk.ne {w:World} {g g':Nat} {t t':TypeId} {cs cs':Array Value} (h:Blk w g t cs) (h':Blk w g' t' cs') (hne:t≠t'):g≠g':=by
 intro e;subst e;unfold Blk at h h';rw[h]at h';injection h' with h';injection h' with _ ht;exact hne ht
theorem aC.init {α:Type} {E:TypeId} {size:Nat} {enc:α->List Value} (henc:∀x,(enc x).length=size) {B:Nat} {w:World} {A:Option Addr} {n c:Nat} {l:List α} {x:α} (h:aC E size enc B w (.slice A n c) (l++[x])):aC E size enc B w (.slice A l.length c) l:=by
 refine⟨gW henc l,?_⟩;rcases h.2 with⟨e,hn⟩|⟨g,cap,cur,e,a1,a2,a3,a4,a5,a6⟩
 . simp at hn
 . injection e with e1 e2 e3;subst e1;subst e3;refine .inr ⟨g,c,cur,rfl,a1,a2,by rw[List.length_append]at a3;omega,a4,a5,?_⟩;have:=congrArg (List.take (l.length*size)) a6;rw[List.take_take,List.length_append,Nat.min_eq_left (Nat.mul_le_mul_right _ (Nat.le_add_right _ _)),List.flatMap_append,List.take_append_of_le_length (by rw[gW henc];exact Nat.le_refl _)]at this;exact this.trans (List.take_of_length_le (by rw[gW henc];exact Nat.le_refl _))
section
variable {P : Program} {α : Type} {t E : TypeId} {z : Value} {size bytes : Nat} {enc : α -> List Value}
theorem Jr {o:Oper} {a:Act} {K:Act->World->Prop} {Q:Exit->Act->World->Prop} (R:Row P t E z size bytes)
    (henc:∀x,(enc x).length=size)
    {B:Nat} {wa:World} (w:World) (hB:B<=w.heap.size) {v:Value} {l:List α} (hown:aC E size enc B w v l) (y:α) (h1:∀u∈enc y,u.oneCell'=true) (hwa:wa=w.alloc (.cells (enc y).toArray E))
    (hlen:(l.length+1)*bytes<=140737488355328) (hlen2:l.length+1<=maxLen)
    (s x:Operand) (ho:o.op= .call {callee:= .builtin .append,args:= #[s,x],argTypes:= #[t,t]})
    (hs:a.eval s=v) (hx:a.eval x= .slice (some ⟨w.heap.size,0,none⟩) 1 1)
    (h:∀A c w',aC E size enc B w' (.slice A (l.length+1) c) (l++[y])->w.grownBy w' v.ownBlock->((Value.slice A (l.length+1) c).ownBlock=v.ownBlock∨∃g,(Value.slice A (l.length+1) c).ownBlock=some g/\w.heap.size+1<=g)->K (a.put o.dst (.slice A (l.length+1) c)) w'):
    o.wp P a wa K Q:=by
 subst hwa;obtain⟨ht,hinfo,hzs,hsz⟩:=R;obtain⟨i0,hi,hz0,hz1,hz2⟩:=info_parts hinfo
 obtain⟨v',w',hrun,h2,h3,_,h5⟩:=run_append_own_at (P:=P) (w.alloc (.cells (enc y).toArray E)) B t o.type E i0 z size bytes ht hi hz0 hz1 hz2 hzs hsz v l.length (l.flatMap enc) (World.ownsRow.alloc hown _)
   ⟨w.heap.size, 0, none⟩ 1 1 (enc y) (by rw [henc]; omega) (fun j u hj => by
    have hb:=World.ownsRow.cells (w:=w.alloc (.cells (enc y).toArray E)) (base:=0) (e:=E) (size:=size) (v:= .slice (some ⟨w.heap.size,0,none⟩) 1 1) (n:=1) (xs:=enc y)
      ⟨by rw[henc];omega,.inr ⟨w.heap.size,1,(enc y).toArray,rfl,by omega,heap_alloc_new w _,by omega,by simp[maxLen],by simp[henc],by simp[henc,List.take_of_length_le]⟩⟩ (g:=w.heap.size) rfl
    exact hb j u hj) h1 hlen2 hlen (by simp;omega)
 unfold Oper.wp execOp;simp only[ho,resolve,invoke,builtin,Sem.run_bind,Sem.run_pure,Result.andThen_ok,List.map_toArray,List.map_cons,List.map_nil,hs,hx,hrun]
 have hO:aC E size enc B w' v' (l++[y]):=by
  unfold aC;rw[List.length_append,List.flatMap_append,List.length_singleton];simpa using h2
 obtain⟨A,c,e,_⟩:=hO.form;rw[List.length_append,List.length_singleton]at e;subst e;refine h A c w' hO ?_ ?_
 . refine⟨h3.os,h3.tape,h3.output,Nat.le_trans (by simp) h3.size,fun k hk hne=>(h3.block k (by simp;omega) hne).trans (Below.heap_alloc w _ k hk)⟩
 . rcases h5 with e|e
   . exact .inl e
   . exact .inr ⟨_,e,by simp⟩
theorem mJ {ops:Array Oper} {rest:List Oper} {o:Oper} {a:Act} {Q:Exit->Act->World->Prop} (R:Row P t E z size bytes)
    (henc:∀x,(enc x).length=size)
    {B:Nat} {wa:World} (w:World) (hB:B<=w.heap.size) {v:Value} {l:List α} (hown:aC E size enc B w v l) (y:α) (h1:∀u∈enc y,u.oneCell'=true) (hwa:wa=w.alloc (.cells (enc y).toArray E))
    (hlen:(l.length+1)*bytes<=140737488355328) (hlen2:l.length+1<=maxLen) (hgd:o.guard=none)
    (s x:Operand) (ho:o.op= .call {callee:= .builtin .append,args:= #[s,x],argTypes:= #[t,t]})
    (hs:a.eval s=v) (hx:a.eval x= .slice (some ⟨w.heap.size,0,none⟩) 1 1)
    (h:∀A c w',aC E size enc B w' (.slice A (l.length+1) c) (l++[y])->w.grownBy w' v.ownBlock->((Value.slice A (l.length+1) c).ownBlock=v.ownBlock∨∃g,(Value.slice A (l.length+1) c).ownBlock=some g/\w.heap.size+1<=g)->wpList P ops Q rest (a.put o.dst (.slice A (l.length+1) c)) w'):
    wpList P ops Q (o::rest) a wa:=
 wpList_plain hgd fun _ hK=>Jr R henc w hB hown y h1 hwa hlen hlen2 s x ho hs hx fun A c w' k1 k2 k3=>hK _ _ (h A c w' k1 k2 k3)
theorem yK {ops:Array Oper} {o:Oper} {a:Act} {K:Act->World->Prop} {Q:Exit->Act->World->Prop} {E':Prop} (R:Row P t E z size bytes)
    (henc:∀x,(enc x).length=size)
    {B:Nat} {wa:World} (w:World) (hB:B<=w.heap.size) {v:Value} {l:List α} (hown:aC E size enc B w v l) (y:α) (h1:∀u∈enc y,u.oneCell'=true) (hwa:wa=w.alloc (.cells (enc y).toArray E))
    (hlen:(l.length+1)*bytes<=140737488355328) (hlen2:l.length+1<=maxLen) (hgd:o.guard=none)
    (s x:Operand) (ho:o.op= .call {callee:= .builtin .append,args:= #[s,x],argTypes:= #[t,t]})
    (hs:a.eval s=v) (hx:a.eval x= .slice (some ⟨w.heap.size,0,none⟩) 1 1)
    (h:∀A c w',aC E size enc B w' (.slice A (l.length+1) c) (l++[y])->w.grownBy w' v.ownBlock->((Value.slice A (l.length+1) c).ownBlock=v.ownBlock∨∃g,(Value.slice A (l.length+1) c).ownBlock=some g/\w.heap.size+1<=g)->K (a.put o.dst (.slice A (l.length+1) c)) w'):
    if Region.wanted o (yielded ops a.tmps)=true then Oper.wp P o a wa K Q else E':=by
 have hw:Region.wanted o (yielded ops a.tmps)=true:=(by simp[Region.wanted,hgd]);rw[if_pos hw];exact Jr R henc w hB hown y h1 hwa hlen hlen2 s x ho hs hx h
end
theorem mW:Row Tryz.prog 140 27 (.slice none 0 0) 1 24:=⟨Tryz.underlying140,by kernel_rfl,rfl,by decide⟩
def Nx (w:World) (v v':Value):Prop:=v'.ownBlock=v.ownBlock∨∃g,v'.ownBlock=some g/\w.heap.size<=g
theorem Nx.refl (w:World) (v:Value):Nx w v v:= .inl rfl
theorem Nx.tr {w w1:World} {v v1 v2:Value} (h:Nx w v v1) (h':Nx w1 v1 v2) (hs:w.heap.size<=w1.heap.size):Nx w v v2:=by
 rcases h' with e|⟨g,e,hg⟩
 . rcases h with e'|⟨g,e',hg⟩
   . exact .inl (e.trans e')
   . exact .inr ⟨g,e.trans e',hg⟩
 . exact .inr ⟨g,e,by omega⟩
theorem Nx.ne {w:World} {v v':Value} {g:Nat} {T:TypeId} {cs:Array Value} (h:Nx w v v') (hb:Blk w g T cs) (hn:v.ownBlock≠some g):v'.ownBlock≠some g:=by
 have:=hb.lt;rcases h with e|⟨g',e,hg⟩
 . rw[e];exact hn
 . rw[e];intro q;injection q with q;omega
def Fr (v:Value) (w w':World):Prop:=w.heap.size<=w'.heap.size/\∀(g:Nat) (T:TypeId) (cs:Array Value),(T=70∨T=4∨(T=60/\v.ownBlock≠some g))->Blk w g T cs->Blk w' g T cs
theorem Fr.tr {v v1 : Value} {w w1 w2 : World} (h : Fr v w w1) (h' : Fr v1 w1 w2) (hn : Nx w v v1) : Fr v w w2 := ⟨Nat.le_trans h.1 h'.1, fun g T cs e k => h'.2 g T cs (by
 rcases e with e|e|⟨e,q⟩
 . exact .inl e
 . exact .inr (.inl e)
 . exact .inr (.inr ⟨e,hn.ne k q⟩)) (h.2 g T cs e k)⟩
theorem Fr.bl {v:Value} {w w':World} (hb:Below w.heap.size w w'):Fr v w w':=⟨hb.size,fun _ _ _ _ h=>h.bl hb⟩
theorem Fr.set {v0 : Value} {w : World} {g : Nat} {t : TypeId} {cs : Array Value} (h : Blk w g t cs) (i : Nat) (u : Value) (h1 : t ≠ 70) (h2 : t ≠ 4) (h3 : t ≠ 60) : Fr v0 w (w.setCell ⟨g, i, none⟩ u) := ⟨by simp [World.setCell], fun g' T cs' e k => by
 have hne : T ≠ t := by rcases e with rfl | rfl | ⟨rfl, _⟩
                        . exact h1.symm
                        . exact h2.symm
                        . exact h3.symm
 exact k.far (k.ne h hne) u⟩
theorem Fr.grown {α : Type} {E : TypeId} {size : Nat} {enc : α -> List Value} {B : Nat} {w w' : World} {v0 v : Value} {l : List α} (h : aC E size enc B w v l) (h1 : E ≠ 70) (h2 : E ≠ 4) (h3 : E ≠ 60 ∨ v0 = v) (hg : w.grownBy w' v.ownBlock) : Fr v0 w w' := ⟨hg.size, fun g' T cs' e k => by
 rcases e with rfl|rfl|⟨rfl,q⟩
 . exact k.grown hg (fun q=>h.apart k h1 q.symm)
 . exact k.grown hg (fun q=>h.apart k h2 q.symm)
 . rcases h3 with h3|rfl
   . exact k.grown hg (fun q=>h.apart k h3 q.symm)
   . exact k.grown hg (fun z=>q z.symm)⟩
def Mv (B:Nat) (w:World) (o:Value) (ls:List (List Dm)) (b:Option Nat):Prop:=
 ∃us:List Value,aC 27 1 eV B w o us/\us.length=ls.length/\∀(k:Nat) (u:Value) (x:List Dm),us[k]? =some u->ls[k]? =some x->aC 60 3 aT B w u x/\∀g,b=some g->u.ownBlock≠some g
theorem Mv.ll {B:Nat} {w:World} {o:Value} {ls:List (List Dm)} {b:Option Nat} (h:Mv B w o ls b):dF 27 60 3 aT B w o ls:=by
 obtain⟨us,h1,h2,h3⟩:=h;exact⟨us,h1,h2,fun k u x hu hx=>(h3 k u x hu hx).1⟩
structure LSt (W0 w:World) (gc gl gr go:Nat) (v:Value) (head:List Dm) (o:Value) (ls:List (List Dm)):Prop where
  bc:Blk w gc 180 #[.func (.func 185) #[] #[.pointer (some ⟨go,0,none⟩)]]
  bl:Blk w gl 27 #[v]
  br:Blk w gr 198 #[.func (.func 215) #[] #[.pointer (some ⟨gc,0,none⟩),.pointer (some ⟨gl,0,none⟩),.pointer (some ⟨gr,0,none⟩)]]
  bo:Blk w go 140 #[o]
  oh:aC 60 3 aT W0.heap.size w v head
  ol:Mv W0.heap.size w o ls v.ownBlock
  ne:o.ownBlock≠some gl
  B:Below W0.heap.size W0 w
  hl:W0.heap.size<=gl
  ho:W0.heap.size<=go
section
variable {W0 w w' : World} {gc gl gr go : Nat} {v : Value} {head : List Dm} {o : Value} {ls : List (List Dm)}
theorem LSt.bel (h:LSt W0 w gc gl gr go v head o ls) (hb:Below w.heap.size w w'):LSt W0 w' gc gl gr go v head o ls:=by
 obtain⟨us,h1,h2,h3⟩:=h.ol;exact⟨h.bc.bl hb,h.bl.bl hb,h.br.bl hb,h.bo.bl hb,h.oh.below hb,⟨us,h1.below hb,h2,fun k u x hu hx=>⟨(h3 k u x hu hx).1.below hb,(h3 k u x hu hx).2⟩⟩,h.ne,h.B.tr hb,h.hl,h.ho⟩
theorem LSt.alloc (h:LSt W0 w gc gl gr go v head o ls) (q:Obj):LSt W0 (w.alloc q) gc gl gr go v head o ls:=h.bel ((Below.refl _ _).al q)
theorem LSt.put (h:LSt W0 w gc gl gr go v head o ls) {v':Value} {head':List Dm} (ho':aC 60 3 aT W0.heap.size w v' head') (hb:v'.ownBlock=v.ownBlock):
 LSt W0 (w.setCell ⟨gl,0,none⟩ v') gc gl gr go v' head' o ls/\Fr v w (w.setCell ⟨gl,0,none⟩ v'):=by
 obtain⟨us,h1,h2,h3⟩:=h.ol;have f1:=h.bc.ne h.bl (by decide);have f2:=h.br.ne h.bl (by decide);have f3:=h.bo.ne h.bl (by decide);have a1:=ho'.apart h.bl (by decide);refine⟨⟨h.bc.far f1 _,?_,h.br.far f2 _,h.bo.far f3 _,ho'.far a1 _,⟨us,h1.far h.ne _,h2,fun k u x hu hx=> ?_⟩,h.ne,h.B.st _ _ h.hl,h.hl,h.ho⟩,Fr.set h.bl 0 v' (by decide) (by decide) (by decide)⟩
 . exact h.bl.CY 0 v'
 . obtain⟨q1,q2⟩:=h3 k u x hu hx;refine⟨q1.far (q1.apart h.bl (by decide)) _,fun g hg=> ?_⟩;rw[hb]at hg;exact q2 g hg
theorem LSt.grow (h:LSt W0 w gc gl gr go v head o ls) (hg:w.grownBy w' v.ownBlock):
 Blk w' gc 180 #[.func (.func 185) #[] #[.pointer (some ⟨go,0,none⟩)]]/\Blk w' gl 27 #[v]/\
 Blk w' gr 198 #[.func (.func 215) #[] #[.pointer (some ⟨gc,0,none⟩),.pointer (some ⟨gl,0,none⟩),.pointer (some ⟨gr,0,none⟩)]]/\Blk w' go 140 #[o]/\
 (∃us:List Value,aC 27 1 eV W0.heap.size w' o us/\us.length=ls.length/\∀(k:Nat) (u:Value) (x:List Dm),us[k]? =some u->ls[k]? =some x->aC 60 3 aT W0.heap.size w' u x/\(∀g,v.ownBlock=some g->u.ownBlock≠some g)/\∀g,u.ownBlock=some g->g<w.heap.size)/\Below W0.heap.size W0 w'/\Fr v w w':=by
 obtain⟨us,h1,h2,h3⟩:=h.ol;have k:∀{t:TypeId} {g:Nat} {cs:Array Value},Blk w g t cs->t≠60->Blk w' g t cs:=fun b hne=>b.grown hg (fun q=>h.oh.apart b (fun e=>hne e.symm) q.symm)
 refine⟨k h.bc (by decide),k h.bl (by decide),k h.br (by decide),k h.bo (by decide),⟨us,aC.kJ h1 h.oh (by decide) hg,h2,fun i u x hu hx=> ?_⟩,h.B.grown hg h.B.size (fun j hj=>(World.ownsRow.lt h.oh j hj).1),Fr.grown h.oh (by decide) (by decide) (.inr rfl) hg⟩;obtain⟨q1,q2⟩:=h3 i u x hu hx;refine⟨World.ownsRow.kept q1 hg ?_,q2,fun g hgu=>(World.ownsRow.lt q1 g hgu).2⟩;rcases e:u.ownBlock with _|g
 . exact .inl rfl
 . exact .inr fun hh=>q2 g hh.symm e
theorem LSt.push (h:LSt W0 w gc gl gr go v head o ls) {v':Value} {head':List Dm} (hg:w.grownBy w' v.ownBlock) (ho':aC 60 3 aT W0.heap.size w' v' head') (hb:v'.ownBlock=v.ownBlock∨∃g,v'.ownBlock=some g/\w.heap.size<=g):
 LSt W0 (w'.setCell ⟨gl,0,none⟩ v') gc gl gr go v' head' o ls/\Fr v w (w'.setCell ⟨gl,0,none⟩ v'):=by
 obtain⟨c1,c2,c3,c4,⟨us,c5,c6,c7⟩,c8,c9⟩:=h.grow hg;have f1:=c1.ne c2 (by decide);have f2:=c3.ne c2 (by decide);have f3:=c4.ne c2 (by decide);have a1:=ho'.apart c2 (by decide);refine⟨⟨c1.far f1 _,c2.CY 0 v',c3.far f2 _,c4.far f3 _,ho'.far a1 _,⟨us,c5.far h.ne _,c6,fun k u x hu hx=> ?_⟩,h.ne,c8.st _ _ h.hl,h.hl,h.ho⟩,c9.tr (Fr.set (v0:=v) c2 0 v' (by decide) (by decide) (by decide)) (Nx.refl _ _)⟩;obtain⟨q1,q2,q3⟩:=c7 k u x hu hx;refine⟨q1.far (q1.apart c2 (by decide)) _,fun g hgv=> ?_⟩;rcases hb with e|⟨g',e,hge⟩
 . rw[e]at hgv;exact q2 g hgv
 . rw[e]at hgv;injection hgv with hgv;intro hgu;have:=q3 g hgu;omega
theorem LSt.pop {A:Option Addr} {n c:Nat} {x:Dm} (h:LSt W0 w gc gl gr go (.slice A n c) (head++[x]) o ls):LSt W0 (w.setCell ⟨gl,0,none⟩ (.slice A head.length c)) gc gl gr go (.slice A head.length c) head o ls/\Fr (.slice A n c) w (w.setCell ⟨gl,0,none⟩ (.slice A head.length c))/\Nx w (.slice A n c) (.slice A head.length c):=
 have e:(Value.slice A head.length c).ownBlock=(Value.slice A n c).ownBlock:=by cases A<;>rfl
 have q:=h.put (h.oh.init aB) e;⟨q.1,q.2,.inl e⟩
theorem LSt.add (h:LSt W0 w gc gl gr go v head o ls) {w1 w2:World} {u o':Value} (hb1:Below w.heap.size w w1) (hu:aC 60 3 aT w.heap.size w1 u head)
    {us:List Value} (h1:aC 27 1 eV W0.heap.size w1 o us) (h2:us.length=ls.length) (h3:∀(k:Nat) (u:Value) (x:List Dm),us[k]? =some u->ls[k]? =some x->aC 60 3 aT W0.heap.size w1 u x/\∀g,v.ownBlock=some g->u.ownBlock≠some g)
    (hg:w1.grownBy w2 o.ownBlock) (ho:aC 27 1 eV W0.heap.size w2 o' (us++[u])) (hb:o'.ownBlock=o.ownBlock∨∃g,o'.ownBlock=some g/\w1.heap.size<=g):
    LSt W0 (w2.setCell ⟨go,0,none⟩ o') gc gl gr go v head o' (ls++[head])/\Fr v w (w2.setCell ⟨go,0,none⟩ o'):=by
 have k:∀{t:TypeId} {g:Nat} {cs:Array Value},Blk w1 g t cs->t≠27->Blk w2 g t cs:=fun b hne=>b.grown hg (fun q=>h1.apart b (fun e=>hne e.symm) q.symm)
 have c1:=k (h.bc.bl hb1) (by decide);have c3:=k (h.br.bl hb1) (by decide);have c4:=k (h.bo.bl hb1) (by decide);have c2:Blk w2 gl 27 #[v]:=(h.bl.bl hb1).grown hg (fun q=>h.ne q.symm);have f1:=c1.ne c4 (by decide);have f2:=c2.ne c4 (by decide);have f3:=c3.ne c4 (by decide);have d1:aC 60 3 aT W0.heap.size w2 v head:=aC.kJ (h.oh.below hb1) h1 (by decide) hg;have hgl:=h.bl.lt;have hsz:=hb1.size
 refine ⟨⟨c1.far f1 _, c2.far f2 _, c3.far f3 _, c4.CY 0 o', d1.far (d1.apart c4 (by decide)) _, ⟨us ++ [u], ho.far (ho.apart c4 (by decide)) _, by simp [h2], fun i z y hz hy => ?_⟩, ?_, ((h.B.tr hb1).grown hg (h.B.tr hb1).size (fun j hj => (World.ownsRow.lt h1 j hj).1)).st _ _ h.ho, h.hl, h.ho⟩,
   ((Fr.bl hb1).tr (Fr.grown (v0:=v) h1 (by decide) (by decide) (.inl (by decide)) hg) (Nx.refl _ _)).tr (Fr.set (v0:=v) c4 0 o' (by decide) (by decide) (by decide)) (Nx.refl _ _)⟩
 . by_cases hi:i<us.length
   . rw[List.getElem?_append_left hi]at hz;rw[List.getElem?_append_left (by omega)]at hy;obtain⟨q1,q2⟩:=h3 i z y hz hy;have q3:aC 60 3 aT W0.heap.size w2 z y:=aC.kJ q1 h1 (by decide) hg;exact⟨q3.far (q3.apart c4 (by decide)) _,q2⟩
   . have hi':i=us.length:=by
      have:=(List.getElem?_eq_some_iff.1 hz).1;rw[List.length_append,List.length_singleton]at this;omega
     subst hi';rw[List.getElem?_append_right (Nat.le_refl _),Nat.sub_self]at hz;rw[List.getElem?_append_right (by omega),show us.length-ls.length=0 by omega]at hy;simp only[List.getElem?_cons_zero,Option.some.injEq]at hz hy;subst hz;subst hy;have q3:aC 60 3 aT W0.heap.size w2 u head:=(aC.kJ hu h1 (by decide) hg).mono h.B.size;refine⟨q3.far (q3.apart c4 (by decide)) _,fun g hgv hgu=> ?_⟩;have a1:=(World.ownsRow.lt hu g hgu).1;have a2:=(World.ownsRow.lt h.oh g hgv).2;omega
 . rcases hb with e|⟨g,e,hge⟩
   . rw[e];exact h.ne
   . rw[e];intro q;injection q with q;omega
end
def aF (rows:List Int):List (List Dm):=if inB (bG rows) 1 300 then gV (setOf rows)else[]
theorem xC (rows:List Int):(aF rows).length<=300:=by
 unfold aF;split
 . rename_i h;have h1:1<=bG rows/\bG rows<=300:=by simpa[inB]using h
   have hr:aZ rows=true:=by
    rcases q:aZ rows with _|_
    . exact absurd (show bG rows=0 by unfold bG;rw[q];rfl) (by omega)
    . rfl
   have:bG rows=((gV (setOf rows)).length:Nat):=by unfold bG;rw[if_pos hr,uL (dX (aN.1 hr))]
   omega
 . simp
def Bo (l:List (List Dm)) (w:World) (e:Ending) (w':World):Prop:=∃A c,e= .returned (.slice A l.length c)/\dF 27 60 3 aT w.heap.size w' (.slice A l.length c) l/\Below w.heap.size w w'
theorem dF.pick {B:Nat} {w:World} {A:Option Addr} {n c:Nat} {ls:List (List Dm)} (h:dF 27 60 3 aT B w (.slice A n c) ls) {k:Nat} (hk:k<ls.length):∃g D d,A=some ⟨g,0,none⟩/\B<=g/\g<w.heap.size/\w.cell? ⟨g,k,none⟩=some (.slice D ls[k].length d)/\aC 60 3 aT B w (.slice D ls[k].length d) ls[k]:=by
 obtain⟨us,h1,h2,h3⟩:=h;have hk':k<us.length:=(by omega);obtain⟨g,rfl,hg1,hg2⟩:=h1.split hk';have q:=h3 k us[k] ls[k] (List.getElem?_eq_getElem hk') (List.getElem?_eq_getElem hk);obtain⟨D,d,e,_,_⟩:=q.form;have z:=h1.slot zG (by decide) hk' 0 us[k] rfl;rw[Nat.mul_one,Nat.add_zero]at z;rw[e]at z q;exact⟨g,D,d,rfl,hg1,hg2,z,q⟩
theorem jI {rows:List Int} {t:List Dm} (h:t∈aF rows):t.length<=64:=by
 unfold aF at h;split at h
 . exact Ak _ _ _ _ h
 . simp at h
end Go.Proofs.YtljfoohaapckeaaGreatDoor
