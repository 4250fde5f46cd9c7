import Derived.Test.YtjijonhkofhikaaGreatDoorFK9
import Derived.Test.YtjijonhkofhikaaGreatDoorFG10
import Derived.Test.YtjijonhkofhikaaGreatDoorFDistPl
import Derived.Test.YtjijonhkofhikaaGreatDoorFG5
open _root_.List renaming map_append->Tm,getElem?_append_left->Tn,length_append->Tp,length_singleton->Tq,getElem?_append_right->Tt,map_cons->Tu,nodup_nil->Tv,length_cons->Tw,getElem_mem->Tx,take_length->Ty,foldl_append->Tz,mem_cons_self->TA,mem_cons_of_mem->TB,mem_cons->TC,range_succ->TD
open _root_.Nat renaming zero_le->TE,le_refl->TF,sub_self->TG,le_trans->TH,mul_one->TI
open _root_.Bool renaming or_eq_true->TJ
open _root_.Go.Addr renaming add_lit->TL
open _root_.Go.Value (slice int)
set_option linter.unusedVariables false
set_option maxHeartbeats 4000000
set_option maxRecDepth 100000
set_option linter.unusedSimpArgs false
namespace Go.Proofs.YtjijonhkofhikaaGreatDoor
def dZ (s:Nat) (head:List Dm):List (List Dm):=(jZ s).map (head++·)
theorem Ke (s:Nat):dZ s []=jZ s:=by
 unfold dZ;simp
theorem Gu (head:List Dm):dZ 0 head=[head]:=by
 unfold dZ;rw[Bp];simp
theorem uH (s:Nat) (head:List Dm):(dZ s head).length=(jZ s).length:=by
 unfold dZ;simp
theorem Gv {s i:Nat} (hs:s<U64) (hl:sK s i) (head:List Dm):dZ s head=
    (if eY s (eT i)then dZ (dE s (aG (eT i))) (head++[eT i])else[])++(if eY s (fT i)then dZ (dE s (aG (fT i))) (head++[fT i])else[]):=by
 unfold dZ;rw[Gt hs hl,Tm];congr 1
 . split
   . rw[List.map_map];congr 1;funext t;simp
   . rfl
 . split
   . rw[List.map_map];congr 1;funext t;simp
   . rfl
def oQ (rows:List Int) (h:List Dm):Nat:=dE (setOf rows) (iF 0 h)
theorem Gw {rows:List Int} (hr:dX rows) (h:List Dm):oQ rows h<U64:=eD (dW hr)
theorem nL (h : List Dm) (j : Nat) : (iF 0 h).testBit j = h.any fun d => aI d && (aG d).testBit j := by
 rw[wG,Nat.zero_testBit,Bool.false_or]
theorem qX {rows:List Int} (hr:dX rows) (h:List Dm) (j:Nat):(oQ rows h).testBit j=((setOf rows).testBit j&& !(iF 0 h).testBit j):=
 jQ (dW hr) (yS h 0 (by decide)) j
theorem Ej {rows:List Int} (hr:dX rows):oQ rows []=setOf rows:=by
 refine Nat.eq_of_testBit_eq fun j=> ?_
 rw[qX hr,nL];simp
theorem BZ {rows:List Int} (hr:dX rows) (h:List Dm) {d:Dm} (hd:aI d=true):oQ rows (h++[d])=dE (oQ rows h) (aG d):=by
 refine Nat.eq_of_testBit_eq fun j=> ?_
 rw[jQ (Gw hr h) (dQ hd),qX hr,qX hr,nL,nL,List.any_append];simp[hd,Bool.and_assoc]
theorem Gx (l:List Dm) {c:Cl} (hc:bH c=true):decide (nW l c<0)= !(iF 0 l).testBit (dJ c).toNat:=by
 have e:decide (nW l c<0)=(qG l c).isNone:=by
  rcases yO l c with⟨a,b⟩|⟨j,hj,a,b⟩
  . rw[a,b];rfl
  . rw[a,b];simp
 rw[e,nL];unfold qG
 have q : (fun d : Dm => aI d && (aG d).testBit (dJ c).toNat) = fun d => mJ d c := by
  funext d
  rcases h:aI d with _|_
  . rw[Bg h];rfl
  . rw[<-yQ h c,hc]
 rw[q];rcases h:l.any fun d=>mJ d c with _|_
 . rw [List.find?_eq_none.2 (fun x hx => by
    have:=List.any_eq_false.1 h x hx;simpa using this)];rfl
 . obtain⟨x,hx,hp⟩:=List.any_eq_true.1 h;rcases hf:l.find? (fun d=>mJ d c)with _|y
   . exact absurd hp (by simpa using List.find?_eq_none.1 hf x hx)
   . rfl
theorem NR {i:Nat} (hi:i<64):bH (iT i)=true/\(dJ (iT i)).toNat=i:=by
 have h:bH (iT i)=true:=by rw[dC];unfold iT;simp only;omega
 refine⟨h,?_⟩;rw[(dP h).1];unfold iT;simp only;omega
def Rq (rows:List Int) (l:List Dm):List Cl:=(eU rows).filter fun c=>decide (nW l c<0)
theorem Rs {rows:List Int} (hr:dX rows) (l:List Dm):Rq rows l=eX (oQ rows l) 64:=by
 unfold Rq eU;rw[if_pos (aR.2 hr)];unfold eX;rw[List.filter_map,List.filter_filter];congr 1
 refine List.filter_congr fun i hi=> ?_
 have hi':=List.mem_range.1 hi;obtain⟨h1,h2⟩:=NR hi';rw[qX hr,Function.comp_apply,Gx l h1,h2,Bool.and_comm]
theorem Ca {rows:List Int} (hr:dX rows) (l:List Dm) {d:Dm} (hd:aI d=true) (hi:(oQ rows l).testBit (fC d)=true):
 eY (oQ rows l) d=(kJ rows (sec d)&&decide (nW l (sec d)<0)):=by
 obtain⟨h1,h2⟩:=dR hd;unfold kJ;rw[Gx l h2,aR.2 hr,h2,Bool.true_and,Bool.true_and,show(dJ (sec d)).toNat=jL d from rfl,<-qX hr];unfold eY;rw[hd,Bool.true_and];rw[Bool.eq_iff_iff,decide_eq_true_iff];constructor
 . intro h;exact qV h _ (by rw[aT hd];simp)
 . intro h;refine Nat.eq_of_testBit_eq fun j=> ?_
   rw[Nat.testBit_and,aT hd];by_cases e1:fC d=j
   . subst e1;simp[hi]
   . by_cases e2:jL d=j
     . subst e2;simp[h]
     . simp[e1,e2]
theorem Ap {s i j:Nat} {d:Dm} (hs:s<U64) (hl:sK s i) (hd:aI d=true) (hI:fC d=i):∀k,k<i+1->(dE s (aG d)).testBit k=false:=by
 intro k hk;rw[jQ hs (dQ hd),aT hd];by_cases e:k=i
 . subst e;simp[hI]
 . rw[hl.2.2 k (by omega)];rfl
theorem QA {s i j:Nat} (hl:sK s i) (hj:∀k,k<j->s.testBit k=false):j<=i:=by
 rcases Nat.lt_or_ge i j with h|h
 . have:=hj i h;rw[hl.2.1]at this;cases this
 . exact h
theorem MG {i:Nat} (h:aI (eT i)=true) (hi:i<64):fC (eT i)=i:=by
 have:=RV hi;rw[h]at this;exact(rM hi (of_decide_eq_true this.symm)).2.1
theorem MH {i:Nat} (h:aI (fT i)=true) (hi:i<64):fC (fT i)=i:=by
 have:=RX hi;rw[h]at this;exact(rO (of_decide_eq_true this.symm)).2.1
theorem Aq {s:Nat} {t:List Dm}:t∈jZ s↔Til 0 s.testBit t:=CX 64 0 s.testBit t rfl
theorem Til.part {s:Nat} {t:List Dm} (h:Til 0 s.testBit t):jU s t:=
 ⟨fun d hd=>by obtain⟨a,_,c,e⟩:=h.ok d hd;exact CV.2 ⟨a,c,e⟩,h.ord,h.ap⟩
theorem qN {s:Nat} {t:List Dm} (h:t∈jZ s):jU s t:=(Aq.1 h).part
theorem El {s:Nat} {t:List Dm} (h:t∈jZ s):∀d∈t,aI d=true:=fun d hd=>(CV.1 ((qN h).1 d hd)).1
theorem Kg {s:Nat} {d:Dm}:eY s d=true↔aI d=true/\s.testBit (fC d)=true/\s.testBit (jL d)=true:=by
 constructor
 . intro h;unfold eY at h;rw[Bool.and_eq_true,decide_eq_true_iff]at h;exact⟨h.1,qV h.2 _ (by rw[aT h.1];simp),qV h.2 _ (by rw[aT h.1];simp)⟩
 . rintro⟨a,b,c⟩;unfold eY;rw[a,Bool.true_and,decide_eq_true_iff];refine xY fun j hj=> ?_
   rw[aT a,TJ,decide_eq_true_iff,decide_eq_true_iff]at hj;rcases hj with rfl|rfl
   . exact b
   . exact c
theorem NS {s:Nat} {t:List Dm} (h:t∈jZ s) {d:Dm} (hd:d∈t):eY s d=true:=Kg.2 (CV.1 ((qN h).1 d hd))
theorem Pn {s:Nat} (hs:s<U64) {t:List Dm} (h:t∈jZ s):iF 0 t=s:=by
 have T:=Aq.1 h;refine Nat.eq_of_testBit_eq fun j=> ?_
 rw[nL];rcases q:s.testBit j with _|_
 . rw[List.any_eq_false];intro d hd;have:=NS h hd;obtain⟨a,b,c⟩:=Kg.1 this;rw[a,Bool.true_and,aT a];by_cases e1:fC d=j
   . rw[e1,q]at b;cases b
   . by_cases e2:jL d=j
     . rw[e2,q]at c;cases c
     . simp[e1,e2]
 . have hj:j<64:=by
    rcases Nat.lt_or_ge j 64 with h|h
    . exact h
    . rw[Nat.testBit_lt_two_pow (Nat.lt_of_lt_of_le hs (by unfold U64;exact Nat.pow_le_pow_right (by decide) h))]at q;cases q
   obtain⟨d,hd,e⟩:=T.all j (TE _) hj q;rw[List.any_eq_true];refine⟨d,hd,?_⟩;have a:=El h d hd;rw[a,Bool.true_and,aT a];rcases e with e|e<;>simp[e]
theorem Jy {rows:List Int} (hr:dX rows) {t:List Dm} (h:t∈jZ (setOf rows)):eF rows t=true:=by
 have hp:isPartial rows t=true:=xZ.2 ⟨hr,qN h⟩;rw[wC hp,Pn (dW hr) h,decide_eq_true rfl]
theorem Ll {rows:List Int} (hr:dX rows):bG rows=((jZ (setOf rows)).length:Nat):=by
 unfold bG;rw[if_pos (aR.2 hr),xL (dW hr)]
end Go.Proofs.YtjijonhkofhikaaGreatDoor
namespace Go.Proofs.YtjijonhkofhikaaGreatDoor
open Go.ChangeShapes Go.WideShapes Go.ChangeAt Go.RowKit
def eV (u:Value):List Value:=[u]
theorem Cb:∀u:Value,(eV u).length=1:=fun _=>rfl
def dY {α:Type} (E0 E:TypeId) (size:Nat) (enc:α->List Value) (B:Nat) (w:World) (v:Value) (ls:List (List α)):Prop:=
 ∃us:List Value,aD E0 1 eV B w v us/\us.length=ls.length/\∀(k:Nat) (u:Value) (x:List α),us[k]? =some u->ls[k]? =some x->aD E size enc B w u x
section
variable {α : Type} {E0 E : TypeId} {size : Nat} {enc : α -> List Value} {B B' : Nat} {w w' : World} {v v' : Value} {ls : List (List α)}
theorem dY.Di:dY E0 E size enc B w (.slice none 0 0) ([]:List (List α)):=⟨[],aD.Di,rfl,fun k u x h=>by simp at h⟩
theorem dY.below (h:dY E0 E size enc B w v ls) (hb:Below w.heap.size w w'):dY E0 E size enc B w' v ls:=by
 obtain⟨us,h1,h2,h3⟩:=h;exact⟨us,h1.below hb,h2,fun k u x hu hx=>(h3 k u x hu hx).below hb⟩
theorem dY.alloc (h:dY E0 E size enc B w v ls) (o:Obj):dY E0 E size enc B (w.alloc o) v ls:=by
 obtain⟨us,h1,h2,h3⟩:=h;exact⟨us,h1.alloc o,h2,fun k u x hu hx=>(h3 k u x hu hx).alloc o⟩
theorem dY.mono (h:dY E0 E size enc B w v ls) (hb:B'<=B):dY E0 E size enc B' w v ls:=by
 obtain⟨us,h1,h2,h3⟩:=h;exact⟨us,h1.mono hb,h2,fun k u x hu hx=>(h3 k u x hu hx).mono hb⟩
theorem dY.form (h:dY E0 E size enc B w v ls):∃A c,v= .slice A ls.length c/\ls.length<=c/\c<=maxLen:=by
 obtain⟨us,h1,h2,h3⟩:=h;obtain⟨A,c,q,r,s⟩:=h1.form;rw[h2]at q r;exact⟨A,c,q,r,s⟩
theorem dY.snoc {us:List Value} (hne:E≠E0) (h1:aD E0 1 eV B w v us) (h2:us.length=ls.length) (h3:∀(k:Nat) (u:Value) (x:List α),us[k]? =some u->ls[k]? =some x->aD E size enc B w u x)
    {u:Value} {x:List α} (hu:aD E size enc B w u x) (h':aD E0 1 eV B w' v' (us++[u])) (hg:w.grownBy w' v.ownBlock):dY E0 E size enc B w' v' (ls++[x]):=by
 refine⟨us++[u],h',by simp[h2],fun k z y hz hy=> ?_⟩;by_cases hk:k<us.length
 . rw[Tn hk]at hz;rw[Tn (by omega)]at hy;exact aD.mG (h3 k z y hz hy) h1 hne hg
 . have e:k=us.length:=by
    have:=(List.getElem?_eq_some_iff.1 hz).1;rw[Tp,Tq]at this;omega
   subst e;rw[Tt (TF _),TG]at hz;rw[Tt (by omega),show us.length-ls.length=0 by omega]at hy;simp only[List.getElem?_cons_zero,Option.some.injEq]at hz hy;subst hz;subst hy;exact aD.mG hu h1 hne hg
theorem dY.app {us a6:List Value} {a7:List (List α)} (hne:E≠E0) (h1:aD E0 1 eV B w v us) (h2:us.length=ls.length) (h3:∀(k:Nat) (u:Value) (x:List α),us[k]? =some u->ls[k]? =some x->aD E size enc B w u x)
    (g2:a6.length=a7.length) (g3:∀(k:Nat) (u:Value) (x:List α),a6[k]? =some u->a7[k]? =some x->aD E size enc B w u x) (h':aD E0 1 eV B w' v' (us++a6)) (hg:w.grownBy w' v.ownBlock):dY E0 E size enc B w' v' (ls++a7):=by
 refine⟨us++a6,h',by simp[h2,g2],fun k z y hz hy=> ?_⟩;by_cases hk:k<us.length
 . rw[Tn hk]at hz;rw[Tn (by omega)]at hy;exact aD.mG (h3 k z y hz hy) h1 hne hg
 . rw [Tt (by omega)] at hz;rw[Tt (by omega),<-h2]at hy;exact aD.mG (g3 _ z y hz hy) h1 hne hg
end
theorem Blk.ne {w:World} {g g':Nat} {t t':TypeId} {cs cs':Array Value} (h:Blk w g t cs) (h':Blk w g' t' cs') (hne:t≠t'):g≠g':=by
 intro e;subst e;unfold Blk at h h';rw[h]at h';injection h' with h';injection h' with _ ht;exact hne ht
theorem aD.init {α:Type} {E:TypeId} {size:Nat} {enc:α->List Value} (a7:∀x,(enc x).length=size) {B:Nat} {w:World} {A:Option Addr} {n c:Nat} {l:List α} {x:α} (h:aD E size enc B w (.slice A n c) (l++[x])):aD E size enc B w (.slice A l.length c) l:=by
 refine⟨iB a7 l,?_⟩;rcases h.2 with⟨e,hn⟩|⟨g,cap,cur,e,a1,a2,a3,a4,a5,a6⟩
 . simp at hn
 . injection e with e1 e2 e3;subst e1;subst e3;refine .inr ⟨g,c,cur,rfl,a1,a2,by rw[Tp]at a3;omega,a4,a5,?_⟩;have:=congrArg (List.take (l.length*size)) a6;rw[List.take_take,Tp,Nat.min_eq_left (Nat.mul_le_mul_right _ (Nat.le_add_right _ _)),List.flatMap_append,List.take_append_of_le_length (by rw[iB a7];exact TF _)]at this;exact this.trans (List.take_of_length_le (by rw[iB a7];exact TF _))
section
variable {P : Program} {α : Type} {t E : TypeId} {z : Value} {size bytes : Nat} {enc : α -> List Value}
theorem MI {o:Oper} {a:Act} {K:Act->World->Prop} {Q:Exit->Act->World->Prop} (R:Row P t E z size bytes)
    (a6:∀x,(enc x).length=size)
    {B:Nat} {wa:World} (w:World) (hB:B<=w.heap.size) {v:Value} {l:List α} (hown:aD E size enc B w v l) (y:α) (h1:∀u∈enc y,u.oneCell'=true) (bA:wa=w.alloc (.cells (enc y).toArray E))
    (hlen:(l.length+1)*bytes<=140737488355328) (a7:l.length+1<=maxLen)
    (s x:Operand) (ho:o.op= .call {callee:= .builtin .append,args:= #[s,x],argTypes:= #[t,t]})
    (hs:a.eval s=v) (hx:a.eval x= .slice (some ⟨w.heap.size,0,none⟩) 1 1)
    (h:∀A c w',aD E size enc B w' (.slice A (l.length+1) c) (l++[y])->w.grownBy w' v.ownBlock->((slice A (l.length+1) c).ownBlock=v.ownBlock∨∃g,(slice A (l.length+1) c).ownBlock=some g/\w.heap.size+1<=g)->K (a.put o.dst (.slice A (l.length+1) c)) w'):
    o.wp P a wa K Q:=by
 subst bA;obtain⟨ht,a8,hzs,hsz⟩:=R;obtain⟨i0,hi,hz0,hz1,hz2⟩:=info_parts a8
 obtain⟨v',w',hrun,h2,h3,_,h5⟩:=run_append_own_at (P:=P) (w.alloc (.cells (enc y).toArray E)) B t o.type E i0 z size bytes ht hi hz0 hz1 hz2 hzs hsz v l.length (l.flatMap enc) (World.ownsRow.alloc hown _)
   ⟨w.heap.size, 0, none⟩ 1 1 (enc y) (by rw [a6]; omega) (fun j u hj => by
    have hb:=World.ownsRow.cells (w:=w.alloc (.cells (enc y).toArray E)) (base:=0) (e:=E) (size:=size) (v:= .slice (some ⟨w.heap.size,0,none⟩) 1 1) (n:=1) (xs:=enc y)
      ⟨by rw[a6];omega,.inr ⟨w.heap.size,1,(enc y).toArray,rfl,by omega,heap_alloc_new w _,by omega,by simp[maxLen],by simp[a6],by simp[a6,List.take_of_length_le]⟩⟩ (g:=w.heap.size) rfl
    exact hb j u hj) h1 a7 hlen (by simp;omega)
 unfold Oper.wp execOp;simp only[ho,resolve,invoke,builtin,Sem.run_bind,Sem.run_pure,Result.andThen_ok,List.map_toArray,Tu,List.map_nil,hs,hx,hrun]
 have hO:aD E size enc B w' v' (l++[y]):=by
  unfold aD;rw[Tp,List.flatMap_append,Tq];simpa using h2
 obtain⟨A,c,e,_⟩:=hO.form;rw[Tp,Tq]at e;subst e;refine h A c w' hO ?_ ?_
 . refine⟨h3.os,h3.tape,h3.output,TH (by simp) h3.size,fun k hk hne=>(h3.block k (by simp;omega) hne).trans (Below.heap_alloc w _ k hk)⟩
 . rcases h5 with e|e
   . exact .inl e
   . exact .inr ⟨_,e,by simp⟩
theorem pR {ops:Array Oper} {rest:List Oper} {o:Oper} {a:Act} {Q:Exit->Act->World->Prop} (R:Row P t E z size bytes)
    (a7:∀x,(enc x).length=size)
    {B:Nat} {wa:World} (w:World) (hB:B<=w.heap.size) {v:Value} {l:List α} (hown:aD E size enc B w v l) (y:α) (h1:∀u∈enc y,u.oneCell'=true) (a8:wa=w.alloc (.cells (enc y).toArray E))
    (hlen:(l.length+1)*bytes<=140737488355328) (a6:l.length+1<=maxLen) (hgd:o.guard=none)
    (s x:Operand) (ho:o.op= .call {callee:= .builtin .append,args:= #[s,x],argTypes:= #[t,t]})
    (hs:a.eval s=v) (hx:a.eval x= .slice (some ⟨w.heap.size,0,none⟩) 1 1)
    (h:∀A c w',aD E size enc B w' (.slice A (l.length+1) c) (l++[y])->w.grownBy w' v.ownBlock->((slice A (l.length+1) c).ownBlock=v.ownBlock∨∃g,(slice A (l.length+1) c).ownBlock=some g/\w.heap.size+1<=g)->wpList P ops Q rest (a.put o.dst (.slice A (l.length+1) c)) w'):
    wpList P ops Q (o::rest) a wa:=
 wpList_plain hgd fun _ hK=>MI R a7 w hB hown y h1 a8 hlen a6 s x ho hs hx fun A c w' k1 k2 k3=>hK _ _ (h A c w' k1 k2 k3)
theorem Bq {ops:Array Oper} {o:Oper} {a:Act} {K:Act->World->Prop} {Q:Exit->Act->World->Prop} {E':Prop} (R:Row P t E z size bytes)
    (a7:∀x,(enc x).length=size)
    {B:Nat} {wa:World} (w:World) (hB:B<=w.heap.size) {v:Value} {l:List α} (hown:aD E size enc B w v l) (y:α) (h1:∀u∈enc y,u.oneCell'=true) (a8:wa=w.alloc (.cells (enc y).toArray E))
    (hlen:(l.length+1)*bytes<=140737488355328) (a6:l.length+1<=maxLen) (hgd:o.guard=none)
    (s x:Operand) (ho:o.op= .call {callee:= .builtin .append,args:= #[s,x],argTypes:= #[t,t]})
    (hs:a.eval s=v) (hx:a.eval x= .slice (some ⟨w.heap.size,0,none⟩) 1 1)
    (h:∀A c w',aD E size enc B w' (.slice A (l.length+1) c) (l++[y])->w.grownBy w' v.ownBlock->((slice A (l.length+1) c).ownBlock=v.ownBlock∨∃g,(slice A (l.length+1) c).ownBlock=some g/\w.heap.size+1<=g)->K (a.put o.dst (.slice A (l.length+1) c)) w'):
    if Region.wanted o (yielded ops a.tmps)=true then Oper.wp P o a wa K Q else E':=by
 have hw:Region.wanted o (yielded ops a.tmps)=true:=(by simp[Region.wanted,hgd]);rw[if_pos hw];exact MI R a7 w hB hown y h1 a8 hlen a6 s x ho hs hx h
end
theorem qB:Row Tryz.prog 158 27 (.slice none 0 0) 1 24:=⟨Tryz.underlying158,by kernel_rfl,rfl,by decide⟩
def Nx (w:World) (v v':Value):Prop:=v'.ownBlock=v.ownBlock∨∃g,v'.ownBlock=some g/\w.heap.size<=g
theorem Nx.refl (w:World) (v:Value):Nx w v v:= .inl rfl
theorem Nx.tr {w w1:World} {v v1 v2:Value} (h:Nx w v v1) (h':Nx w1 v1 v2) (hs:w.heap.size<=w1.heap.size):Nx w v v2:=by
 rcases h' with e|⟨g,e,hg⟩
 . rcases h with e'|⟨g,e',hg⟩
   . exact .inl (e.trans e')
   . exact .inr ⟨g,e.trans e',hg⟩
 . exact .inr ⟨g,e,by omega⟩
theorem Nx.ne {w:World} {v v':Value} {g:Nat} {T:TypeId} {cs:Array Value} (h:Nx w v v') (hb:Blk w g T cs) (hn:v.ownBlock≠some g):v'.ownBlock≠some g:=by
 have:=hb.lt;rcases h with e|⟨g',e,hg⟩
 . rw[e];exact hn
 . rw[e];intro q;injection q with q;omega
def Fr (v:Value) (w w':World):Prop:=w.heap.size<=w'.heap.size/\∀(g:Nat) (T:TypeId) (cs:Array Value),(T=83∨T=4∨(T=99/\v.ownBlock≠some g))->Blk w g T cs->Blk w' g T cs
theorem Fr.tr {v v1 : Value} {w w1 w2 : World} (h : Fr v w w1) (h' : Fr v1 w1 w2) (hn : Nx w v v1) : Fr v w w2 := ⟨TH h.1 h'.1, fun g T cs e k => h'.2 g T cs (by
 rcases e with e|e|⟨e,q⟩
 . exact .inl e
 . exact .inr (.inl e)
 . exact .inr (.inr ⟨e,hn.ne k q⟩)) (h.2 g T cs e k)⟩
theorem Fr.bl {v:Value} {w w':World} (hb:Below w.heap.size w w'):Fr v w w':=⟨hb.size,fun _ _ _ _ h=>h.bl hb⟩
theorem Fr.set {v0 : Value} {w : World} {g : Nat} {t : TypeId} {cs : Array Value} (h : Blk w g t cs) (i : Nat) (u : Value) (h1 : t ≠ 83) (h2 : t ≠ 4) (h3 : t ≠ 99) : Fr v0 w (w.setCell ⟨g, i, none⟩ u) := ⟨by simp [World.setCell], fun g' T cs' e k => by
 have hne : T ≠ t := by rcases e with rfl | rfl | ⟨rfl, _⟩
                        . exact h1.symm
                        . exact h2.symm
                        . exact h3.symm
 exact k.far (k.ne h hne) u⟩
theorem Fr.grown {α : Type} {E : TypeId} {size : Nat} {enc : α -> List Value} {B : Nat} {w w' : World} {v0 v : Value} {l : List α} (h : aD E size enc B w v l) (h1 : E ≠ 83) (h2 : E ≠ 4) (h3 : E ≠ 99 ∨ v0 = v) (hg : w.grownBy w' v.ownBlock) : Fr v0 w w' := ⟨hg.size, fun g' T cs' e k => by
 rcases e with rfl|rfl|⟨rfl,q⟩
 . exact k.grown hg (fun q=>h.apart k h1 q.symm)
 . exact k.grown hg (fun q=>h.apart k h2 q.symm)
 . rcases h3 with h3|rfl
   . exact k.grown hg (fun q=>h.apart k h3 q.symm)
   . exact k.grown hg (fun z=>q z.symm)⟩
def QQ (B:Nat) (w:World) (o:Value) (ls:List (List Dm)) (b:Option Nat):Prop:=
 ∃us:List Value,aD 27 1 eV B w o us/\us.length=ls.length/\∀(k:Nat) (u:Value) (x:List Dm),us[k]? =some u->ls[k]? =some x->aD 99 3 aV B w u x/\∀g,b=some g->u.ownBlock≠some g
theorem QQ.ll {B:Nat} {w:World} {o:Value} {ls:List (List Dm)} {b:Option Nat} (h:QQ B w o ls b):dY 27 99 3 aV B w o ls:=by
 obtain⟨us,h1,h2,h3⟩:=h;exact⟨us,h1,h2,fun k u x hu hx=>(h3 k u x hu hx).1⟩
structure LSt (W0 w:World) (gc gl gr go:Nat) (v:Value) (head:List Dm) (o:Value) (ls:List (List Dm)):Prop where
  bc:Blk w gc 198 #[.func (.func 205) #[] #[.pointer (some ⟨go,0,none⟩)]]
  bl:Blk w gl 27 #[v]
  br:Blk w gr 230 #[.func (.func 231) #[] #[.pointer (some ⟨gc,0,none⟩),.pointer (some ⟨gl,0,none⟩),.pointer (some ⟨gr,0,none⟩)]]
  bo:Blk w go 158 #[o]
  oh:aD 99 3 aV W0.heap.size w v head
  ol:QQ W0.heap.size w o ls v.ownBlock
  ne:o.ownBlock≠some gl
  B:Below W0.heap.size W0 w
  hl:W0.heap.size<=gl
  ho:W0.heap.size<=go
section
variable {W0 w w' : World} {gc gl gr go : Nat} {v : Value} {head : List Dm} {o : Value} {ls : List (List Dm)}
theorem LSt.bel (h:LSt W0 w gc gl gr go v head o ls) (hb:Below w.heap.size w w'):LSt W0 w' gc gl gr go v head o ls:=by
 obtain⟨us,h1,h2,h3⟩:=h.ol;exact⟨h.bc.bl hb,h.bl.bl hb,h.br.bl hb,h.bo.bl hb,h.oh.below hb,⟨us,h1.below hb,h2,fun k u x hu hx=>⟨(h3 k u x hu hx).1.below hb,(h3 k u x hu hx).2⟩⟩,h.ne,h.B.tr hb,h.hl,h.ho⟩
theorem LSt.alloc (h:LSt W0 w gc gl gr go v head o ls) (q:Obj):LSt W0 (w.alloc q) gc gl gr go v head o ls:=h.bel ((Below.refl _ _).al q)
theorem LSt.put (h:LSt W0 w gc gl gr go v head o ls) {v':Value} {a6:List Dm} (a7:aD 99 3 aV W0.heap.size w v' a6) (hb:v'.ownBlock=v.ownBlock):
 LSt W0 (w.setCell ⟨gl,0,none⟩ v') gc gl gr go v' a6 o ls/\Fr v w (w.setCell ⟨gl,0,none⟩ v'):=by
 obtain⟨us,h1,h2,h3⟩:=h.ol;have f1:=h.bc.ne h.bl (by decide);have f2:=h.br.ne h.bl (by decide);have f3:=h.bo.ne h.bl (by decide);have a1:=a7.apart h.bl (by decide);refine⟨⟨h.bc.far f1 _,?_,h.br.far f2 _,h.bo.far f3 _,a7.far a1 _,⟨us,h1.far h.ne _,h2,fun k u x hu hx=> ?_⟩,h.ne,h.B.st _ _ h.hl,h.hl,h.ho⟩,Fr.set h.bl 0 v' (by decide) (by decide) (by decide)⟩
 . exact h.bl.Ij 0 v'
 . obtain⟨q1,q2⟩:=h3 k u x hu hx;refine⟨q1.far (q1.apart h.bl (by decide)) _,fun g hg=> ?_⟩;rw[hb]at hg;exact q2 g hg
theorem LSt.grow (h:LSt W0 w gc gl gr go v head o ls) (hg:w.grownBy w' v.ownBlock):
 Blk w' gc 198 #[.func (.func 205) #[] #[.pointer (some ⟨go,0,none⟩)]]/\Blk w' gl 27 #[v]/\
 Blk w' gr 230 #[.func (.func 231) #[] #[.pointer (some ⟨gc,0,none⟩),.pointer (some ⟨gl,0,none⟩),.pointer (some ⟨gr,0,none⟩)]]/\Blk w' go 158 #[o]/\
 (∃us:List Value,aD 27 1 eV W0.heap.size w' o us/\us.length=ls.length/\∀(k:Nat) (u:Value) (x:List Dm),us[k]? =some u->ls[k]? =some x->aD 99 3 aV W0.heap.size w' u x/\(∀g,v.ownBlock=some g->u.ownBlock≠some g)/\∀g,u.ownBlock=some g->g<w.heap.size)/\Below W0.heap.size W0 w'/\Fr v w w':=by
 obtain⟨us,h1,h2,h3⟩:=h.ol;have k:∀{t:TypeId} {g:Nat} {cs:Array Value},Blk w g t cs->t≠99->Blk w' g t cs:=fun b hne=>b.grown hg (fun q=>h.oh.apart b (fun e=>hne e.symm) q.symm)
 refine⟨k h.bc (by decide),k h.bl (by decide),k h.br (by decide),k h.bo (by decide),⟨us,aD.mG h1 h.oh (by decide) hg,h2,fun i u x hu hx=> ?_⟩,h.B.grown hg h.B.size (fun j hj=>(World.ownsRow.lt h.oh j hj).1),Fr.grown h.oh (by decide) (by decide) (.inr rfl) hg⟩;obtain⟨q1,q2⟩:=h3 i u x hu hx;refine⟨World.ownsRow.kept q1 hg ?_,q2,fun g a6=>(World.ownsRow.lt q1 g a6).2⟩;rcases e:u.ownBlock with _|g
 . exact .inl rfl
 . exact .inr fun hh=>q2 g hh.symm e
theorem LSt.push (h:LSt W0 w gc gl gr go v head o ls) {v':Value} {a6:List Dm} (hg:w.grownBy w' v.ownBlock) (a8:aD 99 3 aV W0.heap.size w' v' a6) (hb:v'.ownBlock=v.ownBlock∨∃g,v'.ownBlock=some g/\w.heap.size<=g):
 LSt W0 (w'.setCell ⟨gl,0,none⟩ v') gc gl gr go v' a6 o ls/\Fr v w (w'.setCell ⟨gl,0,none⟩ v'):=by
 obtain⟨c1,c2,c3,c4,⟨us,c5,c6,c7⟩,c8,c9⟩:=h.grow hg;have f1:=c1.ne c2 (by decide);have f2:=c3.ne c2 (by decide);have f3:=c4.ne c2 (by decide);have a1:=a8.apart c2 (by decide);refine⟨⟨c1.far f1 _,c2.Ij 0 v',c3.far f2 _,c4.far f3 _,a8.far a1 _,⟨us,c5.far h.ne _,c6,fun k u x hu hx=> ?_⟩,h.ne,c8.st _ _ h.hl,h.hl,h.ho⟩,c9.tr (Fr.set (v0:=v) c2 0 v' (by decide) (by decide) (by decide)) (Nx.refl _ _)⟩;obtain⟨q1,q2,q3⟩:=c7 k u x hu hx;refine⟨q1.far (q1.apart c2 (by decide)) _,fun g a7=> ?_⟩;rcases hb with e|⟨g',e,bB⟩
 . rw[e]at a7;exact q2 g a7
 . rw[e]at a7;injection a7 with a7;intro bA;have:=q3 g bA;omega
theorem LSt.pop {A:Option Addr} {n c:Nat} {x:Dm} (h:LSt W0 w gc gl gr go (.slice A n c) (head++[x]) o ls):LSt W0 (w.setCell ⟨gl,0,none⟩ (.slice A head.length c)) gc gl gr go (.slice A head.length c) head o ls/\Fr (.slice A n c) w (w.setCell ⟨gl,0,none⟩ (.slice A head.length c))/\Nx w (.slice A n c) (.slice A head.length c):=
 have e:(slice A head.length c).ownBlock=(slice A n c).ownBlock:=by cases A<;>rfl
 have q:=h.put (h.oh.init aC) e;⟨q.1,q.2,.inl e⟩
theorem LSt.add (h:LSt W0 w gc gl gr go v head o ls) {w1 w2:World} {u o':Value} (hb1:Below w.heap.size w w1) (hu:aD 99 3 aV w.heap.size w1 u head)
    {us:List Value} (h1:aD 27 1 eV W0.heap.size w1 o us) (h2:us.length=ls.length) (h3:∀(k:Nat) (u:Value) (x:List Dm),us[k]? =some u->ls[k]? =some x->aD 99 3 aV W0.heap.size w1 u x/\∀g,v.ownBlock=some g->u.ownBlock≠some g)
    (hg:w1.grownBy w2 o.ownBlock) (ho:aD 27 1 eV W0.heap.size w2 o' (us++[u])) (hb:o'.ownBlock=o.ownBlock∨∃g,o'.ownBlock=some g/\w1.heap.size<=g):
    LSt W0 (w2.setCell ⟨go,0,none⟩ o') gc gl gr go v head o' (ls++[head])/\Fr v w (w2.setCell ⟨go,0,none⟩ o'):=by
 have k:∀{t:TypeId} {g:Nat} {cs:Array Value},Blk w1 g t cs->t≠27->Blk w2 g t cs:=fun b hne=>b.grown hg (fun q=>h1.apart b (fun e=>hne e.symm) q.symm)
 have c1:=k (h.bc.bl hb1) (by decide);have c3:=k (h.br.bl hb1) (by decide);have c4:=k (h.bo.bl hb1) (by decide);have c2:Blk w2 gl 27 #[v]:=(h.bl.bl hb1).grown hg (fun q=>h.ne q.symm);have f1:=c1.ne c4 (by decide);have f2:=c2.ne c4 (by decide);have f3:=c3.ne c4 (by decide);have d1:aD 99 3 aV W0.heap.size w2 v head:=aD.mG (h.oh.below hb1) h1 (by decide) hg;have a8:=h.bl.lt;have hsz:=hb1.size
 refine ⟨⟨c1.far f1 _, c2.far f2 _, c3.far f3 _, c4.Ij 0 o', d1.far (d1.apart c4 (by decide)) _, ⟨us ++ [u], ho.far (ho.apart c4 (by decide)) _, by simp [h2], fun i z y hz hy => ?_⟩, ?_, ((h.B.tr hb1).grown hg (h.B.tr hb1).size (fun j hj => (World.ownsRow.lt h1 j hj).1)).st _ _ h.ho, h.hl, h.ho⟩,
   ((Fr.bl hb1).tr (Fr.grown (v0:=v) h1 (by decide) (by decide) (.inl (by decide)) hg) (Nx.refl _ _)).tr (Fr.set (v0:=v) c4 0 o' (by decide) (by decide) (by decide)) (Nx.refl _ _)⟩
 . by_cases hi:i<us.length
   . rw[Tn hi]at hz;rw[Tn (by omega)]at hy;obtain⟨q1,q2⟩:=h3 i z y hz hy;have q3:aD 99 3 aV W0.heap.size w2 z y:=aD.mG q1 h1 (by decide) hg;exact⟨q3.far (q3.apart c4 (by decide)) _,q2⟩
   . have hi':i=us.length:=by
      have:=(List.getElem?_eq_some_iff.1 hz).1;rw[Tp,Tq]at this;omega
     subst hi';rw[Tt (TF _),TG]at hz;rw[Tt (by omega),show us.length-ls.length=0 by omega]at hy;simp only[List.getElem?_cons_zero,Option.some.injEq]at hz hy;subst hz;subst hy;have q3:aD 99 3 aV W0.heap.size w2 u head:=(aD.mG hu h1 (by decide) hg).mono h.B.size;refine⟨q3.far (q3.apart c4 (by decide)) _,fun g a6 a7=> ?_⟩;have a1:=(World.ownsRow.lt hu g a7).1;have a2:=(World.ownsRow.lt h.oh g a6).2;omega
 . rcases hb with e|⟨g,e,bA⟩
   . rw[e];exact h.ne
   . rw[e];intro q;injection q with q;omega
end
def aH (rows:List Int):List (List Dm):=if inB (bG rows) 1 300 then jZ (setOf rows)else[]
theorem Ar (rows:List Int):(aH rows).length<=300:=by
 unfold aH;split
 . rename_i h;have h1:1<=bG rows/\bG rows<=300:=by simpa[inB]using h
   have hr:bW rows=true:=by
    rcases q:bW rows with _|_
    . exact absurd (show bG rows=0 by unfold bG;rw[q];rfl) (by omega)
    . rfl
   have:bG rows=((jZ (setOf rows)).length:Nat):=by unfold bG;rw[if_pos hr,xL (dW (aR.1 hr))]
   omega
 . simp
def Em (l:List (List Dm)) (w:World) (e:Ending) (w':World):Prop:=∃A c,e= .returned (.slice A l.length c)/\dY 27 99 3 aV w.heap.size w' (.slice A l.length c) l/\Below w.heap.size w w'
theorem dY.pick {B:Nat} {w:World} {A:Option Addr} {n c:Nat} {ls:List (List Dm)} (h:dY 27 99 3 aV B w (.slice A n c) ls) {k:Nat} (hk:k<ls.length):∃g D d,A=some ⟨g,0,none⟩/\B<=g/\g<w.heap.size/\w.cell? ⟨g,k,none⟩=some (.slice D ls[k].length d)/\aD 99 3 aV B w (.slice D ls[k].length d) ls[k]:=by
 obtain⟨us,h1,h2,h3⟩:=h;have a6:k<us.length:=(by omega);obtain⟨g,rfl,hg1,hg2⟩:=h1.split a6;have q:=h3 k us[k] ls[k] (List.getElem?_eq_getElem a6) (List.getElem?_eq_getElem hk);obtain⟨D,d,e,_,_⟩:=q.form;have z:=h1.slot Cb (by decide) a6 0 us[k] rfl;rw[TI,Nat.add_zero]at z;rw[e]at z q;exact⟨g,D,d,rfl,hg1,hg2,z,q⟩
theorem kN {rows:List Int} {t:List Dm} (h:t∈aH rows):t.length<=64:=by
 unfold aH at h;split at h
 . exact FJ _ _ _ _ h
 . simp at h
end Go.Proofs.YtjijonhkofhikaaGreatDoor
namespace Go.Proofs.YtjijonhkofhikaaGreatDoor
theorem Au:∀(n i:Nat) (S:Nat->Bool),(tl n i S).Nodup
  |0,_,_=>by simp[tl]
  | n + 1, i, S => by
   have hc : ∀ (d : Dm) (l : List (List Dm)), l.Nodup -> (l.map (d :: ·)).Nodup := fun d l hl => by
    unfold List.Nodup at hl⊢;rw[List.pairwise_map];exact hl.imp fun{a b} h e=>h (List.cons.inj e).2
   have hd : eT i ≠ fT i := fun e => by
    have:=congrArg (fun x:Dm=>x.2.2) e;exact absurd this (by simp[eT,fT])
   rw[sP];split
   . rw[List.nodup_append];refine⟨?_,?_,fun a ha b hb e=> ?_⟩
     . split
       . exact hc _ _ (Au n _ _)
       . exact Tv
     . split
       . exact hc _ _ (Au n _ _)
       . exact Tv
     . subst e;split at ha
       . split at hb
         . obtain⟨x,_,rfl⟩:=List.mem_map.1 ha;obtain⟨y,_,e⟩:=List.mem_map.1 hb;exact hd (List.cons.inj e).1.symm
         . cases hb
       . cases ha
   . exact Au n _ _
theorem Jz {s:Nat} {t:List Dm} (hp:jU s t) (hall:∀j,j<64->s.testBit j=true->∃d∈t,(aG d).testBit j=true):t∈jZ s:=by
 refine Aq.2 ⟨fun d hd=> ?_,hp.2.1,hp.2.2,fun j _ h2 h3=> ?_⟩
 . obtain⟨a,b,c⟩:=CV.1 (hp.1 d hd);exact⟨a,TE _,b,c⟩
 . obtain⟨d,hd,e⟩:=hall j h2 h3;refine⟨d,hd,?_⟩;rw[aT (CV.1 (hp.1 d hd)).1,TJ,decide_eq_true_iff,decide_eq_true_iff]at e;exact e
theorem Kh {s:Nat} {t:List Dm} (h:t∈jZ s) {j:Nat} (hj:j<64) (hs:s.testBit j=true):∃d∈t,(aG d).testBit j=true:=by
 obtain⟨d,hd,e⟩:=(Aq.1 h).all j (TE _) hj hs;refine⟨d,hd,?_⟩;rw[aT (El h d hd),TJ,decide_eq_true_iff,decide_eq_true_iff];exact e
theorem Po {s:Nat} {t:List Dm} {c:Cl} (h:t∈jZ s) (hk:kindOf t c≠0):aU t c∈jZ s:=by
 have hp:=qN h;obtain⟨h1,h2,h3⟩:=D8 hp hk;obtain⟨a6,g1,g2⟩:=Mv hk;refine Jz h1 fun j hj hs=> ?_
 obtain⟨d,hd,hb⟩:=Kh h hj hs;have hm:∀x,x∈aU t c↔x∈jH t (nY (kindOf t c) c) (qM (kindOf t c) c)/\aI x=true:=fun x=>Gd _ x
 have hn : ∀ x, (x = (qM (kindOf t c) c).1 ∨ x = (qM (kindOf t c) c).2) -> x ∈ aU t c := fun x hx => by
  refine(hm x).2 ⟨(wK _ _ _ x).2 (hx.elim .inl fun q=> .inr (.inl q)),?_⟩;rcases hx with rfl|rfl
  . exact a6.ok.2.2.1
  . exact a6.ok.2.2.2
 by_cases e1:d=(nY (kindOf t c) c).1
 . rcases Fz a6.symm (j := j) (.inl (by rw [<- e1]; exact hb)) with q | q
   . exact⟨_,hn _ (.inl rfl),q⟩
   . exact⟨_,hn _ (.inr rfl),q⟩
 . by_cases e2:d=(nY (kindOf t c) c).2
   . rcases Fz a6.symm (j := j) (.inr (by rw [<- e2]; exact hb)) with q | q
     . exact⟨_,hn _ (.inl rfl),q⟩
     . exact⟨_,hn _ (.inr rfl),q⟩
   . exact⟨d,(hm d).2 ⟨(wK _ _ _ d).2 (.inr (.inr ⟨hd,e1,e2⟩)),El h d hd⟩,hb⟩
def gG (l:List Dm):List Cl:=((List.range 64).map iT).filter fun c=>decide (kindOf l c≠0)
theorem mI {l:List Dm} {c:Cl}:c∈gG l↔kindOf l c≠0:=by
 unfold gG;rw[List.mem_filter,decide_eq_true_iff];refine⟨fun h=>h.2,fun h=>⟨?_,h⟩⟩;have hi:=Iy h;unfold kU at hi;rw[Bool.and_eq_true,decide_eq_true_iff,decide_eq_true_iff]at hi;obtain⟨x,y⟩:=c;simp only at hi;refine List.mem_map.2 ⟨(y*8+x).toNat,List.mem_range.2 (by omega),?_⟩;unfold iT;apply Prod.ext
 . simp only;omega
 . simp only;omega
def ix:List (List Dm)->List Dm->Nat
  |[],_=>0
  |a::r,m=>if a=m then 0 else ix r m+1
theorem oV:∀{T:List (List Dm)} {m:List Dm},m∈T->∃h:ix T m<T.length,T[ix T m]=m
  | a :: r, m, h => by
   by_cases e:a=m
   . have:ix (a::r) m=0:=if_pos e;refine⟨by rw[this];simp,?_⟩;simp only[this];exact e
   . have e2:ix (a::r) m=ix r m+1:=if_neg e;obtain⟨h1,h2⟩:=oV ((List.mem_cons.1 h).resolve_left (fun q=>e q.symm));refine⟨by rw[e2,Tw];omega,?_⟩;simp only[e2,List.getElem_cons_succ];exact h2
theorem RY {T:List (List Dm)} (hd:T.Nodup) {i:Nat} (hi:i<T.length):ix T T[i]=i:=by
 obtain⟨h1,h2⟩:=oV (Tx hi);exact(List.getElem_inj hd).1 h2
def oZ (T:List (List Dm)) (m:List Dm):Int:=if m∈T then((ix T m:Nat):Int)else-1
theorem Ki : ∀ {T : List (List Dm)} {m : List Dm} {k : Nat} (hk : k < T.length), (∀ j (h : j < k), T[j]'(by omega) ≠ m) -> T[k] = m -> ix T m = k
  |[],m,k,hk,_,_=>by simp at hk
  | a :: r, m, 0, hk, _, e => by
   have e':a=m:=e;exact if_pos e'
  | a :: r, m, k + 1, hk, h, e => by
   have e1:¬a=m:=h 0 (Nat.succ_pos _);have e2:ix (a::r) m=ix r m+1:=if_neg e1;rw[e2,Ki (k:=k) (by simpa using hk) (fun j hj=>h (j+1) (by omega)) (by simpa using e)]
theorem index_hit {T : List (List Dm)} {m : List Dm} {k : Nat} (hk : k < T.length) (h : ∀ j (h : j < k), T[j]'(by omega) ≠ m) (e : T[k] = m) : oZ T m = (k : Int) := by
 unfold oZ;rw[if_pos (e▸Tx hk),Ki hk h e]
theorem En {T:List (List Dm)} {m:List Dm} (h:∀j (h:j<T.length),T[j]≠m):oZ T m= -1:=by
 unfold oZ;rw[if_neg];intro hm;obtain⟨j,hj,e⟩:=List.getElem_of_mem hm;exact h j hj e
def til (T:List (List Dm)) (i:Nat):List Dm:=T.getD i []
theorem jF {T:List (List Dm)} {i:Nat} (hi:i<T.length):til T i=T[i]:=by unfold til;rw[List.getD_eq_getElem?_getD,List.getElem?_eq_getElem hi];rfl
def links (T:List (List Dm)) (j:Nat):List Nat:=(gG (til T j)).map fun c=>ix T (aU (til T j) c)
def Edge (T:List (List Dm)) (j i:Nat):Prop:=j<T.length/\i∈links T j
structure qC (T:List (List Dm)):Prop where
  nd:T.Nodup
  cl:∀t∈T,∀c,kindOf t c≠0->aU t c∈T/\kindOf (aU t c) c≠0/\aU (aU t c) c=t
  sm:T.length<=300
theorem Fj (rows:List Int):qC (aH rows):=by
 unfold aH;split
 . rename_i h
   have hr:dX rows:=by
    by_cases hr:bW rows=true
    . exact aR.1 hr
    . unfold bG at h;rw[if_neg hr]at h;simp[inB]at h
   refine⟨Au _ _ _,fun t ht c hk=>⟨Po ht hk,?_⟩,?_⟩
   . obtain⟨_,h2,h3⟩:=D8 (qN ht) hk;exact⟨h2,h3⟩
   . have:=Ll hr;simp[inB]at h;omega
 . exact⟨Tv,(fun t ht=>by cases ht),by decide⟩
theorem AX {T:List (List Dm)} (hT:qC T) {j i:Nat} (h:Edge T j i):i<T.length:=by
 obtain⟨hj,hi⟩:=h;obtain⟨c,hc,rfl⟩:=List.mem_map.1 hi;rw[jF hj]at hc⊢;exact(oV (hT.cl _ (Tx hj) c (mI.1 hc)).1).1
theorem NT {T:List (List Dm)} (hT:qC T) {j i:Nat} (h:Edge T j i):Edge T i j:=by
 have hlt:=AX hT h;obtain⟨hj,hi⟩:=h;obtain⟨c,hc,rfl⟩:=List.mem_map.1 hi;rw[jF hj]at hc hlt⊢;obtain⟨h1,h2,h3⟩:=hT.cl _ (Tx hj) c (mI.1 hc);obtain⟨h4,h5⟩:=oV h1;refine⟨hlt,List.mem_map.2 ⟨c,?_,?_⟩⟩
 . rw[jF h4,h5];exact mI.2 h2
 . rw[jF h4,h5,h3];exact RY hT.nd hj
def I9 (T:List (List Dm)) (f:Nat->Int) (i:Nat):Option Cl:=(gG (til T i)).find? fun c=>decide (f (ix T (aU (til T i) c))=f i-1)
def vH (T:List (List Dm)) (i:Nat) (c:Cl):Nat:=ix T (aU (til T i) c)
def vI (T:List (List Dm)) (f:Nat->Int):Nat->Nat->List Cl
  |0,_=>[]
  | m + 1, i => match I9 T f i with
    |some c=>c::vI T f m (vH T i c)
    |none=>[]
theorem Gy {T:List (List Dm)} (hT:qC T) {k n:Nat} {f:Nat->Int} (hd:kZ (Edge T) k n f) {i:Nat} {m:Nat} (hf:f i=m+1):∃c,I9 T f i=some c/\kindOf (til T i) c≠0/\f (vH T i c)=m/\vH T i c<T.length/\i<T.length:=by
 obtain⟨j,hj,he⟩:=hd.pre i m (by omega) hf;have hs:=NT hT he;have hi:=AX hT he;obtain⟨_,hm⟩:=hs;obtain⟨c,hc,rfl⟩:=List.mem_map.1 hm;cases h:I9 T f i with
 |none=>
  have:=List.find?_eq_none.1 h c hc;simp only[decide_eq_true_eq]at this;exact absurd (by rw[hj,hf];omega) this
 |some d=>
  have h1:=List.find?_some h;have h2:=List.mem_of_find?_eq_some h;simp only[decide_eq_true_eq]at h1;have hk:=mI.1 h2;refine⟨d,rfl,hk,?_,?_,hi⟩
  . unfold vH;rw[h1,hf];omega
  . exact AX hT ⟨hi,List.mem_map.2 ⟨d,h2,rfl⟩⟩
theorem Kj {T:List (List Dm)} {f:Nat->Int} {m i:Nat} {c:Cl} (h:I9 T f i=some c):vI T f (m+1) i=c::vI T f m (vH T i c):=by
 rw[vI,h]
theorem MJ (T:List (List Dm)) (f:Nat->Int):∀(m i:Nat),(vI T f m i).length<=m
  |0,_=>TE _
  | m + 1, i => by
   rw[vI];split
   . rename_i c _;rw[Tw];have:=MJ T f m (vH T i c);omega
   . exact TE _
open Classical in
noncomputable def tY (T:List (List Dm)) (k:Nat):Nat->Int:=if h:∃f,kZ (Edge T) k T.length f then h.choose else fun _=> -1
theorem MK {T:List (List Dm)} {k:Nat} {f:Nat->Int} (h:kZ (Edge T) k T.length f):tY T k=f:=by
 have hx:∃f,kZ (Edge T) k T.length f:=⟨f,h⟩;unfold tY;rw[dif_pos hx];funext i
 exact hx.choose_spec.same h i
noncomputable def Gz (rows:List Int) (a b:List Dm):Bool:=decide (a∈aH rows)&&decide (b∈aH rows)&&decide (0<=tY (aH rows) (ix (aH rows) b) (ix (aH rows) a))
noncomputable def Eo (rows:List Int) (a b:List Dm):List Cl:=if Gz rows a b=true then vI (aH rows) (tY (aH rows) (ix (aH rows) b)) (tY (aH rows) (ix (aH rows) b) (ix (aH rows) a)).toNat (ix (aH rows) a)else[]
def vW (a b:List Dm) (k:Nat):Nat:=((a.take k).filter fun d=> !b.contains d).length
def chg (a b:List Dm):Nat:=(a.filter fun d=> !b.contains d).length
theorem GA (a b:List Dm):vW a b a.length=chg a b:=by unfold vW chg;rw[Ty]
theorem Ep {a b:List Dm} {k:Nat} (h:k<a.length):vW a b (k+1)=vW a b k+(if b.contains a[k]=true then 0 else 1):=by
 unfold vW;rw[List.take_succ_eq_append_getElem h,List.filter_append,Tp];congr 1
 by_cases hc:b.contains a[k]=true
 . rw[if_pos hc,List.filter_cons_of_neg (by rw[hc];simp)];rfl
 . rw[if_neg hc,List.filter_cons_of_pos (by simpa using hc)];rfl
theorem Kk (a b:List Dm) (k:Nat):vW a b k<=k:=by
 unfold vW;refine TH (List.length_filter_le _ _) ?_;rw[List.length_take];omega
theorem Ja (a b:List Dm):chg a b<=a.length:=List.length_filter_le _ _
def kK (list:List Dm) (d:Dm) (b:Option (List Dm)) (t:List Dm):Option (List Dm):=
 if t.contains d = true then b else match b with
   |none=>some t
   |some m=>if chg list t<chg list m then some t else some m
def lW (T:List (List Dm)) (list:List Dm) (d:Dm) (k:Nat):Option (List Dm):=(T.take k).foldl (kK list d) none
def gZ (T:List (List Dm)) (list:List Dm) (d:Dm):Option (List Dm):=T.foldl (kK list d) none
theorem Er (T:List (List Dm)) (list:List Dm) (d:Dm):lW T list d T.length=gZ T list d:=by unfold lW gZ;rw[Ty]
theorem Cc {T:List (List Dm)} {list:List Dm} {d:Dm} {k:Nat} (h:k<T.length):lW T list d (k+1)=kK list d (lW T list d k) T[k]:=by
 unfold lW;rw[List.take_succ_eq_append_getElem h,Tz];rfl
def AY (rows:List Int) (l:List Dm) (d:Dm):Bool:=decide (l∈aH rows)&&(gZ (aH rows) l d).isSome
def Ce (rows:List Int) (l:List Dm) (d:Dm):List Dm:=if l∈aH rows then(gZ (aH rows) l d).getD []else[]
theorem Rt {s:Nat} {t u:List Dm} (ht:t∈jZ s) (hu:u∈jZ s) (h:t≠[]):u≠[]:=by
 intro e;subst e;obtain⟨d,hd⟩:=List.exists_mem_of_ne_nil t h;have h1:=qN ht;obtain⟨a,b,c⟩:=CV.1 (h1.1 d hd)
 have hlt:fC d<64:=by
  have:=(dP (dR a).1).2;unfold fC;omega
 obtain⟨e,he,_⟩:=Kh hu hlt b;cases he
theorem Ru {rows:List Int} {t u:List Dm} (ht:t∈aH rows) (hu:u∈aH rows) (h:t≠[]):u≠[]:=by
 unfold aH at ht hu;split at ht
 . rename_i q;rw[if_pos q]at hu;exact Rt ht hu h
 . cases ht
theorem Rv {rows:List Int} {t:List Dm} (ht:t∈aH rows):∀d∈t,aI d=true:=by
 unfold aH at ht;split at ht
 . exact El ht
 . cases ht
theorem Kl {list:List Dm} {d:Dm}:∀(T:List (List Dm)) (b:Option (List Dm)) (m:List Dm),T.foldl (kK list d) b=some m->b=some m∨m∈T
  |[],b,m,h=> .inl h
  | t :: T, b, m, h => by
   rw[List.foldl_cons]at h;rcases Kl T _ m h with h|h
   . unfold kK at h;split at h
     . exact .inl h
     . split at h
       . injection h with h;subst h;exact .inr TA
       . split at h
         . injection h with h;subst h;exact .inr TA
         . exact .inl h
   . exact .inr (TB _ h)
def FK (d:Dm):Bs:=Lib.decDigits d.1.toNat++44::(Lib.decDigits d.2.1.toNat++[if d.2.2=true then 100 else 114])
def qY (d:Dm):ByteArray:=toB (FK d)
def Km (l:List Dm):ByteArray:=toB (Lib.join (l.map FK) [32])
theorem FL {d:Dm} (h:aI d=true):(0<=d.1/\d.1<=7)/\(0<=d.2.1/\d.2.1<=7):=by
 have h1:=(dP (dR h).1).2;have h2:=(dR h).1;unfold bH inB at h2;simp at h2;omega
theorem Av {d:Dm} (h:aI d=true):FK d=[UInt8.ofNat (48+d.1.toNat),44,UInt8.ofNat (48+d.2.1.toNat),if d.2.2=true then 100 else 114]:=by
 have h1:=FL h;unfold FK;rw[Lib.decDigits_one (by omega),Lib.decDigits_one (by omega)];rfl
theorem Kn {a b:Nat} (ha:a<=7) (hb:b<=7) (h:UInt8.ofNat (48+a)=UInt8.ofNat (48+b)):a=b:=by
 have:=congrArg UInt8.toNat h;rw[UInt8.toNat_ofNat',UInt8.toNat_ofNat']at this;omega
theorem Pp {d e:Dm} (hd:aI d=true) (he:aI e=true) (h:FK d=FK e):d=e:=by
 rw[Av hd,Av he]at h;have h1:=FL hd;have h2:=FL he;obtain⟨x,y,s⟩:=d;obtain⟨x',y',s'⟩:=e;simp only[List.cons.injEq,and_true,true_and]at h h1 h2;obtain⟨a,b,c⟩:=h;have e1:=Kn (by omega) (by omega) a;have e2:=Kn (by omega) (by omega) b;have e3:x=x':=(by omega);have e4:y=y':=(by omega);subst e3;subst e4
 have e5:s=s':=by
  cases s<;>cases s'
  . rfl
  . exact absurd (show(114:UInt8)=100 from c) (by decide)
  . exact absurd (show(100:UInt8)=114 from c) (by decide)
  . rfl
 rw[e5]
theorem ML {d:Dm} (h:aI d=true):FK d≠[]/\xU (FK d):=by
 have h1:=FL h;rw[Av h];refine⟨by simp,fun b hb e=> ?_⟩;subst e
 have a6 : ∀ a : Nat, a <= 7 -> (32 : UInt8) ≠ UInt8.ofNat (48 + a) := fun a ha q => by
  have:=congrArg UInt8.toNat q;rw[UInt8.toNat_ofNat']at this;have e:(32:UInt8).toNat=32:=rfl;omega
 simp only[TC,List.not_mem_nil,or_false]at hb;rcases hb with hb|hb|hb|hb
 . exact a6 _ (by omega) hb
 . exact absurd hb (by decide)
 . exact a6 _ (by omega) hb
 . split at hb<;>exact absurd hb (by decide)
theorem map_inj:∀{l m:List Dm},(∀d∈l,aI d=true)->(∀d∈m,aI d=true)->l.map FK=m.map FK->l=m
  |[],[],_,_,_=>rfl
  |[],_::_,_,_,h=>by simp at h
  |_::_,[],_,_,h=>by simp at h
  | d :: l, e :: m, hl, hm, h => by
   rw[Tu,Tu]at h;obtain⟨h1,h2⟩:=List.cons.inj h;rw[Pp (hl d TA) (hm e TA) h1,map_inj (fun x hx=>hl x (TB _ hx)) (fun x hx=>hm x (TB _ hx)) h2]
theorem Pq {l m:List Dm} (hl:∀d∈l,aI d=true) (hm:∀d∈m,aI d=true) (h:Km l=Km m):l=m:=by
 have h1:=congrArg (fg []) (Mj h);rw[Dv _ (fun x hx=>by obtain⟨d,hd,rfl⟩:=List.mem_map.1 hx;exact ML (hl d hd)),Dv _ (fun x hx=>by obtain⟨d,hd,rfl⟩:=List.mem_map.1 hx;exact ML (hm d hd))]at h1;exact map_inj hl hm h1
theorem GD {d:Dm} (h:aI d=true):(qY d).size=4:=by
 have:(qY d).size=(FK d).length:=rfl;rw[this,Av h];rfl
def vQ (n:Int):List Int->List Int
  |[]=>[n]
  |x::r=>if n<=x then n::x::r else x::vQ n r
theorem Ko (n:Int):∀(l:List Int) (x:Int),x∈vQ n l↔x=n∨x∈l
  |[],x=>by simp[vQ]
  | y :: r, x => by
   unfold vQ;split
   . simp
   . rw[TC,Ko n r x,TC];constructor
     . rintro(h|h|h)
       . exact .inr (.inl h)
       . exact .inl h
       . exact .inr (.inr h)
     . rintro(h|h|h)
       . exact .inr (.inl h)
       . exact .inl h
       . exact .inr (.inr h)
theorem Fp (n:Int):∀l:List Int,(vQ n l).length=l.length+1
  |[]=>rfl
  | y :: r => by
   unfold vQ;split
   . rfl
   . rw[Tw,Fp n r,Tw]
def vX (T:List (List Dm)) (j:Nat) (c:Cl):Int:=((ix T (aU (til T j) c):Nat):Int)
def pE (T:List (List Dm)) (j k:Nat):List Int:=((gG (til T j)).take k).foldl (fun own c=>vQ (vX T j c) own) []
def Jb (T:List (List Dm)) (j:Nat):List Int:=pE T j (gG (til T j)).length
def iN (T:List (List Dm)) (j k:Nat):List Int:=((gG (til T j)).take k).map (vX T j)
def sZ (T:List (List Dm)) (j:Nat):List Int:=(gG (til T j)).map (vX T j)
theorem xM (l:List Dm):(gG l).length<=64:=by
 unfold gG;refine TH (List.length_filter_le _ _) ?_;simp
theorem Cf {T:List (List Dm)} {j k:Nat} (h:k<(gG (til T j)).length):pE T j (k+1)=vQ (vX T j (gG (til T j))[k]) (pE T j k):=by
 unfold pE;rw[List.take_succ_eq_append_getElem h,Tz];rfl
theorem Es {T:List (List Dm)} {j:Nat}:∀k,k<=(gG (til T j)).length->(pE T j k).length=k
  |0,_=>rfl
  |k+1,h=>by rw[Cf (by omega),Fp,Es k (by omega)]
theorem JA {T:List (List Dm)} {j k:Nat} (h:k<(gG (til T j)).length):iN T j k++[vX T j (gG (til T j))[k]]=iN T j (k+1):=by
 unfold iN;rw[List.take_succ_eq_append_getElem h,Tm];rfl
theorem Lm {T:List (List Dm)} {j k:Nat} (h:k<=(gG (til T j)).length):(iN T j k).length=k:=by
 unfold iN;rw[List.length_map,List.length_take];omega
theorem Lp (T:List (List Dm)) (j:Nat):iN T j (gG (til T j)).length=sZ T j:=by unfold iN sZ;rw[Ty]
theorem Kq (g : Cl -> Int) : ∀ (l : List Cl) (own : List Int) (x : Int), x ∈ l.foldl (fun own c => vQ (g c) own) own ↔ x ∈ own ∨ ∃ c ∈ l, x = g c
  |[],own,x=>by simp
  | c :: l, own, x => by
   rw[List.foldl_cons,Kq g l,Ko];constructor
   . rintro((h|h)|⟨d,hd,e⟩)
     . exact .inr ⟨c,TA,h⟩
     . exact .inl h
     . exact .inr ⟨d,TB _ hd,e⟩
   . rintro(h|⟨d,hd,e⟩)
     . exact .inl (.inr h)
     . rcases List.mem_cons.1 hd with rfl|hd
       . exact .inl (.inl e)
       . exact .inr ⟨d,hd,e⟩
structure Adj (T:List (List Dm)) (near:List (List Int)):Prop where
  len:near.length=T.length
  mem:∀(j:Nat) (h:j<near.length) (x:Int),x∈near[j]↔∃i:Nat,x=i/\Edge T j i
def qO (T:List (List Dm)) (k:Nat):List (List Int):=(List.range k).map (Jb T)
def mZ (T:List (List Dm)) (k:Nat):List (List Int):=(List.range k).map (sZ T)
theorem JB (T:List (List Dm)) (k:Nat):qO T k++[Jb T k]=qO T (k+1):=by unfold qO;rw[TD,Tm];rfl
theorem JC (T:List (List Dm)) (k:Nat):mZ T k++[sZ T k]=mZ T (k+1):=by unfold mZ;rw[TD,Tm];rfl
theorem qZ (T:List (List Dm)) (k:Nat):(qO T k).length=k:=by simp[qO]
theorem pF (T:List (List Dm)) (k:Nat):(mZ T k).length=k:=by simp[mZ]
theorem Ps (T:List (List Dm)):Adj T (qO T T.length) where
  len:=qZ T _
  mem := fun j h x => by
   rw[qZ]at h;have e:(qO T T.length)[j]'(by rw[qZ];exact h)=Jb T j:=(by simp[qO]);rw[e];unfold Jb pE;rw[Ty,Kq];constructor
   . rintro(h|⟨c,hc,e⟩)
     . cases h
     . exact⟨_,e,h,List.mem_map.2 ⟨c,hc,rfl⟩⟩
   . rintro⟨i,rfl,_,hi⟩;obtain⟨c,hc,rfl⟩:=List.mem_map.1 hi;exact .inr ⟨c,hc,rfl⟩
theorem Pt (T:List (List Dm)):Adj T (mZ T T.length) where
  len:=pF T _
  mem := fun j h x => by
   rw[pF]at h;have e:(mZ T T.length)[j]'(by rw[pF];exact h)=sZ T j:=(by simp[mZ]);rw[e];unfold sZ;constructor
   . intro hx;obtain⟨c,hc,rfl⟩:=List.mem_map.1 hx;exact⟨_,rfl,h,List.mem_map.2 ⟨c,hc,rfl⟩⟩
   . rintro⟨i,rfl,_,hi⟩;obtain⟨c,hc,rfl⟩:=List.mem_map.1 hi;exact List.mem_map.2 ⟨c,hc,rfl⟩
def IC (l:List Dm):Lit:= .string (Km l).data.toList
theorem NU (s:Bs):WideAt.IsKeyLit (.string s):=by unfold WideAt.IsKeyLit;trivial
def Kr (T:List (List Dm)) (k:Nat):DataW Unit:=(List.range k).foldl (fun D i=>D.put (IC (til T i)) (.lit (.int .i64 (i:Int)))) (.map [])
theorem Br (T:List (List Dm)) (k:Nat):Kr T (k+1)=(Kr T k).put (IC (til T k)) (.lit (.int .i64 (k:Int))):=by
 unfold Kr;rw[TD,Tz];rfl
theorem MM (T:List (List Dm)):∀k,Go.Maps.IsMap (Kr T k)
  |0=>Go.Maps.isMap_empty
  |k+1=>by rw[Br];exact(MM T k).put _ _
theorem Rw {l m : List Dm} (hl : ∀ d ∈ l, aI d = true) (hm : ∀ d ∈ m, aI d = true) (h : l ≠ m) : IC l ≠ IC m := fun e => h (Pq hl hm (by
 unfold IC at e;injection e with e;exact ByteArray.ext (Array.toList_inj.1 e)))
theorem MN {T:List (List Dm)} (hd:T.Nodup) (a6:∀t∈T,∀d∈t,aI d=true) {i:Nat} (z:DataW Unit):∀k,k<=T.length->i<k->(Kr T k).atKey (IC (til T i)) z= .lit (.int .i64 (i:Int))
  |0,_,h=>by omega
  | k + 1, hk, h => by
   rw[Br];by_cases e:i=k
   . subst e;exact Go.Maps.atKey_put_same (MM T i) (by unfold IC;exact NU _) _ _
   . have hi : i < T.length := by omega
     have a7:k<T.length:=(by omega);rw[Go.Maps.atKey_put_other]
     . exact MN hd a6 z k (by omega) (by omega)
     . rw[jF hi,jF a7];refine Rw (a6 _ (Tx hi)) (a6 _ (Tx a7)) fun q=>e ?_
       exact(List.getElem_inj hd).1 q
end Go.Proofs.YtjijonhkofhikaaGreatDoor
namespace Go.Proofs.YtjijonhkofhikaaGreatDoor
open Go.ChangeShapes Go.WideShapes Go.ChangeAt Go.RowKit
def Qu (B:Nat) (w:World) (v:Value) (l:List Int):Prop:=
 ∃(g off c:Nat) (cs:Array Value),v= .slice (some ⟨g,off,none⟩) l.length c/\B<=g/\Blk w g 3 cs/\l.length<=c/\c<=maxLen/\off+c<=cs.size/\∀(j:Nat) (x:Int),l[j]? =some x->cs[off+j]? =some (.int .i64 x)
theorem Qu.QB {B:Nat} {w:World} {v:Value} {l:List Int} (h:aD 3 1 aW B w v l) (hl:0<l.length):Qu B w v l:=by
 have h':=h;rcases h.2 with⟨_,h0⟩|⟨g,cap,cur,e,hg,hh,hc,hm,hsz,hx⟩
 . omega
 . refine ⟨g, 0, cap, cur, e, hg, hh, hc, hm, by omega, fun j x hj => ?_⟩;have hk:=(List.getElem?_eq_some_iff.1 hj).1;subst e
   have h1 := World.ownsRow.cells h' (g := g) rfl j (.int .i64 x) (by
    have:=Ih (enc:=aW) aM (by decide) l j x hj 0 _ rfl;simpa using this)
   have h2:=cell_of_row w g j cur 3 (0,0) hh;rw[Nat.zero_add,<-h2];have e2:(Addr.mk g 0 none).add j=⟨g,j,none⟩:=(by rw[TL,Nat.zero_add]);rw[<-e2];exact h1
theorem Qu.kept {B:Nat} {w w':World} {v:Value} {l:List Int} {row:Option Nat} (h:Qu B w v l) (hg:w.grownBy w' row) (hne:v.ownBlock≠row):Qu B w' v l:=by
 obtain⟨g,off,c,cs,e,h1,h2,h3⟩:=h;subst e;exact⟨g,off,c,cs,rfl,h1,h2.grown hg hne,h3⟩
theorem Qu.form {B:Nat} {w:World} {v:Value} {l:List Int} (h:Qu B w v l):∃g off c,v= .slice (some ⟨g,off,none⟩) l.length c/\B<=g/\g<w.heap.size/\l.length<=c/\c<=maxLen:=by
 obtain⟨g,off,c,cs,e,h1,h2,h3,h4,_⟩:=h;exact⟨g,off,c,e,h1,h2.lt,h3,h4⟩
theorem Qu.head {B g off c:Nat} {w:World} {x:Int} {l:List Int} {n:Nat} (h:Qu B w (.slice (some ⟨g,off,none⟩) n c) (x::l)):w.cell? ⟨g,off,none⟩=some (.int .i64 x):=by
 obtain⟨g',a6,c',cs,e,h1,h2,h3,h4,h5,h6⟩:=h;injection e with e1 e2 e3;injection e1 with e1;injection e1 with e1 e4;subst e1;subst e4;rw[h2.cell];exact h6 0 x rfl
theorem Qu.tail {B g off c c' n:Nat} {A':Option Addr} {w:World} {x:Int} {l:List Int} (h:Qu B w (.slice (some ⟨g,off,none⟩) n c) (x::l)) (hs:sliced (some ⟨g,off,none⟩) 1 n c 1= .slice A' (n-1) c'):Qu B w (.slice A' (n-1) c') l:=by
 obtain⟨g',a6,c0,cs,e,h1,h2,h3,h4,h5,h6⟩:=h;injection e with e1 e2 e3;injection e1 with e1;injection e1 with e1 e4;subst e1;subst e4;subst e3;rw[Tw]at h3 e2;unfold sliced at hs;injection hs with s1 s2 s3;subst s3;have hn:n-1=l.length:=(by omega);by_cases hc:c=1
 . subst hc;rw[if_pos rfl]at s1;subst s1;refine⟨g,off,1-1,cs,by rw[hn],h1,h2,by omega,by omega,by omega,fun j y hj=> ?_⟩;have:=(List.getElem?_eq_some_iff.1 hj).1;omega
 . rw[if_neg hc]at s1;simp only[Option.map_some,TL]at s1;subst s1;refine⟨g,off+1*1,c-1,cs,by rw[hn],h1,h2,by omega,by omega,by omega,fun j y hj=> ?_⟩;have:=h6 (j+1) y (by simpa using hj);rw[<-this];congr 1
   omega
theorem Qu.mono {B B':Nat} {w:World} {v:Value} {l:List Int} (h:Qu B w v l) (hb:B'<=B):Qu B' w v l:=by
 obtain⟨g,off,c,cs,e,h1,h2⟩:=h;exact⟨g,off,c,cs,e,by omega,h2⟩
theorem Rx {g off n c c':Nat} {A':Option Addr} (hs:sliced (some ⟨g,off,none⟩) 1 n c 1= .slice A' (n-1) c'):(slice A' (n-1) c').ownBlock=some g:=by
 unfold sliced at hs;injection hs with s1 s2 s3;by_cases hc:c=1
 . rw[if_pos hc]at s1;subst s1;rfl
 . rw[if_neg hc]at s1;simp only[Option.map_some,TL]at s1;subst s1;rfl
theorem Pv (l : List Int) : l.flatMap aW = l.map fun x => int .i64 x := by
 induction l with
 |nil=>rfl
 |cons y l ih=>rw[List.flatMap_cons,ih];rfl
section
variable {P : Program} {t : TypeId}
theorem JD {ops:Array Oper} {rest:List Oper} {o:Oper} {a:Act} {Q:Exit->Act->World->Prop} (R:Row P t 3 (.int .i64 0) 1 8) {B:Nat} {w:World} (hB:B<=w.heap.size) {v:Value} {l:List Int} (hown:Qu B w v l) (x:Int) {g0:Nat} (hg0:g0=w.heap.size)
    (hlen:(l.length+1)*8<=140737488355328) (a6:l.length+1<=maxLen) (hgd:o.guard=none)
    (s y:Operand) (ho:o.op= .call {callee:= .builtin .append,args:= #[s,y],argTypes:= #[t,t]})
    (hs:a.eval s=v) (hy:a.eval y= .slice (some ⟨g0,0,none⟩) 1 1)
    (h:∀g c off w',(some g=v.ownBlock∨w.heap.size<=g)->Qu B w' (.slice (some ⟨g,off,none⟩) (l.length+1) c) (l++[x])->(w.alloc (.cells #[.int .i64 x] 3)).grownBy w' v.ownBlock->wpList P ops Q rest (a.put o.dst (.slice (some ⟨g,off,none⟩) (l.length+1) c)) w'):
    wpList P ops Q (o::rest) a (w.alloc (.cells #[.int .i64 x] 3)):=by
 subst hg0;obtain⟨ht,a7,hzs,hsz⟩:=R;obtain⟨i0,hi,hz0,hz1,hz2⟩:=info_parts a7;obtain⟨g,off,c,cs,e,h1,h2,h3,h4,h5,h6⟩:=hown;subst e;have bB:Blk (w.alloc (.cells #[.int .i64 x] 3)) g 3 cs:=h2.alloc _
 refine wpList_append_arg _ hgd s y t ho 3 i0 (.int .i64 0) 1 8 ht hi hz0 hz1 hz2 hzs hsz g off l.length c (l.map fun x => int .i64 x) hs (by simp) (fun j u hj => ?_)
   ⟨w.heap.size,0,none⟩ 1 1 [.int .i64 x] hy rfl (fun j u hj=> ?_) (by simp[Value.oneCell']) (fun hr j hj=> ?_) a6 hlen (fun hr=> ?_) (fun hg v' w' bC a8=> ?_)
 . rw[bB.cell];rw[List.getElem?_map]at hj;cases hx:l[j]? with
   |none=>rw[hx]at hj;cases hj
   |some z=>rw[hx]at hj;injection hj with hj;subst hj;exact h6 j z hx
 . obtain rfl:j=0:=by
    have:=(List.getElem?_eq_some_iff.1 hj).1;simp at this;omega
   rw[TL,Blk.cell (Blk.aX w 3 #[.int .i64 x])];exact hj
 . obtain rfl : j = 0 := by simp at hj; omega
   refine⟨?_,bB.frozen _⟩;rw[bB.cell,TI,Nat.add_zero,Array.getElem?_eq_getElem (by omega)];rfl
 . refine h g c off _ (.inl rfl) ⟨g, off, c, cs.setIfInBounds (off + l.length) (.int .i64 x), by rw [Tp]; rfl, h1, ?_, by rw [Tp]; exact hr, h4, by rw [Array.size_setIfInBounds]; exact h5, fun j z hj => ?_⟩ ?_
   . have:=bB.Ij (off+l.length) (.int .i64 x);rw[TI];exact this
   . by_cases hl:j<l.length
     . rw[Tn hl]at hj;rw[Array.getElem?_setIfInBounds,if_neg (by omega)];exact h6 j z hj
     . rw [Tt (by omega)] at hj;have bD:=(List.getElem?_eq_some_iff.1 hj).1;simp at bD;obtain rfl:j=l.length:=by omega
       rw[TG]at hj;injection hj with hj;subst hj;rw[Array.getElem?_setIfInBounds,if_pos rfl,if_pos (by omega)]
   . have:=dB (World.grownBy.refl (w.alloc (.cells #[.int .i64 x] 3)) (some g)) (off+l.length) (.int .i64 x);rw[TI];exact this
 . have hO:aD 3 1 aW (w.alloc (.cells #[.int .i64 x] 3)).heap.size w' v' (l++[x]):=by
    unfold aD;rw[Tp,List.flatMap_append];rw[Pv l];exact bC
   have hq:=(Qu.QB hO (by simp));obtain⟨g',bA,c',cs',e',q1,q2,q3⟩:=hq;subst e';rw[Tp];have q4:B<=g':=by simp at q1;omega
   exact h g' c' bA w' (.inr (by simp at q1;omega)) ⟨g',bA,c',cs',by rw[Tp];rfl,q4,q2,q3⟩ ⟨a8.os,a8.tape,a8.output,a8.size,fun k hk _=>a8.block k hk (by simp)⟩
theorem Lr {ops:Array Oper} {rest:List Oper} {o:Oper} {a:Act} {Q:Exit->Act->World->Prop} {E:TypeId} {z:Value} {bytes:Nat} (R:Row P t E z 1 bytes)
    {w:World} {A:Option Addr} {n c:Nat} (j:Nat) (hj:j<=n) (hn:n<=c) (hm:c<=maxLen) {J:Int} (hJ:J=j)
    (hgd:o.guard=none) (s x:Operand) (hop:o.op=Op.slice t s (some x) none none) (hs:a.eval s= .slice A n c) (hx:a.eval x= .int .i64 J)
    (hK:∀A' c',sliced A j n c 1= .slice A' (n-j) c'->wpList P ops Q rest (a.put o.dst (.slice A' (n-j) c')) w):
    wpList P ops Q (o::rest) a w:=by
 subst hJ;obtain⟨ht,a6,hzs,hsz⟩:=R;obtain⟨i0,hi,hz0,hz1,hz2⟩:=info_parts a6;have he:P.elem t=E:=(by simp[Program.elem,ht]);have a7:P.underlying t=some (.slice (P.elem t)):=by rw[he];exact ht
 obtain⟨A',c',e⟩:∃A' c',sliced A j n c 1= .slice A' (n-j) c':=⟨_,_,rfl⟩
 have hrun:(Instr.sliceAt t (.slice A n c) (some (.int .i64 j)) none none).run P w= .ok (.slice A' (n-j) c') w:=by
  rw[run_sliceAt_slice w t _ _ _ _ a7,run_slice_l w t A n c a7 .i64 j (by omega) (by omega),he,<-e];simp[sizeOf,typeInfo,hi,hz1,Result.andThen]
 refine wpList_plain hgd fun K hK'=> ?_
 unfold Oper.wp;simp[execOp,hop,hs,hx,hrun,Result.andThen];exact hK' _ _ (hK A' c' e)
end
end Go.Proofs.YtjijonhkofhikaaGreatDoor
