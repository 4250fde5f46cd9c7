import Derived.Test.YtjijonhkofhikaaGreatDoorFK5
open _root_.List renaming getElem_mem->Tm
set_option linter.unusedVariables false
set_option linter.unusedSimpArgs false
set_option maxHeartbeats 4000000
set_option maxRecDepth 100000
namespace Go.Proofs.YtjijonhkofhikaaGreatDoor
structure kZ (E:Nat->Nat->Prop) (s n:Nat) (f:Nat->Int):Prop where
  st:f s=0
  low:∀i,-1<=f i
  zero:∀i,f i=0->i=s
  pre:∀i (m:Int),0<=m->f i=m+1->∃j,f j=m/\E j i
  edge:∀j i,0<=f j->E j i->0<=f i/\f i<=f j+1
  top:∀i,f i<n
  inn:∀i,0<=f i->i<n
theorem kZ.le {E:Nat->Nat->Prop} {s n n':Nat} {f g:Nat->Int} (hf:kZ E s n f) (hg:kZ E s n' g):∀(m:Nat) (i:Nat),g i=m->0<=f i/\f i<=m
  | 0, i, h => by
   have:=hg.zero i h;subst this;rw[hf.st];omega
  | m + 1, i, h => by
   obtain⟨j,hj,he⟩:=hg.pre i m (by omega) (by rw[h];omega);have h1:=kZ.le hf hg m j hj;have h2:=hf.edge j i h1.1 he;omega
theorem kZ.same {E:Nat->Nat->Prop} {s n n':Nat} {f g:Nat->Int} (hf:kZ E s n f) (hg:kZ E s n' g):∀i,f i=g i:=by
 intro i;have h1:=hf.low i;have h2:=hg.low i;by_cases h:0<=g i
 . have a := kZ.le hf hg (g i).toNat i (by omega);have b:=kZ.le hg hf (f i).toNat i (by omega);omega
 . by_cases h':0<=f i
   . have b := kZ.le hg hf (f i).toNat i (by omega);omega
   . omega
def upd (f:Nat->Int) (i:Nat) (v:Int):Nat->Int:=fun x=>if x=i then v else f x
theorem uF (f:Nat->Int) (i:Nat) (v:Int):upd f i v i=v:=if_pos rfl
theorem upd_ne {f:Nat->Int} {i j:Nat} {v:Int} (h:j≠i):upd f i v j=f j:=if_neg h
def vP (n:Nat) (f:Nat->Int):List Int:=(List.range n).map f
theorem jY (n:Nat) (f:Nat->Int):(vP n f).length=n:=by simp[vP]
theorem Iz {n:Nat} {f:Nat->Int} {i:Nat} (h:i<(vP n f).length):(vP n f)[i]=f i:=by simp[vP]
theorem Pf (n:Nat) (f:Nat->Int) (i:Nat) (v:Int):vP n (upd f i v)=(vP n f).set i v:=by
 apply List.ext_getElem
 . simp[vP]
 . intro k h1 h2;rw[Iz,List.getElem_set];unfold upd;by_cases h:k=i
   . rw[if_pos h,if_pos h.symm]
   . rw[if_neg h,if_neg (fun e=>h e.symm),Iz]
structure Bfs (E:Nat->Nat->Prop) (s n:Nat) (f:Nat->Int) (q:List Nat) (p:Nat):Prop where
  lt:∀i∈q,i<n
  nd:q.Nodup
  iff:∀i,0<=f i↔i∈q
  low:∀i,-1<=f i
  srt:q.Pairwise fun a b=>f a<=f b
  top:∀h:p<q.length,∀i∈q,f i<=f q[p]+1
  st:f s=0
  zero:∀i,f i=0->i=s
  pre:∀i (m:Int),0<=m->f i=m+1->∃j,f j=m/\E j i
  don:∀j∈q.take p,∀i,E j i->i∈q/\f i<=f j+1
  bd:∀a (h:a<q.length),f q[a]<=a
theorem Gp:∀(n:Nat) (q:List Nat),q.Nodup->(∀i∈q,i<n)->q.length<=n
  |0,[],_,_=>Nat.le_refl _
  |0,x::q,_,h=>by have:=h x List.mem_cons_self;omega
  | n + 1, q, hd, h => by
   have h1 : (q.erase n).length <= n := Gp n (q.erase n) (hd.erase n) (fun i hi => by
    have h2:=h i (List.mem_of_mem_erase hi);have h3:i≠n:=fun e=>by subst e;exact(List.Nodup.not_mem_erase hd) hi
    omega)
   have h4:=List.length_erase (a:=n) (l:=q);split at h4<;>omega
theorem Bfs.len {E:Nat->Nat->Prop} {s n:Nat} {f:Nat->Int} {q:List Nat} {p:Nat} (h:Bfs E s n f q p):q.length<=n:=Gp n q h.nd h.lt
def f0 (s:Nat):Nat->Int:=upd (fun _=> -1) s 0
theorem Le (s i:Nat):f0 s i=if i=s then 0 else-1:=rfl
theorem Gq (E:Nat->Nat->Prop) {s n:Nat} (hs:s<n):Bfs E s n (f0 s) [s] 0 where
  lt:=fun i hi=>by rw[List.mem_singleton.1 hi];exact hs
  nd:=by simp
  iff := fun i => by
   rw[List.mem_singleton,Le];split
   . rename_i h;exact⟨fun _=>h,fun _=>by omega⟩
   . rename_i h;exact⟨fun q=>by omega,fun q=>absurd q h⟩
  low:=fun i=>by rw[Le];split<;>omega
  srt:=by simp
  top := fun h i hi => by
   rw[List.mem_singleton.1 hi];show f0 s s<=f0 s s+1;omega
  st:=uF _ _ _
  zero := fun i h => by
   rw[Le]at h;split at h
   . assumption
   . omega
  pre := fun i m hm h => by
   rw[Le]at h;split at h<;>omega
  don:=fun j hj=>by simp at hj
  bd := fun a h => by
   obtain rfl:a=0:=by simp at h;omega
   show f0 s s<=0;rw[Le,if_pos rfl];omega
theorem Mx {E:Nat->Nat->Prop} {s n:Nat} {f:Nat->Int} {q:List Nat} {p:Nat} (h:Bfs E s n f q p) (hp:p<q.length) {i:Nat} (hi:i<n) (he:E q[p] i) (hn:f i<0):Bfs E s n (upd f i (f q[p]+1)) (q++[i]) p:=by
 have hq:i∉q:=fun hm=>by have:=(h.iff i).2 hm;omega
 have old:∀j∈q,upd f i (f q[p]+1) j=f j:=fun j hj=>upd_ne fun e=>hq (e▸hj)
 have h0:0<=f q[p]:=(h.iff _).2 (Tm hp);have a6:(q++[i])[p]'(by simp;omega)=q[p]:=(by rw[List.getElem_append_left hp]);refine⟨fun j hj=> ?_,?_,fun j=> ?_,fun j=> ?_,?_,fun hl j hj=> ?_,?_,fun j hj=> ?_,fun j m hm hj=> ?_,fun j hj k hk=> ?_,fun a ha=> ?_⟩
 . rcases List.mem_append.1 hj with hj|hj
   . exact h.lt j hj
   . rw[List.mem_singleton.1 hj];exact hi
 . rw[List.nodup_append];exact⟨h.nd,by simp,fun a ha b hb=>by rw[List.mem_singleton.1 hb];exact fun e=>hq (e▸ha)⟩
 . rw[List.mem_append,List.mem_singleton];by_cases e:j=i
   . subst e;rw[uF];exact⟨fun _=> .inr rfl,fun _=>by omega⟩
   . rw[upd_ne e,h.iff];exact⟨fun q=> .inl q,fun q=>q.resolve_right e⟩
 . by_cases e:j=i
   . subst e;rw[uF];omega
   . rw[upd_ne e];exact h.low j
 . rw[List.pairwise_append];refine⟨h.srt.imp_of_mem fun{a b} ha hb hab=>by rw[old a ha,old b hb];exact hab,by simp,fun a ha b hb=> ?_⟩;rw[List.mem_singleton.1 hb,uF,old a ha];exact h.top hp a ha
 . rw[a6,old _ (Tm hp)];rcases List.mem_append.1 hj with hj|hj
   . rw[old j hj];exact h.top hp j hj
   . rw[List.mem_singleton.1 hj,uF];omega
 . have : s ∈ q := (h.iff s).1 (by rw [h.st]; omega);rw[old s this,h.st]
 . by_cases e:j=i
   . subst e;rw[uF]at hj;omega
   . rw[upd_ne e]at hj;exact h.zero j hj
 . by_cases e:j=i
   . subst e;rw[uF]at hj;refine⟨q[p],?_,he⟩;rw[old _ (Tm hp)];omega
   . rw[upd_ne e]at hj;obtain⟨k,hk,a7⟩:=h.pre j m hm hj;refine⟨k,?_,a7⟩;rw[old k ((h.iff k).1 (by omega))];exact hk
 . have hj':j∈q.take p:=by
    rwa [List.take_append_of_le_length (by omega)]at hj
   have h1:=h.don j hj' k hk;refine⟨List.mem_append.2 (.inl h1.1),?_⟩;rw[old k h1.1,old j (List.mem_of_mem_take hj')];exact h1.2
 . by_cases e:a<q.length
   . rw[List.getElem_append_left e,old _ (Tm e)];exact h.bd a e
   . obtain rfl : a = q.length := by simp at ha; omega
     rw[List.getElem_append_right (Nat.le_refl _)];simp only[Nat.sub_self,List.getElem_cons_zero];rw[uF];have:=h.bd p hp;omega
theorem Ka {E:Nat->Nat->Prop} {s n:Nat} {f:Nat->Int} {q:List Nat} {p:Nat} (h:Bfs E s n f q p) (hp:p<q.length) (hd:∀i,E q[p] i->0<=f i):Bfs E s n f q (p+1):=by
 refine⟨h.lt,h.nd,h.iff,h.low,h.srt,fun hl j hj=> ?_,h.st,h.zero,h.pre,fun j hj k hk=> ?_,h.bd⟩
 . have h1:=h.top hp j hj;have h2:f q[p]<=f q[p+1]:=List.pairwise_iff_getElem.1 h.srt p (p+1) hp hl (by omega);omega
 . rw[List.take_succ_eq_append_getElem hp]at hj;rcases List.mem_append.1 hj with hj|hj
   . exact h.don j hj k hk
   . rw[List.mem_singleton.1 hj]at hk⊢;have h1:=(h.iff k).1 (hd k hk);exact⟨h1,h.top hp k h1⟩
theorem MB {E:Nat->Nat->Prop} {s n:Nat} {f:Nat->Int} {q:List Nat} (h:Bfs E s n f q q.length):kZ E s n f where
  st:=h.st
  low:=h.low
  zero:=h.zero
  pre:=h.pre
  edge := fun j i hj he => by
   have h1:=h.don j (by rw[List.take_length];exact(h.iff j).1 hj) i he;exact⟨(h.iff i).2 h1.1,h1.2⟩
  top := fun i => by
   have hn:=h.len;by_cases hi:0<=f i
   . obtain⟨a,ha,e⟩:=List.getElem_of_mem ((h.iff i).1 hi);have:=h.bd a ha;rw[e]at this;omega
   . have hs := h.lt s ((h.iff s).1 (by rw [h.st]; omega));omega
  inn:=fun i hi=>h.lt i ((h.iff i).1 hi)
end Go.Proofs.YtjijonhkofhikaaGreatDoor
