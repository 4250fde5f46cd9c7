import Derived.Test.YtjijonhkofhikaaGreatDoorEG36
set_option linter.unusedVariables false
set_option maxHeartbeats 4000000
set_option maxRecDepth 100000
set_option linter.unusedSimpArgs false
namespace Go.Proofs.YtjijonhkofhikaaGreatDoor
open Go.ChangeShapes Go.WideShapes Go.ChangeAt Go.RowKit
def bS (l:List (Int×Int)) (i:Nat):Int:=(l.getD i (0,0)).1
def bP (l:List (Int×Int)) (i:Nat):Int:=(l.getD i (0,0)).2
theorem Ny (f : Int × Int -> Int) : ∀ (c : List Int) (l : List (Int × Int)), c.length = l.length -> ((List.range l.length).map fun i => c.getD i 0 * f (l.getD i (0, 0))).sum = (List.zipWith (fun c b => c * f b) c l).sum := by
 intro c;induction c with
 |nil=>intro l h;have:l=[]:=List.eq_nil_of_length_eq_zero (by simpa using h.symm);subst this;rfl
 |cons x c ih=>
  intro l h;cases l with
  |nil=>simp at h
  |cons b l=>
   have:=ih l (by simpa using h);rw[List.zipWith_cons_cons,List.sum_cons,<-this,List.length_cons,List.range_succ_eq_map,List.map_cons,List.map_map,List.sum_cons];rfl
theorem J9 {l:List (Int×Int)} (a6:dF l l.length=true) {n:Nat} (hn:n<=500):n<=(hold l (chosen l n)).1/\(hold l (chosen l n)).2=cheapest l n:=by
 obtain⟨hall,h1,h5⟩:=kD _ _ a6;have hF:vW l:=hall;have hne:l≠[]:=by rintro rfl;simp at h1
 rw[zM a6 hn,Cx a6 hn];obtain⟨g1,g2,g3⟩:=JS l n hF (mE hF hne n);have hlen:=LV l n (lp l n);have a7:allIn 0 500 (choose l n (lp l n))=true:=xE.2 fun x hx=>by have:=g1 x hx;omega
 have e:hold l (choose l n (lp l n))=(Gb l (choose l n (lp l n)) l.length,Gc l (choose l n (lp l n)) l.length):=by
  unfold hold;rw[a6,a7,hlen];simp
 have s1:=Ny (fun b=>b.1) (choose l n (lp l n)) l hlen;have s2:=Ny (fun b=>b.2) (choose l n (lp l n)) l hlen;rw[e];unfold Gb Gc;simp only;rw[s1,s2];exact⟨g2,g3⟩
theorem Md {l:List (Int×Int)} (hl:∀x∈l,fM x):∀n:Int,1<=n->n<=5->dF l n=true:=by
 induction l with
 |nil=>intro n h1 h5;simp[dF,inB];omega
 |cons x r ih=>
  intro n h1 h5;have F:=hl x List.mem_cons_self;unfold fM at F;unfold dF;have:(!inB x.1 1 50|| !inB x.2 1 1000)=false:=by simp[inB];omega
  rw[this];exact ih (fun y hy=>hl y (List.mem_cons_of_mem _ hy)) n h1 h5
end Go.Proofs.YtjijonhkofhikaaGreatDoor
namespace Go.Proofs.YtjijonhkofhikaaGreatDoor
open Go.ChangeShapes Go.WideShapes Go.ChangeAt Go.RowKit
theorem Qt {l:List (Int×Int)} (hs:∀x∈l,lV x) (h1:1<=l.length) (n:Nat):0<=lp l n/\lp l n<=21*n:=by
 have hf:vW l:=fun x hx=>(hs x hx).fine
 have hne:l≠[]:=fun e=>by rw[e]at h1;simp at h1
 refine⟨mE hf hne n,?_⟩;induction n using Nat.strongRecOn with
 |_ n ih=>
  rcases n with _|n
  . rw[rC];omega
  . obtain⟨b,hb⟩:=List.exists_mem_of_ne_nil l hne;have h2:=OL hf hb (n+1);have h3:=hs b hb;unfold lV at h3;have h4:=OM (n:=n+1) (s:=b.1) (by omega) (by omega);have h5:=ih _ h4;omega
theorem QY {l:List (Int×Int)} {c:List Int} (hl:∀x∈l,x.1<=x.2) (hc:∀k∈c,0<=k) (he:c.length=l.length):∀k,k<=l.length->Gb l c k<=Gc l c k
  |0,_=>by simp[Gb,Gc]
  | k + 1, h => by
   have ih:=QY hl hc he k (by omega);rw[Gd l c k (by omega) (by omega),Gf l c k (by omega) (by omega)];have h1:=hl l[k] (List.getElem_mem (by omega));have h2:=hc (c[k]'(by omega)) (List.getElem_mem (by omega));have:=Int.mul_le_mul_of_nonneg_left h1 h2;omega
theorem Sr {l:List (Int×Int)} (c:List Int) (hl:∀x∈l,x.1<=x.2):(hold l c).1<=(hold l c).2:=by
 unfold hold;split
 . rename_i q;simp only[Bool.and_eq_true,beq_iff_eq]at q;exact QY hl (fun k hk=>(xE.1 q.2 k hk).1) q.1.2 _ (Nat.le_refl _)
 . exact Int.le_refl _
theorem Oy {l:List (Int×Int)} (hs:∀x∈l,lV x) (h1:1<=l.length) (h4:l.length<=4) {n:Nat} (hn:n<=29):
 0<=cheapest l n/\0<=(hold l (chosen l n)).1/\(hold l (chosen l n)).1<=21*n/\0<=(hold l (chosen l n)).2/\(hold l (chosen l n)).2<=21*n:=by
 have a6:dF l l.length=true:=Md (fun x hx=>(hs x hx).fine) _ (by omega) (by omega);obtain⟨a,b⟩:=J9 a6 (n:=n) (by omega)
 have hc:cheapest l n=lp l n:=by
  rw[mP a6 (by omega)];unfold lp;rw[List.getD_eq_getElem?_getD,List.getElem?_eq_getElem (by rw[fG];omega)];rfl
 have hle:=Sr (l:=l) (chosen l n) (fun x hx=>by have:=hs x hx;unfold lV at this;omega);obtain⟨p1,p2⟩:=Qt hs h1 n;rw[hc]at b⊢;refine⟨p1,?_,?_,?_,?_⟩<;>omega
def vT (k:Nat) (s p:Int):Prop:=s<=49+399*k/\p<=399*k
theorem xD {k j:Nat} {s p:Int} (h:vT k s p) (hk:k<=j):vT j s p:=by unfold vT at*;omega
theorem Qv {x:Fl} {s p r:Int} (h:bV (x,s,p,r)=true):0<=s/\s<=10000/\0<=p/\p<=10000/\0<=r/\r<=10000:=by
 have:=(rF.1 h).2;unfold inB at this;simp at this;omega
theorem EZ {x:Fl} {s p r:Int} {l:List (Int×Int)} {n:Int} {k:Nat} (h:bV (x,s,p,r)=true) (hf:vT k s p) (hb:(∀x∈l,lV x)/\1<=l.length/\l.length<=4) (hn:dQ 20 n):vT (k+1) (Ae (x,s,p,r) l n) (Ag (x,s,p,r) l n):=by
 obtain⟨n',rfl⟩:∃n':Nat,n=n':=⟨n.toNat,by unfold dQ at hn;omega⟩;have a6:n'<=19:=by unfold dQ at hn;omega
 obtain⟨_,a1,a2,a3,a4⟩:=Oy hb.1 hb.2.1 hb.2.2 (n:=n') (by omega);have hw:=Qv h;unfold Ae Ag;split
 . unfold zN;simp only;rw[IntWalk.i64_in _ (by omega),IntWalk.i64_in _ (by omega)];unfold vT at hf⊢;omega
 . exact xD hf (by omega)
theorem yG {x:Fl} {s p r:Int} {k:Nat} (i:Int) (hf:vT k s p):vT (k+1) (mD (x,s,p,r) i).2.1 (mD (x,s,p,r) i).2.2.1:=by
 unfold mD;split
 . unfold Ao vT at*;simp only;omega
 . exact xD hf (by omega)
end Go.Proofs.YtjijonhkofhikaaGreatDoor
