/- Flips between the tilings of a list, and a shortest way: plain laws. No program in sight. -/
import Derived.Test.YtfdbcihcdjjdhaaGreatDoorZDistPl
import Derived.Test.YtfdbcihcdjjdhaaGreatDoorZTilsPl
import Derived.Test.YtfdbcihcdjjdhaaGreatDoorZListSt
namespace Go.Proofs.YtfdbcihcdjjdhaaGreatDoor
set_option linter.unusedVariables false
set_option linter.unusedSimpArgs false
theorem tl_nodup:∀(n i:Nat) (S:Nat→Bool),(tl n i S).Nodup
  |0,_,_=>by simp[tl]
  | n + 1, i, S => by
   have hc : ∀ (d : Dm) (l : List (List Dm)), l.Nodup → (l.map (d :: ·)).Nodup := fun d l hl => by
    unfold List.Nodup at hl⊢
    rw[List.pairwise_map]
    exact hl.imp fun{a b} h e=>h (List.cons.inj e).2
   have hd : domRt i ≠ domDn i := fun e => by
    have:=congrArg (fun x:Dm=>x.2.2) e
    exact absurd this (by simp[domRt,domDn])
   rw[tl_succ]
   split
   · rw[List.nodup_append]
     refine⟨?_,?_,fun a ha b hb e=> ?_⟩
     · split
       · exact hc _ _ (tl_nodup n _ _)
       · exact List.nodup_nil
     · split
       · exact hc _ _ (tl_nodup n _ _)
       · exact List.nodup_nil
     · subst e
       split at ha
       · split at hb
         · obtain⟨x,_,rfl⟩:=List.mem_map.1 ha
           obtain⟨y,_,e⟩:=List.mem_map.1 hb
           exact hd (List.cons.inj e).1.symm
         · cases hb
       · cases ha
   · exact tl_nodup n _ _
theorem til_of_part {s:Nat} {t:List Dm} (hp:PartOk s t) (hall:∀j,j<64→s.testBit j=true→∃d∈t,(domSet d).testBit j=true):t∈tils s:=by
 refine tils_til.2 ⟨fun d hd=> ?_,hp.2.1,hp.2.2,fun j _ h2 h3=> ?_⟩
 · obtain⟨a,b,c⟩:=in_iff.1 (hp.1 d hd)
   exact⟨a,Nat.zero_le _,b,c⟩
 · obtain⟨d,hd,e⟩:=hall j h2 h3
   refine⟨d,hd,?_⟩
   rw[domSet_bit (in_iff.1 (hp.1 d hd)).1,Bool.or_eq_true,decide_eq_true_iff,decide_eq_true_iff]at e
   exact e
theorem tils_all {s:Nat} {t:List Dm} (h:t∈tils s) {j:Nat} (hj:j<64) (hs:s.testBit j=true):∃d∈t,(domSet d).testBit j=true:=by
 obtain⟨d,hd,e⟩:=(tils_til.1 h).all j (Nat.zero_le _) hj hs
 refine⟨d,hd,?_⟩
 rw[domSet_bit (tils_ok h d hd),Bool.or_eq_true,decide_eq_true_iff,decide_eq_true_iff]
 exact e
theorem flip_til {s:Nat} {t:List Dm} {c:Cl} (h:t∈tils s) (hk:kindOf t c≠0):flipTo t c∈tils s:=by
 have hp:=tils_part h
 obtain⟨h1,h2,h3⟩:=flip_ok hp hk
 obtain⟨hsq,g1,g2⟩:=kind_sq hk
 refine til_of_part h1 fun j hj hs=> ?_
 obtain⟨d,hd,hb⟩:=tils_all h hj hs
 have hm:∀x,x∈flipTo t c↔x∈flipPre t (goneOf (kindOf t c) c) (nextOf (kindOf t c) c)∧domOk x=true:=fun x=>sortD_mem _ x
 have hn : ∀ x, (x = (nextOf (kindOf t c) c).1 ∨ x = (nextOf (kindOf t c) c).2) → x ∈ flipTo t c := fun x hx => by
  refine(hm x).2 ⟨(flipPre_mem _ _ _ x).2 (hx.elim .inl fun q=> .inr (.inl q)),?_⟩
  rcases hx with rfl|rfl
  · exact hsq.ok.2.2.1
  · exact hsq.ok.2.2.2
 by_cases e1:d=(goneOf (kindOf t c) c).1
 · rcases cov_sq hsq.symm (j := j) (.inl (by rw [← e1]; exact hb)) with q | q
   · exact⟨_,hn _ (.inl rfl),q⟩
   · exact⟨_,hn _ (.inr rfl),q⟩
 · by_cases e2:d=(goneOf (kindOf t c) c).2
   · rcases cov_sq hsq.symm (j := j) (.inr (by rw [← e2]; exact hb)) with q | q
     · exact⟨_,hn _ (.inl rfl),q⟩
     · exact⟨_,hn _ (.inr rfl),q⟩
   · exact⟨d,(hm d).2 ⟨(flipPre_mem _ _ _ d).2 (.inr (.inr ⟨hd,e1,e2⟩)),tils_ok h d hd⟩,hb⟩
def flips (l:List Dm):List Cl:=((List.range 64).map ixCell).filter fun c=>decide (kindOf l c≠0)
theorem mem_flips {l:List Dm} {c:Cl}:c∈flips l↔kindOf l c≠0:=by
 unfold flips
 rw[List.mem_filter,decide_eq_true_iff]
 refine⟨fun h=>h.2,fun h=>⟨?_,h⟩⟩
 have hi:=kind_in h
 unfold inFlip at hi
 rw[Bool.and_eq_true,decide_eq_true_iff,decide_eq_true_iff]at hi
 obtain⟨x,y⟩:=c
 simp only at hi
 refine List.mem_map.2 ⟨(y*8+x).toNat,List.mem_range.2 (by omega),?_⟩
 unfold ixCell
 apply Prod.ext
 · simp only;omega
 · simp only;omega
def ix:List (List Dm)→List Dm→Nat
  |[],_=>0
  |a::r,m=>if a=m then 0 else ix r m+1
theorem ix_mem:∀{T:List (List Dm)} {m:List Dm},m∈T→∃h:ix T m<T.length,T[ix T m]=m
  | a :: r, m, h => by
   by_cases e:a=m
   · have:ix (a::r) m=0:=if_pos e
     refine⟨by rw[this];simp,?_⟩
     simp only[this]
     exact e
   · have e2:ix (a::r) m=ix r m+1:=if_neg e
     obtain⟨h1,h2⟩:=ix_mem ((List.mem_cons.1 h).resolve_left (fun q=>e q.symm))
     refine⟨by rw[e2,List.length_cons];omega,?_⟩
     simp only[e2,List.getElem_cons_succ]
     exact h2
theorem ix_at {T:List (List Dm)} (hd:T.Nodup) {i:Nat} (hi:i<T.length):ix T T[i]=i:=by
 obtain⟨h1,h2⟩:=ix_mem (List.getElem_mem hi)
 exact(List.getElem_inj hd).1 h2
def indexI (T:List (List Dm)) (m:List Dm):Int:=if m∈T then((ix T m:Nat):Int)else-1
theorem ix_first : ∀ {T : List (List Dm)} {m : List Dm} {k : Nat} (hk : k < T.length), (∀ j (h : j < k), T[j]'(by omega) ≠ m) → T[k] = m → ix T m = k
  |[],m,k,hk,_,_=>by simp at hk
  | a :: r, m, 0, hk, _, e => by
   have e':a=m:=e
   exact if_pos e'
  | a :: r, m, k + 1, hk, h, e => by
   have e1:¬a=m:=h 0 (Nat.succ_pos _)
   have e2:ix (a::r) m=ix r m+1:=if_neg e1
   rw[e2,ix_first (k:=k) (by simpa using hk) (fun j hj=>h (j+1) (by omega)) (by simpa using e)]
theorem index_hit {T : List (List Dm)} {m : List Dm} {k : Nat} (hk : k < T.length) (h : ∀ j (h : j < k), T[j]'(by omega) ≠ m) (e : T[k] = m) : indexI T m = (k : Int) := by
 unfold indexI
 rw[if_pos (e▸List.getElem_mem hk),ix_first hk h e]
theorem index_miss {T:List (List Dm)} {m:List Dm} (h:∀j (h:j<T.length),T[j]≠m):indexI T m= -1:=by
 unfold indexI
 rw[if_neg]
 intro hm
 obtain⟨j,hj,e⟩:=List.getElem_of_mem hm
 exact h j hj e
def til (T:List (List Dm)) (i:Nat):List Dm:=T.getD i []
theorem til_at {T:List (List Dm)} {i:Nat} (hi:i<T.length):til T i=T[i]:=by unfold til;rw[List.getD_eq_getElem?_getD,List.getElem?_eq_getElem hi];rfl
def links (T:List (List Dm)) (j:Nat):List Nat:=(flips (til T j)).map fun c=>ix T (flipTo (til T j) c)
def Edge (T:List (List Dm)) (j i:Nat):Prop:=j<T.length∧i∈links T j
structure FlipSet (T:List (List Dm)):Prop where
  nd:T.Nodup
  cl:∀t∈T,∀c,kindOf t c≠0→flipTo t c∈T∧kindOf (flipTo t c) c≠0∧flipTo (flipTo t c) c=t
  sm:T.length≤300
theorem set_list (rows:List Int):FlipSet (listRows rows):=by
 unfold listRows
 split
 · rename_i h
   have hr:RowsOk rows:=by
    by_cases hr:regionOk rows=true
    · exact regionOk_iff.1 hr
    · unfold cntRows at h
      rw[if_neg hr]at h
      simp[inB]at h
   refine⟨tl_nodup _ _ _,fun t ht c hk=>⟨flip_til ht hk,?_⟩,?_⟩
   · obtain⟨_,h2,h3⟩:=flip_ok (tils_part ht) hk
     exact⟨h2,h3⟩
   · have:=cntRows_is hr
     simp[inB]at h
     omega
 · exact⟨List.nodup_nil,(fun t ht=>by cases ht),by decide⟩
theorem link_lt {T:List (List Dm)} (hT:FlipSet T) {j i:Nat} (h:Edge T j i):i<T.length:=by
 obtain⟨hj,hi⟩:=h
 obtain⟨c,hc,rfl⟩:=List.mem_map.1 hi
 rw[til_at hj]at hc⊢
 exact(ix_mem (hT.cl _ (List.getElem_mem hj) c (mem_flips.1 hc)).1).1
theorem edge_symm {T:List (List Dm)} (hT:FlipSet T) {j i:Nat} (h:Edge T j i):Edge T i j:=by
 have hlt:=link_lt hT h
 obtain⟨hj,hi⟩:=h
 obtain⟨c,hc,rfl⟩:=List.mem_map.1 hi
 rw[til_at hj]at hc hlt⊢
 obtain⟨h1,h2,h3⟩:=hT.cl _ (List.getElem_mem hj) c (mem_flips.1 hc)
 obtain⟨h4,h5⟩:=ix_mem h1
 refine⟨hlt,List.mem_map.2 ⟨c,?_,?_⟩⟩
 · rw[til_at h4,h5];exact mem_flips.2 h2
 · rw[til_at h4,h5,h3];exact ix_at hT.nd hj
def stepC (T:List (List Dm)) (f:Nat→Int) (i:Nat):Option Cl:=(flips (til T i)).find? fun c=>decide (f (ix T (flipTo (til T i) c))=f i-1)
def nextI (T:List (List Dm)) (i:Nat) (c:Cl):Nat:=ix T (flipTo (til T i) c)
def wayGo (T:List (List Dm)) (f:Nat→Int):Nat→Nat→List Cl
  |0,_=>[]
  | m + 1, i => match stepC T f i with
    |some c=>c::wayGo T f m (nextI T i c)
    |none=>[]
theorem step_some {T:List (List Dm)} (hT:FlipSet T) {k n:Nat} {f:Nat→Int} (hd:IsDist (Edge T) k n f) {i:Nat} {m:Nat} (hf:f i=m+1):∃c,stepC T f i=some c∧kindOf (til T i) c≠0∧f (nextI T i c)=m∧nextI T i c<T.length∧i<T.length:=by
 obtain⟨j,hj,he⟩:=hd.pre i m (by omega) hf
 have hs:=edge_symm hT he
 have hi:=link_lt hT he
 obtain⟨_,hm⟩:=hs
 obtain⟨c,hc,rfl⟩:=List.mem_map.1 hm
 cases h:stepC T f i with
 |none=>
  have:=List.find?_eq_none.1 h c hc
  simp only[decide_eq_true_eq]at this
  exact absurd (by rw[hj,hf];omega) this
 |some d=>
  have h1:=List.find?_some h
  have h2:=List.mem_of_find?_eq_some h
  simp only[decide_eq_true_eq]at h1
  have hk:=mem_flips.1 h2
  refine⟨d,rfl,hk,?_,?_,hi⟩
  · unfold nextI;rw[h1,hf];omega
  · exact link_lt hT ⟨hi,List.mem_map.2 ⟨d,h2,rfl⟩⟩
theorem way_succ {T:List (List Dm)} {f:Nat→Int} {m i:Nat} {c:Cl} (h:stepC T f i=some c):wayGo T f (m+1) i=c::wayGo T f m (nextI T i c):=by
 rw[wayGo,h]
theorem way_len (T:List (List Dm)) (f:Nat→Int):∀(m i:Nat),(wayGo T f m i).length≤m
  |0,_=>Nat.zero_le _
  | m + 1, i => by
   rw[wayGo]
   split
   · rename_i c _
     rw[List.length_cons];have:=way_len T f m (nextI T i c);omega
   · exact Nat.zero_le _
open Classical in
noncomputable def dist (T:List (List Dm)) (k:Nat):Nat→Int:=if h:∃f,IsDist (Edge T) k T.length f then h.choose else fun _=> -1
theorem dist_of {T:List (List Dm)} {k:Nat} {f:Nat→Int} (h:IsDist (Edge T) k T.length f):dist T k=f:=by
 have hx:∃f,IsDist (Edge T) k T.length f:=⟨f,h⟩
 unfold dist
 rw[dif_pos hx]
 funext i
 exact hx.choose_spec.same h i
noncomputable def wayB (rows:List Int) (a b:List Dm):Bool:=decide (a∈listRows rows)&&decide (b∈listRows rows)&&decide (0≤dist (listRows rows) (ix (listRows rows) b) (ix (listRows rows) a))
noncomputable def wayL (rows:List Int) (a b:List Dm):List Cl:=if wayB rows a b=true then wayGo (listRows rows) (dist (listRows rows) (ix (listRows rows) b)) (dist (listRows rows) (ix (listRows rows) b) (ix (listRows rows) a)).toNat (ix (listRows rows) a)else[]
end Go.Proofs.YtfdbcihcdjjdhaaGreatDoor
