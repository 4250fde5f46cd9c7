/- Flips between the tilings of a list, and a shortest way: plain laws. No program in sight. Repairs: plain laws. No program in sight. DERIVED: THE SHELF's CONTRACTS AT THIS DUMP, IN PLAIN WORDS (tools/lay-plain.mjs out of 'TryzShelf.lean', which tools/lay-shelf.mjs wrote): THE SAME DECLARATIONS UNDER THE SAME NAMES: 'import', 'namespace', 'open', 'def', 'theorem' AND NOTHING ELSE: no command of the shelf's: FOR A HAND-IN. Each laying: the table of numbers ('.._ren') and one theorem, a field a fact of the dump's own or the kernel's comparison; each contract: ONE APPLICATION. Numbers and lines as texts: FormatInt of both sides, lineOf. Conditions: numbers from 0 on; the library's table of powers, as its text lays it. FormatAct of both sides: the walks, and the law's. Conditions: the library's table of powers, as its text lays it. Lines cut at blanks, numbers and acts as texts, read back: plain laws. No program in sight. Dominoes as text: plain laws. No program in sight. The links of a list of tilings, as both sides hold them: plain laws. No program in sight. A list of waiting places that is cut at its head and appended to: the steps of a walk. Plain lemmas; no conditions. -/
import Derived.Test.YtfdbcihcdjjdhaaGreatDoorYDistPl
import Derived.Test.YtfdbcihcdjjdhaaGreatDoorYG22
import Derived.Test.YtfdbcihcdjjdhaaGreatDoorYListSt
import Derived.Shelf.Strings.Builder1
import Derived.Shelf.Strings.Builder2
import Derived.Shelf.Strings.OnBuilder
import Derived.Shelf.Strings.BuilderF
import Derived.Shelf.Strings.BuilderK
import Derived.Shelf.Strings.Builder2Cap
import Derived.Shelf.Strconv.Atoi
import Derived.Shelf.Strconv.Itoa0
import Derived.Shelf.Strconv.Itoa1
import Derived.Shelf.LaysM
import Derived.Shelf.Strconv.Itoa2
import Derived.Shelf.Strconv.Itoa3
import Derived.Shelf.Strconv.AtoiErrFast
import Derived.Shelf.Strconv.ParseIntEmpty
import Derived.Shelf.Strconv.AtoiFail
import Derived.Shelf.Strconv.Clone
import Derived.Shelf.Strconv.SyntaxError
import Derived.Shelf.LaysC
import Derived.Shelf.Strconv.ToError
import Derived.Shelf.Strconv.AtoiErr
import Derived.Shelf.Strconv.ErrVar
import Derived.Shelf.Strings.Search1
import Derived.Shelf.Strings.Search2
import Derived.Shelf.Strings.Search3
import Derived.Shelf.Strings.Count
import Derived.Shelf.Strings.Shaped
import Derived.Shelf.Strings.Split
import Derived.Shelf.Strings.SplitShaped
import Derived.Shelf.Unicode.DecodeSlow
import Derived.Shelf.Strings.BuilderCap
import Derived.Test.YtfdbcihcdjjdhaaGreatDoorProg
import Derived.Test.YtfdbcihcdjjdhaaGreatDoorYK1
import Derived.Laws.BytesArg
import Derived.Lib.ItoaLen
import Derived.Lib.Join
import Derived.Lib.AppendIntMem
import Derived.Test.YtfdbcihcdjjdhaaGreatDoorYK2
import Derived.Lib.Atoi
import Derived.Test.YtfdbcihcdjjdhaaGreatDoorYK5
import Derived.Maps.Views
import Derived.ArgAppend
namespace Go.Proofs.YtfdbcihcdjjdhaaGreatDoor
set_option linter.unusedVariables false
set_option linter.unusedSimpArgs false
set_option maxHeartbeats 4000000
set_option maxRecDepth 100000
theorem tl_nodup:∀(n i:Nat) (S:Nat→Bool),(tl n i S).Nodup
  |0,_,_=>by simp[tl]
  | n + 1, i, S => by
   have hc : ∀ (d : Dm) (l : List (List Dm)), l.Nodup → (l.map (d :: ·)).Nodup := fun d l hl => by
    unfold List.Nodup at hl⊢;rw[List.pairwise_map];exact hl.imp fun{a b} h e=>h (List.cons.inj e).2
   have hd : domRt i ≠ domDn i := fun e => by
    have:=congrArg (fun x:Dm=>x.2.2) e;exact absurd this (by simp[domRt,domDn])
   rw[tl_succ];split
   · rw[List.nodup_append];refine⟨?_,?_,fun a ha b hb e=> ?_⟩
     · split
       · exact hc _ _ (tl_nodup n _ _)
       · exact List.nodup_nil
     · split
       · exact hc _ _ (tl_nodup n _ _)
       · exact List.nodup_nil
     · subst e;split at ha
       · split at hb
         · obtain⟨x,_,rfl⟩:=List.mem_map.1 ha;obtain⟨y,_,e⟩:=List.mem_map.1 hb;exact hd (List.cons.inj e).1.symm
         · cases hb
       · cases ha
   · exact tl_nodup n _ _
theorem til_of_part {s:Nat} {t:List Dm} (hp:PartOk s t) (hall:∀j,j<64→s.testBit j=true→∃d∈t,(domSet d).testBit j=true):t∈tils s:=by
 refine tils_til.2 ⟨fun d hd=> ?_,hp.2.1,hp.2.2,fun j _ h2 h3=> ?_⟩
 · obtain⟨a,b,c⟩:=in_iff.1 (hp.1 d hd);exact⟨a,Nat.zero_le _,b,c⟩
 · obtain⟨d,hd,e⟩:=hall j h2 h3;refine⟨d,hd,?_⟩;rw[domSet_bit (in_iff.1 (hp.1 d hd)).1,Bool.or_eq_true,decide_eq_true_iff,decide_eq_true_iff]at e;exact e
theorem tils_all {s:Nat} {t:List Dm} (h:t∈tils s) {j:Nat} (hj:j<64) (hs:s.testBit j=true):∃d∈t,(domSet d).testBit j=true:=by
 obtain⟨d,hd,e⟩:=(tils_til.1 h).all j (Nat.zero_le _) hj hs;refine⟨d,hd,?_⟩;rw[domSet_bit (tils_ok h d hd),Bool.or_eq_true,decide_eq_true_iff,decide_eq_true_iff];exact e
theorem flip_til {s:Nat} {t:List Dm} {c:Cl} (h:t∈tils s) (hk:kindOf t c≠0):flipTo t c∈tils s:=by
 have hp:=tils_part h;obtain⟨h1,h2,h3⟩:=flip_ok hp hk;obtain⟨hsq,g1,g2⟩:=kind_sq hk;refine til_of_part h1 fun j hj hs=> ?_
 obtain⟨d,hd,hb⟩:=tils_all h hj hs;have hm:∀x,x∈flipTo t c↔x∈flipPre t (goneOf (kindOf t c) c) (nextOf (kindOf t c) c)∧domOk x=true:=fun x=>sortD_mem _ x
 have hn : ∀ x, (x = (nextOf (kindOf t c) c).1 ∨ x = (nextOf (kindOf t c) c).2) → x ∈ flipTo t c := fun x hx => by
  refine(hm x).2 ⟨(flipPre_mem _ _ _ x).2 (hx.elim .inl fun q=> .inr (.inl q)),?_⟩;rcases hx with rfl|rfl
  · exact hsq.ok.2.2.1
  · exact hsq.ok.2.2.2
 by_cases e1:d=(goneOf (kindOf t c) c).1
 · rcases cov_sq hsq.symm (j := j) (.inl (by rw [← e1]; exact hb)) with q | q
   · exact⟨_,hn _ (.inl rfl),q⟩
   · exact⟨_,hn _ (.inr rfl),q⟩
 · by_cases e2:d=(goneOf (kindOf t c) c).2
   · rcases cov_sq hsq.symm (j := j) (.inr (by rw [← e2]; exact hb)) with q | q
     · exact⟨_,hn _ (.inl rfl),q⟩
     · exact⟨_,hn _ (.inr rfl),q⟩
   · exact⟨d,(hm d).2 ⟨(flipPre_mem _ _ _ d).2 (.inr (.inr ⟨hd,e1,e2⟩)),tils_ok h d hd⟩,hb⟩
def flips (l:List Dm):List Cl:=((List.range 64).map ixCell).filter fun c=>decide (kindOf l c≠0)
theorem mem_flips {l:List Dm} {c:Cl}:c∈flips l↔kindOf l c≠0:=by
 unfold flips;rw[List.mem_filter,decide_eq_true_iff];refine⟨fun h=>h.2,fun h=>⟨?_,h⟩⟩;have hi:=kind_in h;unfold inFlip at hi;rw[Bool.and_eq_true,decide_eq_true_iff,decide_eq_true_iff]at hi;obtain⟨x,y⟩:=c;simp only at hi;refine List.mem_map.2 ⟨(y*8+x).toNat,List.mem_range.2 (by omega),?_⟩;unfold ixCell;apply Prod.ext
 · simp only;omega
 · simp only;omega
def ix:List (List Dm)→List Dm→Nat
  |[],_=>0
  |a::r,m=>if a=m then 0 else ix r m+1
theorem ix_mem:∀{T:List (List Dm)} {m:List Dm},m∈T→∃h:ix T m<T.length,T[ix T m]=m
  | a :: r, m, h => by
   by_cases e:a=m
   · have:ix (a::r) m=0:=if_pos e;refine⟨by rw[this];simp,?_⟩;simp only[this];exact e
   · have e2:ix (a::r) m=ix r m+1:=if_neg e;obtain⟨h1,h2⟩:=ix_mem ((List.mem_cons.1 h).resolve_left (fun q=>e q.symm));refine⟨by rw[e2,List.length_cons];omega,?_⟩;simp only[e2,List.getElem_cons_succ];exact h2
theorem ix_at {T:List (List Dm)} (hd:T.Nodup) {i:Nat} (hi:i<T.length):ix T T[i]=i:=by
 obtain⟨h1,h2⟩:=ix_mem (List.getElem_mem hi);exact(List.getElem_inj hd).1 h2
def indexI (T:List (List Dm)) (m:List Dm):Int:=if m∈T then((ix T m:Nat):Int)else-1
theorem ix_first : ∀ {T : List (List Dm)} {m : List Dm} {k : Nat} (hk : k < T.length), (∀ j (h : j < k), T[j]'(by omega) ≠ m) → T[k] = m → ix T m = k
  |[],m,k,hk,_,_=>by simp at hk
  | a :: r, m, 0, hk, _, e => by
   have e':a=m:=e;exact if_pos e'
  | a :: r, m, k + 1, hk, h, e => by
   have e1:¬a=m:=h 0 (Nat.succ_pos _);have e2:ix (a::r) m=ix r m+1:=if_neg e1;rw[e2,ix_first (k:=k) (by simpa using hk) (fun j hj=>h (j+1) (by omega)) (by simpa using e)]
theorem index_hit {T : List (List Dm)} {m : List Dm} {k : Nat} (hk : k < T.length) (h : ∀ j (h : j < k), T[j]'(by omega) ≠ m) (e : T[k] = m) : indexI T m = (k : Int) := by
 unfold indexI;rw[if_pos (e▸List.getElem_mem hk),ix_first hk h e]
theorem index_miss {T:List (List Dm)} {m:List Dm} (h:∀j (h:j<T.length),T[j]≠m):indexI T m= -1:=by
 unfold indexI;rw[if_neg];intro hm;obtain⟨j,hj,e⟩:=List.getElem_of_mem hm;exact h j hj e
def til (T:List (List Dm)) (i:Nat):List Dm:=T.getD i []
theorem til_at {T:List (List Dm)} {i:Nat} (hi:i<T.length):til T i=T[i]:=by unfold til;rw[List.getD_eq_getElem?_getD,List.getElem?_eq_getElem hi];rfl
def links (T:List (List Dm)) (j:Nat):List Nat:=(flips (til T j)).map fun c=>ix T (flipTo (til T j) c)
def Edge (T:List (List Dm)) (j i:Nat):Prop:=j<T.length∧i∈links T j
structure FlipSet (T:List (List Dm)):Prop where
  nd:T.Nodup
  cl:∀t∈T,∀c,kindOf t c≠0→flipTo t c∈T∧kindOf (flipTo t c) c≠0∧flipTo (flipTo t c) c=t
  sm:T.length≤300
theorem set_list (rows:List Int):FlipSet (listRows rows):=by
 unfold listRows;split
 · rename_i h
   have hr:RowsOk rows:=by
    by_cases hr:regionOk rows=true
    · exact regionOk_iff.1 hr
    · unfold cntRows at h;rw[if_neg hr]at h;simp[inB]at h
   refine⟨tl_nodup _ _ _,fun t ht c hk=>⟨flip_til ht hk,?_⟩,?_⟩
   · obtain⟨_,h2,h3⟩:=flip_ok (tils_part ht) hk;exact⟨h2,h3⟩
   · have:=cntRows_is hr;simp[inB]at h;omega
 · exact⟨List.nodup_nil,(fun t ht=>by cases ht),by decide⟩
theorem link_lt {T:List (List Dm)} (hT:FlipSet T) {j i:Nat} (h:Edge T j i):i<T.length:=by
 obtain⟨hj,hi⟩:=h;obtain⟨c,hc,rfl⟩:=List.mem_map.1 hi;rw[til_at hj]at hc⊢;exact(ix_mem (hT.cl _ (List.getElem_mem hj) c (mem_flips.1 hc)).1).1
theorem edge_symm {T:List (List Dm)} (hT:FlipSet T) {j i:Nat} (h:Edge T j i):Edge T i j:=by
 have hlt:=link_lt hT h;obtain⟨hj,hi⟩:=h;obtain⟨c,hc,rfl⟩:=List.mem_map.1 hi;rw[til_at hj]at hc hlt⊢;obtain⟨h1,h2,h3⟩:=hT.cl _ (List.getElem_mem hj) c (mem_flips.1 hc);obtain⟨h4,h5⟩:=ix_mem h1;refine⟨hlt,List.mem_map.2 ⟨c,?_,?_⟩⟩
 · rw[til_at h4,h5];exact mem_flips.2 h2
 · rw[til_at h4,h5,h3];exact ix_at hT.nd hj
def stepC (T:List (List Dm)) (f:Nat→Int) (i:Nat):Option Cl:=(flips (til T i)).find? fun c=>decide (f (ix T (flipTo (til T i) c))=f i-1)
def nextI (T:List (List Dm)) (i:Nat) (c:Cl):Nat:=ix T (flipTo (til T i) c)
def wayGo (T:List (List Dm)) (f:Nat→Int):Nat→Nat→List Cl
  |0,_=>[]
  | m + 1, i => match stepC T f i with
    |some c=>c::wayGo T f m (nextI T i c)
    |none=>[]
theorem step_some {T:List (List Dm)} (hT:FlipSet T) {k n:Nat} {f:Nat→Int} (hd:IsDist (Edge T) k n f) {i:Nat} {m:Nat} (hf:f i=m+1):∃c,stepC T f i=some c∧kindOf (til T i) c≠0∧f (nextI T i c)=m∧nextI T i c<T.length∧i<T.length:=by
 obtain⟨j,hj,he⟩:=hd.pre i m (by omega) hf;have hs:=edge_symm hT he;have hi:=link_lt hT he;obtain⟨_,hm⟩:=hs;obtain⟨c,hc,rfl⟩:=List.mem_map.1 hm;cases h:stepC T f i with
 |none=>
  have:=List.find?_eq_none.1 h c hc;simp only[decide_eq_true_eq]at this;exact absurd (by rw[hj,hf];omega) this
 |some d=>
  have h1:=List.find?_some h;have h2:=List.mem_of_find?_eq_some h;simp only[decide_eq_true_eq]at h1;have hk:=mem_flips.1 h2;refine⟨d,rfl,hk,?_,?_,hi⟩
  · unfold nextI;rw[h1,hf];omega
  · exact link_lt hT ⟨hi,List.mem_map.2 ⟨d,h2,rfl⟩⟩
theorem way_succ {T:List (List Dm)} {f:Nat→Int} {m i:Nat} {c:Cl} (h:stepC T f i=some c):wayGo T f (m+1) i=c::wayGo T f m (nextI T i c):=by
 rw[wayGo,h]
theorem way_len (T:List (List Dm)) (f:Nat→Int):∀(m i:Nat),(wayGo T f m i).length≤m
  |0,_=>Nat.zero_le _
  | m + 1, i => by
   rw[wayGo];split
   · rename_i c _;rw[List.length_cons];have:=way_len T f m (nextI T i c);omega
   · exact Nat.zero_le _
open Classical in
noncomputable def dist (T:List (List Dm)) (k:Nat):Nat→Int:=if h:∃f,IsDist (Edge T) k T.length f then h.choose else fun _=> -1
theorem dist_of {T:List (List Dm)} {k:Nat} {f:Nat→Int} (h:IsDist (Edge T) k T.length f):dist T k=f:=by
 have hx:∃f,IsDist (Edge T) k T.length f:=⟨f,h⟩;unfold dist;rw[dif_pos hx];funext i
 exact hx.choose_spec.same h i
noncomputable def wayB (rows:List Int) (a b:List Dm):Bool:=decide (a∈listRows rows)&&decide (b∈listRows rows)&&decide (0≤dist (listRows rows) (ix (listRows rows) b) (ix (listRows rows) a))
noncomputable def wayL (rows:List Int) (a b:List Dm):List Cl:=if wayB rows a b=true then wayGo (listRows rows) (dist (listRows rows) (ix (listRows rows) b)) (dist (listRows rows) (ix (listRows rows) b) (ix (listRows rows) a)).toNat (ix (listRows rows) a)else[]
def chgTo (a b:List Dm) (k:Nat):Nat:=((a.take k).filter fun d=> !b.contains d).length
def chg (a b:List Dm):Nat:=(a.filter fun d=> !b.contains d).length
theorem chgTo_all (a b:List Dm):chgTo a b a.length=chg a b:=by unfold chgTo chg;rw[List.take_length]
theorem chgTo_succ {a b:List Dm} {k:Nat} (h:k<a.length):chgTo a b (k+1)=chgTo a b k+(if b.contains a[k]=true then 0 else 1):=by
 unfold chgTo;rw[List.take_succ_eq_append_getElem h,List.filter_append,List.length_append];congr 1
 by_cases hc:b.contains a[k]=true
 · rw[if_pos hc,List.filter_cons_of_neg (by rw[hc];simp)];rfl
 · rw[if_neg hc,List.filter_cons_of_pos (by simpa using hc)];rfl
theorem chgTo_le (a b:List Dm) (k:Nat):chgTo a b k≤k:=by
 unfold chgTo;refine Nat.le_trans (List.length_filter_le _ _) ?_;rw[List.length_take];omega
theorem chg_le (a b:List Dm):chg a b≤a.length:=List.length_filter_le _ _
def betterOf (list:List Dm) (d:Dm) (b:Option (List Dm)) (t:List Dm):Option (List Dm):=
 if t.contains d = true then b else match b with
   |none=>some t
   |some m=>if chg list t<chg list m then some t else some m
def bestTo (T:List (List Dm)) (list:List Dm) (d:Dm) (k:Nat):Option (List Dm):=(T.take k).foldl (betterOf list d) none
def best (T:List (List Dm)) (list:List Dm) (d:Dm):Option (List Dm):=T.foldl (betterOf list d) none
theorem bestTo_all (T:List (List Dm)) (list:List Dm) (d:Dm):bestTo T list d T.length=best T list d:=by unfold bestTo best;rw[List.take_length]
theorem bestTo_succ {T:List (List Dm)} {list:List Dm} {d:Dm} {k:Nat} (h:k<T.length):bestTo T list d (k+1)=betterOf list d (bestTo T list d k) T[k]:=by
 unfold bestTo;rw[List.take_succ_eq_append_getElem h,List.foldl_append];rfl
def repB (rows:List Int) (l:List Dm) (d:Dm):Bool:=decide (l∈listRows rows)&&(best (listRows rows) l d).isSome
def repL (rows:List Int) (l:List Dm) (d:Dm):List Dm:=if l∈listRows rows then(best (listRows rows) l d).getD []else[]
theorem tils_nm {s:Nat} {t u:List Dm} (ht:t∈tils s) (hu:u∈tils s) (h:t≠[]):u≠[]:=by
 intro e;subst e;obtain⟨d,hd⟩:=List.exists_mem_of_ne_nil t h;have h1:=tils_part ht;obtain⟨a,b,c⟩:=in_iff.1 (h1.1 d hd)
 have hlt:domI d<64:=by
  have:=(cellIx_in (domOk_cells a).1).2;unfold domI;omega
 obtain⟨e,he,_⟩:=tils_all hu hlt b;cases he
theorem list_ne {rows:List Int} {t u:List Dm} (ht:t∈listRows rows) (hu:u∈listRows rows) (h:t≠[]):u≠[]:=by
 unfold listRows at ht hu;split at ht
 · rename_i q;rw[if_pos q]at hu;exact tils_nm ht hu h
 · cases ht
theorem list_ok {rows:List Int} {t:List Dm} (ht:t∈listRows rows):∀d∈t,domOk d=true:=by
 unfold listRows at ht;split at ht
 · exact tils_ok ht
 · cases ht
theorem best_mem {list:List Dm} {d:Dm}:∀(T:List (List Dm)) (b:Option (List Dm)) (m:List Dm),T.foldl (betterOf list d) b=some m→b=some m∨m∈T
  |[],b,m,h=> .inl h
  | t :: T, b, m, h => by
   rw[List.foldl_cons]at h;rcases best_mem T _ m h with h|h
   · unfold betterOf at h;split at h
     · exact .inl h
     · split at h
       · injection h with h;subst h;exact .inr List.mem_cons_self
       · split at h
         · injection h with h;subst h;exact .inr List.mem_cons_self
         · exact .inl h
   · exact .inr (List.mem_cons_of_mem _ h)
end Go.Proofs.YtfdbcihcdjjdhaaGreatDoor
namespace Go.Proofs
open Go.Shelf
set_option maxHeartbeats 4000000
set_option maxRecDepth 100000
def Tryz.lays156_ren:Go.Shelf.Ren:=⟨fun|156=>145|165=>217|166=>218|169=>219|240=>255|241=>256|276=>278|277=>279|n=>n,fun|31=>98|9=>9|3=>3|4=>4|0=>0|20=>20|72=>212|76=>208|70=>210|37=>65|75=>207|127=>240|164=>261|5=>5|80=>214|n=>n,fun|n=>n⟩
theorem Tryz.lays156 : Go.Proofs.Lays.n156 Tryz.prog Tryz.lays156_ren := {
  mixed:=by kernel_rfl
  f156:=Tryz.func145.trans (congrArg some (by kernel_rfl))
  f165:=Tryz.func217.trans (congrArg some (by kernel_rfl))
  f166:=Tryz.func218.trans (congrArg some (by kernel_rfl))
  f169:=Tryz.func219.trans (congrArg some (by kernel_rfl))
  f240:=Tryz.func255.trans (congrArg some (by kernel_rfl))
  f241:=Tryz.func256.trans (congrArg some (by kernel_rfl))
  f276:=Tryz.func278.trans (congrArg some (by kernel_rfl))
  f277:=Tryz.func279.trans (congrArg some (by kernel_rfl))
  t0:=Tryz.underlying0
  a0:=Tryz.isAgg0
  z0:=Tryz.sizeOf0
  v0:=Tryz.zeroValue0
  t3:=Tryz.underlying3
  a3:=Tryz.isAgg3
  z3:=Tryz.sizeOf3
  v3:=Tryz.zeroValue3
  t4:=Tryz.underlying4
  a4:=Tryz.isAgg4
  z4:=Tryz.sizeOf4
  v4:=Tryz.zeroValue4
  t9:=Tryz.underlying9
  a9:=Tryz.isAgg9
  z9:=Tryz.sizeOf9
  v9:=Tryz.zeroValue9
  t20:=Tryz.underlying20
  a20:=Tryz.isAgg20
  z20:=Tryz.sizeOf20
  v20:=Tryz.zeroValue20
  t31:=Tryz.underlying98
  a31:=Tryz.isAgg98
  z31:=Tryz.sizeOf98
  v31:=Tryz.zeroValue98
  t37:=Tryz.underlying65
  a37:=Tryz.isAgg65
  z37:=Tryz.sizeOf65
  v37:=Tryz.zeroValue65
  t70:=Tryz.underlying210
  a70:=Tryz.isAgg210
  z70:=Tryz.sizeOf210
  v70:=Tryz.zeroValue210
  t72:=Tryz.underlying212
  a72:=Tryz.isAgg212
  z72:=Tryz.sizeOf212
  v72:=Tryz.zeroValue212
  t75:=Tryz.underlying207
  a75:=Tryz.isAgg207
  z75:=Tryz.sizeOf207
  v75:=Tryz.zeroValue207
  t76:=Tryz.underlying208
  a76:=Tryz.isAgg208
  z76:=Tryz.sizeOf208
  v76:=Tryz.zeroValue208
  t127:=Tryz.underlying240
  a127:=Tryz.isAgg240
  z127:=Tryz.sizeOf240
  v127:=Tryz.zeroValue240
  t164:=Tryz.underlying261
  a164:=Tryz.isAgg261
  z164:=Tryz.sizeOf261
  v164:=Tryz.zeroValue261}
theorem Tryz.Builder_Extra_156 : Builder.Extra Tryz.prog Tryz.lays156_ren := {
  sizeBuilder:=by kernel_rfl
  liesBuilder:=by kernel_rfl
  t5:=Tryz.underlying5
  a5:=Tryz.isAgg5
  z5:=Tryz.sizeOf5
  v5:=Tryz.zeroValue5
  infoByte:=by kernel_rfl
  cellsByte:=by kernel_rfl
  sizeByte:=by kernel_rfl
  neB5:=by decide}
open Go.RowKit in
theorem Tryz.strings_Join_none (a:Option Addr) (c:Nat) (sep:ByteArray) (w:World):
 Calls Tryz.prog 145 #[.slice a 0 c,.string sep] w fun e w'=>e= .returned (.string ⟨#[]⟩)∧w'=w:=Any.strings_Join_none Tryz.lays156 Tryz.Builder_Extra_156 a c sep w
open Go.RowKit in
theorem Tryz.strings_Join (bk o c:Nat) (xs:List ByteArray) (sep:ByteArray) (w:World) (hcells:∀(j:Nat) x,xs[j]? =some x→w.cell? ⟨bk,o+j,none⟩=some (.string x)) (hbk:bk<w.heap.size) (hN:xs.length≤140737488355328) (hcap:xs.length≤c) (hlen:(Lib.join (xs.map (·.data.toList)) sep.data.toList).length≤140737488355328):
 Calls Tryz.prog 145 #[.slice (some ⟨bk,o,none⟩) xs.length c,.string sep] w fun e w'=>e= .returned (.string ⟨(Lib.join (xs.map (·.data.toList)) sep.data.toList).toArray⟩)∧Below w.heap.size w w':=Any.strings_Join Tryz.lays156 Tryz.Builder_Extra_156 bk o c xs sep w hcells hbk hN hcap hlen
def Tryz.laysM171_ren:Go.Shelf.Ren:=⟨fun|171=>142|243=>215|246=>252|283=>269|284=>270|285=>271|286=>272|129=>286|317=>285|318=>287|319=>288|320=>289|337=>298|338=>299|n=>n,fun|3=>3|9=>9|2=>2|4=>4|171=>250|0=>0|53=>153|37=>65|5=>5|173=>253|212=>269|51=>270|20=>20|213=>271|46=>237|232=>291|233=>292|n=>n,fun|17=>0|18=>6|19=>7|n=>n⟩
theorem Tryz.laysM171 : Go.Proofs.LaysM.n171 Tryz.prog Tryz.laysM171_ren := {
  mixed:=by kernel_rfl
  f129:=Tryz.func286.trans (congrArg some (by kernel_rfl))
  f171:=Tryz.func142.trans (congrArg some (by kernel_rfl))
  f243:=Tryz.func215.trans (congrArg some (by kernel_rfl))
  f246:=Tryz.func252.trans (congrArg some (by kernel_rfl))
  f283:=Tryz.func269.trans (congrArg some (by kernel_rfl))
  f284:=Tryz.func270.trans (congrArg some (by kernel_rfl))
  f285:=Tryz.func271.trans (congrArg some (by kernel_rfl))
  f286:=Tryz.func272.trans (congrArg some (by kernel_rfl))
  f317:=Tryz.func285.trans (congrArg some (by kernel_rfl))
  f318:=Tryz.func287.trans (congrArg some (by kernel_rfl))
  f319:=Tryz.func288.trans (congrArg some (by kernel_rfl))
  f320:=Tryz.func289.trans (congrArg some (by kernel_rfl))
  f337:=Tryz.func298.trans (congrArg some (by kernel_rfl))
  f338:=Tryz.func299.trans (congrArg some (by kernel_rfl))
  t0:=Tryz.underlying0
  a0:=Tryz.isAgg0
  z0:=Tryz.sizeOf0
  v0:=Tryz.zeroValue0
  t2:=Tryz.underlying2
  a2:=Tryz.isAgg2
  z2:=Tryz.sizeOf2
  v2:=Tryz.zeroValue2
  t3:=Tryz.underlying3
  a3:=Tryz.isAgg3
  z3:=Tryz.sizeOf3
  v3:=Tryz.zeroValue3
  t4:=Tryz.underlying4
  a4:=Tryz.isAgg4
  z4:=Tryz.sizeOf4
  v4:=Tryz.zeroValue4
  t5:=Tryz.underlying5
  a5:=Tryz.isAgg5
  z5:=Tryz.sizeOf5
  v5:=Tryz.zeroValue5
  t9:=Tryz.underlying9
  a9:=Tryz.isAgg9
  z9:=Tryz.sizeOf9
  v9:=Tryz.zeroValue9
  t20:=Tryz.underlying20
  a20:=Tryz.isAgg20
  z20:=Tryz.sizeOf20
  v20:=Tryz.zeroValue20
  t37:=Tryz.underlying65
  a37:=Tryz.isAgg65
  z37:=Tryz.sizeOf65
  v37:=Tryz.zeroValue65
  t46:=Tryz.underlying237
  a46:=Tryz.isAgg237
  z46:=Tryz.sizeOf237
  v46:=Tryz.zeroValue237
  t51:=Tryz.underlying270
  a51:=Tryz.isAgg270
  z51:=Tryz.sizeOf270
  v51:=Tryz.zeroValue270
  t53:=Tryz.underlying153
  a53:=Tryz.isAgg153
  z53:=Tryz.sizeOf153
  v53:=Tryz.zeroValue153
  t171:=Tryz.underlying250
  a171:=Tryz.isAgg250
  z171:=Tryz.sizeOf250
  v171:=Tryz.zeroValue250
  t173:=Tryz.underlying253
  a173:=Tryz.isAgg253
  z173:=Tryz.sizeOf253
  v173:=Tryz.zeroValue253
  t212:=Tryz.underlying269
  a212:=Tryz.isAgg269
  z212:=Tryz.sizeOf269
  v212:=Tryz.zeroValue269
  t213:=Tryz.underlying271
  a213:=Tryz.isAgg271
  z213:=Tryz.sizeOf271
  t232:=Tryz.underlying291
  a232:=Tryz.isAgg291
  z232:=Tryz.sizeOf291
  v232:=Tryz.zeroValue291
  t233:=Tryz.underlying292
  a233:=Tryz.isAgg292
  z233:=Tryz.sizeOf292
  v233:=Tryz.zeroValue292
  g17:=by kernel_rfl
  g18:=by kernel_rfl
  g19:=by kernel_rfl
  i0:=by kernel_rfl
  i2:=by kernel_rfl
  i3:=by kernel_rfl
  i4:=by kernel_rfl
  i5:=by kernel_rfl
  i9:=by kernel_rfl
  i20:=by kernel_rfl
  i37:=by kernel_rfl
  i46:=by kernel_rfl
  i51:=by kernel_rfl
  i53:=by kernel_rfl
  i171:=by kernel_rfl
  i173:=by kernel_rfl
  i212:=by kernel_rfl
  i232:=by kernel_rfl
  i233:=by kernel_rfl
  m17:=by kernel_rfl
  m18:=by kernel_rfl
  m19:=by kernel_rfl}
open Go.RowKit Go.Sort Go.Lib in
theorem Tryz.strconv_Itoa (n:Int) (h0: -9223372036854775808≤n) (h1:n≤9223372036854775807) (w:World) (htab:Lib.TabIs Tryz.prog w "internal/strconv.uint64pow10" .u64 Lib.pow10Tab):
 Calls Tryz.prog 142 #[.int .i64 n] w fun e w'=>e= .returned (.string ⟨(Lib.itoa n).toArray⟩)∧∃k os,w'=grow (w.drewN k) os:=Any.strconv_Itoa Tryz.laysM171 n h0 h1 w htab
end Go.Proofs
namespace Go.Proofs.YtfdbcihcdjjdhaaGreatDoor
open Go.ChangeShapes Go.WideShapes Go.ChangeAt Go.RowKit
set_option linter.unusedVariables false
set_option linter.unusedSimpArgs false
set_option maxHeartbeats 4000000
set_option maxRecDepth 100000
def Tab (w:World):Prop:=Lib.TabIs Tryz.prog w "internal/strconv.uint64pow10" .u64 Lib.pow10Tab
theorem Tab.below {w w':World} (h:Tab w) (hb:Below w.heap.size w w'):Tab w':=by
 unfold Tab Lib.TabIs World.var? at h⊢;have hg:Tryz.prog.globalNamed "internal/strconv.uint64pow10" =some 0:=(by kernel_rfl);rw[hg]at h⊢;simp only[Option.bind_some]at h⊢
 have hlt:0<w.heap.size:=by
  rcases Nat.lt_or_ge 0 w.heap.size with h'|h'
  · exact h'
  · rw[Array.getElem?_eq_none h']at h;cases h
 rw[hb.block 0 hlt];exact h
def numB (n:Int):ByteArray:=⟨(Lib.decDigits n.toNat).toArray⟩
theorem itoa_pos {n:Int} (h:0≤n):Lib.itoa n=Lib.decDigits n.toNat:=by unfold Lib.itoa;rw[if_neg (by omega)]
theorem grow_below (w:World) (k:Nat) (os:Array Obj):Below w.heap.size w (Sort.grow (w.drewN k) os):=Lib.below_grow w.heap.size w (Nat.le_refl _) k os
theorem itoa_any (n:Int) (w:World) (h0:0≤n) (h1:n≤9223372036854775807) (ht:Tab w):Calls Tryz.prog 142 #[.int .i64 n] w (Ret (.string (numB n)) w):=by
 refine(Tryz.strconv_Itoa n (by omega) h1 w ht).mono ?_;rintro e w' ⟨rfl,k,os,rfl⟩;exact⟨by rw[itoa_pos h0];rfl,grow_below w k os⟩
theorem fmtI_any (n:Int) (w:World) (h0:0≤n) (h1:n≤9223372036854775807) (ht:Tab w):Calls Tryz.prog 71 #[.int .i64 n] w (Ret (.string (numB n)) w):=by
 go_enter Tryz.func71,Tryz.ntmps71
 go_wp2_with fail
 refine(itoa_any n _ h0 h1 ht).mono ?_;rintro e w1 ⟨rfl,hb1⟩;go_wp2;go_ret;exact⟨rfl,hb1⟩
theorem own_one {α:Type} {E:TypeId} {enc:α→List Value} (w:World) (x:α) {u:Value} (h:enc x=[u]):OwnL E 1 enc w.heap.size (w.alloc (.cells #[u] E)) (.slice (some ⟨w.heap.size,0,none⟩) 1 1) [x]:=by
 have e:[x].flatMap enc=[u]:=(by simp[h]);unfold OwnL;rw[e];exact⟨by simp,.inr ⟨w.heap.size,1,#[u],rfl,Nat.le_refl _,heap_alloc_new w _,by simp,by simp[maxLen],by simp,by simp⟩⟩
end Go.Proofs.YtfdbcihcdjjdhaaGreatDoor
namespace Go.Proofs.YtfdbcihcdjjdhaaGreatDoor
open Go.RowKit
set_option linter.unusedVariables false
set_option linter.unusedSimpArgs false
set_option maxHeartbeats 4000000
set_option maxRecDepth 100000
abbrev Bs:=List UInt8
def fg:Bs→Bs→List Bs
  |cur,[]=>if cur=[]then[]else[cur]
  |cur,c::r=>if c=32 then(if cur=[]then fg [] r else cur::fg [] r)else fg (cur++[c]) r
def NoSp (l:Bs):Prop:=∀b∈l,b≠32
theorem fg_word:∀(x cur r:Bs),NoSp x→fg cur (x++r)=fg (cur++x) r
  |[],cur,r,_=>by simp
  | c :: x, cur, r, h => by
   rw[List.cons_append,fg,if_neg (h c List.mem_cons_self),fg_word x (cur++[c]) r (fun b hb=>h b (List.mem_cons_of_mem _ hb)),List.append_assoc];rfl
theorem fg_tail:∀(xs:List Bs) (cur:Bs),cur≠[]→(∀x∈xs,x≠[]∧NoSp x)→fg cur (Lib.joinTail [32] xs)=cur::xs
  | [], cur, hc, _ => by
   show fg cur []=[cur];rw[fg,if_neg hc]
  | y :: xs, cur, hc, h => by
   have e:Lib.joinTail [32] (y::xs)=32::(y++Lib.joinTail [32] xs):=(by simp[Lib.joinTail]);have hy:=h y List.mem_cons_self;rw[e,fg,if_pos rfl,if_neg hc,fg_word y [] _ hy.2,List.nil_append,fg_tail xs y hy.1 (fun x hx=>h x (List.mem_cons_of_mem _ hx))]
theorem fg_join:∀(xs:List Bs),(∀x∈xs,x≠[]∧NoSp x)→fg [] (Lib.join xs [32])=xs
  |[],_=>rfl
  | y :: xs, h => by
   have hy:=h y List.mem_cons_self;rw[Lib.join_cons,fg_word y [] _ hy.2,List.nil_append,fg_tail xs y hy.1 (fun x hx=>h x (List.mem_cons_of_mem _ hx))]
def toB (l:Bs):ByteArray:=⟨l.toArray⟩
theorem toB_data (l:Bs):(toB l).data.toList=l:=rfl
theorem toB_inj {a b:Bs} (h:toB a=toB b):a=b:=by
 have:=congrArg (fun x:ByteArray=>x.data.toList) h;exact this
end Go.Proofs.YtfdbcihcdjjdhaaGreatDoor
namespace Go.Proofs.YtfdbcihcdjjdhaaGreatDoor
set_option linter.unusedVariables false
set_option linter.unusedSimpArgs false
set_option maxHeartbeats 4000000
set_option maxRecDepth 100000
def domW (d:Dm):Bs:=Lib.decDigits d.1.toNat++44::(Lib.decDigits d.2.1.toNat++[if d.2.2=true then 100 else 114])
def domT (d:Dm):ByteArray:=toB (domW d)
def tilT (l:List Dm):ByteArray:=toB (Lib.join (l.map domW) [32])
theorem dom_in {d:Dm} (h:domOk d=true):(0≤d.1∧d.1≤7)∧(0≤d.2.1∧d.2.1≤7):=by
 have h1:=(cellIx_in (domOk_cells h).1).2;have h2:=(domOk_cells h).1;unfold cellOk inB at h2;simp at h2;omega
theorem domW_one {d:Dm} (h:domOk d=true):domW d=[UInt8.ofNat (48+d.1.toNat),44,UInt8.ofNat (48+d.2.1.toNat),if d.2.2=true then 100 else 114]:=by
 have h1:=dom_in h;unfold domW;rw[Lib.decDigits_one (by omega),Lib.decDigits_one (by omega)];rfl
theorem byte_inj {a b:Nat} (ha:a≤7) (hb:b≤7) (h:UInt8.ofNat (48+a)=UInt8.ofNat (48+b)):a=b:=by
 have:=congrArg UInt8.toNat h;rw[UInt8.toNat_ofNat',UInt8.toNat_ofNat']at this;omega
theorem domW_inj {d e:Dm} (hd:domOk d=true) (he:domOk e=true) (h:domW d=domW e):d=e:=by
 rw[domW_one hd,domW_one he]at h;have h1:=dom_in hd;have h2:=dom_in he;obtain⟨x,y,s⟩:=d;obtain⟨x',y',s'⟩:=e;simp only[List.cons.injEq,and_true,true_and]at h h1 h2;obtain⟨a,b,c⟩:=h;have e1:=byte_inj (by omega) (by omega) a;have e2:=byte_inj (by omega) (by omega) b;have e3:x=x':=(by omega);have e4:y=y':=(by omega);subst e3;subst e4
 have e5:s=s':=by
  cases s<;>cases s'
  · rfl
  · exact absurd (show(114:UInt8)=100 from c) (by decide)
  · exact absurd (show(100:UInt8)=114 from c) (by decide)
  · rfl
 rw[e5]
theorem domW_ok {d:Dm} (h:domOk d=true):domW d≠[]∧NoSp (domW d):=by
 have h1:=dom_in h;rw[domW_one h];refine⟨by simp,fun b hb e=> ?_⟩;subst e
 have n32 : ∀ a : Nat, a ≤ 7 → (32 : UInt8) ≠ UInt8.ofNat (48 + a) := fun a ha q => by
  have:=congrArg UInt8.toNat q;rw[UInt8.toNat_ofNat']at this;have e:(32:UInt8).toNat=32:=rfl;omega
 simp only[List.mem_cons,List.not_mem_nil,or_false]at hb;rcases hb with hb|hb|hb|hb
 · exact n32 _ (by omega) hb
 · exact absurd hb (by decide)
 · exact n32 _ (by omega) hb
 · split at hb<;>exact absurd hb (by decide)
theorem map_inj:∀{l m:List Dm},(∀d∈l,domOk d=true)→(∀d∈m,domOk d=true)→l.map domW=m.map domW→l=m
  |[],[],_,_,_=>rfl
  |[],_::_,_,_,h=>by simp at h
  |_::_,[],_,_,h=>by simp at h
  | d :: l, e :: m, hl, hm, h => by
   rw[List.map_cons,List.map_cons]at h;obtain⟨h1,h2⟩:=List.cons.inj h;rw[domW_inj (hl d List.mem_cons_self) (hm e List.mem_cons_self) h1,map_inj (fun x hx=>hl x (List.mem_cons_of_mem _ hx)) (fun x hx=>hm x (List.mem_cons_of_mem _ hx)) h2]
theorem tilT_inj {l m:List Dm} (hl:∀d∈l,domOk d=true) (hm:∀d∈m,domOk d=true) (h:tilT l=tilT m):l=m:=by
 have h1:=congrArg (fg []) (toB_inj h);rw[fg_join _ (fun x hx=>by obtain⟨d,hd,rfl⟩:=List.mem_map.1 hx;exact domW_ok (hl d hd)),fg_join _ (fun x hx=>by obtain⟨d,hd,rfl⟩:=List.mem_map.1 hx;exact domW_ok (hm d hd))]at h1;exact map_inj hl hm h1
theorem domT_size {d:Dm} (h:domOk d=true):(domT d).size=4:=by
 have:(domT d).size=(domW d).length:=rfl;rw[this,domW_one h];rfl
def putI (n:Int):List Int→List Int
  |[]=>[n]
  |x::r=>if n≤x then n::x::r else x::putI n r
theorem putI_mem (n:Int):∀(l:List Int) (x:Int),x∈putI n l↔x=n∨x∈l
  |[],x=>by simp[putI]
  | y :: r, x => by
   unfold putI;split
   · simp
   · rw[List.mem_cons,putI_mem n r x,List.mem_cons];constructor
     · rintro(h|h|h)
       · exact .inr (.inl h)
       · exact .inl h
       · exact .inr (.inr h)
     · rintro(h|h|h)
       · exact .inr (.inl h)
       · exact .inl h
       · exact .inr (.inr h)
theorem putI_len (n:Int):∀l:List Int,(putI n l).length=l.length+1
  |[]=>rfl
  | y :: r => by
   unfold putI;split
   · rfl
   · rw[List.length_cons,putI_len n r,List.length_cons]
def linkI (T:List (List Dm)) (j:Nat) (c:Cl):Int:=((ix T (flipTo (til T j) c):Nat):Int)
def nearTo (T:List (List Dm)) (j k:Nat):List Int:=((flips (til T j)).take k).foldl (fun own c=>putI (linkI T j c) own) []
def nearL (T:List (List Dm)) (j:Nat):List Int:=nearTo T j (flips (til T j)).length
def linkTo (T:List (List Dm)) (j k:Nat):List Int:=((flips (til T j)).take k).map (linkI T j)
def linkL (T:List (List Dm)) (j:Nat):List Int:=(flips (til T j)).map (linkI T j)
theorem flips_len (l:List Dm):(flips l).length≤64:=by
 unfold flips;refine Nat.le_trans (List.length_filter_le _ _) ?_;simp
theorem nearTo_succ {T:List (List Dm)} {j k:Nat} (h:k<(flips (til T j)).length):nearTo T j (k+1)=putI (linkI T j (flips (til T j))[k]) (nearTo T j k):=by
 unfold nearTo;rw[List.take_succ_eq_append_getElem h,List.foldl_append];rfl
theorem nearTo_len {T:List (List Dm)} {j:Nat}:∀k,k≤(flips (til T j)).length→(nearTo T j k).length=k
  |0,_=>rfl
  |k+1,h=>by rw[nearTo_succ (by omega),putI_len,nearTo_len k (by omega)]
theorem linkTo_succ {T:List (List Dm)} {j k:Nat} (h:k<(flips (til T j)).length):linkTo T j k++[linkI T j (flips (til T j))[k]]=linkTo T j (k+1):=by
 unfold linkTo;rw[List.take_succ_eq_append_getElem h,List.map_append];rfl
theorem linkTo_len {T:List (List Dm)} {j k:Nat} (h:k≤(flips (til T j)).length):(linkTo T j k).length=k:=by
 unfold linkTo;rw[List.length_map,List.length_take];omega
theorem linkTo_all (T:List (List Dm)) (j:Nat):linkTo T j (flips (til T j)).length=linkL T j:=by unfold linkTo linkL;rw[List.take_length]
theorem fold_mem (g : Cl → Int) : ∀ (l : List Cl) (own : List Int) (x : Int), x ∈ l.foldl (fun own c => putI (g c) own) own ↔ x ∈ own ∨ ∃ c ∈ l, x = g c
  |[],own,x=>by simp
  | c :: l, own, x => by
   rw[List.foldl_cons,fold_mem g l,putI_mem];constructor
   · rintro((h|h)|⟨d,hd,e⟩)
     · exact .inr ⟨c,List.mem_cons_self,h⟩
     · exact .inl h
     · exact .inr ⟨d,List.mem_cons_of_mem _ hd,e⟩
   · rintro(h|⟨d,hd,e⟩)
     · exact .inl (.inr h)
     · rcases List.mem_cons.1 hd with rfl|hd
       · exact .inl (.inl e)
       · exact .inr ⟨d,hd,e⟩
structure Adj (T:List (List Dm)) (near:List (List Int)):Prop where
  len:near.length=T.length
  mem:∀(j:Nat) (h:j<near.length) (x:Int),x∈near[j]↔∃i:Nat,x=i∧Edge T j i
def nearLL (T:List (List Dm)) (k:Nat):List (List Int):=(List.range k).map (nearL T)
def linkLL (T:List (List Dm)) (k:Nat):List (List Int):=(List.range k).map (linkL T)
theorem nearLL_succ (T:List (List Dm)) (k:Nat):nearLL T k++[nearL T k]=nearLL T (k+1):=by unfold nearLL;rw[List.range_succ,List.map_append];rfl
theorem linkLL_succ (T:List (List Dm)) (k:Nat):linkLL T k++[linkL T k]=linkLL T (k+1):=by unfold linkLL;rw[List.range_succ,List.map_append];rfl
theorem nearLL_len (T:List (List Dm)) (k:Nat):(nearLL T k).length=k:=by simp[nearLL]
theorem linkLL_len (T:List (List Dm)) (k:Nat):(linkLL T k).length=k:=by simp[linkLL]
theorem adj_near (T:List (List Dm)):Adj T (nearLL T T.length) where
  len:=nearLL_len T _
  mem := fun j h x => by
   rw[nearLL_len]at h;have e:(nearLL T T.length)[j]'(by rw[nearLL_len];exact h)=nearL T j:=(by simp[nearLL]);rw[e];unfold nearL nearTo;rw[List.take_length,fold_mem];constructor
   · rintro(h|⟨c,hc,e⟩)
     · cases h
     · exact⟨_,e,h,List.mem_map.2 ⟨c,hc,rfl⟩⟩
   · rintro⟨i,rfl,_,hi⟩;obtain⟨c,hc,rfl⟩:=List.mem_map.1 hi;exact .inr ⟨c,hc,rfl⟩
theorem adj_link (T:List (List Dm)):Adj T (linkLL T T.length) where
  len:=linkLL_len T _
  mem := fun j h x => by
   rw[linkLL_len]at h;have e:(linkLL T T.length)[j]'(by rw[linkLL_len];exact h)=linkL T j:=(by simp[linkLL]);rw[e];unfold linkL;constructor
   · intro hx;obtain⟨c,hc,rfl⟩:=List.mem_map.1 hx;exact⟨_,rfl,h,List.mem_map.2 ⟨c,hc,rfl⟩⟩
   · rintro⟨i,rfl,_,hi⟩;obtain⟨c,hc,rfl⟩:=List.mem_map.1 hi;exact List.mem_map.2 ⟨c,hc,rfl⟩
def keyT (l:List Dm):Lit:= .string (tilT l).data.toList
theorem isKey_str (s:Bs):WideAt.IsKeyLit (.string s):=by unfold WideAt.IsKeyLit;trivial
def nmap (T:List (List Dm)) (k:Nat):DataW Unit:=(List.range k).foldl (fun D i=>D.put (keyT (til T i)) (.lit (.int .i64 (i:Int)))) (.map [])
theorem nmap_succ (T:List (List Dm)) (k:Nat):nmap T (k+1)=(nmap T k).put (keyT (til T k)) (.lit (.int .i64 (k:Int))):=by
 unfold nmap;rw[List.range_succ,List.foldl_append];rfl
theorem nmap_is (T:List (List Dm)):∀k,Go.Maps.IsMap (nmap T k)
  |0=>Go.Maps.isMap_empty
  |k+1=>by rw[nmap_succ];exact(nmap_is T k).put _ _
theorem keyT_ne {l m : List Dm} (hl : ∀ d ∈ l, domOk d = true) (hm : ∀ d ∈ m, domOk d = true) (h : l ≠ m) : keyT l ≠ keyT m := fun e => h (tilT_inj hl hm (by
 unfold keyT at e;injection e with e;exact ByteArray.ext (Array.toList_inj.1 e)))
theorem nmap_at {T:List (List Dm)} (hd:T.Nodup) (hok:∀t∈T,∀d∈t,domOk d=true) {i:Nat} (z:DataW Unit):∀k,k≤T.length→i<k→(nmap T k).atKey (keyT (til T i)) z= .lit (.int .i64 (i:Int))
  |0,_,h=>by omega
  | k + 1, hk, h => by
   rw[nmap_succ];by_cases e:i=k
   · subst e;exact Go.Maps.atKey_put_same (nmap_is T i) (by unfold keyT;exact isKey_str _) _ _
   · have hi : i < T.length := by omega
     have hk':k<T.length:=(by omega);rw[Go.Maps.atKey_put_other]
     · exact nmap_at hd hok z k (by omega) (by omega)
     · rw[til_at hi,til_at hk'];refine keyT_ne (hok _ (List.getElem_mem hi)) (hok _ (List.getElem_mem hk')) fun q=>e ?_
       exact(List.getElem_inj hd).1 q
end Go.Proofs.YtfdbcihcdjjdhaaGreatDoor
namespace Go.Proofs.YtfdbcihcdjjdhaaGreatDoor
open Go.ChangeShapes Go.WideShapes Go.ChangeAt Go.RowKit
set_option linter.unusedVariables false
set_option linter.unusedSimpArgs false
set_option maxHeartbeats 4000000
set_option maxRecDepth 100000
def Qu (B:Nat) (w:World) (v:Value) (l:List Int):Prop:=
 ∃(g off c:Nat) (cs:Array Value),v= .slice (some ⟨g,off,none⟩) l.length c∧B≤g∧Blk w g 3 cs∧l.length≤c∧c≤maxLen∧off+c≤cs.size∧∀(j:Nat) (x:Int),l[j]? =some x→cs[off+j]? =some (.int .i64 x)
theorem Qu.of_own {B:Nat} {w:World} {v:Value} {l:List Int} (h:OwnL 3 1 eInt B w v l) (hl:0<l.length):Qu B w v l:=by
 have h':=h;rcases h.2 with⟨_,h0⟩|⟨g,cap,cur,e,hg,hh,hc,hm,hsz,hx⟩
 · omega
 · refine ⟨g, 0, cap, cur, e, hg, hh, hc, hm, by omega, fun j x hj => ?_⟩;have hk:=(List.getElem?_eq_some_iff.1 hj).1;subst e
   have h1 := World.ownsRow.cells h' (g := g) rfl j (.int .i64 x) (by
    have:=flat_at (enc:=eInt) lenInt (by decide) l j x hj 0 _ rfl;simpa using this)
   have h2:=cell_of_row w g j cur 3 (0,0) hh;rw[Nat.zero_add,←h2];have e2:(Addr.mk g 0 none).add j=⟨g,j,none⟩:=(by rw[Addr.add_lit,Nat.zero_add]);rw[←e2];exact h1
theorem Qu.below {B:Nat} {w w':World} {v:Value} {l:List Int} (h:Qu B w v l) (hb:Below w.heap.size w w'):Qu B w' v l:=by
 obtain⟨g,off,c,cs,e,h1,h2,h3⟩:=h;exact⟨g,off,c,cs,e,h1,h2.below hb h2.lt,h3⟩
theorem Qu.kept {B:Nat} {w w':World} {v:Value} {l:List Int} {row:Option Nat} (h:Qu B w v l) (hg:w.grownBy w' row) (hne:v.ownBlock≠row):Qu B w' v l:=by
 obtain⟨g,off,c,cs,e,h1,h2,h3⟩:=h;subst e;exact⟨g,off,c,cs,rfl,h1,h2.grown hg hne,h3⟩
theorem Qu.form {B:Nat} {w:World} {v:Value} {l:List Int} (h:Qu B w v l):∃g off c,v= .slice (some ⟨g,off,none⟩) l.length c∧B≤g∧g<w.heap.size∧l.length≤c∧c≤maxLen:=by
 obtain⟨g,off,c,cs,e,h1,h2,h3,h4,_⟩:=h;exact⟨g,off,c,e,h1,h2.lt,h3,h4⟩
theorem Qu.head {B g off c:Nat} {w:World} {x:Int} {l:List Int} {n:Nat} (h:Qu B w (.slice (some ⟨g,off,none⟩) n c) (x::l)):w.cell? ⟨g,off,none⟩=some (.int .i64 x):=by
 obtain⟨g',off',c',cs,e,h1,h2,h3,h4,h5,h6⟩:=h;injection e with e1 e2 e3;injection e1 with e1;injection e1 with e1 e4;subst e1;subst e4;rw[h2.cell];exact h6 0 x rfl
theorem Qu.rd {B:Nat} {w:World} {v:Value} {l:List Int} (h:Qu B w v l):Rd 1 RInt w v l:=by
 obtain⟨g,off,c,cs,e,h1,h2,h3,h4,h5,h6⟩:=h;refine⟨_,c,e,h3,h4,fun _=>⟨g,off,rfl,h2.lt,fun i x hx=>⟨eInt x,lenInt x,rfl,fun j u hu=> ?_⟩⟩⟩
 obtain rfl:j=0:=by
  have:=(List.getElem?_eq_some_iff.1 hu).1;rw[lenInt]at this;omega
 rw[h2.cell,Nat.mul_one,Nat.add_zero,h6 i x hx];exact hu
theorem Qu.tail {B g off c c' n:Nat} {A':Option Addr} {w:World} {x:Int} {l:List Int} (h:Qu B w (.slice (some ⟨g,off,none⟩) n c) (x::l)) (hs:sliced (some ⟨g,off,none⟩) 1 n c 1= .slice A' (n-1) c'):Qu B w (.slice A' (n-1) c') l:=by
 obtain⟨g',off',c0,cs,e,h1,h2,h3,h4,h5,h6⟩:=h;injection e with e1 e2 e3;injection e1 with e1;injection e1 with e1 e4;subst e1;subst e4;subst e3;rw[List.length_cons]at h3 e2;unfold sliced at hs;injection hs with s1 s2 s3;subst s3;have hn:n-1=l.length:=(by omega);by_cases hc:c=1
 · subst hc;rw[if_pos rfl]at s1;subst s1;refine⟨g,off,1-1,cs,by rw[hn],h1,h2,by omega,by omega,by omega,fun j y hj=> ?_⟩;have:=(List.getElem?_eq_some_iff.1 hj).1;omega
 · rw[if_neg hc]at s1;simp only[Option.map_some,Addr.add_lit]at s1;subst s1;refine⟨g,off+1*1,c-1,cs,by rw[hn],h1,h2,by omega,by omega,by omega,fun j y hj=> ?_⟩;have:=h6 (j+1) y (by simpa using hj);rw[←this];congr 1
   omega
theorem Qu.mono {B B':Nat} {w:World} {v:Value} {l:List Int} (h:Qu B w v l) (hb:B'≤B):Qu B' w v l:=by
 obtain⟨g,off,c,cs,e,h1,h2⟩:=h;exact⟨g,off,c,cs,e,by omega,h2⟩
theorem cut_own {g off n c c':Nat} {A':Option Addr} (hs:sliced (some ⟨g,off,none⟩) 1 n c 1= .slice A' (n-1) c'):(Value.slice A' (n-1) c').ownBlock=some g:=by
 unfold sliced at hs;injection hs with s1 s2 s3;by_cases hc:c=1
 · rw[if_pos hc]at s1;subst s1;rfl
 · rw[if_neg hc]at s1;simp only[Option.map_some,Addr.add_lit]at s1;subst s1;rfl
theorem flat_int (l : List Int) : l.flatMap eInt = l.map fun x => Value.int .i64 x := by
 induction l with
 |nil=>rfl
 |cons y l ih=>rw[List.flatMap_cons,ih];rfl
section
variable {P : Program} {t : TypeId}
theorem wpList_appQ {ops:Array Oper} {rest:List Oper} {o:Oper} {a:Act} {Q:Exit→Act→World→Prop} (R:Row P t 3 (.int .i64 0) 1 8) {B:Nat} {w:World} (hB:B≤w.heap.size) {v:Value} {l:List Int} (hown:Qu B w v l) (x:Int) {g0:Nat} (hg0:g0=w.heap.size)
    (hlen:(l.length+1)*8≤140737488355328) (hlen2:l.length+1≤maxLen) (hgd:o.guard=none)
    (s y:Operand) (ho:o.op= .call {callee:= .builtin .append,args:= #[s,y],argTypes:= #[t,t]})
    (hs:a.eval s=v) (hy:a.eval y= .slice (some ⟨g0,0,none⟩) 1 1)
    (h:∀g c off w',(some g=v.ownBlock∨w.heap.size≤g)→Qu B w' (.slice (some ⟨g,off,none⟩) (l.length+1) c) (l++[x])→(w.alloc (.cells #[.int .i64 x] 3)).grownBy w' v.ownBlock→wpList P ops Q rest (a.put o.dst (.slice (some ⟨g,off,none⟩) (l.length+1) c)) w'):
    wpList P ops Q (o::rest) a (w.alloc (.cells #[.int .i64 x] 3)):=by
 subst hg0;obtain⟨ht,hinfo,hzs,hsz⟩:=R;obtain⟨i0,hi,hz0,hz1,hz2⟩:=info_parts hinfo;obtain⟨g,off,c,cs,e,h1,h2,h3,h4,h5,h6⟩:=hown;subst e;have h2':Blk (w.alloc (.cells #[.int .i64 x] 3)) g 3 cs:=h2.alloc _
 refine wpList_append_arg _ hgd s y t ho 3 i0 (.int .i64 0) 1 8 ht hi hz0 hz1 hz2 hzs hsz g off l.length c (l.map fun x => Value.int .i64 x) hs (by simp) (fun j u hj => ?_)
   ⟨w.heap.size,0,none⟩ 1 1 [.int .i64 x] hy rfl (fun j u hj=> ?_) (by simp[Value.oneCell']) (fun hr j hj=> ?_) hlen2 hlen (fun hr=> ?_) (fun hg v' w' ho' hg'=> ?_)
 · rw[h2'.cell];rw[List.getElem?_map]at hj;cases hx:l[j]? with
   |none=>rw[hx]at hj;cases hj
   |some z=>rw[hx]at hj;injection hj with hj;subst hj;exact h6 j z hx
 · obtain rfl:j=0:=by
    have:=(List.getElem?_eq_some_iff.1 hj).1;simp at this;omega
   rw[Addr.add_lit,Blk.cell (Blk.new_ w 3 #[.int .i64 x])];exact hj
 · obtain rfl : j = 0 := by simp at hj; omega
   refine⟨?_,h2'.frozen _⟩;rw[h2'.cell,Nat.mul_one,Nat.add_zero,Array.getElem?_eq_getElem (by omega)];rfl
 · refine h g c off _ (.inl rfl) ⟨g, off, c, cs.setIfInBounds (off + l.length) (.int .i64 x), by rw [List.length_append]; rfl, h1, ?_, by rw [List.length_append]; exact hr, h4, by rw [Array.size_setIfInBounds]; exact h5, fun j z hj => ?_⟩ ?_
   · have:=h2'.set_ (off+l.length) (.int .i64 x);rw[Nat.mul_one];exact this
   · by_cases hl:j<l.length
     · rw[List.getElem?_append_left hl]at hj;rw[Array.getElem?_setIfInBounds,if_neg (by omega)];exact h6 j z hj
     · rw [List.getElem?_append_right (by omega)] at hj;have hj1:=(List.getElem?_eq_some_iff.1 hj).1;simp at hj1;obtain rfl:j=l.length:=by omega
       rw[Nat.sub_self]at hj;injection hj with hj;subst hj;rw[Array.getElem?_setIfInBounds,if_pos rfl,if_pos (by omega)]
   · have:=gr_set (World.grownBy.refl (w.alloc (.cells #[.int .i64 x] 3)) (some g)) (off+l.length) (.int .i64 x);rw[Nat.mul_one];exact this
 · have hO:OwnL 3 1 eInt (w.alloc (.cells #[.int .i64 x] 3)).heap.size w' v' (l++[x]):=by
    unfold OwnL;rw[List.length_append,List.flatMap_append];rw[flat_int l];exact ho'
   have hq:=(Qu.of_own hO (by simp));obtain⟨g',off',c',cs',e',q1,q2,q3⟩:=hq;subst e';rw[List.length_append];have q4:B≤g':=by simp at q1;omega
   exact h g' c' off' w' (.inr (by simp at q1;omega)) ⟨g',off',c',cs',by rw[List.length_append];rfl,q4,q2,q3⟩ ⟨hg'.os,hg'.tape,hg'.output,hg'.size,fun k hk _=>hg'.block k hk (by simp)⟩
theorem wpList_cut {ops:Array Oper} {rest:List Oper} {o:Oper} {a:Act} {Q:Exit→Act→World→Prop} {E:TypeId} {z:Value} {bytes:Nat} (R:Row P t E z 1 bytes)
    {w:World} {A:Option Addr} {n c:Nat} (j:Nat) (hj:j≤n) (hn:n≤c) (hm:c≤maxLen) {J:Int} (hJ:J=j)
    (hgd:o.guard=none) (s x:Operand) (hop:o.op=Op.slice t s (some x) none none) (hs:a.eval s= .slice A n c) (hx:a.eval x= .int .i64 J)
    (hK:∀A' c',sliced A j n c 1= .slice A' (n-j) c'→wpList P ops Q rest (a.put o.dst (.slice A' (n-j) c')) w):
    wpList P ops Q (o::rest) a w:=by
 subst hJ;obtain⟨ht,hinfo,hzs,hsz⟩:=R;obtain⟨i0,hi,hz0,hz1,hz2⟩:=info_parts hinfo;have he:P.elem t=E:=(by simp[Program.elem,ht]);have ht':P.underlying t=some (.slice (P.elem t)):=by rw[he];exact ht
 obtain⟨A',c',e⟩:∃A' c',sliced A j n c 1= .slice A' (n-j) c':=⟨_,_,rfl⟩
 have hrun:(Instr.sliceAt t (.slice A n c) (some (.int .i64 j)) none none).run P w= .ok (.slice A' (n-j) c') w:=by
  rw[run_sliceAt_slice w t _ _ _ _ ht',run_slice_l w t A n c ht' .i64 j (by omega) (by omega),he,←e];simp[sizeOf,typeInfo,hi,hz1,Result.andThen]
 refine wpList_plain hgd fun K hK'=> ?_
 unfold Oper.wp;simp[execOp,hop,hs,hx,hrun,Result.andThen];exact hK' _ _ (hK A' c' e)
end
end Go.Proofs.YtfdbcihcdjjdhaaGreatDoor
