/- Flips between the tilings of a list, and a shortest way: plain laws. No program in sight. Repairs: plain laws. No program in sight. DERIVED: THE SHELF's CONTRACTS AT THIS DUMP, IN PLAIN WORDS (tools/lay-plain.mjs out of 'TryzShelf.lean', which tools/lay-shelf.mjs wrote): THE SAME DECLARATIONS UNDER THE SAME NAMES: 'import', 'namespace', 'open', 'def', 'theorem' AND NOTHING ELSE: no command of the shelf's: FOR A HAND-IN. Each laying: the table of numbers ('.._ren') and one theorem, a field a fact of the dump's own or the kernel's comparison; each contract: ONE APPLICATION. Numbers and lines as texts: FormatInt of both sides, lineOf. Conditions: numbers from 0 on; the library's table of powers, as its text lays it. FormatAct of both sides: the walks, and the law's. Conditions: the library's table of powers, as its text lays it. Lines cut at blanks, numbers and acts as texts, read back: plain laws. No program in sight. Dominoes as text: plain laws. No program in sight. The links of a list of tilings, as both sides hold them: plain laws. No program in sight. -/
import Derived.Test.YtljfoohaapckeaaGreatDoorBG16
import Derived.Test.YtljfoohaapckeaaGreatDoorBG18
import Derived.Test.YtljfoohaapckeaaGreatDoorBListSt
import Derived.Shelf.Strings.Builder1
import Derived.Shelf.Strings.Builder2
import Derived.Shelf.Strings.OnBuilder
import Derived.Shelf.Strings.BuilderF
import Derived.Shelf.Strings.BuilderK
import Derived.Shelf.Strings.Builder2Cap
import Derived.Shelf.Strconv.Atoi
import Derived.Shelf.Strconv.Itoa0
import Derived.Shelf.Strconv.Itoa1
import Derived.Shelf.LaysM
import Derived.Shelf.Strconv.Itoa2
import Derived.Shelf.Strconv.Itoa3
import Derived.Shelf.Strconv.AtoiErrFast
import Derived.Shelf.Strconv.ParseIntEmpty
import Derived.Shelf.Strconv.AtoiFail
import Derived.Shelf.Strconv.Clone
import Derived.Shelf.Strconv.SyntaxError
import Derived.Shelf.LaysC
import Derived.Shelf.Strconv.ToError
import Derived.Shelf.Strconv.AtoiErr
import Derived.Shelf.Strconv.ErrVar
import Derived.Shelf.Strings.Search1
import Derived.Shelf.Strings.Search2
import Derived.Shelf.Strings.Search3
import Derived.Shelf.Strings.Count
import Derived.Shelf.Strings.Shaped
import Derived.Shelf.Strings.Split
import Derived.Shelf.Strings.SplitShaped
import Derived.Shelf.Unicode.DecodeSlow
import Derived.Shelf.Strings.BuilderCap
import Derived.Test.YtljfoohaapckeaaGreatDoorProg
import Derived.Test.YtljfoohaapckeaaGreatDoorBK1
import Derived.Laws.BytesArg
import Derived.Lib.ItoaLen
import Derived.Lib.Join
import Derived.Lib.AppendIntMem
import Derived.Test.YtljfoohaapckeaaGreatDoorBK2
import Derived.Lib.Atoi
import Derived.Test.YtljfoohaapckeaaGreatDoorBK5
import Derived.Maps.Views
open _root_.List (nodup_nil range length_cons getElem_mem take_length foldl_append mem_cons_self mem_cons_of_mem map_cons map_append mem_cons range_succ)
open _root_.Go.Lib (join TabIs itoa decDigits joinTail)
open _root_.Go.Proofs.Tryz (prog isAgg0 sizeOf0 isAgg3 sizeOf3 isAgg4 sizeOf4 isAgg9 sizeOf9 isAgg20 sizeOf20 isAgg22 sizeOf22 isAgg5 sizeOf5)
namespace Go.Proofs.YtljfoohaapckeaaGreatDoor
set_option linter.unusedVariables false
set_option linter.unusedSimpArgs false
set_option maxHeartbeats 4000000
set_option maxRecDepth 100000
theorem yB:∀(n i:Nat) (S:Nat->Bool),(tl n i S).Nodup
  |0,_,_=>by simp[tl]
  | n + 1, i, S => by
   have hc : ∀ (d : Dm) (l : List (List Dm)), l.Nodup -> (l.map (d :: ·)).Nodup := fun d l hl => by
    unfold List.Nodup at hl⊢;rw[List.pairwise_map];exact hl.imp fun{a b} h e=>h (List.cons.inj e).2
   have hd : eD i ≠ fH i := fun e => by
    have:=congrArg (fun x:Dm=>x.2.2) e;exact absurd this (by simp[eD,fH])
   rw[qV];split
   . rw[List.nodup_append];refine⟨?_,?_,fun a ha b hb e=> ?_⟩
     . split
       . exact hc _ _ (yB n _ _)
       . exact nodup_nil
     . split
       . exact hc _ _ (yB n _ _)
       . exact nodup_nil
     . subst e;split at ha
       . split at hb
         . obtain⟨x,_,rfl⟩:=List.mem_map.1 ha;obtain⟨y,_,e⟩:=List.mem_map.1 hb;exact hd (List.cons.inj e).1.symm
         . cases hb
       . cases ha
   . exact yB n _ _
theorem GG {s:Nat} {t:List Dm} (hp:kG s t) (hall:∀j,j<64->s.testBit j=true->∃d∈t,(aK d).testBit j=true):t∈iX s:=by
 refine xZ.2 ⟨fun d hd=> ?_,hp.2.1,hp.2.2,fun j _ h2 h3=> ?_⟩
 . obtain⟨a,b,c⟩:=AY.1 (hp.1 d hd);exact⟨a,Nat.zero_le _,b,c⟩
 . obtain⟨d,hd,e⟩:=hall j h2 h3;refine⟨d,hd,?_⟩;rw[aU (AY.1 (hp.1 d hd)).1,Bool.or_eq_true,decide_eq_true_iff,decide_eq_true_iff]at e;exact e
theorem Ij {s:Nat} {t:List Dm} (h:t∈iX s) {j:Nat} (hj:j<64) (hs:s.testBit j=true):∃d∈t,(aK d).testBit j=true:=by
 obtain⟨d,hd,e⟩:=(xZ.1 h).all j (Nat.zero_le _) hj hs;refine⟨d,hd,?_⟩;rw[aU (Ch h d hd),Bool.or_eq_true,decide_eq_true_iff,decide_eq_true_iff];exact e
theorem ME {s:Nat} {t:List Dm} {c:Cl} (h:t∈iX s) (hk:kindOf t c≠0):aS t c∈iX s:=by
 have hp:=nX h;obtain⟨h1,h2,h3⟩:=Kj hp hk;obtain⟨hsq,g1,g2⟩:=Ki hk;refine GG h1 fun j hj hs=> ?_
 obtain⟨d,hd,hb⟩:=Ij h hj hs;have hm:∀x,x∈aS t c↔x∈iQ t (mP (kindOf t c) c) (nW (kindOf t c) c)/\aJ x=true:=fun x=>Ez _ x
 have hn : ∀ x, (x = (nW (kindOf t c) c).1 ∨ x = (nW (kindOf t c) c).2) -> x ∈ aS t c := fun x hx => by
  refine(hm x).2 ⟨(uN _ _ _ x).2 (hx.elim .inl fun q=> .inr (.inl q)),?_⟩;rcases hx with rfl|rfl
  . exact hsq.ok.2.2.1
  . exact hsq.ok.2.2.2
 by_cases e1:d=(mP (kindOf t c) c).1
 . rcases DW hsq.symm (j := j) (.inl (by rw [<- e1]; exact hb)) with q | q
   . exact⟨_,hn _ (.inl rfl),q⟩
   . exact⟨_,hn _ (.inr rfl),q⟩
 . by_cases e2:d=(mP (kindOf t c) c).2
   . rcases DW hsq.symm (j := j) (.inr (by rw [<- e2]; exact hb)) with q | q
     . exact⟨_,hn _ (.inl rfl),q⟩
     . exact⟨_,hn _ (.inr rfl),q⟩
   . exact⟨d,(hm d).2 ⟨(uN _ _ _ d).2 (.inr (.inr ⟨hd,e1,e2⟩)),Ch h d hd⟩,hb⟩
def dW (l:List Dm):List Cl:=((range 64).map gW).filter fun c=>decide (kindOf l c≠0)
theorem lF {l:List Dm} {c:Cl}:c∈dW l↔kindOf l c≠0:=by
 unfold dW;rw[List.mem_filter,decide_eq_true_iff];refine⟨fun h=>h.2,fun h=>⟨?_,h⟩⟩;have hi:=FQ h;unfold jY at hi;rw[Bool.and_eq_true,decide_eq_true_iff,decide_eq_true_iff]at hi;obtain⟨x,y⟩:=c;simp only at hi;refine List.mem_map.2 ⟨(y*8+x).toNat,List.mem_range.2 (by omega),?_⟩;unfold gW;apply Prod.ext
 . simp only;omega
 . simp only;omega
def ix:List (List Dm)->List Dm->Nat
  |[],_=>0
  |a::r,m=>if a=m then 0 else ix r m+1
theorem mW:∀{T:List (List Dm)} {m:List Dm},m∈T->∃h:ix T m<T.length,T[ix T m]=m
  | a :: r, m, h => by
   by_cases e:a=m
   . have:ix (a::r) m=0:=if_pos e;refine⟨by rw[this];simp,?_⟩;simp only[this];exact e
   . have e2:ix (a::r) m=ix r m+1:=if_neg e;obtain⟨h1,h2⟩:=mW ((List.mem_cons.1 h).resolve_left (fun q=>e q.symm));refine⟨by rw[e2,length_cons];omega,?_⟩;simp only[e2,List.getElem_cons_succ];exact h2
theorem Pb {T:List (List Dm)} (hd:T.Nodup) {i:Nat} (hi:i<T.length):ix T T[i]=i:=by
 obtain⟨h1,h2⟩:=mW (getElem_mem hi);exact(List.getElem_inj hd).1 h2
def mX (T:List (List Dm)) (m:List Dm):Int:=if m∈T then((ix T m:Nat):Int)else-1
theorem Ik : ∀ {T : List (List Dm)} {m : List Dm} {k : Nat} (hk : k < T.length), (∀ j (h : j < k), T[j]'(by omega) ≠ m) -> T[k] = m -> ix T m = k
  |[],m,k,hk,_,_=>by simp at hk
  | a :: r, m, 0, hk, _, e => by
   have e':a=m:=e;exact if_pos e'
  | a :: r, m, k + 1, hk, h, e => by
   have e1:¬a=m:=h 0 (Nat.succ_pos _);have e2:ix (a::r) m=ix r m+1:=if_neg e1;rw[e2,Ik (k:=k) (by simpa using hk) (fun j hj=>h (j+1) (by omega)) (by simpa using e)]
theorem index_hit {T : List (List Dm)} {m : List Dm} {k : Nat} (hk : k < T.length) (h : ∀ j (h : j < k), T[j]'(by omega) ≠ m) (e : T[k] = m) : mX T m = (k : Int) := by
 unfold mX;rw[if_pos (e▸getElem_mem hk),Ik hk h e]
theorem Cj {T:List (List Dm)} {m:List Dm} (h:∀j (h:j<T.length),T[j]≠m):mX T m= -1:=by
 unfold mX;rw[if_neg];intro hm;obtain⟨j,hj,e⟩:=List.getElem_of_mem hm;exact h j hj e
def til (T:List (List Dm)) (i:Nat):List Dm:=T.getD i []
theorem iO {T:List (List Dm)} {i:Nat} (hi:i<T.length):til T i=T[i]:=by unfold til;rw[List.getD_eq_getElem?_getD,List.getElem?_eq_getElem hi];rfl
def links (T:List (List Dm)) (j:Nat):List Nat:=(dW (til T j)).map fun c=>ix T (aS (til T j) c)
def Edge (T:List (List Dm)) (j i:Nat):Prop:=j<T.length/\i∈links T j
structure nQ (T:List (List Dm)):Prop where
  nd:T.Nodup
  cl:∀t∈T,∀c,kindOf t c≠0->aS t c∈T/\kindOf (aS t c) c≠0/\aS (aS t c) c=t
  sm:T.length<=300
theorem Dt (rows:List Int):nQ (aH rows):=by
 unfold aH;split
 . rename_i h
   have hr:dS rows:=by
    by_cases hr:bT rows=true
    . exact aN.1 hr
    . unfold bK at h;rw[if_neg hr]at h;simp[inB]at h
   refine⟨yB _ _ _,fun t ht c hk=>⟨ME ht hk,?_⟩,?_⟩
   . obtain⟨_,h2,h3⟩:=Kj (nX ht) hk;exact⟨h2,h3⟩
   . have:=Jr hr;simp[inB]at h;omega
 . exact⟨nodup_nil,(fun t ht=>by cases ht),by decide⟩
theorem yP {T:List (List Dm)} (hT:nQ T) {j i:Nat} (h:Edge T j i):i<T.length:=by
 obtain⟨hj,hi⟩:=h;obtain⟨c,hc,rfl⟩:=List.mem_map.1 hi;rw[iO hj]at hc⊢;exact(mW (hT.cl _ (getElem_mem hj) c (lF.1 hc)).1).1
theorem LA {T:List (List Dm)} (hT:nQ T) {j i:Nat} (h:Edge T j i):Edge T i j:=by
 have hlt:=yP hT h;obtain⟨hj,hi⟩:=h;obtain⟨c,hc,rfl⟩:=List.mem_map.1 hi;rw[iO hj]at hc hlt⊢;obtain⟨h1,h2,h3⟩:=hT.cl _ (getElem_mem hj) c (lF.1 hc);obtain⟨h4,h5⟩:=mW h1;refine⟨hlt,List.mem_map.2 ⟨c,?_,?_⟩⟩
 . rw[iO h4,h5];exact lF.2 h2
 . rw[iO h4,h5,h3];exact Pb hT.nd hj
def Gi (T:List (List Dm)) (f:Nat->Int) (i:Nat):Option Cl:=(dW (til T i)).find? fun c=>decide (f (ix T (aS (til T i) c))=f i-1)
def sW (T:List (List Dm)) (i:Nat) (c:Cl):Nat:=ix T (aS (til T i) c)
def sZ (T:List (List Dm)) (f:Nat->Int):Nat->Nat->List Cl
  |0,_=>[]
  | m + 1, i => match Gi T f i with
    |some c=>c::sZ T f m (sW T i c)
    |none=>[]
theorem EO {T:List (List Dm)} (hT:nQ T) {k n:Nat} {f:Nat->Int} (hd:kH (Edge T) k n f) {i:Nat} {m:Nat} (hf:f i=m+1):∃c,Gi T f i=some c/\kindOf (til T i) c≠0/\f (sW T i c)=m/\sW T i c<T.length/\i<T.length:=by
 obtain⟨j,hj,he⟩:=hd.pre i m (by omega) hf;have hs:=LA hT he;have hi:=yP hT he;obtain⟨_,hm⟩:=hs;obtain⟨c,hc,rfl⟩:=List.mem_map.1 hm;cases h:Gi T f i with
 |none=>
  have:=List.find?_eq_none.1 h c hc;simp only[decide_eq_true_eq]at this;exact absurd (by rw[hj,hf];omega) this
 |some d=>
  have h1:=List.find?_some h;have h2:=List.mem_of_find?_eq_some h;simp only[decide_eq_true_eq]at h1;have hk:=lF.1 h2;refine⟨d,rfl,hk,?_,?_,hi⟩
  . unfold sW;rw[h1,hf];omega
  . exact yP hT ⟨hi,List.mem_map.2 ⟨d,h2,rfl⟩⟩
theorem Il {T:List (List Dm)} {f:Nat->Int} {m i:Nat} {c:Cl} (h:Gi T f i=some c):sZ T f (m+1) i=c::sZ T f m (sW T i c):=by
 rw[sZ,h]
theorem Kw (T:List (List Dm)) (f:Nat->Int):∀(m i:Nat),(sZ T f m i).length<=m
  |0,_=>Nat.zero_le _
  | m + 1, i => by
   rw[sZ];split
   . rename_i c _;rw[length_cons];have:=Kw T f m (sW T i c);omega
   . exact Nat.zero_le _
open Classical in
noncomputable def rH (T:List (List Dm)) (k:Nat):Nat->Int:=if h:∃f,kH (Edge T) k T.length f then h.choose else fun _=> -1
theorem Ky {T:List (List Dm)} {k:Nat} {f:Nat->Int} (h:kH (Edge T) k T.length f):rH T k=f:=by
 have hx:∃f,kH (Edge T) k T.length f:=⟨f,h⟩;unfold rH;rw[dif_pos hx];funext i
 exact hx.choose_spec.same h i
noncomputable def EP (rows:List Int) (a b:List Dm):Bool:=decide (a∈aH rows)&&decide (b∈aH rows)&&decide (0<=rH (aH rows) (ix (aH rows) b) (ix (aH rows) a))
noncomputable def Ck (rows:List Int) (a b:List Dm):List Cl:=if EP rows a b=true then sZ (aH rows) (rH (aH rows) (ix (aH rows) b)) (rH (aH rows) (ix (aH rows) b) (ix (aH rows) a)).toNat (ix (aH rows) a)else[]
def uC (a b:List Dm) (k:Nat):Nat:=((a.take k).filter fun d=> !b.contains d).length
def chg (a b:List Dm):Nat:=(a.filter fun d=> !b.contains d).length
theorem ER (a b:List Dm):uC a b a.length=chg a b:=by unfold uC chg;rw[take_length]
theorem Cm {a b:List Dm} {k:Nat} (h:k<a.length):uC a b (k+1)=uC a b k+(if b.contains a[k]=true then 0 else 1):=by
 unfold uC;rw[List.take_succ_eq_append_getElem h,List.filter_append,List.length_append];congr 1
 by_cases hc:b.contains a[k]=true
 . rw[if_pos hc,List.filter_cons_of_neg (by rw[hc];simp)];rfl
 . rw[if_neg hc,List.filter_cons_of_pos (by simpa using hc)];rfl
theorem Im (a b:List Dm) (k:Nat):uC a b k<=k:=by
 unfold uC;refine Nat.le_trans (List.length_filter_le _ _) ?_;rw[List.length_take];omega
theorem JZ (a b:List Dm):chg a b<=a.length:=List.length_filter_le _ _
def jQ (list:List Dm) (d:Dm) (b:Option (List Dm)) (t:List Dm):Option (List Dm):=
 if t.contains d = true then b else match b with
   |none=>some t
   |some m=>if chg list t<chg list m then some t else some m
def kX (T:List (List Dm)) (list:List Dm) (d:Dm) (k:Nat):Option (List Dm):=(T.take k).foldl (jQ list d) none
def fJ (T:List (List Dm)) (list:List Dm) (d:Dm):Option (List Dm):=T.foldl (jQ list d) none
theorem Cn (T:List (List Dm)) (list:List Dm) (d:Dm):kX T list d T.length=fJ T list d:=by unfold kX fJ;rw[take_length]
theorem Ap {T:List (List Dm)} {list:List Dm} {d:Dm} {k:Nat} (h:k<T.length):kX T list d (k+1)=jQ list d (kX T list d k) T[k]:=by
 unfold kX;rw[List.take_succ_eq_append_getElem h,foldl_append];rfl
def yQ (rows:List Int) (l:List Dm) (d:Dm):Bool:=decide (l∈aH rows)&&(fJ (aH rows) l d).isSome
def Bh (rows:List Int) (l:List Dm) (d:Dm):List Dm:=if l∈aH rows then(fJ (aH rows) l d).getD []else[]
theorem Oz {s:Nat} {t u:List Dm} (ht:t∈iX s) (hu:u∈iX s) (h:t≠[]):u≠[]:=by
 intro e;subst e;obtain⟨d,hd⟩:=List.exists_mem_of_ne_nil t h;have h1:=nX ht;obtain⟨a,b,c⟩:=AY.1 (h1.1 d hd)
 have hlt:eO d<64:=by
  have:=(dJ (dK a).1).2;unfold eO;omega
 obtain⟨e,he,_⟩:=Ij hu hlt b;cases he
theorem OA {rows:List Int} {t u:List Dm} (ht:t∈aH rows) (hu:u∈aH rows) (h:t≠[]):u≠[]:=by
 unfold aH at ht hu;split at ht
 . rename_i q;rw[if_pos q]at hu;exact Oz ht hu h
 . cases ht
theorem OB {rows:List Int} {t:List Dm} (ht:t∈aH rows):∀d∈t,aJ d=true:=by
 unfold aH at ht;split at ht
 . exact Ch ht
 . cases ht
theorem Io {list:List Dm} {d:Dm}:∀(T:List (List Dm)) (b:Option (List Dm)) (m:List Dm),T.foldl (jQ list d) b=some m->b=some m∨m∈T
  |[],b,m,h=> .inl h
  | t :: T, b, m, h => by
   rw[List.foldl_cons]at h;rcases Io T _ m h with h|h
   . unfold jQ at h;split at h
     . exact .inl h
     . split at h
       . injection h with h;subst h;exact .inr mem_cons_self
       . split at h
         . injection h with h;subst h;exact .inr mem_cons_self
         . exact .inl h
   . exact .inr (mem_cons_of_mem _ h)
end Go.Proofs.YtljfoohaapckeaaGreatDoor
namespace Go.Proofs
open Go.Shelf
set_option maxHeartbeats 4000000
set_option maxRecDepth 100000
def Tryz.Aq:Go.Shelf.Ren:=⟨fun|156=>116|165=>171|166=>172|169=>173|240=>207|241=>208|276=>231|277=>232|n=>n,fun|31=>42|9=>9|3=>3|4=>4|0=>0|20=>20|72=>171|76=>167|70=>169|37=>22|75=>166|127=>195|164=>216|5=>5|80=>173|n=>n,fun|n=>n⟩
theorem Tryz.Kz : Go.Proofs.Lays.n156 prog Tryz.Aq := {
  mixed:=by kernel_rfl
  f156:=Tryz.func116.trans (congrArg some (by kernel_rfl))
  f165:=Tryz.func171.trans (congrArg some (by kernel_rfl))
  f166:=Tryz.func172.trans (congrArg some (by kernel_rfl))
  f169:=Tryz.func173.trans (congrArg some (by kernel_rfl))
  f240:=Tryz.func207.trans (congrArg some (by kernel_rfl))
  f241:=Tryz.func208.trans (congrArg some (by kernel_rfl))
  f276:=Tryz.func231.trans (congrArg some (by kernel_rfl))
  f277:=Tryz.func232.trans (congrArg some (by kernel_rfl))
  t0:=Tryz.underlying0
  a0:=isAgg0
  z0:=sizeOf0
  v0:=Tryz.zeroValue0
  t3:=Tryz.underlying3
  a3:=isAgg3
  z3:=sizeOf3
  v3:=Tryz.zeroValue3
  t4:=Tryz.underlying4
  a4:=isAgg4
  z4:=sizeOf4
  v4:=Tryz.zeroValue4
  t9:=Tryz.underlying9
  a9:=isAgg9
  z9:=sizeOf9
  v9:=Tryz.zeroValue9
  t20:=Tryz.underlying20
  a20:=isAgg20
  z20:=sizeOf20
  v20:=Tryz.zeroValue20
  t31:=Tryz.underlying42
  a31:=Tryz.isAgg42
  z31:=Tryz.sizeOf42
  v31:=Tryz.zeroValue42
  t37:=Tryz.underlying22
  a37:=isAgg22
  z37:=sizeOf22
  v37:=Tryz.zeroValue22
  t70:=Tryz.underlying169
  a70:=Tryz.isAgg169
  z70:=Tryz.sizeOf169
  v70:=Tryz.zeroValue169
  t72:=Tryz.underlying171
  a72:=Tryz.isAgg171
  z72:=Tryz.sizeOf171
  v72:=Tryz.zeroValue171
  t75:=Tryz.underlying166
  a75:=Tryz.isAgg166
  z75:=Tryz.sizeOf166
  v75:=Tryz.zeroValue166
  t76:=Tryz.underlying167
  a76:=Tryz.isAgg167
  z76:=Tryz.sizeOf167
  v76:=Tryz.zeroValue167
  t127:=Tryz.underlying195
  a127:=Tryz.isAgg195
  z127:=Tryz.sizeOf195
  v127:=Tryz.zeroValue195
  t164:=Tryz.underlying216
  a164:=Tryz.isAgg216
  z164:=Tryz.sizeOf216
  v164:=Tryz.zeroValue216}
theorem Tryz.pX : Builder.Extra prog Tryz.Aq := {
  sizeBuilder:=by kernel_rfl
  liesBuilder:=by kernel_rfl
  t5:=Tryz.underlying5
  a5:=isAgg5
  z5:=sizeOf5
  v5:=Tryz.zeroValue5
  infoByte:=by kernel_rfl
  cellsByte:=by kernel_rfl
  sizeByte:=by kernel_rfl
  neB5:=by decide}
open Go.RowKit in
theorem Tryz.strings_Join_none (a:Option Addr) (c:Nat) (sep:ByteArray) (w:World):
 Calls prog 116 #[.slice a 0 c,.string sep] w fun e w'=>e= .returned (.string ⟨#[]⟩)/\w'=w:=Any.strings_Join_none Tryz.Kz Tryz.pX a c sep w
open Go.RowKit in
theorem Tryz.strings_Join (bk o c:Nat) (xs:List ByteArray) (sep:ByteArray) (w:World) (hcells:∀(j:Nat) x,xs[j]? =some x->w.cell? ⟨bk,o+j,none⟩=some (.string x)) (hbk:bk<w.heap.size) (hN:xs.length<=140737488355328) (hcap:xs.length<=c) (hlen:(join (xs.map (·.data.toList)) sep.data.toList).length<=140737488355328):
 Calls prog 116 #[.slice (some ⟨bk,o,none⟩) xs.length c,.string sep] w fun e w'=>e= .returned (.string ⟨(join (xs.map (·.data.toList)) sep.data.toList).toArray⟩)/\Below w.heap.size w w':=Any.strings_Join Tryz.Kz Tryz.pX bk o c xs sep w hcells hbk hN hcap hlen
def Tryz.laysM171_ren:Go.Shelf.Ren:=⟨fun|171=>113|243=>169|246=>204|283=>222|284=>223|285=>224|286=>225|129=>240|317=>239|318=>241|319=>242|320=>243|337=>252|338=>253|n=>n,fun|3=>3|9=>9|2=>2|4=>4|171=>205|0=>0|53=>124|37=>22|5=>5|173=>208|212=>225|51=>226|20=>20|213=>227|46=>177|232=>247|233=>248|n=>n,fun|17=>0|18=>6|19=>7|n=>n⟩
theorem Tryz.laysM171 : Go.Proofs.LaysM.n171 prog Tryz.laysM171_ren := {
  mixed:=by kernel_rfl
  f129:=Tryz.func240.trans (congrArg some (by kernel_rfl))
  f171:=Tryz.func113.trans (congrArg some (by kernel_rfl))
  f243:=Tryz.func169.trans (congrArg some (by kernel_rfl))
  f246:=Tryz.func204.trans (congrArg some (by kernel_rfl))
  f283:=Tryz.func222.trans (congrArg some (by kernel_rfl))
  f284:=Tryz.func223.trans (congrArg some (by kernel_rfl))
  f285:=Tryz.func224.trans (congrArg some (by kernel_rfl))
  f286:=Tryz.func225.trans (congrArg some (by kernel_rfl))
  f317:=Tryz.func239.trans (congrArg some (by kernel_rfl))
  f318:=Tryz.func241.trans (congrArg some (by kernel_rfl))
  f319:=Tryz.func242.trans (congrArg some (by kernel_rfl))
  f320:=Tryz.func243.trans (congrArg some (by kernel_rfl))
  f337:=Tryz.func252.trans (congrArg some (by kernel_rfl))
  f338:=Tryz.func253.trans (congrArg some (by kernel_rfl))
  t0:=Tryz.underlying0
  a0:=isAgg0
  z0:=sizeOf0
  v0:=Tryz.zeroValue0
  t2:=Tryz.underlying2
  a2:=Tryz.isAgg2
  z2:=Tryz.sizeOf2
  v2:=Tryz.zeroValue2
  t3:=Tryz.underlying3
  a3:=isAgg3
  z3:=sizeOf3
  v3:=Tryz.zeroValue3
  t4:=Tryz.underlying4
  a4:=isAgg4
  z4:=sizeOf4
  v4:=Tryz.zeroValue4
  t5:=Tryz.underlying5
  a5:=isAgg5
  z5:=sizeOf5
  v5:=Tryz.zeroValue5
  t9:=Tryz.underlying9
  a9:=isAgg9
  z9:=sizeOf9
  v9:=Tryz.zeroValue9
  t20:=Tryz.underlying20
  a20:=isAgg20
  z20:=sizeOf20
  v20:=Tryz.zeroValue20
  t37:=Tryz.underlying22
  a37:=isAgg22
  z37:=sizeOf22
  v37:=Tryz.zeroValue22
  t46:=Tryz.underlying177
  a46:=Tryz.isAgg177
  z46:=Tryz.sizeOf177
  v46:=Tryz.zeroValue177
  t51:=Tryz.underlying226
  a51:=Tryz.isAgg226
  z51:=Tryz.sizeOf226
  v51:=Tryz.zeroValue226
  t53:=Tryz.underlying124
  a53:=Tryz.isAgg124
  z53:=Tryz.sizeOf124
  v53:=Tryz.zeroValue124
  t171:=Tryz.underlying205
  a171:=Tryz.isAgg205
  z171:=Tryz.sizeOf205
  v171:=Tryz.zeroValue205
  t173:=Tryz.underlying208
  a173:=Tryz.isAgg208
  z173:=Tryz.sizeOf208
  v173:=Tryz.zeroValue208
  t212:=Tryz.underlying225
  a212:=Tryz.isAgg225
  z212:=Tryz.sizeOf225
  v212:=Tryz.zeroValue225
  t213:=Tryz.underlying227
  a213:=Tryz.isAgg227
  z213:=Tryz.sizeOf227
  t232:=Tryz.underlying247
  a232:=Tryz.isAgg247
  z232:=Tryz.sizeOf247
  v232:=Tryz.zeroValue247
  t233:=Tryz.underlying248
  a233:=Tryz.isAgg248
  z233:=Tryz.sizeOf248
  v233:=Tryz.zeroValue248
  g17:=by kernel_rfl
  g18:=by kernel_rfl
  g19:=by kernel_rfl
  i0:=by kernel_rfl
  i2:=by kernel_rfl
  i3:=by kernel_rfl
  i4:=by kernel_rfl
  i5:=by kernel_rfl
  i9:=by kernel_rfl
  i20:=by kernel_rfl
  i37:=by kernel_rfl
  i46:=by kernel_rfl
  i51:=by kernel_rfl
  i53:=by kernel_rfl
  i171:=by kernel_rfl
  i173:=by kernel_rfl
  i212:=by kernel_rfl
  i232:=by kernel_rfl
  i233:=by kernel_rfl
  m17:=by kernel_rfl
  m18:=by kernel_rfl
  m19:=by kernel_rfl}
open Go.RowKit Go.Sort Go.Lib in
theorem Tryz.strconv_Itoa (n:Int) (h0: -9223372036854775808<=n) (h1:n<=9223372036854775807) (w:World) (htab:TabIs prog w "internal/strconv.uint64pow10" .u64 Lib.pow10Tab):
 Calls prog 113 #[.int .i64 n] w fun e w'=>e= .returned (.string ⟨(itoa n).toArray⟩)/\∃k os,w'=grow (w.drewN k) os:=Any.strconv_Itoa Tryz.laysM171 n h0 h1 w htab
end Go.Proofs
namespace Go.Proofs.YtljfoohaapckeaaGreatDoor
open Go.ChangeShapes Go.WideShapes Go.ChangeAt Go.RowKit
set_option linter.unusedVariables false
set_option linter.unusedSimpArgs false
set_option maxHeartbeats 4000000
set_option maxRecDepth 100000
def Tab (w:World):Prop:=TabIs prog w "internal/strconv.uint64pow10" .u64 Lib.pow10Tab
theorem Tab.below {w w':World} (h:Tab w) (hb:Below w.heap.size w w'):Tab w':=by
 unfold Tab TabIs World.var? at h⊢;have hg:Tryz.prog.globalNamed "internal/strconv.uint64pow10" =some 0:=(by kernel_rfl);rw[hg]at h⊢;simp only[Option.bind_some]at h⊢
 have hlt:0<w.heap.size:=by
  rcases Nat.lt_or_ge 0 w.heap.size with h'|h'
  . exact h'
  . rw[Array.getElem?_eq_none h']at h;cases h
 rw[hb.block 0 hlt];exact h
def pF (n:Int):ByteArray:=⟨(decDigits n.toNat).toArray⟩
theorem Ip {n:Int} (h:0<=n):itoa n=decDigits n.toNat:=by unfold itoa;rw[if_neg (by omega)]
theorem LB {n:Int} (h0:0<=n) (h1:n<=9223372036854775807):(pF n).size<=21:=by
 have:=Lib.itoa_length_le n (by omega) h1;rw[Ip h0]at this;simpa[pF,ByteArray.size]using this
theorem Js (w:World) (k:Nat) (os:Array Obj):Below w.heap.size w (Sort.grow (w.drewN k) os):=Lib.below_grow w.heap.size w (Nat.le_refl _) k os
theorem MF (n:Int) (w:World) (h0:0<=n) (h1:n<=9223372036854775807) (ht:Tab w):Calls prog 113 #[.int .i64 n] w (Ret (.string (pF n)) w):=by
 refine(Tryz.strconv_Itoa n (by omega) h1 w ht).mono ?_;rintro e w' ⟨rfl,k,os,rfl⟩;exact⟨by rw[Ip h0];rfl,Js w k os⟩
theorem vD (n:Int) (w:World) (h0:0<=n) (h1:n<=9223372036854775807) (ht:Tab w):Calls prog 50 #[.int .i64 n] w (Ret (.string (pF n)) w):=by
 go_enter Tryz.func50,Tryz.ntmps50
 go_wp2_with fail
 refine(MF n _ h0 h1 ht).mono ?_;rintro e w1 ⟨rfl,hb1⟩;go_wp2;go_ret;exact⟨rfl,hb1⟩
def uD (word:ByteArray) (l:List Int):ByteArray:=l.foldl (fun s x=>s++(⟨#[32]⟩:ByteArray)++pF x) word
theorem Co : ∀ (l : List Int) (word : ByteArray), (uD word l).data.toList = word.data.toList ++ (l.map fun x => (32 : UInt8) :: decDigits x.toNat).flatten
  |[],word=>by simp[uD]
  | x :: l, word => by
   have e:uD word (x::l)=uD (word++(⟨#[32]⟩:ByteArray)++pF x) l:=rfl;rw[e,Co l];simp[ByteArray.data_append,pF]
theorem Jt (word:ByteArray) (l:List Int):(⟨(join ((word::l.map pF).map (·.data.toList)) [32]).toArray⟩:ByteArray)=uD word l:=by
 apply ByteArray.ext;apply Array.toList_inj.1;rw[Co,map_cons,Lib.join_cons];simp[joinTail,pF,Function.comp_def]
theorem Cq:∀(l:List Int) (word:ByteArray),(∀x∈l,0<=x/\x<=9223372036854775807)->(uD word l).size<=word.size+22*l.length
  |[],word,_=>by simp[uD]
  | x :: l, word, h => by
   have e:uD word (x::l)=uD (word++(⟨#[32]⟩:ByteArray)++pF x) l:=rfl;have h1:=Cq l (word++(⟨#[32]⟩:ByteArray)++pF x) (fun y hy=>h y (mem_cons_of_mem _ hy));have h2:=LB (h x mem_cons_self).1 (h x mem_cons_self).2;rw[e];rw[ByteArray.size_append,ByteArray.size_append]at h1;have h3:(⟨#[32]⟩:ByteArray).size=1:=rfl;rw[length_cons];omega
theorem FW {α:Type} {E:TypeId} {enc:α->List Value} (w:World) (x:α) {u:Value} (h:enc x=[u]):aD E 1 enc w.heap.size (w.alloc (.cells #[u] E)) (.slice (some ⟨w.heap.size,0,none⟩) 1 1) [x]:=by
 have e:[x].flatMap enc=[u]:=(by simp[h]);unfold aD;rw[e];exact⟨by simp,.inr ⟨w.heap.size,1,#[u],rfl,Nat.le_refl _,heap_alloc_new w _,by simp,by simp[maxLen],by simp,by simp⟩⟩
def qY (word:ByteArray) (l:List Int) (k:Nat):List ByteArray:=word::(l.take k).map pF
theorem ES {word:ByteArray} {l:List Int} {k:Nat} (h:k<=l.length):(qY word l k).length=k+1:=by simp[qY];omega
theorem Ju {word:ByteArray} {l:List Int} {k:Nat} (h:k<l.length):qY word l k++[pF l[k]]=qY word l (k+1):=by
 unfold qY;rw[List.take_succ_eq_append_getElem h,map_append];rfl
theorem GH (word:ByteArray) (v:Value) (l:List Int) (w:World) (h:Rd 1 bH w v l) (hw:word.size<=100) (hl:l.length<=100) (Hp:Hid (∀x∈l,0<=x/\x<=9223372036854775807)) (ht:Tab w):Calls prog 68 #[.string word,v] w (Ret (.string (uD word l)) w):=by
 obtain⟨A,c,rfl,hc,hm⟩:=h.form;have own0:=FW (E:=9) (enc:=pW) w word rfl;have HT:=Qk ht;clear ht;go_enter Tryz.func68,Tryz.ntmps68
 go_wp2;go_loopw [5,7,12] (fun s5 s7 s12 wr=>∃(k:Nat) (D:Option Addr) (d:Nat) (z:Value),s7=z/\k<=l.length/\s12= .int .i64 k/\s5= .slice D (k+1) d/\aD 9 1 pW w.heap.size wr (.slice D (k+1) d) (qY word l k)/\Below w.heap.size w wr) (fun _ _ i _=>l.length-(intOf i).toNat)
 case atStart=>exact⟨0,_,_,_,rfl,Nat.zero_le _,rfl,rfl,own0,(Below.refl _ _).al _⟩
 case round=>
  obtain⟨k,D,d,z,rfl,hk,rfl,rfl,hown,hbel⟩:=hrel;clear own0;by_cases hlt:k<l.length
  . obtain⟨b,off,rfl,hb,k1⟩:=(h.Qj hbel).pY hlt;have hp:=Hp.out l[k] (getElem_mem hlt);obtain⟨x,hx⟩:=Qi (l[k]);rw[<-hx]at k1 hp;have HX:=Qk hx;clear hx;have HH:=Qk hp;clear hp;go_wp2_with fail
    refine(vD x _ HH.out.1 HH.out.2 (HT.out.below hbel)).mono ?_;rintro e w1 ⟨rfl,hb1⟩;have own1:=hown.below hb1;have B1:=hbel.tr hb1;have hll:=ES (word:=word) hk;have H8:Hid (((qY word l k).length+1)*16<=140737488355328):=Qk (by rw[hll];omega);have HM:Hid ((qY word l k).length+1<=maxLen):=Qk (by rw[hll];unfold maxLen;omega);have hts:=Ju (word:=word) hlt;have Hts:=Qk hts;have Htl:=Qk hll;clear hts hll;go_wp2_with (at_builtin;go_must (refine aF (enc:=pW) F8 iF F7 B1 own1 (pF x) H8.out HM.out rfl _ _ rfl rfl rfl ?_);intro v4 w4 own4 hb4 hg4 hd4;obtain⟨A4,c4,rfl,hc4,hm4⟩:=own4.form)
    have own5:aD 9 1 pW w.heap.size w4 (.slice A4 (k+1+1) c4) (qY word l (k+1)):=by
     have e:(qY word l k++[pF x]).length=k+1+1:=by rw[List.length_append,Htl.out];rfl
     rw[<-Hts.out,<-HX.out,<-e];exact own4
    go_roundw
    case rel=>exact⟨k+1,A4,c4,_,rfl,by omega,by go_num,by simp[Htl.out],own5,hb4⟩
    case measure=>simp[intOf];omega
  . obtain rfl : k = l.length := by omega
    have hll:=ES (word:=word) hk;obtain⟨g,rfl,hB,hgl⟩:=hown.split (k:=0) (by rw[hll];omega);have e1:qY word l l.length=word::l.map pF:=by unfold qY;rw[take_length]
    have hsz:=Cq l word Hp.out;have hjn:=Jt word l
    have hcl := Tryz.strings_Join g 0 d (qY word l l.length) (⟨#[32]⟩ : ByteArray) wr (fun j x hj => by
     have hjl:j<(qY word l l.length).length:=(List.getElem?_eq_some_iff.1 hj).1;have:=hown.slot iF (by decide) hjl 0 (.string (qY word l l.length)[j]) rfl;rw[(List.getElem?_eq_some_iff.1 hj).2]at this
     simpa using this) hgl (by rw [hll]; omega) (by have := hown.form; obtain ⟨A', c', e, h1, h2⟩ := this; injection e with e1 e2 e3; omega) (by
      rw[e1];have e3:(join ((word::l.map pF).map (·.data.toList)) [32]).length=(uD word l).size:=by rw[<-hjn];simp[ByteArray.size]
      show(join ((word::l.map pF).map (·.data.toList)) [32]).length<=_;rw[e3];omega)
    rw[hll,e1]at hcl
    have hcl2:Calls prog 116 #[.slice (some ⟨g,0,none⟩) (l.length+1) d,.string ⟨#[32]⟩] wr (Ret (.string (uD word l)) wr):=by
     refine hcl.mono ?_;rintro e w' ⟨rfl,hb⟩;exact⟨by rw[<-hjn],hb⟩
    clear hcl hll e1 hjn;go_wp2_with fail
    refine hcl2.mono ?_;rintro e w5 ⟨rfl,hb5⟩;go_wp2;go_ret;exact⟨rfl,hbel.tr hb5⟩
end Go.Proofs.YtljfoohaapckeaaGreatDoor
namespace Go.Proofs.YtljfoohaapckeaaGreatDoor
open Go.RowKit
set_option linter.unusedVariables false
set_option linter.unusedSimpArgs false
set_option maxHeartbeats 4000000
set_option maxRecDepth 100000
abbrev Bs:=List UInt8
def fg:Bs->Bs->List Bs
  |cur,[]=>if cur=[]then[]else[cur]
  |cur,c::r=>if c=32 then(if cur=[]then fg [] r else cur::fg [] r)else fg (cur++[c]) r
def Pd (l:Bs):Prop:=∀b∈l,b≠32
theorem FX:∀(x cur r:Bs),Pd x->fg cur (x++r)=fg (cur++x) r
  |[],cur,r,_=>by simp
  | c :: x, cur, r, h => by
   rw[List.cons_append,fg,if_neg (h c mem_cons_self),FX x (cur++[c]) r (fun b hb=>h b (mem_cons_of_mem _ hb)),List.append_assoc];rfl
theorem KA:∀(xs:List Bs) (cur:Bs),cur≠[]->(∀x∈xs,x≠[]/\Pd x)->fg cur (joinTail [32] xs)=cur::xs
  | [], cur, hc, _ => by
   show fg cur []=[cur];rw[fg,if_neg hc]
  | y :: xs, cur, hc, h => by
   have e:joinTail [32] (y::xs)=32::(y++joinTail [32] xs):=(by simp[joinTail]);have hy:=h y mem_cons_self;rw[e,fg,if_pos rfl,if_neg hc,FX y [] _ hy.2,List.nil_append,KA xs y hy.1 (fun x hx=>h x (mem_cons_of_mem _ hx))]
theorem KC:∀(xs:List Bs),(∀x∈xs,x≠[]/\Pd x)->fg [] (join xs [32])=xs
  |[],_=>rfl
  | y :: xs, h => by
   have hy:=h y mem_cons_self;rw[Lib.join_cons,FX y [] _ hy.2,List.nil_append,KA xs y hy.1 (fun x hx=>h x (mem_cons_of_mem _ hx))]
def toB (l:Bs):ByteArray:=⟨l.toArray⟩
theorem Iq (l:Bs):(toB l).data.toList=l:=rfl
theorem OC {a b:Bs} (h:toB a=toB b):a=b:=by
 have:=congrArg (fun x:ByteArray=>x.data.toList) h;exact this
end Go.Proofs.YtljfoohaapckeaaGreatDoor
namespace Go.Proofs.YtljfoohaapckeaaGreatDoor
set_option linter.unusedVariables false
set_option linter.unusedSimpArgs false
set_option maxHeartbeats 4000000
set_option maxRecDepth 100000
def Ec (d:Dm):Bs:=decDigits d.1.toNat++44::(decDigits d.2.1.toNat++[if d.2.2=true then 100 else 114])
def pG (d:Dm):ByteArray:=toB (Ec d)
def Ir (l:List Dm):ByteArray:=toB (join (l.map Ec) [32])
theorem Ed {d:Dm} (h:aJ d=true):(0<=d.1/\d.1<=7)/\(0<=d.2.1/\d.2.1<=7):=by
 have h1:=(dJ (dK h).1).2;have h2:=(dK h).1;unfold bG inB at h2;simp at h2;omega
theorem yC {d:Dm} (h:aJ d=true):Ec d=[UInt8.ofNat (48+d.1.toNat),44,UInt8.ofNat (48+d.2.1.toNat),if d.2.2=true then 100 else 114]:=by
 have h1:=Ed h;unfold Ec;rw[Lib.decDigits_one (by omega),Lib.decDigits_one (by omega)];rfl
theorem Iu {a b:Nat} (ha:a<=7) (hb:b<=7) (h:UInt8.ofNat (48+a)=UInt8.ofNat (48+b)):a=b:=by
 have:=congrArg UInt8.toNat h;rw[UInt8.toNat_ofNat',UInt8.toNat_ofNat']at this;omega
theorem MG {d e:Dm} (hd:aJ d=true) (he:aJ e=true) (h:Ec d=Ec e):d=e:=by
 rw[yC hd,yC he]at h;have h1:=Ed hd;have h2:=Ed he;obtain⟨x,y,s⟩:=d;obtain⟨x',y',s'⟩:=e;simp only[List.cons.injEq,and_true,true_and]at h h1 h2;obtain⟨a,b,c⟩:=h;have e1:=Iu (by omega) (by omega) a;have e2:=Iu (by omega) (by omega) b;have e3:x=x':=(by omega);have e4:y=y':=(by omega);subst e3;subst e4
 have e5:s=s':=by
  cases s<;>cases s'
  . rfl
  . exact absurd (show(114:UInt8)=100 from c) (by decide)
  . exact absurd (show(100:UInt8)=114 from c) (by decide)
  . rfl
 rw[e5]
theorem KD {d:Dm} (h:aJ d=true):Ec d≠[]/\Pd (Ec d):=by
 have h1:=Ed h;rw[yC h];refine⟨by simp,fun b hb e=> ?_⟩;subst e
 have n32 : ∀ a : Nat, a <= 7 -> (32 : UInt8) ≠ UInt8.ofNat (48 + a) := fun a ha q => by
  have:=congrArg UInt8.toNat q;rw[UInt8.toNat_ofNat']at this;have e:(32:UInt8).toNat=32:=rfl;omega
 simp only[mem_cons,List.not_mem_nil,or_false]at hb;rcases hb with hb|hb|hb|hb
 . exact n32 _ (by omega) hb
 . exact absurd hb (by decide)
 . exact n32 _ (by omega) hb
 . split at hb<;>exact absurd hb (by decide)
theorem map_inj:∀{l m:List Dm},(∀d∈l,aJ d=true)->(∀d∈m,aJ d=true)->l.map Ec=m.map Ec->l=m
  |[],[],_,_,_=>rfl
  |[],_::_,_,_,h=>by simp at h
  |_::_,[],_,_,h=>by simp at h
  | d :: l, e :: m, hl, hm, h => by
   rw[map_cons,map_cons]at h;obtain⟨h1,h2⟩:=List.cons.inj h;rw[MG (hl d mem_cons_self) (hm e mem_cons_self) h1,map_inj (fun x hx=>hl x (mem_cons_of_mem _ hx)) (fun x hx=>hm x (mem_cons_of_mem _ hx)) h2]
theorem MH {l m:List Dm} (hl:∀d∈l,aJ d=true) (hm:∀d∈m,aJ d=true) (h:Ir l=Ir m):l=m:=by
 have h1:=congrArg (fg []) (OC h);rw[KC _ (fun x hx=>by obtain⟨d,hd,rfl⟩:=List.mem_map.1 hx;exact KD (hl d hd)),KC _ (fun x hx=>by obtain⟨d,hd,rfl⟩:=List.mem_map.1 hx;exact KD (hm d hd))]at h1;exact map_inj hl hm h1
theorem ET {d:Dm} (h:aJ d=true):(pG d).size=4:=by
 have:(pG d).size=(Ec d).length:=rfl;rw[this,yC h];rfl
def tV (n:Int):List Int->List Int
  |[]=>[n]
  |x::r=>if n<=x then n::x::r else x::tV n r
theorem Iw (n:Int):∀(l:List Int) (x:Int),x∈tV n l↔x=n∨x∈l
  |[],x=>by simp[tV]
  | y :: r, x => by
   unfold tV;split
   . simp
   . rw[mem_cons,Iw n r x,mem_cons];constructor
     . rintro(h|h|h)
       . exact .inr (.inl h)
       . exact .inl h
       . exact .inr (.inr h)
     . rintro(h|h|h)
       . exact .inr (.inl h)
       . exact .inl h
       . exact .inr (.inr h)
theorem Du (n:Int):∀l:List Int,(tV n l).length=l.length+1
  |[]=>rfl
  | y :: r => by
   unfold tV;split
   . rfl
   . rw[length_cons,Du n r,length_cons]
def uE (T:List (List Dm)) (j:Nat) (c:Cl):Int:=((ix T (aS (til T j) c):Nat):Int)
def mY (T:List (List Dm)) (j k:Nat):List Int:=((dW (til T j)).take k).foldl (fun own c=>tV (uE T j c) own) []
def Gj (T:List (List Dm)) (j:Nat):List Int:=mY T j (dW (til T j)).length
def gI (T:List (List Dm)) (j k:Nat):List Int:=((dW (til T j)).take k).map (uE T j)
def qZ (T:List (List Dm)) (j:Nat):List Int:=(dW (til T j)).map (uE T j)
theorem vM (l:List Dm):(dW l).length<=64:=by
 unfold dW;refine Nat.le_trans (List.length_filter_le _ _) ?_;simp
theorem Ar {T:List (List Dm)} {j k:Nat} (h:k<(dW (til T j)).length):mY T j (k+1)=tV (uE T j (dW (til T j))[k]) (mY T j k):=by
 unfold mY;rw[List.take_succ_eq_append_getElem h,foldl_append];rfl
theorem Cr {T:List (List Dm)} {j:Nat}:∀k,k<=(dW (til T j)).length->(mY T j k).length=k
  |0,_=>rfl
  |k+1,h=>by rw[Ar (by omega),Du,Cr k (by omega)]
theorem GI {T:List (List Dm)} {j k:Nat} (h:k<(dW (til T j)).length):gI T j k++[uE T j (dW (til T j))[k]]=gI T j (k+1):=by
 unfold gI;rw[List.take_succ_eq_append_getElem h,map_append];rfl
theorem Jv {T:List (List Dm)} {j k:Nat} (h:k<=(dW (til T j)).length):(gI T j k).length=k:=by
 unfold gI;rw[List.length_map,List.length_take];omega
theorem Jw (T:List (List Dm)) (j:Nat):gI T j (dW (til T j)).length=qZ T j:=by unfold gI qZ;rw[take_length]
theorem Iy (g : Cl -> Int) : ∀ (l : List Cl) (own : List Int) (x : Int), x ∈ l.foldl (fun own c => tV (g c) own) own ↔ x ∈ own ∨ ∃ c ∈ l, x = g c
  |[],own,x=>by simp
  | c :: l, own, x => by
   rw[List.foldl_cons,Iy g l,Iw];constructor
   . rintro((h|h)|⟨d,hd,e⟩)
     . exact .inr ⟨c,mem_cons_self,h⟩
     . exact .inl h
     . exact .inr ⟨d,mem_cons_of_mem _ hd,e⟩
   . rintro(h|⟨d,hd,e⟩)
     . exact .inl (.inr h)
     . rcases List.mem_cons.1 hd with rfl|hd
       . exact .inl (.inl e)
       . exact .inr ⟨d,hd,e⟩
structure Adj (T:List (List Dm)) (near:List (List Int)):Prop where
  len:near.length=T.length
  mem:∀(j:Nat) (h:j<near.length) (x:Int),x∈near[j]↔∃i:Nat,x=i/\Edge T j i
def nY (T:List (List Dm)) (k:Nat):List (List Int):=(range k).map (Gj T)
def lT (T:List (List Dm)) (k:Nat):List (List Int):=(range k).map (qZ T)
theorem GJ (T:List (List Dm)) (k:Nat):nY T k++[Gj T k]=nY T (k+1):=by unfold nY;rw[range_succ,map_append];rfl
theorem GK (T:List (List Dm)) (k:Nat):lT T k++[qZ T k]=lT T (k+1):=by unfold lT;rw[range_succ,map_append];rfl
theorem pI (T:List (List Dm)) (k:Nat):(nY T k).length=k:=by simp[nY]
theorem mZ (T:List (List Dm)) (k:Nat):(lT T k).length=k:=by simp[lT]
theorem MI (T:List (List Dm)):Adj T (nY T T.length) where
  len:=pI T _
  mem := fun j h x => by
   rw[pI]at h;have e:(nY T T.length)[j]'(by rw[pI];exact h)=Gj T j:=(by simp[nY]);rw[e];unfold Gj mY;rw[take_length,Iy];constructor
   . rintro(h|⟨c,hc,e⟩)
     . cases h
     . exact⟨_,e,h,List.mem_map.2 ⟨c,hc,rfl⟩⟩
   . rintro⟨i,rfl,_,hi⟩;obtain⟨c,hc,rfl⟩:=List.mem_map.1 hi;exact .inr ⟨c,hc,rfl⟩
theorem MJ (T:List (List Dm)):Adj T (lT T T.length) where
  len:=mZ T _
  mem := fun j h x => by
   rw[mZ]at h;have e:(lT T T.length)[j]'(by rw[mZ];exact h)=qZ T j:=(by simp[lT]);rw[e];unfold qZ;constructor
   . intro hx;obtain⟨c,hc,rfl⟩:=List.mem_map.1 hx;exact⟨_,rfl,h,List.mem_map.2 ⟨c,hc,rfl⟩⟩
   . rintro⟨i,rfl,_,hi⟩;obtain⟨c,hc,rfl⟩:=List.mem_map.1 hi;exact List.mem_map.2 ⟨c,hc,rfl⟩
def FY (l:List Dm):Lit:= .string (Ir l).data.toList
theorem LC (s:Bs):WideAt.IsKeyLit (.string s):=by unfold WideAt.IsKeyLit;trivial
def Iz (T:List (List Dm)) (k:Nat):DataW Unit:=(range k).foldl (fun D i=>D.put (FY (til T i)) (.lit (.int .i64 (i:Int)))) (.map [])
theorem zP (T:List (List Dm)) (k:Nat):Iz T (k+1)=(Iz T k).put (FY (til T k)) (.lit (.int .i64 (k:Int))):=by
 unfold Iz;rw[range_succ,foldl_append];rfl
theorem KE (T:List (List Dm)):∀k,Go.Maps.IsMap (Iz T k)
  |0=>Go.Maps.isMap_empty
  |k+1=>by rw[zP];exact(KE T k).put _ _
theorem OD {l m : List Dm} (hl : ∀ d ∈ l, aJ d = true) (hm : ∀ d ∈ m, aJ d = true) (h : l ≠ m) : FY l ≠ FY m := fun e => h (MH hl hm (by
 unfold FY at e;injection e with e;exact ByteArray.ext (Array.toList_inj.1 e)))
theorem KF {T:List (List Dm)} (hd:T.Nodup) (hok:∀t∈T,∀d∈t,aJ d=true) {i:Nat} (z:DataW Unit):∀k,k<=T.length->i<k->(Iz T k).atKey (FY (til T i)) z= .lit (.int .i64 (i:Int))
  |0,_,h=>by omega
  | k + 1, hk, h => by
   rw[zP];by_cases e:i=k
   . subst e;exact Go.Maps.atKey_put_same (KE T i) (by unfold FY;exact LC _) _ _
   . have hi : i < T.length := by omega
     have hk':k<T.length:=(by omega);rw[Go.Maps.atKey_put_other]
     . exact KF hd hok z k (by omega) (by omega)
     . rw[iO hi,iO hk'];refine OD (hok _ (getElem_mem hi)) (hok _ (getElem_mem hk')) fun q=>e ?_
       exact(List.getElem_inj hd).1 q
end Go.Proofs.YtljfoohaapckeaaGreatDoor
