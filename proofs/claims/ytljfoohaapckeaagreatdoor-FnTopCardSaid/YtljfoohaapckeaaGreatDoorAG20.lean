/- Flips between the tilings of a list, and a shortest way: plain laws. No program in sight. Repairs: plain laws. No program in sight. DERIVED: THE SHELF's CONTRACTS AT THIS DUMP, IN PLAIN WORDS (tools/lay-plain.mjs out of 'TryzShelf.lean', which tools/lay-shelf.mjs wrote): THE SAME DECLARATIONS UNDER THE SAME NAMES: 'import', 'namespace', 'open', 'def', 'theorem' AND NOTHING ELSE: no command of the shelf's: FOR A HAND-IN. Each laying: the table of numbers ('.._ren') and one theorem, a field a fact of the dump's own or the kernel's comparison; each contract: ONE APPLICATION. Numbers and lines as texts: FormatInt of both sides, lineOf. Conditions: numbers from 0 on; the library's table of powers, as its text lays it. FormatAct of both sides: the walks, and the law's. Conditions: the library's table of powers, as its text lays it. Lines cut at blanks, numbers and acts as texts, read back: plain laws. No program in sight. Dominoes as text: plain laws. No program in sight. The links of a list of tilings, as both sides hold them: plain laws. No program in sight. A list of waiting places that is cut at its head and appended to: the steps of a walk. Plain lemmas; no conditions. -/
import Derived.Test.YtljfoohaapckeaaGreatDoorADistPl
import Derived.Test.YtljfoohaapckeaaGreatDoorAG18
import Derived.Test.YtljfoohaapckeaaGreatDoorAListSt
import Derived.Shelf.Strings.Builder1
import Derived.Shelf.Strings.Builder2
import Derived.Shelf.Strings.OnBuilder
import Derived.Shelf.Strings.BuilderF
import Derived.Shelf.Strings.BuilderK
import Derived.Shelf.Strings.Builder2Cap
import Derived.Shelf.Strconv.Atoi
import Derived.Shelf.Strconv.Itoa0
import Derived.Shelf.Strconv.Itoa1
import Derived.Shelf.LaysM
import Derived.Shelf.Strconv.Itoa2
import Derived.Shelf.Strconv.Itoa3
import Derived.Shelf.Strconv.AtoiErrFast
import Derived.Shelf.Strconv.ParseIntEmpty
import Derived.Shelf.Strconv.AtoiFail
import Derived.Shelf.Strconv.Clone
import Derived.Shelf.Strconv.SyntaxError
import Derived.Shelf.LaysC
import Derived.Shelf.Strconv.ToError
import Derived.Shelf.Strconv.AtoiErr
import Derived.Shelf.Strconv.ErrVar
import Derived.Shelf.Strings.Search1
import Derived.Shelf.Strings.Search2
import Derived.Shelf.Strings.Search3
import Derived.Shelf.Strings.Count
import Derived.Shelf.Strings.Shaped
import Derived.Shelf.Strings.Split
import Derived.Shelf.Strings.SplitShaped
import Derived.Shelf.Unicode.DecodeSlow
import Derived.Shelf.Strings.BuilderCap
import Derived.Test.YtljfoohaapckeaaGreatDoorProg
import Derived.Test.YtljfoohaapckeaaGreatDoorAK1
import Derived.Laws.BytesArg
import Derived.Lib.ItoaLen
import Derived.Lib.Join
import Derived.Lib.AppendIntMem
import Derived.Test.YtljfoohaapckeaaGreatDoorAK2
import Derived.Lib.Atoi
import Derived.Test.YtljfoohaapckeaaGreatDoorAK5
import Derived.Maps.Views
import Derived.ArgAppend
open _root_.List (nodup_nil range length_cons getElem_mem take_length length_append foldl_append mem_cons_self mem_cons_of_mem mem_cons map_cons map_append range_succ)
open _root_.Go.Lib (join TabIs itoa decDigits joinTail)
open _root_.Go.Proofs.Tryz (prog isAgg0 sizeOf0 isAgg3 sizeOf3 isAgg4 sizeOf4 isAgg9 sizeOf9 isAgg20 sizeOf20 isAgg22 sizeOf22 isAgg5 sizeOf5)
namespace Go.Proofs.YtljfoohaapckeaaGreatDoor
set_option linter.unusedVariables false
set_option linter.unusedSimpArgs false
set_option maxHeartbeats 4000000
set_option maxRecDepth 100000
theorem xQ:∀(n i:Nat) (S:Nat->Bool),(tl n i S).Nodup
  |0,_,_=>by simp[tl]
  | n + 1, i, S => by
   have hc : ∀ (d : Dm) (l : List (List Dm)), l.Nodup -> (l.map (d :: ·)).Nodup := fun d l hl => by
    unfold List.Nodup at hl⊢;rw[List.pairwise_map];exact hl.imp fun{a b} h e=>h (List.cons.inj e).2
   have hd : eD i ≠ fM i := fun e => by
    have:=congrArg (fun x:Dm=>x.2.2) e;exact absurd this (by simp[eD,fM])
   rw[qK];split
   . rw[List.nodup_append];refine⟨?_,?_,fun a ha b hb e=> ?_⟩
     . split
       . exact hc _ _ (xQ n _ _)
       . exact nodup_nil
     . split
       . exact hc _ _ (xQ n _ _)
       . exact nodup_nil
     . subst e;split at ha
       . split at hb
         . obtain⟨x,_,rfl⟩:=List.mem_map.1 ha;obtain⟨y,_,e⟩:=List.mem_map.1 hb;exact hd (List.cons.inj e).1.symm
         . cases hb
       . cases ha
   . exact xQ n _ _
theorem zY {s:Nat} {t:List Dm} (hp:jE s t) (hall:∀j,j<64->s.testBit j=true->∃d∈t,(aL d).testBit j=true):t∈iJ s:=by
 refine xO.2 ⟨fun d hd=> ?_,hp.2.1,hp.2.2,fun j _ h2 h3=> ?_⟩
 . obtain⟨a,b,c⟩:=Ap.1 (hp.1 d hd);exact⟨a,Nat.zero_le _,b,c⟩
 . obtain⟨d,hd,e⟩:=hall j h2 h3;refine⟨d,hd,?_⟩;rw[aT (Ap.1 (hp.1 d hd)).1,Bool.or_eq_true,decide_eq_true_iff,decide_eq_true_iff]at e;exact e
theorem GA {s:Nat} {t:List Dm} (h:t∈iJ s) {j:Nat} (hj:j<64) (hs:s.testBit j=true):∃d∈t,(aL d).testBit j=true:=by
 obtain⟨d,hd,e⟩:=(xO.1 h).all j (Nat.zero_le _) hj hs;refine⟨d,hd,?_⟩;rw[aT (BC h d hd),Bool.or_eq_true,decide_eq_true_iff,decide_eq_true_iff];exact e
theorem GD {s:Nat} {t:List Dm} {c:Cl} (h:t∈iJ s) (hk:kindOf t c≠0):aS t c∈iJ s:=by
 have hp:=nX h;obtain⟨h1,h2,h3⟩:=Bi hp hk;obtain⟨hsq,g1,g2⟩:=JE hk;refine zY h1 fun j hj hs=> ?_
 obtain⟨d,hd,hb⟩:=GA h hj hs;have hm:∀x,x∈aS t c↔x∈iQ t (mM (kindOf t c) c) (nV (kindOf t c) c)/\aI x=true:=fun x=>DV _ x
 have hn : ∀ x, (x = (nV (kindOf t c) c).1 ∨ x = (nV (kindOf t c) c).2) -> x ∈ aS t c := fun x hx => by
  refine(hm x).2 ⟨(tY _ _ _ x).2 (hx.elim .inl fun q=> .inr (.inl q)),?_⟩;rcases hx with rfl|rfl
  . exact hsq.ok.2.2.1
  . exact hsq.ok.2.2.2
 by_cases e1:d=(mM (kindOf t c) c).1
 . rcases Dc hsq.symm (j := j) (.inl (by rw [<- e1]; exact hb)) with q | q
   . exact⟨_,hn _ (.inl rfl),q⟩
   . exact⟨_,hn _ (.inr rfl),q⟩
 . by_cases e2:d=(mM (kindOf t c) c).2
   . rcases Dc hsq.symm (j := j) (.inr (by rw [<- e2]; exact hb)) with q | q
     . exact⟨_,hn _ (.inl rfl),q⟩
     . exact⟨_,hn _ (.inr rfl),q⟩
   . exact⟨d,(hm d).2 ⟨(tY _ _ _ d).2 (.inr (.inr ⟨hd,e1,e2⟩)),BC h d hd⟩,hb⟩
def dX (l:List Dm):List Cl:=((range 64).map iC).filter fun c=>decide (kindOf l c≠0)
theorem lG {l:List Dm} {c:Cl}:c∈dX l↔kindOf l c≠0:=by
 unfold dX;rw[List.mem_filter,decide_eq_true_iff];refine⟨fun h=>h.2,fun h=>⟨?_,h⟩⟩;have hi:=Fb h;unfold jY at hi;rw[Bool.and_eq_true,decide_eq_true_iff,decide_eq_true_iff]at hi;obtain⟨x,y⟩:=c;simp only at hi;refine List.mem_map.2 ⟨(y*8+x).toNat,List.mem_range.2 (by omega),?_⟩;unfold iC;apply Prod.ext
 . simp only;omega
 . simp only;omega
def ix:List (List Dm)->List Dm->Nat
  |[],_=>0
  |a::r,m=>if a=m then 0 else ix r m+1
theorem mR:∀{T:List (List Dm)} {m:List Dm},m∈T->∃h:ix T m<T.length,T[ix T m]=m
  | a :: r, m, h => by
   by_cases e:a=m
   . have:ix (a::r) m=0:=if_pos e;refine⟨by rw[this];simp,?_⟩;simp only[this];exact e
   . have e2:ix (a::r) m=ix r m+1:=if_neg e;obtain⟨h1,h2⟩:=mR ((List.mem_cons.1 h).resolve_left (fun q=>e q.symm));refine⟨by rw[e2,length_cons];omega,?_⟩;simp only[e2,List.getElem_cons_succ];exact h2
theorem Od {T:List (List Dm)} (hd:T.Nodup) {i:Nat} (hi:i<T.length):ix T T[i]=i:=by
 obtain⟨h1,h2⟩:=mR (getElem_mem hi);exact(List.getElem_inj hd).1 h2
def mU (T:List (List Dm)) (m:List Dm):Int:=if m∈T then((ix T m:Nat):Int)else-1
theorem GG : ∀ {T : List (List Dm)} {m : List Dm} {k : Nat} (hk : k < T.length), (∀ j (h : j < k), T[j]'(by omega) ≠ m) -> T[k] = m -> ix T m = k
  |[],m,k,hk,_,_=>by simp at hk
  | a :: r, m, 0, hk, _, e => by
   have e':a=m:=e;exact if_pos e'
  | a :: r, m, k + 1, hk, h, e => by
   have e1:¬a=m:=h 0 (Nat.succ_pos _);have e2:ix (a::r) m=ix r m+1:=if_neg e1;rw[e2,GG (k:=k) (by simpa using hk) (fun j hj=>h (j+1) (by omega)) (by simpa using e)]
theorem index_hit {T : List (List Dm)} {m : List Dm} {k : Nat} (hk : k < T.length) (h : ∀ j (h : j < k), T[j]'(by omega) ≠ m) (e : T[k] = m) : mU T m = (k : Int) := by
 unfold mU;rw[if_pos (e▸getElem_mem hk),GG hk h e]
theorem BG {T:List (List Dm)} {m:List Dm} (h:∀j (h:j<T.length),T[j]≠m):mU T m= -1:=by
 unfold mU;rw[if_neg];intro hm;obtain⟨j,hj,e⟩:=List.getElem_of_mem hm;exact h j hj e
def til (T:List (List Dm)) (i:Nat):List Dm:=T.getD i []
theorem iO {T:List (List Dm)} {i:Nat} (hi:i<T.length):til T i=T[i]:=by unfold til;rw[List.getD_eq_getElem?_getD,List.getElem?_eq_getElem hi];rfl
def links (T:List (List Dm)) (j:Nat):List Nat:=(dX (til T j)).map fun c=>ix T (aS (til T j) c)
def Edge (T:List (List Dm)) (j i:Nat):Prop:=j<T.length/\i∈links T j
structure nN (T:List (List Dm)):Prop where
  nd:T.Nodup
  cl:∀t∈T,∀c,kindOf t c≠0->aS t c∈T/\kindOf (aS t c) c≠0/\aS (aS t c) c=t
  sm:T.length<=300
theorem Cz (rows:List Int):nN (aG rows):=by
 unfold aG;split
 . rename_i h
   have hr:dM rows:=by
    by_cases hr:bV rows=true
    . exact aN.1 hr
    . unfold bG at h;rw[if_neg hr]at h;simp[inB]at h
   refine⟨xQ _ _ _,fun t ht c hk=>⟨GD ht hk,?_⟩,?_⟩
   . obtain⟨_,h2,h3⟩:=Bi (nX ht) hk;exact⟨h2,h3⟩
   . have:=IK hr;simp[inB]at h;omega
 . exact⟨nodup_nil,(fun t ht=>by cases ht),by decide⟩
theorem yE {T:List (List Dm)} (hT:nN T) {j i:Nat} (h:Edge T j i):i<T.length:=by
 obtain⟨hj,hi⟩:=h;obtain⟨c,hc,rfl⟩:=List.mem_map.1 hi;rw[iO hj]at hc⊢;exact(mR (hT.cl _ (getElem_mem hj) c (lG.1 hc)).1).1
theorem KL {T:List (List Dm)} (hT:nN T) {j i:Nat} (h:Edge T j i):Edge T i j:=by
 have hlt:=yE hT h;obtain⟨hj,hi⟩:=h;obtain⟨c,hc,rfl⟩:=List.mem_map.1 hi;rw[iO hj]at hc hlt⊢;obtain⟨h1,h2,h3⟩:=hT.cl _ (getElem_mem hj) c (lG.1 hc);obtain⟨h4,h5⟩:=mR h1;refine⟨hlt,List.mem_map.2 ⟨c,?_,?_⟩⟩
 . rw[iO h4,h5];exact lG.2 h2
 . rw[iO h4,h5,h3];exact Od hT.nd hj
def FD (T:List (List Dm)) (f:Nat->Int) (i:Nat):Option Cl:=(dX (til T i)).find? fun c=>decide (f (ix T (aS (til T i) c))=f i-1)
def sF (T:List (List Dm)) (i:Nat) (c:Cl):Nat:=ix T (aS (til T i) c)
def sG (T:List (List Dm)) (f:Nat->Int):Nat->Nat->List Cl
  |0,_=>[]
  | m + 1, i => match FD T f i with
    |some c=>c::sG T f m (sF T i c)
    |none=>[]
theorem Em {T:List (List Dm)} (hT:nN T) {k n:Nat} {f:Nat->Int} (hd:kG (Edge T) k n f) {i:Nat} {m:Nat} (hf:f i=m+1):∃c,FD T f i=some c/\kindOf (til T i) c≠0/\f (sF T i c)=m/\sF T i c<T.length/\i<T.length:=by
 obtain⟨j,hj,he⟩:=hd.pre i m (by omega) hf;have hs:=KL hT he;have hi:=yE hT he;obtain⟨_,hm⟩:=hs;obtain⟨c,hc,rfl⟩:=List.mem_map.1 hm;cases h:FD T f i with
 |none=>
  have:=List.find?_eq_none.1 h c hc;simp only[decide_eq_true_eq]at this;exact absurd (by rw[hj,hf];omega) this
 |some d=>
  have h1:=List.find?_some h;have h2:=List.mem_of_find?_eq_some h;simp only[decide_eq_true_eq]at h1;have hk:=lG.1 h2;refine⟨d,rfl,hk,?_,?_,hi⟩
  . unfold sF;rw[h1,hf];omega
  . exact yE hT ⟨hi,List.mem_map.2 ⟨d,h2,rfl⟩⟩
theorem GH {T:List (List Dm)} {f:Nat->Int} {m i:Nat} {c:Cl} (h:FD T f i=some c):sG T f (m+1) i=c::sG T f m (sF T i c):=by
 rw[sG,h]
theorem JP (T:List (List Dm)) (f:Nat->Int):∀(m i:Nat),(sG T f m i).length<=m
  |0,_=>Nat.zero_le _
  | m + 1, i => by
   rw[sG];split
   . rename_i c _;rw[length_cons];have:=JP T f m (sF T i c);omega
   . exact Nat.zero_le _
open Classical in
noncomputable def qU (T:List (List Dm)) (k:Nat):Nat->Int:=if h:∃f,kG (Edge T) k T.length f then h.choose else fun _=> -1
theorem JQ {T:List (List Dm)} {k:Nat} {f:Nat->Int} (h:kG (Edge T) k T.length f):qU T k=f:=by
 have hx:∃f,kG (Edge T) k T.length f:=⟨f,h⟩;unfold qU;rw[dif_pos hx];funext i
 exact hx.choose_spec.same h i
noncomputable def En (rows:List Int) (a b:List Dm):Bool:=decide (a∈aG rows)&&decide (b∈aG rows)&&decide (0<=qU (aG rows) (ix (aG rows) b) (ix (aG rows) a))
noncomputable def BH (rows:List Int) (a b:List Dm):List Cl:=if En rows a b=true then sG (aG rows) (qU (aG rows) (ix (aG rows) b)) (qU (aG rows) (ix (aG rows) b) (ix (aG rows) a)).toNat (ix (aG rows) a)else[]
def sS (a b:List Dm) (k:Nat):Nat:=((a.take k).filter fun d=> !b.contains d).length
def chg (a b:List Dm):Nat:=(a.filter fun d=> !b.contains d).length
theorem Eo (a b:List Dm):sS a b a.length=chg a b:=by unfold sS chg;rw[take_length]
theorem BI {a b:List Dm} {k:Nat} (h:k<a.length):sS a b (k+1)=sS a b k+(if b.contains a[k]=true then 0 else 1):=by
 unfold sS;rw[List.take_succ_eq_append_getElem h,List.filter_append,length_append];congr 1
 by_cases hc:b.contains a[k]=true
 . rw[if_pos hc,List.filter_cons_of_neg (by rw[hc];simp)];rfl
 . rw[if_neg hc,List.filter_cons_of_pos (by simpa using hc)];rfl
theorem GI (a b:List Dm) (k:Nat):sS a b k<=k:=by
 unfold sS;refine Nat.le_trans (List.length_filter_le _ _) ?_;rw[List.length_take];omega
theorem Jo (a b:List Dm):chg a b<=a.length:=List.length_filter_le _ _
def jO (list:List Dm) (d:Dm) (b:Option (List Dm)) (t:List Dm):Option (List Dm):=
 if t.contains d = true then b else match b with
   |none=>some t
   |some m=>if chg list t<chg list m then some t else some m
def kY (T:List (List Dm)) (list:List Dm) (d:Dm) (k:Nat):Option (List Dm):=(T.take k).foldl (jO list d) none
def fT (T:List (List Dm)) (list:List Dm) (d:Dm):Option (List Dm):=T.foldl (jO list d) none
theorem BJ (T:List (List Dm)) (list:List Dm) (d:Dm):kY T list d T.length=fT T list d:=by unfold kY fT;rw[take_length]
theorem zZ {T:List (List Dm)} {list:List Dm} {d:Dm} {k:Nat} (h:k<T.length):kY T list d (k+1)=jO list d (kY T list d k) T[k]:=by
 unfold kY;rw[List.take_succ_eq_append_getElem h,foldl_append];rfl
def wW (rows:List Int) (l:List Dm) (d:Dm):Bool:=decide (l∈aG rows)&&(fT (aG rows) l d).isSome
def Au (rows:List Int) (l:List Dm) (d:Dm):List Dm:=if l∈aG rows then(fT (aG rows) l d).getD []else[]
theorem Nz {s:Nat} {t u:List Dm} (ht:t∈iJ s) (hu:u∈iJ s) (h:t≠[]):u≠[]:=by
 intro e;subst e;obtain⟨d,hd⟩:=List.exists_mem_of_ne_nil t h;have h1:=nX ht;obtain⟨a,b,c⟩:=Ap.1 (h1.1 d hd)
 have hlt:eO d<64:=by
  have:=(dO (dJ a).1).2;unfold eO;omega
 obtain⟨e,he,_⟩:=GA hu hlt b;cases he
theorem NA {rows:List Int} {t u:List Dm} (ht:t∈aG rows) (hu:u∈aG rows) (h:t≠[]):u≠[]:=by
 unfold aG at ht hu;split at ht
 . rename_i q;rw[if_pos q]at hu;exact Nz ht hu h
 . cases ht
theorem NB {rows:List Int} {t:List Dm} (ht:t∈aG rows):∀d∈t,aI d=true:=by
 unfold aG at ht;split at ht
 . exact BC ht
 . cases ht
theorem GJ {list:List Dm} {d:Dm}:∀(T:List (List Dm)) (b:Option (List Dm)) (m:List Dm),T.foldl (jO list d) b=some m->b=some m∨m∈T
  |[],b,m,h=> .inl h
  | t :: T, b, m, h => by
   rw[List.foldl_cons]at h;rcases GJ T _ m h with h|h
   . unfold jO at h;split at h
     . exact .inl h
     . split at h
       . injection h with h;subst h;exact .inr mem_cons_self
       . split at h
         . injection h with h;subst h;exact .inr mem_cons_self
         . exact .inl h
   . exact .inr (mem_cons_of_mem _ h)
end Go.Proofs.YtljfoohaapckeaaGreatDoor
namespace Go.Proofs
open Go.Shelf
set_option maxHeartbeats 4000000
set_option maxRecDepth 100000
def Tryz.Ad:Go.Shelf.Ren:=⟨fun|156=>116|165=>171|166=>172|169=>173|240=>207|241=>208|276=>231|277=>232|n=>n,fun|31=>42|9=>9|3=>3|4=>4|0=>0|20=>20|72=>171|76=>167|70=>169|37=>22|75=>166|127=>195|164=>216|5=>5|80=>173|n=>n,fun|n=>n⟩
theorem Tryz.JR : Go.Proofs.Lays.n156 prog Tryz.Ad := {
  mixed:=by kernel_rfl
  f156:=Tryz.func116.trans (congrArg some (by kernel_rfl))
  f165:=Tryz.func171.trans (congrArg some (by kernel_rfl))
  f166:=Tryz.func172.trans (congrArg some (by kernel_rfl))
  f169:=Tryz.func173.trans (congrArg some (by kernel_rfl))
  f240:=Tryz.func207.trans (congrArg some (by kernel_rfl))
  f241:=Tryz.func208.trans (congrArg some (by kernel_rfl))
  f276:=Tryz.func231.trans (congrArg some (by kernel_rfl))
  f277:=Tryz.func232.trans (congrArg some (by kernel_rfl))
  t0:=Tryz.underlying0
  a0:=isAgg0
  z0:=sizeOf0
  v0:=Tryz.zeroValue0
  t3:=Tryz.underlying3
  a3:=isAgg3
  z3:=sizeOf3
  v3:=Tryz.zeroValue3
  t4:=Tryz.underlying4
  a4:=isAgg4
  z4:=sizeOf4
  v4:=Tryz.zeroValue4
  t9:=Tryz.underlying9
  a9:=isAgg9
  z9:=sizeOf9
  v9:=Tryz.zeroValue9
  t20:=Tryz.underlying20
  a20:=isAgg20
  z20:=sizeOf20
  v20:=Tryz.zeroValue20
  t31:=Tryz.underlying42
  a31:=Tryz.isAgg42
  z31:=Tryz.sizeOf42
  v31:=Tryz.zeroValue42
  t37:=Tryz.underlying22
  a37:=isAgg22
  z37:=sizeOf22
  v37:=Tryz.zeroValue22
  t70:=Tryz.underlying169
  a70:=Tryz.isAgg169
  z70:=Tryz.sizeOf169
  v70:=Tryz.zeroValue169
  t72:=Tryz.underlying171
  a72:=Tryz.isAgg171
  z72:=Tryz.sizeOf171
  v72:=Tryz.zeroValue171
  t75:=Tryz.underlying166
  a75:=Tryz.isAgg166
  z75:=Tryz.sizeOf166
  v75:=Tryz.zeroValue166
  t76:=Tryz.underlying167
  a76:=Tryz.isAgg167
  z76:=Tryz.sizeOf167
  v76:=Tryz.zeroValue167
  t127:=Tryz.underlying195
  a127:=Tryz.isAgg195
  z127:=Tryz.sizeOf195
  v127:=Tryz.zeroValue195
  t164:=Tryz.underlying216
  a164:=Tryz.isAgg216
  z164:=Tryz.sizeOf216
  v164:=Tryz.zeroValue216}
theorem Tryz.pQ : Builder.Extra prog Tryz.Ad := {
  sizeBuilder:=by kernel_rfl
  liesBuilder:=by kernel_rfl
  t5:=Tryz.underlying5
  a5:=isAgg5
  z5:=sizeOf5
  v5:=Tryz.zeroValue5
  infoByte:=by kernel_rfl
  cellsByte:=by kernel_rfl
  sizeByte:=by kernel_rfl
  neB5:=by decide}
open Go.RowKit in
theorem Tryz.strings_Join_none (a:Option Addr) (c:Nat) (sep:ByteArray) (w:World):
 Calls prog 116 #[.slice a 0 c,.string sep] w fun e w'=>e= .returned (.string ⟨#[]⟩)/\w'=w:=Any.strings_Join_none Tryz.JR Tryz.pQ a c sep w
open Go.RowKit in
theorem Tryz.strings_Join (bk o c:Nat) (xs:List ByteArray) (sep:ByteArray) (w:World) (hcells:∀(j:Nat) x,xs[j]? =some x->w.cell? ⟨bk,o+j,none⟩=some (.string x)) (hbk:bk<w.heap.size) (hN:xs.length<=140737488355328) (hcap:xs.length<=c) (hlen:(join (xs.map (·.data.toList)) sep.data.toList).length<=140737488355328):
 Calls prog 116 #[.slice (some ⟨bk,o,none⟩) xs.length c,.string sep] w fun e w'=>e= .returned (.string ⟨(join (xs.map (·.data.toList)) sep.data.toList).toArray⟩)/\Below w.heap.size w w':=Any.strings_Join Tryz.JR Tryz.pQ bk o c xs sep w hcells hbk hN hcap hlen
def Tryz.laysM171_ren:Go.Shelf.Ren:=⟨fun|171=>113|243=>169|246=>204|283=>222|284=>223|285=>224|286=>225|129=>240|317=>239|318=>241|319=>242|320=>243|337=>252|338=>253|n=>n,fun|3=>3|9=>9|2=>2|4=>4|171=>205|0=>0|53=>124|37=>22|5=>5|173=>208|212=>225|51=>226|20=>20|213=>227|46=>177|232=>247|233=>248|n=>n,fun|17=>0|18=>6|19=>7|n=>n⟩
theorem Tryz.laysM171 : Go.Proofs.LaysM.n171 prog Tryz.laysM171_ren := {
  mixed:=by kernel_rfl
  f129:=Tryz.func240.trans (congrArg some (by kernel_rfl))
  f171:=Tryz.func113.trans (congrArg some (by kernel_rfl))
  f243:=Tryz.func169.trans (congrArg some (by kernel_rfl))
  f246:=Tryz.func204.trans (congrArg some (by kernel_rfl))
  f283:=Tryz.func222.trans (congrArg some (by kernel_rfl))
  f284:=Tryz.func223.trans (congrArg some (by kernel_rfl))
  f285:=Tryz.func224.trans (congrArg some (by kernel_rfl))
  f286:=Tryz.func225.trans (congrArg some (by kernel_rfl))
  f317:=Tryz.func239.trans (congrArg some (by kernel_rfl))
  f318:=Tryz.func241.trans (congrArg some (by kernel_rfl))
  f319:=Tryz.func242.trans (congrArg some (by kernel_rfl))
  f320:=Tryz.func243.trans (congrArg some (by kernel_rfl))
  f337:=Tryz.func252.trans (congrArg some (by kernel_rfl))
  f338:=Tryz.func253.trans (congrArg some (by kernel_rfl))
  t0:=Tryz.underlying0
  a0:=isAgg0
  z0:=sizeOf0
  v0:=Tryz.zeroValue0
  t2:=Tryz.underlying2
  a2:=Tryz.isAgg2
  z2:=Tryz.sizeOf2
  v2:=Tryz.zeroValue2
  t3:=Tryz.underlying3
  a3:=isAgg3
  z3:=sizeOf3
  v3:=Tryz.zeroValue3
  t4:=Tryz.underlying4
  a4:=isAgg4
  z4:=sizeOf4
  v4:=Tryz.zeroValue4
  t5:=Tryz.underlying5
  a5:=isAgg5
  z5:=sizeOf5
  v5:=Tryz.zeroValue5
  t9:=Tryz.underlying9
  a9:=isAgg9
  z9:=sizeOf9
  v9:=Tryz.zeroValue9
  t20:=Tryz.underlying20
  a20:=isAgg20
  z20:=sizeOf20
  v20:=Tryz.zeroValue20
  t37:=Tryz.underlying22
  a37:=isAgg22
  z37:=sizeOf22
  v37:=Tryz.zeroValue22
  t46:=Tryz.underlying177
  a46:=Tryz.isAgg177
  z46:=Tryz.sizeOf177
  v46:=Tryz.zeroValue177
  t51:=Tryz.underlying226
  a51:=Tryz.isAgg226
  z51:=Tryz.sizeOf226
  v51:=Tryz.zeroValue226
  t53:=Tryz.underlying124
  a53:=Tryz.isAgg124
  z53:=Tryz.sizeOf124
  v53:=Tryz.zeroValue124
  t171:=Tryz.underlying205
  a171:=Tryz.isAgg205
  z171:=Tryz.sizeOf205
  v171:=Tryz.zeroValue205
  t173:=Tryz.underlying208
  a173:=Tryz.isAgg208
  z173:=Tryz.sizeOf208
  v173:=Tryz.zeroValue208
  t212:=Tryz.underlying225
  a212:=Tryz.isAgg225
  z212:=Tryz.sizeOf225
  v212:=Tryz.zeroValue225
  t213:=Tryz.underlying227
  a213:=Tryz.isAgg227
  z213:=Tryz.sizeOf227
  t232:=Tryz.underlying247
  a232:=Tryz.isAgg247
  z232:=Tryz.sizeOf247
  v232:=Tryz.zeroValue247
  t233:=Tryz.underlying248
  a233:=Tryz.isAgg248
  z233:=Tryz.sizeOf248
  v233:=Tryz.zeroValue248
  g17:=by kernel_rfl
  g18:=by kernel_rfl
  g19:=by kernel_rfl
  i0:=by kernel_rfl
  i2:=by kernel_rfl
  i3:=by kernel_rfl
  i4:=by kernel_rfl
  i5:=by kernel_rfl
  i9:=by kernel_rfl
  i20:=by kernel_rfl
  i37:=by kernel_rfl
  i46:=by kernel_rfl
  i51:=by kernel_rfl
  i53:=by kernel_rfl
  i171:=by kernel_rfl
  i173:=by kernel_rfl
  i212:=by kernel_rfl
  i232:=by kernel_rfl
  i233:=by kernel_rfl
  m17:=by kernel_rfl
  m18:=by kernel_rfl
  m19:=by kernel_rfl}
open Go.RowKit Go.Sort Go.Lib in
theorem Tryz.strconv_Itoa (n:Int) (h0: -9223372036854775808<=n) (h1:n<=9223372036854775807) (w:World) (htab:TabIs prog w "internal/strconv.uint64pow10" .u64 Lib.pow10Tab):
 Calls prog 113 #[.int .i64 n] w fun e w'=>e= .returned (.string ⟨(itoa n).toArray⟩)/\∃k os,w'=grow (w.drewN k) os:=Any.strconv_Itoa Tryz.laysM171 n h0 h1 w htab
end Go.Proofs
namespace Go.Proofs.YtljfoohaapckeaaGreatDoor
open Go.ChangeShapes Go.WideShapes Go.ChangeAt Go.RowKit
set_option linter.unusedVariables false
set_option linter.unusedSimpArgs false
set_option maxHeartbeats 4000000
set_option maxRecDepth 100000
def Tab (w:World):Prop:=TabIs prog w "internal/strconv.uint64pow10" .u64 Lib.pow10Tab
theorem Tab.below {w w':World} (h:Tab w) (hb:Below w.heap.size w w'):Tab w':=by
 unfold Tab TabIs World.var? at h⊢;have hg:Tryz.prog.globalNamed "internal/strconv.uint64pow10" =some 0:=(by kernel_rfl);rw[hg]at h⊢;simp only[Option.bind_some]at h⊢
 have hlt:0<w.heap.size:=by
  rcases Nat.lt_or_ge 0 w.heap.size with h'|h'
  . exact h'
  . rw[Array.getElem?_eq_none h']at h;cases h
 rw[hb.block 0 hlt];exact h
def GK (n:Int):ByteArray:=⟨(decDigits n.toNat).toArray⟩
theorem LB {n:Int} (h:0<=n):itoa n=decDigits n.toNat:=by unfold itoa;rw[if_neg (by omega)]
theorem IL (w:World) (k:Nat) (os:Array Obj):Below w.heap.size w (Sort.grow (w.drewN k) os):=Lib.below_grow w.heap.size w (Nat.le_refl _) k os
theorem LC (n:Int) (w:World) (h0:0<=n) (h1:n<=9223372036854775807) (ht:Tab w):Calls prog 113 #[.int .i64 n] w (Ret (.string (GK n)) w):=by
 refine(Tryz.strconv_Itoa n (by omega) h1 w ht).mono ?_;rintro e w' ⟨rfl,k,os,rfl⟩;exact⟨by rw[LB h0];rfl,IL w k os⟩
theorem xR (n:Int) (w:World) (h0:0<=n) (h1:n<=9223372036854775807) (ht:Tab w):Calls prog 50 #[.int .i64 n] w (Ret (.string (GK n)) w):=by
 go_enter Tryz.func50,Tryz.ntmps50
 go_wp2_with fail
 refine(LC n _ h0 h1 ht).mono ?_;rintro e w1 ⟨rfl,hb1⟩;go_wp2;go_ret;exact⟨rfl,hb1⟩
theorem JS {α:Type} {E:TypeId} {enc:α->List Value} (w:World) (x:α) {u:Value} (h:enc x=[u]):aD E 1 enc w.heap.size (w.alloc (.cells #[u] E)) (.slice (some ⟨w.heap.size,0,none⟩) 1 1) [x]:=by
 have e:[x].flatMap enc=[u]:=(by simp[h]);unfold aD;rw[e];exact⟨by simp,.inr ⟨w.heap.size,1,#[u],rfl,Nat.le_refl _,heap_alloc_new w _,by simp,by simp[maxLen],by simp,by simp⟩⟩
end Go.Proofs.YtljfoohaapckeaaGreatDoor
namespace Go.Proofs.YtljfoohaapckeaaGreatDoor
open Go.RowKit
set_option linter.unusedVariables false
set_option linter.unusedSimpArgs false
set_option maxHeartbeats 4000000
set_option maxRecDepth 100000
abbrev Bs:=List UInt8
def fg:Bs->Bs->List Bs
  |cur,[]=>if cur=[]then[]else[cur]
  |cur,c::r=>if c=32 then(if cur=[]then fg [] r else cur::fg [] r)else fg (cur++[c]) r
def Oe (l:Bs):Prop:=∀b∈l,b≠32
theorem Fh:∀(x cur r:Bs),Oe x->fg cur (x++r)=fg (cur++x) r
  |[],cur,r,_=>by simp
  | c :: x, cur, r, h => by
   rw[List.cons_append,fg,if_neg (h c mem_cons_self),Fh x (cur++[c]) r (fun b hb=>h b (mem_cons_of_mem _ hb)),List.append_assoc];rfl
theorem JU:∀(xs:List Bs) (cur:Bs),cur≠[]->(∀x∈xs,x≠[]/\Oe x)->fg cur (joinTail [32] xs)=cur::xs
  | [], cur, hc, _ => by
   show fg cur []=[cur];rw[fg,if_neg hc]
  | y :: xs, cur, hc, h => by
   have e:joinTail [32] (y::xs)=32::(y++joinTail [32] xs):=(by simp[joinTail]);have hy:=h y mem_cons_self;rw[e,fg,if_pos rfl,if_neg hc,Fh y [] _ hy.2,List.nil_append,JU xs y hy.1 (fun x hx=>h x (mem_cons_of_mem _ hx))]
theorem JV:∀(xs:List Bs),(∀x∈xs,x≠[]/\Oe x)->fg [] (join xs [32])=xs
  |[],_=>rfl
  | y :: xs, h => by
   have hy:=h y mem_cons_self;rw[Lib.join_cons,Fh y [] _ hy.2,List.nil_append,JU xs y hy.1 (fun x hx=>h x (mem_cons_of_mem _ hx))]
def toB (l:Bs):ByteArray:=⟨l.toArray⟩
theorem GL (l:Bs):(toB l).data.toList=l:=rfl
theorem NC {a b:Bs} (h:toB a=toB b):a=b:=by
 have:=congrArg (fun x:ByteArray=>x.data.toList) h;exact this
end Go.Proofs.YtljfoohaapckeaaGreatDoor
namespace Go.Proofs.YtljfoohaapckeaaGreatDoor
set_option linter.unusedVariables false
set_option linter.unusedSimpArgs false
set_option maxHeartbeats 4000000
set_option maxRecDepth 100000
def Dl (d:Dm):Bs:=decDigits d.1.toNat++44::(decDigits d.2.1.toNat++[if d.2.2=true then 100 else 114])
def pE (d:Dm):ByteArray:=toB (Dl d)
def GM (l:List Dm):ByteArray:=toB (join (l.map Dl) [32])
theorem Dn {d:Dm} (h:aI d=true):(0<=d.1/\d.1<=7)/\(0<=d.2.1/\d.2.1<=7):=by
 have h1:=(dO (dJ h).1).2;have h2:=(dJ h).1;unfold aY inB at h2;simp at h2;omega
theorem xS {d:Dm} (h:aI d=true):Dl d=[UInt8.ofNat (48+d.1.toNat),44,UInt8.ofNat (48+d.2.1.toNat),if d.2.2=true then 100 else 114]:=by
 have h1:=Dn h;unfold Dl;rw[Lib.decDigits_one (by omega),Lib.decDigits_one (by omega)];rfl
theorem GN {a b:Nat} (ha:a<=7) (hb:b<=7) (h:UInt8.ofNat (48+a)=UInt8.ofNat (48+b)):a=b:=by
 have:=congrArg UInt8.toNat h;rw[UInt8.toNat_ofNat',UInt8.toNat_ofNat']at this;omega
theorem LD {d e:Dm} (hd:aI d=true) (he:aI e=true) (h:Dl d=Dl e):d=e:=by
 rw[xS hd,xS he]at h;have h1:=Dn hd;have h2:=Dn he;obtain⟨x,y,s⟩:=d;obtain⟨x',y',s'⟩:=e;simp only[List.cons.injEq,and_true,true_and]at h h1 h2;obtain⟨a,b,c⟩:=h;have e1:=GN (by omega) (by omega) a;have e2:=GN (by omega) (by omega) b;have e3:x=x':=(by omega);have e4:y=y':=(by omega);subst e3;subst e4
 have e5:s=s':=by
  cases s<;>cases s'
  . rfl
  . exact absurd (show(114:UInt8)=100 from c) (by decide)
  . exact absurd (show(100:UInt8)=114 from c) (by decide)
  . rfl
 rw[e5]
theorem JW {d:Dm} (h:aI d=true):Dl d≠[]/\Oe (Dl d):=by
 have h1:=Dn h;rw[xS h];refine⟨by simp,fun b hb e=> ?_⟩;subst e
 have n32 : ∀ a : Nat, a <= 7 -> (32 : UInt8) ≠ UInt8.ofNat (48 + a) := fun a ha q => by
  have:=congrArg UInt8.toNat q;rw[UInt8.toNat_ofNat']at this;have e:(32:UInt8).toNat=32:=rfl;omega
 simp only[mem_cons,List.not_mem_nil,or_false]at hb;rcases hb with hb|hb|hb|hb
 . exact n32 _ (by omega) hb
 . exact absurd hb (by decide)
 . exact n32 _ (by omega) hb
 . split at hb<;>exact absurd hb (by decide)
theorem map_inj:∀{l m:List Dm},(∀d∈l,aI d=true)->(∀d∈m,aI d=true)->l.map Dl=m.map Dl->l=m
  |[],[],_,_,_=>rfl
  |[],_::_,_,_,h=>by simp at h
  |_::_,[],_,_,h=>by simp at h
  | d :: l, e :: m, hl, hm, h => by
   rw[map_cons,map_cons]at h;obtain⟨h1,h2⟩:=List.cons.inj h;rw[LD (hl d mem_cons_self) (hm e mem_cons_self) h1,map_inj (fun x hx=>hl x (mem_cons_of_mem _ hx)) (fun x hx=>hm x (mem_cons_of_mem _ hx)) h2]
theorem LF {l m:List Dm} (hl:∀d∈l,aI d=true) (hm:∀d∈m,aI d=true) (h:GM l=GM m):l=m:=by
 have h1:=congrArg (fg []) (NC h);rw[JV _ (fun x hx=>by obtain⟨d,hd,rfl⟩:=List.mem_map.1 hx;exact JW (hl d hd)),JV _ (fun x hx=>by obtain⟨d,hd,rfl⟩:=List.mem_map.1 hx;exact JW (hm d hd))]at h1;exact map_inj hl hm h1
theorem Ep {d:Dm} (h:aI d=true):(pE d).size=4:=by
 have:(pE d).size=(Dl d).length:=rfl;rw[this,xS h];rfl
def sN (n:Int):List Int->List Int
  |[]=>[n]
  |x::r=>if n<=x then n::x::r else x::sN n r
theorem GQ (n:Int):∀(l:List Int) (x:Int),x∈sN n l↔x=n∨x∈l
  |[],x=>by simp[sN]
  | y :: r, x => by
   unfold sN;split
   . simp
   . rw[mem_cons,GQ n r x,mem_cons];constructor
     . rintro(h|h|h)
       . exact .inr (.inl h)
       . exact .inl h
       . exact .inr (.inr h)
     . rintro(h|h|h)
       . exact .inr (.inl h)
       . exact .inl h
       . exact .inr (.inr h)
theorem CE (n:Int):∀l:List Int,(sN n l).length=l.length+1
  |[]=>rfl
  | y :: r => by
   unfold sN;split
   . rfl
   . rw[length_cons,CE n r,length_cons]
def sU (T:List (List Dm)) (j:Nat) (c:Cl):Int:=((ix T (aS (til T j) c):Nat):Int)
def mV (T:List (List Dm)) (j k:Nat):List Int:=((dX (til T j)).take k).foldl (fun own c=>sN (sU T j c) own) []
def FE (T:List (List Dm)) (j:Nat):List Int:=mV T j (dX (til T j)).length
def gZ (T:List (List Dm)) (j k:Nat):List Int:=((dX (til T j)).take k).map (sU T j)
def qM (T:List (List Dm)) (j:Nat):List Int:=(dX (til T j)).map (sU T j)
theorem uX (l:List Dm):(dX l).length<=64:=by
 unfold dX;refine Nat.le_trans (List.length_filter_le _ _) ?_;simp
theorem Ae {T:List (List Dm)} {j k:Nat} (h:k<(dX (til T j)).length):mV T j (k+1)=sN (sU T j (dX (til T j))[k]) (mV T j k):=by
 unfold mV;rw[List.take_succ_eq_append_getElem h,foldl_append];rfl
theorem BK {T:List (List Dm)} {j:Nat}:∀k,k<=(dX (til T j)).length->(mV T j k).length=k
  |0,_=>rfl
  |k+1,h=>by rw[Ae (by omega),CE,BK k (by omega)]
theorem FW {T:List (List Dm)} {j k:Nat} (h:k<(dX (til T j)).length):gZ T j k++[sU T j (dX (til T j))[k]]=gZ T j (k+1):=by
 unfold gZ;rw[List.take_succ_eq_append_getElem h,map_append];rfl
theorem IM {T:List (List Dm)} {j k:Nat} (h:k<=(dX (til T j)).length):(gZ T j k).length=k:=by
 unfold gZ;rw[List.length_map,List.length_take];omega
theorem IP (T:List (List Dm)) (j:Nat):gZ T j (dX (til T j)).length=qM T j:=by unfold gZ qM;rw[take_length]
theorem GR (g : Cl -> Int) : ∀ (l : List Cl) (own : List Int) (x : Int), x ∈ l.foldl (fun own c => sN (g c) own) own ↔ x ∈ own ∨ ∃ c ∈ l, x = g c
  |[],own,x=>by simp
  | c :: l, own, x => by
   rw[List.foldl_cons,GR g l,GQ];constructor
   . rintro((h|h)|⟨d,hd,e⟩)
     . exact .inr ⟨c,mem_cons_self,h⟩
     . exact .inl h
     . exact .inr ⟨d,mem_cons_of_mem _ hd,e⟩
   . rintro(h|⟨d,hd,e⟩)
     . exact .inl (.inr h)
     . rcases List.mem_cons.1 hd with rfl|hd
       . exact .inl (.inl e)
       . exact .inr ⟨d,hd,e⟩
structure Adj (T:List (List Dm)) (near:List (List Int)):Prop where
  len:near.length=T.length
  mem:∀(j:Nat) (h:j<near.length) (x:Int),x∈near[j]↔∃i:Nat,x=i/\Edge T j i
def nY (T:List (List Dm)) (k:Nat):List (List Int):=(range k).map (FE T)
def lT (T:List (List Dm)) (k:Nat):List (List Int):=(range k).map (qM T)
theorem FX (T:List (List Dm)) (k:Nat):nY T k++[FE T k]=nY T (k+1):=by unfold nY;rw[range_succ,map_append];rfl
theorem FY (T:List (List Dm)) (k:Nat):lT T k++[qM T k]=lT T (k+1):=by unfold lT;rw[range_succ,map_append];rfl
theorem pF (T:List (List Dm)) (k:Nat):(nY T k).length=k:=by simp[nY]
theorem mW (T:List (List Dm)) (k:Nat):(lT T k).length=k:=by simp[lT]
theorem LG (T:List (List Dm)):Adj T (nY T T.length) where
  len:=pF T _
  mem := fun j h x => by
   rw[pF]at h;have e:(nY T T.length)[j]'(by rw[pF];exact h)=FE T j:=(by simp[nY]);rw[e];unfold FE mV;rw[take_length,GR];constructor
   . rintro(h|⟨c,hc,e⟩)
     . cases h
     . exact⟨_,e,h,List.mem_map.2 ⟨c,hc,rfl⟩⟩
   . rintro⟨i,rfl,_,hi⟩;obtain⟨c,hc,rfl⟩:=List.mem_map.1 hi;exact .inr ⟨c,hc,rfl⟩
theorem LH (T:List (List Dm)):Adj T (lT T T.length) where
  len:=mW T _
  mem := fun j h x => by
   rw[mW]at h;have e:(lT T T.length)[j]'(by rw[mW];exact h)=qM T j:=(by simp[lT]);rw[e];unfold qM;constructor
   . intro hx;obtain⟨c,hc,rfl⟩:=List.mem_map.1 hx;exact⟨_,rfl,h,List.mem_map.2 ⟨c,hc,rfl⟩⟩
   . rintro⟨i,rfl,_,hi⟩;obtain⟨c,hc,rfl⟩:=List.mem_map.1 hi;exact List.mem_map.2 ⟨c,hc,rfl⟩
def Fj (l:List Dm):Lit:= .string (GM l).data.toList
theorem KM (s:Bs):WideAt.IsKeyLit (.string s):=by unfold WideAt.IsKeyLit;trivial
def GU (T:List (List Dm)) (k:Nat):DataW Unit:=(range k).foldl (fun D i=>D.put (Fj (til T i)) (.lit (.int .i64 (i:Int)))) (.map [])
theorem yV (T:List (List Dm)) (k:Nat):GU T (k+1)=(GU T k).put (Fj (til T k)) (.lit (.int .i64 (k:Int))):=by
 unfold GU;rw[range_succ,foldl_append];rfl
theorem JX (T:List (List Dm)):∀k,Go.Maps.IsMap (GU T k)
  |0=>Go.Maps.isMap_empty
  |k+1=>by rw[yV];exact(JX T k).put _ _
theorem ND {l m : List Dm} (hl : ∀ d ∈ l, aI d = true) (hm : ∀ d ∈ m, aI d = true) (h : l ≠ m) : Fj l ≠ Fj m := fun e => h (LF hl hm (by
 unfold Fj at e;injection e with e;exact ByteArray.ext (Array.toList_inj.1 e)))
theorem JY {T:List (List Dm)} (hd:T.Nodup) (hok:∀t∈T,∀d∈t,aI d=true) {i:Nat} (z:DataW Unit):∀k,k<=T.length->i<k->(GU T k).atKey (Fj (til T i)) z= .lit (.int .i64 (i:Int))
  |0,_,h=>by omega
  | k + 1, hk, h => by
   rw[yV];by_cases e:i=k
   . subst e;exact Go.Maps.atKey_put_same (JX T i) (by unfold Fj;exact KM _) _ _
   . have hi : i < T.length := by omega
     have hk':k<T.length:=(by omega);rw[Go.Maps.atKey_put_other]
     . exact JY hd hok z k (by omega) (by omega)
     . rw[iO hi,iO hk'];refine ND (hok _ (getElem_mem hi)) (hok _ (getElem_mem hk')) fun q=>e ?_
       exact(List.getElem_inj hd).1 q
end Go.Proofs.YtljfoohaapckeaaGreatDoor
namespace Go.Proofs.YtljfoohaapckeaaGreatDoor
open Go.ChangeShapes Go.WideShapes Go.ChangeAt Go.RowKit
set_option linter.unusedVariables false
set_option linter.unusedSimpArgs false
set_option maxHeartbeats 4000000
set_option maxRecDepth 100000
def Qu (B:Nat) (w:World) (v:Value) (l:List Int):Prop:=
 ∃(g off c:Nat) (cs:Array Value),v= .slice (some ⟨g,off,none⟩) l.length c/\B<=g/\Blk w g 3 cs/\l.length<=c/\c<=maxLen/\off+c<=cs.size/\∀(j:Nat) (x:Int),l[j]? =some x->cs[off+j]? =some (.int .i64 x)
theorem Qu.MM {B:Nat} {w:World} {v:Value} {l:List Int} (h:aD 3 1 bQ B w v l) (hl:0<l.length):Qu B w v l:=by
 have h':=h;rcases h.2 with⟨_,h0⟩|⟨g,cap,cur,e,hg,hh,hc,hm,hsz,hx⟩
 . omega
 . refine ⟨g, 0, cap, cur, e, hg, hh, hc, hm, by omega, fun j x hj => ?_⟩;have hk:=(List.getElem?_eq_some_iff.1 hj).1;subst e
   have h1 := World.ownsRow.cells h' (g := g) rfl j (.int .i64 x) (by
    have:=EZ (enc:=bQ) aJ (by decide) l j x hj 0 _ rfl;simpa using this)
   have h2:=cell_of_row w g j cur 3 (0,0) hh;rw[Nat.zero_add,<-h2];have e2:(Addr.mk g 0 none).add j=⟨g,j,none⟩:=(by rw[Addr.add_lit,Nat.zero_add]);rw[<-e2];exact h1
theorem Qu.below {B:Nat} {w w':World} {v:Value} {l:List Int} (h:Qu B w v l) (hb:Below w.heap.size w w'):Qu B w' v l:=by
 obtain⟨g,off,c,cs,e,h1,h2,h3⟩:=h;exact⟨g,off,c,cs,e,h1,h2.below hb h2.lt,h3⟩
theorem Qu.kept {B:Nat} {w w':World} {v:Value} {l:List Int} {row:Option Nat} (h:Qu B w v l) (hg:w.grownBy w' row) (hne:v.ownBlock≠row):Qu B w' v l:=by
 obtain⟨g,off,c,cs,e,h1,h2,h3⟩:=h;subst e;exact⟨g,off,c,cs,rfl,h1,h2.grown hg hne,h3⟩
theorem Qu.form {B:Nat} {w:World} {v:Value} {l:List Int} (h:Qu B w v l):∃g off c,v= .slice (some ⟨g,off,none⟩) l.length c/\B<=g/\g<w.heap.size/\l.length<=c/\c<=maxLen:=by
 obtain⟨g,off,c,cs,e,h1,h2,h3,h4,_⟩:=h;exact⟨g,off,c,e,h1,h2.lt,h3,h4⟩
theorem Qu.head {B g off c:Nat} {w:World} {x:Int} {l:List Int} {n:Nat} (h:Qu B w (.slice (some ⟨g,off,none⟩) n c) (x::l)):w.cell? ⟨g,off,none⟩=some (.int .i64 x):=by
 obtain⟨g',off',c',cs,e,h1,h2,h3,h4,h5,h6⟩:=h;injection e with e1 e2 e3;injection e1 with e1;injection e1 with e1 e4;subst e1;subst e4;rw[h2.cell];exact h6 0 x rfl
theorem Qu.rd {B:Nat} {w:World} {v:Value} {l:List Int} (h:Qu B w v l):Rd 1 aX w v l:=by
 obtain⟨g,off,c,cs,e,h1,h2,h3,h4,h5,h6⟩:=h;refine⟨_,c,e,h3,h4,fun _=>⟨g,off,rfl,h2.lt,fun i x hx=>⟨bQ x,aJ x,rfl,fun j u hu=> ?_⟩⟩⟩
 obtain rfl:j=0:=by
  have:=(List.getElem?_eq_some_iff.1 hu).1;rw[aJ]at this;omega
 rw[h2.cell,Nat.mul_one,Nat.add_zero,h6 i x hx];exact hu
theorem Qu.tail {B g off c c' n:Nat} {A':Option Addr} {w:World} {x:Int} {l:List Int} (h:Qu B w (.slice (some ⟨g,off,none⟩) n c) (x::l)) (hs:sliced (some ⟨g,off,none⟩) 1 n c 1= .slice A' (n-1) c'):Qu B w (.slice A' (n-1) c') l:=by
 obtain⟨g',off',c0,cs,e,h1,h2,h3,h4,h5,h6⟩:=h;injection e with e1 e2 e3;injection e1 with e1;injection e1 with e1 e4;subst e1;subst e4;subst e3;rw[length_cons]at h3 e2;unfold sliced at hs;injection hs with s1 s2 s3;subst s3;have hn:n-1=l.length:=(by omega);by_cases hc:c=1
 . subst hc;rw[if_pos rfl]at s1;subst s1;refine⟨g,off,1-1,cs,by rw[hn],h1,h2,by omega,by omega,by omega,fun j y hj=> ?_⟩;have:=(List.getElem?_eq_some_iff.1 hj).1;omega
 . rw[if_neg hc]at s1;simp only[Option.map_some,Addr.add_lit]at s1;subst s1;refine⟨g,off+1*1,c-1,cs,by rw[hn],h1,h2,by omega,by omega,by omega,fun j y hj=> ?_⟩;have:=h6 (j+1) y (by simpa using hj);rw[<-this];congr 1
   omega
theorem Qu.mono {B B':Nat} {w:World} {v:Value} {l:List Int} (h:Qu B w v l) (hb:B'<=B):Qu B' w v l:=by
 obtain⟨g,off,c,cs,e,h1,h2⟩:=h;exact⟨g,off,c,cs,e,by omega,h2⟩
theorem NF {g off n c c':Nat} {A':Option Addr} (hs:sliced (some ⟨g,off,none⟩) 1 n c 1= .slice A' (n-1) c'):(Value.slice A' (n-1) c').ownBlock=some g:=by
 unfold sliced at hs;injection hs with s1 s2 s3;by_cases hc:c=1
 . rw[if_pos hc]at s1;subst s1;rfl
 . rw[if_neg hc]at s1;simp only[Option.map_some,Addr.add_lit]at s1;subst s1;rfl
theorem LJ (l : List Int) : l.flatMap bQ = l.map fun x => Value.int .i64 x := by
 induction l with
 |nil=>rfl
 |cons y l ih=>rw[List.flatMap_cons,ih];rfl
section
variable {P : Program} {t : TypeId}
theorem FZ {ops:Array Oper} {rest:List Oper} {o:Oper} {a:Act} {Q:Exit->Act->World->Prop} (R:Row P t 3 (.int .i64 0) 1 8) {B:Nat} {w:World} (hB:B<=w.heap.size) {v:Value} {l:List Int} (hown:Qu B w v l) (x:Int) {g0:Nat} (hg0:g0=w.heap.size)
    (hlen:(l.length+1)*8<=140737488355328) (hlen2:l.length+1<=maxLen) (hgd:o.guard=none)
    (s y:Operand) (ho:o.op= .call {callee:= .builtin .append,args:= #[s,y],argTypes:= #[t,t]})
    (hs:a.eval s=v) (hy:a.eval y= .slice (some ⟨g0,0,none⟩) 1 1)
    (h:∀g c off w',(some g=v.ownBlock∨w.heap.size<=g)->Qu B w' (.slice (some ⟨g,off,none⟩) (l.length+1) c) (l++[x])->(w.alloc (.cells #[.int .i64 x] 3)).grownBy w' v.ownBlock->wpList P ops Q rest (a.put o.dst (.slice (some ⟨g,off,none⟩) (l.length+1) c)) w'):
    wpList P ops Q (o::rest) a (w.alloc (.cells #[.int .i64 x] 3)):=by
 subst hg0;obtain⟨ht,hinfo,hzs,hsz⟩:=R;obtain⟨i0,hi,hz0,hz1,hz2⟩:=info_parts hinfo;obtain⟨g,off,c,cs,e,h1,h2,h3,h4,h5,h6⟩:=hown;subst e;have h2':Blk (w.alloc (.cells #[.int .i64 x] 3)) g 3 cs:=h2.alloc _
 refine wpList_append_arg _ hgd s y t ho 3 i0 (.int .i64 0) 1 8 ht hi hz0 hz1 hz2 hzs hsz g off l.length c (l.map fun x => Value.int .i64 x) hs (by simp) (fun j u hj => ?_)
   ⟨w.heap.size,0,none⟩ 1 1 [.int .i64 x] hy rfl (fun j u hj=> ?_) (by simp[Value.oneCell']) (fun hr j hj=> ?_) hlen2 hlen (fun hr=> ?_) (fun hg v' w' ho' hg'=> ?_)
 . rw[h2'.cell];rw[List.getElem?_map]at hj;cases hx:l[j]? with
   |none=>rw[hx]at hj;cases hj
   |some z=>rw[hx]at hj;injection hj with hj;subst hj;exact h6 j z hx
 . obtain rfl:j=0:=by
    have:=(List.getElem?_eq_some_iff.1 hj).1;simp at this;omega
   rw[Addr.add_lit,Blk.cell (Blk.aW w 3 #[.int .i64 x])];exact hj
 . obtain rfl : j = 0 := by simp at hj; omega
   refine⟨?_,h2'.frozen _⟩;rw[h2'.cell,Nat.mul_one,Nat.add_zero,Array.getElem?_eq_getElem (by omega)];rfl
 . refine h g c off _ (.inl rfl) ⟨g, off, c, cs.setIfInBounds (off + l.length) (.int .i64 x), by rw [length_append]; rfl, h1, ?_, by rw [length_append]; exact hr, h4, by rw [Array.size_setIfInBounds]; exact h5, fun j z hj => ?_⟩ ?_
   . have:=h2'.C8 (off+l.length) (.int .i64 x);rw[Nat.mul_one];exact this
   . by_cases hl:j<l.length
     . rw[List.getElem?_append_left hl]at hj;rw[Array.getElem?_setIfInBounds,if_neg (by omega)];exact h6 j z hj
     . rw [List.getElem?_append_right (by omega)] at hj;have hj1:=(List.getElem?_eq_some_iff.1 hj).1;simp at hj1;obtain rfl:j=l.length:=by omega
       rw[Nat.sub_self]at hj;injection hj with hj;subst hj;rw[Array.getElem?_setIfInBounds,if_pos rfl,if_pos (by omega)]
   . have:=cO (World.grownBy.refl (w.alloc (.cells #[.int .i64 x] 3)) (some g)) (off+l.length) (.int .i64 x);rw[Nat.mul_one];exact this
 . have hO:aD 3 1 bQ (w.alloc (.cells #[.int .i64 x] 3)).heap.size w' v' (l++[x]):=by
    unfold aD;rw[length_append,List.flatMap_append];rw[LJ l];exact ho'
   have hq:=(Qu.MM hO (by simp));obtain⟨g',off',c',cs',e',q1,q2,q3⟩:=hq;subst e';rw[length_append];have q4:B<=g':=by simp at q1;omega
   exact h g' c' off' w' (.inr (by simp at q1;omega)) ⟨g',off',c',cs',by rw[length_append];rfl,q4,q2,q3⟩ ⟨hg'.os,hg'.tape,hg'.output,hg'.size,fun k hk _=>hg'.block k hk (by simp)⟩
theorem IQ {ops:Array Oper} {rest:List Oper} {o:Oper} {a:Act} {Q:Exit->Act->World->Prop} {E:TypeId} {z:Value} {bytes:Nat} (R:Row P t E z 1 bytes)
    {w:World} {A:Option Addr} {n c:Nat} (j:Nat) (hj:j<=n) (hn:n<=c) (hm:c<=maxLen) {J:Int} (hJ:J=j)
    (hgd:o.guard=none) (s x:Operand) (hop:o.op=Op.slice t s (some x) none none) (hs:a.eval s= .slice A n c) (hx:a.eval x= .int .i64 J)
    (hK:∀A' c',sliced A j n c 1= .slice A' (n-j) c'->wpList P ops Q rest (a.put o.dst (.slice A' (n-j) c')) w):
    wpList P ops Q (o::rest) a w:=by
 subst hJ;obtain⟨ht,hinfo,hzs,hsz⟩:=R;obtain⟨i0,hi,hz0,hz1,hz2⟩:=info_parts hinfo;have he:P.elem t=E:=(by simp[Program.elem,ht]);have ht':P.underlying t=some (.slice (P.elem t)):=by rw[he];exact ht
 obtain⟨A',c',e⟩:∃A' c',sliced A j n c 1= .slice A' (n-j) c':=⟨_,_,rfl⟩
 have hrun:(Instr.sliceAt t (.slice A n c) (some (.int .i64 j)) none none).run P w= .ok (.slice A' (n-j) c') w:=by
  rw[run_sliceAt_slice w t _ _ _ _ ht',run_slice_l w t A n c ht' .i64 j (by omega) (by omega),he,<-e];simp[sizeOf,typeInfo,hi,hz1,Result.andThen]
 refine wpList_plain hgd fun K hK'=> ?_
 unfold Oper.wp;simp[execOp,hop,hs,hx,hrun,Result.andThen];exact hK' _ _ (hK A' c' e)
end
end Go.Proofs.YtljfoohaapckeaaGreatDoor
