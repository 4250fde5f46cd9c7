/- Dominoes as text: plain laws. No program in sight. The links of a list of tilings, as both sides hold them: plain laws. No program in sight. A list of waiting places that is cut at its head and appended to: the steps of a walk. Plain lemmas; no conditions. The distances from a tiling, of the program: the walk. No conditions. The distances from a tiling, of the reference: the walk. No conditions. -/
import Derived.Test.YtljfoohaapckeaaGreatDoorDG25
import Derived.Test.YtljfoohaapckeaaGreatDoorDK5
import Derived.Maps.Views
import Derived.Test.YtljfoohaapckeaaGreatDoorDK2
import Derived.ArgAppend
import Derived.Test.YtljfoohaapckeaaGreatDoorDOwnLL
import Derived.Deep.LoopGhost
import Derived.Test.YtljfoohaapckeaaGreatDoorDK6
open _root_.List (mem_cons map_cons mem_cons_self length_cons map_append take_length range range_succ getElem_mem length_append replicate length_replicate mem_append)
open _root_.Nat (mul_one add_zero zero_le)
namespace Go.Proofs.YtljfoohaapckeaaGreatDoor
set_option linter.unusedVariables false
set_option linter.unusedSimpArgs false
set_option maxHeartbeats 4000000
set_option maxRecDepth 100000
def Dk (d:Dm):Bs:=Lib.decDigits d.1.toNat++44::(Lib.decDigits d.2.1.toNat++[if d.2.2=true then 100 else 114])
def nT (d:Dm):ByteArray:=toB (Dk d)
def GG (l:List Dm):ByteArray:=toB (Lib.join (l.map Dk) [32])
theorem Dl {d:Dm} (h:aH d=true):(0<=d.1/\d.1<=7)/\(0<=d.2.1/\d.2.1<=7):=by
 have h1:=(dG (dC h).1).2;have h2:=(dC h).1;unfold aV inB at h2;simp at h2;omega
theorem xH {d:Dm} (h:aH d=true):Dk d=[UInt8.ofNat (48+d.1.toNat),44,UInt8.ofNat (48+d.2.1.toNat),if d.2.2=true then 100 else 114]:=by
 have h1:=Dl h;unfold Dk;rw[Lib.decDigits_one (by omega),Lib.decDigits_one (by omega)];rfl
theorem GH {a b:Nat} (ha:a<=7) (hb:b<=7) (h:UInt8.ofNat (48+a)=UInt8.ofNat (48+b)):a=b:=by
 have:=congrArg UInt8.toNat h;rw[UInt8.toNat_ofNat',UInt8.toNat_ofNat']at this;omega
theorem Lp {d e:Dm} (hd:aH d=true) (he:aH e=true) (h:Dk d=Dk e):d=e:=by
 rw[xH hd,xH he]at h;have h1:=Dl hd;have h2:=Dl he;obtain⟨x,y,s⟩:=d;obtain⟨x',y',s'⟩:=e;simp only[List.cons.injEq,and_true,true_and]at h h1 h2;obtain⟨a,b,c⟩:=h;have e1:=GH (by omega) (by omega) a;have e2:=GH (by omega) (by omega) b;have e3:x=x':=(by omega);have e4:y=y':=(by omega);subst e3;subst e4
 have e5:s=s':=by
  cases s<;>cases s'
  . rfl
  . exact absurd (show(114:UInt8)=100 from c) (by decide)
  . exact absurd (show(100:UInt8)=114 from c) (by decide)
  . rfl
 rw[e5]
theorem JH {d:Dm} (h:aH d=true):Dk d≠[]/\Nw (Dk d):=by
 have h1:=Dl h;rw[xH h];refine⟨by simp,fun b hb e=> ?_⟩;subst e
 have n32 : ∀ a : Nat, a <= 7 -> (32 : UInt8) ≠ UInt8.ofNat (48 + a) := fun a ha q => by
  have:=congrArg UInt8.toNat q;rw[UInt8.toNat_ofNat']at this;have e:(32:UInt8).toNat=32:=rfl;omega
 simp only[mem_cons,List.not_mem_nil,or_false]at hb;rcases hb with hb|hb|hb|hb
 . exact n32 _ (by omega) hb
 . exact absurd hb (by decide)
 . exact n32 _ (by omega) hb
 . split at hb<;>exact absurd hb (by decide)
theorem map_inj:∀{l m:List Dm},(∀d∈l,aH d=true)->(∀d∈m,aH d=true)->l.map Dk=m.map Dk->l=m
  |[],[],_,_,_=>rfl
  |[],_::_,_,_,h=>by simp at h
  |_::_,[],_,_,h=>by simp at h
  | d :: l, e :: m, hl, hm, h => by
   rw[map_cons,map_cons]at h;obtain⟨h1,h2⟩:=List.cons.inj h;rw[Lp (hl d mem_cons_self) (hm e mem_cons_self) h1,map_inj (fun x hx=>hl x (List.mem_cons_of_mem _ hx)) (fun x hx=>hm x (List.mem_cons_of_mem _ hx)) h2]
theorem Lr {l m:List Dm} (hl:∀d∈l,aH d=true) (hm:∀d∈m,aH d=true) (h:GG l=GG m):l=m:=by
 have h1:=congrArg (fg []) (M6 h);rw[JG _ (fun x hx=>by obtain⟨d,hd,rfl⟩:=List.mem_map.1 hx;exact JH (hl d hd)),JG _ (fun x hx=>by obtain⟨d,hd,rfl⟩:=List.mem_map.1 hx;exact JH (hm d hd))]at h1;exact map_inj hl hm h1
theorem Er {d:Dm} (h:aH d=true):(nT d).size=4:=by
 have:(nT d).size=(Dk d).length:=rfl;rw[this,xH h];rfl
def rW (n:Int):List Int->List Int
  |[]=>[n]
  |x::r=>if n<=x then n::x::r else x::rW n r
theorem GI (n:Int):∀(l:List Int) (x:Int),x∈rW n l↔x=n∨x∈l
  |[],x=>by simp[rW]
  | y :: r, x => by
   unfold rW;split
   . simp
   . rw[mem_cons,GI n r x,mem_cons];constructor
     . rintro(h|h|h)
       . exact .inr (.inl h)
       . exact .inl h
       . exact .inr (.inr h)
     . rintro(h|h|h)
       . exact .inr (.inl h)
       . exact .inl h
       . exact .inr (.inr h)
theorem Cz (n:Int):∀l:List Int,(rW n l).length=l.length+1
  |[]=>rfl
  | y :: r => by
   unfold rW;split
   . rfl
   . rw[length_cons,Cz n r,length_cons]
def sF (T:List (List Dm)) (j:Nat) (c:Cl):Int:=((ix T (aS (til T j) c):Nat):Int)
def lZ (T:List (List Dm)) (j k:Nat):List Int:=((dQ (til T j)).take k).foldl (fun own c=>rW (sF T j c) own) []
def FB (T:List (List Dm)) (j:Nat):List Int:=lZ T j (dQ (til T j)).length
def gG (T:List (List Dm)) (j k:Nat):List Int:=((dQ (til T j)).take k).map (sF T j)
def pQ (T:List (List Dm)) (j:Nat):List Int:=(dQ (til T j)).map (sF T j)
theorem uO (l:List Dm):(dQ l).length<=64:=by
 unfold dQ;refine Nat.le_trans (List.length_filter_le _ _) ?_;simp
theorem zU {T:List (List Dm)} {j k:Nat} (h:k<(dQ (til T j)).length):lZ T j (k+1)=rW (sF T j (dQ (til T j))[k]) (lZ T j k):=by
 unfold lZ;rw[List.take_succ_eq_append_getElem h,List.foldl_append];rfl
theorem BI {T:List (List Dm)} {j:Nat}:∀k,k<=(dQ (til T j)).length->(lZ T j k).length=k
  |0,_=>rfl
  |k+1,h=>by rw[zU (by omega),Cz,BI k (by omega)]
theorem FQ {T:List (List Dm)} {j k:Nat} (h:k<(dQ (til T j)).length):gG T j k++[sF T j (dQ (til T j))[k]]=gG T j (k+1):=by
 unfold gG;rw[List.take_succ_eq_append_getElem h,map_append];rfl
theorem IB {T:List (List Dm)} {j k:Nat} (h:k<=(dQ (til T j)).length):(gG T j k).length=k:=by
 unfold gG;rw[List.length_map,List.length_take];omega
theorem IC (T:List (List Dm)) (j:Nat):gG T j (dQ (til T j)).length=pQ T j:=by unfold gG pQ;rw[take_length]
theorem GJ (g : Cl -> Int) : ∀ (l : List Cl) (own : List Int) (x : Int), x ∈ l.foldl (fun own c => rW (g c) own) own ↔ x ∈ own ∨ ∃ c ∈ l, x = g c
  |[],own,x=>by simp
  | c :: l, own, x => by
   rw[List.foldl_cons,GJ g l,GI];constructor
   . rintro((h|h)|⟨d,hd,e⟩)
     . exact .inr ⟨c,mem_cons_self,h⟩
     . exact .inl h
     . exact .inr ⟨d,List.mem_cons_of_mem _ hd,e⟩
   . rintro(h|⟨d,hd,e⟩)
     . exact .inl (.inr h)
     . rcases List.mem_cons.1 hd with rfl|hd
       . exact .inl (.inl e)
       . exact .inr ⟨d,hd,e⟩
structure Adj (T:List (List Dm)) (near:List (List Int)):Prop where
  len:near.length=T.length
  mem:∀(j:Nat) (h:j<near.length) (x:Int),x∈near[j]↔∃i:Nat,x=i/\Edge T j i
def nN (T:List (List Dm)) (k:Nat):List (List Int):=(range k).map (FB T)
def kY (T:List (List Dm)) (k:Nat):List (List Int):=(range k).map (pQ T)
theorem FR (T:List (List Dm)) (k:Nat):nN T k++[FB T k]=nN T (k+1):=by unfold nN;rw[range_succ,map_append];rfl
theorem FT (T:List (List Dm)) (k:Nat):kY T k++[pQ T k]=kY T (k+1):=by unfold kY;rw[range_succ,map_append];rfl
theorem nU (T:List (List Dm)) (k:Nat):(nN T k).length=k:=by simp[nN]
theorem mD (T:List (List Dm)) (k:Nat):(kY T k).length=k:=by simp[kY]
theorem Ls (T:List (List Dm)):Adj T (nN T T.length) where
  len:=nU T _
  mem := fun j h x => by
   rw[nU]at h;have e:(nN T T.length)[j]'(by rw[nU];exact h)=FB T j:=(by simp[nN]);rw[e];unfold FB lZ;rw[take_length,GJ];constructor
   . rintro(h|⟨c,hc,e⟩)
     . cases h
     . exact⟨_,e,h,List.mem_map.2 ⟨c,hc,rfl⟩⟩
   . rintro⟨i,rfl,_,hi⟩;obtain⟨c,hc,rfl⟩:=List.mem_map.1 hi;exact .inr ⟨c,hc,rfl⟩
theorem Lt (T:List (List Dm)):Adj T (kY T T.length) where
  len:=mD T _
  mem := fun j h x => by
   rw[mD]at h;have e:(kY T T.length)[j]'(by rw[mD];exact h)=pQ T j:=(by simp[kY]);rw[e];unfold pQ;constructor
   . intro hx;obtain⟨c,hc,rfl⟩:=List.mem_map.1 hx;exact⟨_,rfl,h,List.mem_map.2 ⟨c,hc,rfl⟩⟩
   . rintro⟨i,rfl,_,hi⟩;obtain⟨c,hc,rfl⟩:=List.mem_map.1 hi;exact List.mem_map.2 ⟨c,hc,rfl⟩
def Fg (l:List Dm):Lit:= .string (GG l).data.toList
theorem Kr (s:Bs):WideAt.IsKeyLit (.string s):=by unfold WideAt.IsKeyLit;trivial
def GK (T:List (List Dm)) (k:Nat):DataW Unit:=(range k).foldl (fun D i=>D.put (Fg (til T i)) (.lit (.int .i64 (i:Int)))) (.map [])
theorem yN (T:List (List Dm)) (k:Nat):GK T (k+1)=(GK T k).put (Fg (til T k)) (.lit (.int .i64 (k:Int))):=by
 unfold GK;rw[range_succ,List.foldl_append];rfl
theorem JI (T:List (List Dm)):∀k,Go.Maps.IsMap (GK T k)
  |0=>Go.Maps.isMap_empty
  |k+1=>by rw[yN];exact(JI T k).put _ _
theorem M7 {l m : List Dm} (hl : ∀ d ∈ l, aH d = true) (hm : ∀ d ∈ m, aH d = true) (h : l ≠ m) : Fg l ≠ Fg m := fun e => h (Lr hl hm (by
 unfold Fg at e;injection e with e;exact ByteArray.ext (Array.toList_inj.1 e)))
theorem JJ {T:List (List Dm)} (hd:T.Nodup) (hok:∀t∈T,∀d∈t,aH d=true) {i:Nat} (z:DataW Unit):∀k,k<=T.length->i<k->(GK T k).atKey (Fg (til T i)) z= .lit (.int .i64 (i:Int))
  |0,_,h=>by omega
  | k + 1, hk, h => by
   rw[yN];by_cases e:i=k
   . subst e;exact Go.Maps.atKey_put_same (JI T i) (by unfold Fg;exact Kr _) _ _
   . have hi : i < T.length := by omega
     have hk':k<T.length:=(by omega);rw[Go.Maps.atKey_put_other]
     . exact JJ hd hok z k (by omega) (by omega)
     . rw[iE hi,iE hk'];refine M7 (hok _ (getElem_mem hi)) (hok _ (getElem_mem hk')) fun q=>e ?_
       exact(List.getElem_inj hd).1 q
end Go.Proofs.YtljfoohaapckeaaGreatDoor
namespace Go.Proofs.YtljfoohaapckeaaGreatDoor
open Go.ChangeShapes Go.WideShapes Go.ChangeAt Go.RowKit
set_option linter.unusedVariables false
set_option linter.unusedSimpArgs false
set_option maxHeartbeats 4000000
set_option maxRecDepth 100000
def Qu (B:Nat) (w:World) (v:Value) (l:List Int):Prop:=
 ∃(g off c:Nat) (cs:Array Value),v= .slice (some ⟨g,off,none⟩) l.length c/\B<=g/\Blk w g 3 cs/\l.length<=c/\c<=maxLen/\off+c<=cs.size/\∀(j:Nat) (x:Int),l[j]? =some x->cs[off+j]? =some (.int .i64 x)
theorem Qu.Ml {B:Nat} {w:World} {v:Value} {l:List Int} (h:aC 3 1 aY B w v l) (hl:0<l.length):Qu B w v l:=by
 have h':=h;rcases h.2 with⟨_,h0⟩|⟨g,cap,cur,e,hg,hh,hc,hm,hsz,hx⟩
 . omega
 . refine ⟨g, 0, cap, cur, e, hg, hh, hc, hm, by omega, fun j x hj => ?_⟩;have hk:=(List.getElem?_eq_some_iff.1 hj).1;subst e
   have h1 := World.ownsRow.cells h' (g := g) rfl j (.int .i64 x) (by
    have:=EU (enc:=aY) aL (by decide) l j x hj 0 _ rfl;simpa using this)
   have h2:=cell_of_row w g j cur 3 (0,0) hh;rw[Nat.zero_add,<-h2];have e2:(Addr.mk g 0 none).add j=⟨g,j,none⟩:=(by rw[Addr.add_lit,Nat.zero_add]);rw[<-e2];exact h1
theorem Qu.below {B:Nat} {w w':World} {v:Value} {l:List Int} (h:Qu B w v l) (hb:Below w.heap.size w w'):Qu B w' v l:=by
 obtain⟨g,off,c,cs,e,h1,h2,h3⟩:=h;exact⟨g,off,c,cs,e,h1,h2.below hb h2.lt,h3⟩
theorem Qu.kept {B:Nat} {w w':World} {v:Value} {l:List Int} {row:Option Nat} (h:Qu B w v l) (hg:w.grownBy w' row) (hne:v.ownBlock≠row):Qu B w' v l:=by
 obtain⟨g,off,c,cs,e,h1,h2,h3⟩:=h;subst e;exact⟨g,off,c,cs,rfl,h1,h2.grown hg hne,h3⟩
theorem Qu.form {B:Nat} {w:World} {v:Value} {l:List Int} (h:Qu B w v l):∃g off c,v= .slice (some ⟨g,off,none⟩) l.length c/\B<=g/\g<w.heap.size/\l.length<=c/\c<=maxLen:=by
 obtain⟨g,off,c,cs,e,h1,h2,h3,h4,_⟩:=h;exact⟨g,off,c,e,h1,h2.lt,h3,h4⟩
theorem Qu.head {B g off c:Nat} {w:World} {x:Int} {l:List Int} {n:Nat} (h:Qu B w (.slice (some ⟨g,off,none⟩) n c) (x::l)):w.cell? ⟨g,off,none⟩=some (.int .i64 x):=by
 obtain⟨g',off',c',cs,e,h1,h2,h3,h4,h5,h6⟩:=h;injection e with e1 e2 e3;injection e1 with e1;injection e1 with e1 e4;subst e1;subst e4;rw[h2.cell];exact h6 0 x rfl
theorem Qu.rd {B:Nat} {w:World} {v:Value} {l:List Int} (h:Qu B w v l):Rd 1 bH w v l:=by
 obtain⟨g,off,c,cs,e,h1,h2,h3,h4,h5,h6⟩:=h;refine⟨_,c,e,h3,h4,fun _=>⟨g,off,rfl,h2.lt,fun i x hx=>⟨aY x,aL x,rfl,fun j u hu=> ?_⟩⟩⟩
 obtain rfl:j=0:=by
  have:=(List.getElem?_eq_some_iff.1 hu).1;rw[aL]at this;omega
 rw[h2.cell,mul_one,add_zero,h6 i x hx];exact hu
theorem Qu.tail {B g off c c' n:Nat} {A':Option Addr} {w:World} {x:Int} {l:List Int} (h:Qu B w (.slice (some ⟨g,off,none⟩) n c) (x::l)) (hs:sliced (some ⟨g,off,none⟩) 1 n c 1= .slice A' (n-1) c'):Qu B w (.slice A' (n-1) c') l:=by
 obtain⟨g',off',c0,cs,e,h1,h2,h3,h4,h5,h6⟩:=h;injection e with e1 e2 e3;injection e1 with e1;injection e1 with e1 e4;subst e1;subst e4;subst e3;rw[length_cons]at h3 e2;unfold sliced at hs;injection hs with s1 s2 s3;subst s3;have hn:n-1=l.length:=(by omega);by_cases hc:c=1
 . subst hc;rw[if_pos rfl]at s1;subst s1;refine⟨g,off,1-1,cs,by rw[hn],h1,h2,by omega,by omega,by omega,fun j y hj=> ?_⟩;have:=(List.getElem?_eq_some_iff.1 hj).1;omega
 . rw[if_neg hc]at s1;simp only[Option.map_some,Addr.add_lit]at s1;subst s1;refine⟨g,off+1*1,c-1,cs,by rw[hn],h1,h2,by omega,by omega,by omega,fun j y hj=> ?_⟩;have:=h6 (j+1) y (by simpa using hj);rw[<-this];congr 1
   omega
theorem Qu.mono {B B':Nat} {w:World} {v:Value} {l:List Int} (h:Qu B w v l) (hb:B'<=B):Qu B' w v l:=by
 obtain⟨g,off,c,cs,e,h1,h2⟩:=h;exact⟨g,off,c,cs,e,by omega,h2⟩
theorem M8 {g off n c c':Nat} {A':Option Addr} (hs:sliced (some ⟨g,off,none⟩) 1 n c 1= .slice A' (n-1) c'):(Value.slice A' (n-1) c').ownBlock=some g:=by
 unfold sliced at hs;injection hs with s1 s2 s3;by_cases hc:c=1
 . rw[if_pos hc]at s1;subst s1;rfl
 . rw[if_neg hc]at s1;simp only[Option.map_some,Addr.add_lit]at s1;subst s1;rfl
theorem Lu (l : List Int) : l.flatMap aY = l.map fun x => Value.int .i64 x := by
 induction l with
 |nil=>rfl
 |cons y l ih=>rw[List.flatMap_cons,ih];rfl
section
variable {P : Program} {t : TypeId}
theorem FU {ops:Array Oper} {rest:List Oper} {o:Oper} {a:Act} {Q:Exit->Act->World->Prop} (R:Row P t 3 (.int .i64 0) 1 8) {B:Nat} {w:World} (hB:B<=w.heap.size) {v:Value} {l:List Int} (hown:Qu B w v l) (x:Int) {g0:Nat} (hg0:g0=w.heap.size)
    (hlen:(l.length+1)*8<=140737488355328) (hlen2:l.length+1<=maxLen) (hgd:o.guard=none)
    (s y:Operand) (ho:o.op= .call {callee:= .builtin .append,args:= #[s,y],argTypes:= #[t,t]})
    (hs:a.eval s=v) (hy:a.eval y= .slice (some ⟨g0,0,none⟩) 1 1)
    (h:∀g c off w',(some g=v.ownBlock∨w.heap.size<=g)->Qu B w' (.slice (some ⟨g,off,none⟩) (l.length+1) c) (l++[x])->(w.alloc (.cells #[.int .i64 x] 3)).grownBy w' v.ownBlock->wpList P ops Q rest (a.put o.dst (.slice (some ⟨g,off,none⟩) (l.length+1) c)) w'):
    wpList P ops Q (o::rest) a (w.alloc (.cells #[.int .i64 x] 3)):=by
 subst hg0;obtain⟨ht,hinfo,hzs,hsz⟩:=R;obtain⟨i0,hi,hz0,hz1,hz2⟩:=info_parts hinfo;obtain⟨g,off,c,cs,e,h1,h2,h3,h4,h5,h6⟩:=hown;subst e;have h2':Blk (w.alloc (.cells #[.int .i64 x] 3)) g 3 cs:=h2.alloc _
 refine wpList_append_arg _ hgd s y t ho 3 i0 (.int .i64 0) 1 8 ht hi hz0 hz1 hz2 hzs hsz g off l.length c (l.map fun x => Value.int .i64 x) hs (by simp) (fun j u hj => ?_)
   ⟨w.heap.size,0,none⟩ 1 1 [.int .i64 x] hy rfl (fun j u hj=> ?_) (by simp[Value.oneCell']) (fun hr j hj=> ?_) hlen2 hlen (fun hr=> ?_) (fun hg v' w' ho' hg'=> ?_)
 . rw[h2'.cell];rw[List.getElem?_map]at hj;cases hx:l[j]? with
   |none=>rw[hx]at hj;cases hj
   |some z=>rw[hx]at hj;injection hj with hj;subst hj;exact h6 j z hx
 . obtain rfl:j=0:=by
    have:=(List.getElem?_eq_some_iff.1 hj).1;simp at this;omega
   rw[Addr.add_lit,Blk.cell (Blk.bK w 3 #[.int .i64 x])];exact hj
 . obtain rfl : j = 0 := by simp at hj; omega
   refine⟨?_,h2'.frozen _⟩;rw[h2'.cell,mul_one,add_zero,Array.getElem?_eq_getElem (by omega)];rfl
 . refine h g c off _ (.inl rfl) ⟨g, off, c, cs.setIfInBounds (off + l.length) (.int .i64 x), by rw [length_append]; rfl, h1, ?_, by rw [length_append]; exact hr, h4, by rw [Array.size_setIfInBounds]; exact h5, fun j z hj => ?_⟩ ?_
   . have:=h2'.CY (off+l.length) (.int .i64 x);rw[mul_one];exact this
   . by_cases hl:j<l.length
     . rw[List.getElem?_append_left hl]at hj;rw[Array.getElem?_setIfInBounds,if_neg (by omega)];exact h6 j z hj
     . rw [List.getElem?_append_right (by omega)] at hj;have hj1:=(List.getElem?_eq_some_iff.1 hj).1;simp at hj1;obtain rfl:j=l.length:=by omega
       rw[Nat.sub_self]at hj;injection hj with hj;subst hj;rw[Array.getElem?_setIfInBounds,if_pos rfl,if_pos (by omega)]
   . have:=dI (World.grownBy.refl (w.alloc (.cells #[.int .i64 x] 3)) (some g)) (off+l.length) (.int .i64 x);rw[mul_one];exact this
 . have hO:aC 3 1 aY (w.alloc (.cells #[.int .i64 x] 3)).heap.size w' v' (l++[x]):=by
    unfold aC;rw[length_append,List.flatMap_append];rw[Lu l];exact ho'
   have hq:=(Qu.Ml hO (by simp));obtain⟨g',off',c',cs',e',q1,q2,q3⟩:=hq;subst e';rw[length_append];have q4:B<=g':=by simp at q1;omega
   exact h g' c' off' w' (.inr (by simp at q1;omega)) ⟨g',off',c',cs',by rw[length_append];rfl,q4,q2,q3⟩ ⟨hg'.os,hg'.tape,hg'.output,hg'.size,fun k hk _=>hg'.block k hk (by simp)⟩
theorem IE {ops:Array Oper} {rest:List Oper} {o:Oper} {a:Act} {Q:Exit->Act->World->Prop} {E:TypeId} {z:Value} {bytes:Nat} (R:Row P t E z 1 bytes)
    {w:World} {A:Option Addr} {n c:Nat} (j:Nat) (hj:j<=n) (hn:n<=c) (hm:c<=maxLen) {J:Int} (hJ:J=j)
    (hgd:o.guard=none) (s x:Operand) (hop:o.op=Op.slice t s (some x) none none) (hs:a.eval s= .slice A n c) (hx:a.eval x= .int .i64 J)
    (hK:∀A' c',sliced A j n c 1= .slice A' (n-j) c'->wpList P ops Q rest (a.put o.dst (.slice A' (n-j) c')) w):
    wpList P ops Q (o::rest) a w:=by
 subst hJ;obtain⟨ht,hinfo,hzs,hsz⟩:=R;obtain⟨i0,hi,hz0,hz1,hz2⟩:=info_parts hinfo;have he:P.elem t=E:=(by simp[Program.elem,ht]);have ht':P.underlying t=some (.slice (P.elem t)):=by rw[he];exact ht
 obtain⟨A',c',e⟩:∃A' c',sliced A j n c 1= .slice A' (n-j) c':=⟨_,_,rfl⟩
 have hrun:(Instr.sliceAt t (.slice A n c) (some (.int .i64 j)) none none).run P w= .ok (.slice A' (n-j) c') w:=by
  rw[run_sliceAt_slice w t _ _ _ _ ht',run_slice_l w t A n c ht' .i64 j (by omega) (by omega),he,<-e];simp[sizeOf,typeInfo,hi,hz1,Result.andThen]
 refine wpList_plain hgd fun K hK'=> ?_
 unfold Oper.wp;simp[execOp,hop,hs,hx,hrun,Result.andThen];exact hK' _ _ (hK A' c' e)
end
theorem dF.KJ {α:Type} {E0 E:TypeId} {size:Nat} {enc:α->List Value} {B:Nat} {w:World} {A:Option Addr} {n c:Nat} {ls:List (List α)} (h:dF E0 E size enc B w (.slice A n c) ls) {k:Nat} (hk:k<ls.length):∃g D d,A=some ⟨g,0,none⟩/\B<=g/\g<w.heap.size/\w.cell? ⟨g,k,none⟩=some (.slice D ls[k].length d)/\aC E size enc B w (.slice D ls[k].length d) ls[k]:=by
 obtain⟨us,h1,h2,h3⟩:=h;have hk':k<us.length:=(by omega);obtain⟨g,rfl,hg1,hg2⟩:=h1.split hk';have q:=h3 k us[k] ls[k] (List.getElem?_eq_getElem hk') (List.getElem?_eq_getElem hk);obtain⟨D,d,e,_,_⟩:=q.form;have z:=h1.slot zG (by decide) hk' 0 us[k] rfl;rw[mul_one,add_zero]at z;rw[e]at z q;exact⟨g,D,d,rfl,hg1,hg2,z,q⟩
def ints (l:List Nat):List Int:=l.map fun(i:Nat)=>(i:Int)
theorem Es (l:List Nat) (i:Nat):ints l++[(i:Int)]=ints (l++[i]):=by unfold ints;rw[map_append];rfl
theorem JK (n : Nat) : replicate n (-1 : Int) = rU n (fun _ => -1) := by
 unfold rU;rw[List.map_const',List.length_range]
theorem Lv (j:Nat):replicate j (-1:Int)++[-1]=replicate (j+1) (-1):=List.replicate_succ'.symm
theorem jS {B g n c:Nat} {f:Nat->Int} {w:World} (h:aC 3 1 aY B w (.slice (some ⟨g,0,none⟩) n c) (rU n f)) {i:Nat} (hi:i<n):w.cell? ⟨g,i,none⟩=some (.int .i64 (f i)):=by
 have hl:i<(rU n f).length:=by rw[iW];exact hi
 have:=h.slot aL (by decide) hl 0 _ rfl;rw[Fe hl]at this;simpa using this
theorem uP {B g n c:Nat} {f:Nat->Int} {w:World} (h:aC 3 1 aY B w (.slice (some ⟨g,0,none⟩) n c) (rU n f)) {i:Nat} (hi:i<n) (v:Int):aC 3 1 aY B (w.setCell ⟨g,i,none⟩ (.int .i64 v)) (.slice (some ⟨g,0,none⟩) n c) (rU n (upd f i v)):=by
 have:=h.iJ aL (k:=i) (y:=v) (by rw[iW];exact hi) rfl;rwa [<-Lh]at this
theorem Mm {E:Nat->Nat->Prop} {s n:Nat} {f:Nat->Int} {q:List Nat} {p:Nat} (h:Bfs E s n f q p) {i:Nat} (hi:i∈q):0<=f i/\f i<=n:=by
 have h0:=(h.iff i).2 hi;obtain⟨a,ha,e⟩:=List.getElem_of_mem hi;have h1:=h.bd a ha;have h2:=h.len;rw[e]at h1;omega
theorem Lx {B : Nat} (v : Value) (T : List (List Dm)) (near : List (List Int)) (s : Nat) (w : World) (h : dF 24 3 1 aY B w v near) (hA : Adj T near) (hT : mX T) (hs : s < T.length) : Calls Tryz.prog 133 #[v, .int .i64 s] w (fun e w' => jA 3 1 aY (rU T.length (pY T s)) w e w' /\ jU (Edge T) s T.length (pY T s)) := by
 obtain⟨A,c,rfl,hc,hm⟩:=h.form;have hsm:=hT.sm;have hnl:=hA.len;obtain⟨n,hn⟩:=Oy T.length;rw[hnl,<-hn]at h⊢;rw[<-hn]at hs hsm hnl;have HA:=OA hA;have HFS:=OA hT;have HNL:=OA hnl;have HN:=OA hn;clear hA hT hnl hn hc hm;have own0:=iK w (E:=3) (size:=1) (enc:=aY) w.heap.size rfl w.heap.size (Nat.le_refl _);go_enter Tryz.func133,Tryz.ntmps133
 go_wp2;go_loopw [5,13] (fun s5 s13 wr=>∃(j:Nat) (D:Option Addr) (d:Nat),j<=n/\s13= .int .i64 j/\s5= .slice D j d/\aC 3 1 aY w.heap.size wr (.slice D j d) (replicate j (-1))/\Below w.heap.size w wr) (fun _ i _=>n-(intOf i).toNat)
 case atStart=>exact⟨0,_,_,zero_le _,rfl,rfl,own0,(Below.refl _ _).al _⟩
 case round=>
  obtain⟨j,D,d,hj,rfl,rfl,hown,hbel⟩:=hrel;clear own0;by_cases hlt:j<n
  . have hji : (j : Int) < (n : Int) := by omega
    have HL:Hid ((replicate j (-1:Int)).length=j):=OA length_replicate;have H8:Hid (((replicate j (-1:Int)).length+1)*8<=140737488355328):=OA (by rw[HL.out];omega);have HM:Hid ((replicate j (-1:Int)).length+1<=maxLen):=OA (by rw[HL.out];unfold maxLen;omega);go_wp2_with (at_builtin;go_must (refine aG (enc:=aY) fA aL jD hbel hown (-1:Int) H8.out HM.out rfl _ _ rfl rfl rfl ?_);intro v4 w4 own4 hb4 hg4 hd4;rw[Lv]at own4;obtain⟨A4,c4,rfl,hc4,hm4⟩:=own4.form)
    have own5:aC 3 1 aY w.heap.size w4 (.slice A4 (j+1) c4) (replicate (j+1) (-1)):=by
     have e:(replicate (j+1) (-1:Int)).length=j+1:=length_replicate;rw[e]at own4;exact own4
    go_roundw
    case rel=>exact⟨j+1,A4,c4,by omega,by go_num,by simp,own5,hb4⟩
    case measure=>simp[intOf];omega
  . have hjn : n = j := by omega
    subst hjn;rw[JK]at hown;obtain⟨gO,rfl,hgO,hgO2⟩:=hown.split (k:=0) (by rw[iW];omega);have o0:=uP hown hs 0;have c0:=jS hown hs;have hfr:=hown.free;have hsi:(s:Int)<(n:Int):=(by omega);have B1:=hbel.setCell (p:=⟨gO,s,none⟩) hgO (.int .i64 0);have hsz:(wr.setCell ⟨gO,s,none⟩ (.int .i64 0)).heap.size=wr.heap.size:=(by simp);have q0:=(Qu.Ml (JE (E:=3) (enc:=aY) (wr.setCell ⟨gO,s,none⟩ (.int .i64 0)) (s:Int) rfl) (by simp)).mono (by rw[hsz];exact hbel.size:w.heap.size<=_);rw[hsz]at q0;have o1:=o0.alloc (.cells #[.int .i64 (s:Int)] 3);have B2:=B1.al (.cells #[.int .i64 (s:Int)] 3);have hne:(Value.slice (some ⟨wr.heap.size,0,none⟩) 1 1).ownBlock≠some gO:=by simp[Value.ownBlock];omega
    have hbf:=OA (Em (Edge T) hs);have hf0:upd (fun _=> -1) s 0=f0 s:=rfl;rw[hf0]at o1;clear o0 B1 hsz hf0 hown;go_wp2;go_loopg [6,7,9] n (fun gk s6 s7 s9 wr=>∃(dn wt:List Nat) (f:Nat->Int) (z7 z9:Value),s7=z7/\s9=z9/\dn.length+gk=n/\Qu w.heap.size wr s6 (ints wt)/\s6.ownBlock≠some gO/\aC 3 1 aY w.heap.size wr (.slice (some ⟨gO,0,none⟩) n d) (rU n f)/\Hid (Bfs (Edge T) s n f (dn++wt) dn.length)/\Below w.heap.size w wr)
    case atStart=>exact⟨[],[s],f0 s,_,_,rfl,rfl,by simp,q0,hne,o1,hbf,B2⟩
    case round=>
     clear q0 hne o1 hbf B2 c0 hfr hbel;obtain⟨dn,wt,f,z7,z9,rfl,rfl,hgk,hq,hne,hown,Hb,hbel⟩:=hrel;obtain⟨g,off,cq,rfl,hg1,hg2,hqc,hqm⟩:=hq.form;rcases wt with _|⟨o,wt⟩
     . have HD : Hid (pY T s = f /\ jU (Edge T) s n (pY T s)) := OA (by
        have:=Hb.out;rw[List.append_nil]at this;have h2:=JA this;have h3:pY T s=f:=JC (by rw[<-HN.out];exact h2);exact⟨h3,by rw[h3];exact h2⟩)
       have e0:(ints []).length=0:=rfl;rw[e0];go_wp2;go_ret;exact⟨⟨some ⟨gO,0,none⟩,d,by rw[iW];rfl,by rw[iW,HD.out.1];exact hown,hbel⟩,HD.out.2⟩
     . have hlt : o < n := Hb.out.lt o (by simp);have e1:(ints (o::wt)).length=wt.length+1:=(by simp[ints]);have e2:ints (o::wt)=(o:Int)::ints wt:=rfl;rw[e1]at hqc⊢;have hq':Qu w.heap.size wr (.slice (some ⟨g,off,none⟩) (wt.length+1) cq) ((o:Int)::ints wt):=by rw[<-e2,<-e1];exact hq
       have hc0:=hq'.head;have hko:o<near.length:=by rw[HNL.out];exact hlt
       obtain⟨gA,D1,d1,rfl,_,hgA,cA,oN⟩:=h.KJ hko;obtain⟨N,hN⟩:=Oy (near[o]);rw[<-hN]at cA oN;have cA2:=(hbel.cell (p:=⟨gA,o,none⟩) hgA).trans cA
       have hNm:N.length<=9223372036854775807:=by
        obtain⟨_,_,e,h1,h2⟩:=oN.form;unfold maxLen at h2;omega
       have hmem:∀x,x∈N↔∃i:Nat,x=i/\Edge T o i:=fun x=>by rw[hN];exact HA.out.mem o hko x
       have HMm:=OA hmem;have hoi:(o:Int)<(n:Int):=(by omega);have hwl:(0:Int)<((wt.length+1:Nat):Int):=(by omega);have hj1:1<=wt.length+1:=(by omega);have hneg:(some g:Option Nat)≠some gO:=hne;have Hneg:=OA hneg;clear hN hmem e1 e2 hq hneg cA;go_wp2_with ((with_reducible refine IE fA 1 hj1 hqc hqm rfl rfl _ _ rfl rfl rfl ?_);intro A' c' hsl)
       have hq2:Qu w.heap.size wr (.slice A' wt.length c') (ints wt):=by have:=hq'.tail hsl;simpa using this
       have hne2:(Value.slice A' wt.length c').ownBlock≠some gO:=by
        have:=M8 hsl;simp only[Nat.add_sub_cancel]at this;rw[this];exact Hneg.out
       clear hsl hq' hne hc0;go_loopw [6,9,37] (fun s6 s9 s37 wr=>∃(t:Nat) (wt2:List Nat) (f:Nat->Int) (z9:Value),s9=z9/\t<=N.length/\s37= .int .i64 t/\Qu w.heap.size wr s6 (ints wt2)/\s6.ownBlock≠some gO/\aC 3 1 aY w.heap.size wr (.slice (some ⟨gO,0,none⟩) n d) (rU n f)/\Hid (Bfs (Edge T) s n f (dn++o::wt2) dn.length/\∀i:Nat,(i:Int)∈N.take t->0<=f i)/\Below w.heap.size w wr) (fun _ _ i _=>N.length-(intOf i).toNat)
       case atStart=>exact⟨0,wt,f,_,rfl,zero_le _,rfl,hq2,hne2,hown,OA ⟨Hb.out,fun i hi=>by simp at hi⟩,hbel⟩
       case round=>
        clear hq2 hne2 hown Hb hbel cA2;obtain⟨t,wt2,f,z9,rfl,ht,rfl,hq,hne,hown,Hb,hbel⟩:=hrel;obtain⟨g,off,cq,rfl,hg1,hg2,hqc,hqm⟩:=hq.form;have hql:=Hb.out.1.len;rw[length_append,length_cons]at hql;by_cases hlt2:t<N.length
        . have oN2:=oN.below hbel;obtain⟨b,off2,rfl,hb,c1⟩:=(oN2.rd aL (by decide)).uE hlt2;obtain⟨i,hi,hE⟩:=(HMm.out N[t]).1 (getElem_mem hlt2);rw[hi]at c1;have hin:i<n:=by rw[HN.out];exact xS HFS.out hE
          have htk:N.take (t+1)=N.take t++[(i:Int)]:=(by rw[List.take_succ_eq_append_getElem hlt2,hi]);have HTK:=OA htk;have HE:=OA hE;have ci:=jS hown hin;have co:=jS hown hlt;have hfr:=hown.free;have hii:(i:Int)<(n:Int):=(by omega);have hti:(t:Int)<(N.length:Int):=(by omega);have hvb:=Mm Hb.out.1 (i:=o) (by simp);obtain⟨vo,hvo⟩:=Oy (f o);obtain⟨vi,hvi⟩:=Oy (f i);rw[<-hvo]at co hvb;rw[<-hvi]at ci;have HVO:=OA hvo;have HVI:=OA hvi;clear hi hE htk hvo hvi oN2;have hvb2:vo<=300:=(by omega);by_cases hfi:vi<0
          . have o2:=uP hown hin (vo+1);have B2:=hbel.setCell (p:=⟨gO,i,none⟩) hgO (.int .i64 (vo+1));have gX:=dI (World.grownBy.refl wr (some gO)) i (.int .i64 (vo+1));have hq2:=hq.kept gX hne;have hsz:wr.heap.size=(wr.setCell ⟨gO,i,none⟩ (.int .i64 (vo+1))).heap.size:=(by simp);have hil:(ints wt2).length=wt2.length:=(by simp[ints]);have H8:Hid (((ints wt2).length+1)*8<=140737488355328):=OA (by rw[hil];omega);have HM:Hid ((ints wt2).length+1<=maxLen):=OA (by rw[hil];unfold maxLen;omega)
            have HG : Hid (Bfs (Edge T) s n (upd f i (vo + 1)) (dn ++ o :: (wt2 ++ [i])) dn.length /\ ∀ k : Nat, (k : Int) ∈ N.take (t + 1) -> 0 <= upd f i (vo + 1) k) := OA (by
             have hp:dn.length<(dn++o::wt2).length:=(by simp);have hqp:(dn++o::wt2)[dn.length]=o:=(by simp);have hb0:=Jz Hb.out.1 hp hin (by rw[hqp];exact HE.out) (by rw[<-HVI.out];exact hfi);rw[hqp,<-HVO.out,List.append_assoc,List.cons_append]at hb0;refine⟨hb0,fun k hk=> ?_⟩;by_cases e:k=i
             . subst e;rw[qH];omega
             . rw[upd_ne e];rw[HTK.out,mem_append]at hk;rcases hk with hk|hk
               . exact Hb.out.2 k hk
               . simp at hk;omega)
            have HSZ:=OA hsz;clear hil hsz;go_wp2_with (at_builtin;go_must (refine FU fA B2.size hq2 (i:Int) HSZ.out H8.out HM.out rfl _ _ rfl rfl rfl ?_);intro g4 c4 off4 w4 hor own4 hg4)
            rw[Es]at own4
            have hne4:(Value.slice (some ⟨g4,off4,none⟩) ((ints wt2).length+1) c4).ownBlock≠some gO:=by
             rcases hor with q|q
             . show some g4≠some gO;rw[q];exact hne
             . have:=HSZ.out;have h3:=(hown.split (k:=i) (by rw[iW];exact hin));obtain⟨g',e',_,h5⟩:=h3;injection e' with e';injection e' with e';show some g4≠some gO;intro e;injection e with e;omega
            have o4:aC 3 1 aY w.heap.size w4 (.slice (some ⟨gO,0,none⟩) n d) (rU n (upd f i (vo+1))):=World.ownsRow.kept (o2.alloc _) hg4 (.inr (fun e=>hne e.symm))
            have B4 := (B2.al (.cells #[.int .i64 (i : Int)] 3)).grown hg4 (B2.al (.cells #[.int .i64 (i : Int)] 3)).size (fun k hk => by
             have h2:(some g:Option Nat)=some k:=hk;injection h2 with h2;omega)
            go_roundw
            case rel=>exact⟨t+1,wt2++[i],upd f i (vo+1),_,rfl,by omega,by go_num,own4,hne4,o4,HG,B4⟩
            case measure=>simp[intOf];omega
          . have HG : Hid (Bfs (Edge T) s n f (dn ++ o :: wt2) dn.length /\ ∀ k : Nat, (k : Int) ∈ N.take (t + 1) -> 0 <= f k) := OA ⟨Hb.out.1, fun k hk => by
             rw[HTK.out,mem_append]at hk;rcases hk with hk|hk
             . exact Hb.out.2 k hk
             . simp at hk;obtain rfl:k=i:=by omega
               rw[<-HVI.out];omega⟩
            go_wp2;go_roundw
            case rel=>exact⟨t+1,wt2,f,_,rfl,by omega,by go_num,hq,hne,hown,HG,hbel⟩
            case measure=>simp[intOf];omega
        . obtain rfl : t = N.length := by omega
          have HG : Hid (Bfs (Edge T) s n f ((dn ++ [o]) ++ wt2) (dn ++ [o]).length) := OA (by
           have hp:dn.length<(dn++o::wt2).length:=(by simp);have hqp:(dn++o::wt2)[dn.length]=o:=by simp
           have hb0 := Gs Hb.out.1 hp (fun i hi => by
            rw[hqp]at hi;have:=(HMm.out (i:Int)).2 ⟨i,rfl,hi⟩;exact Hb.out.2 i (by rw[take_length];exact this))
           rw[List.append_assoc,length_append];exact hb0)
          go_wp2;go_roundg (gk-1)
          case measure=>omega
          case rel=>exact⟨dn++[o],wt2,f,_,_,rfl,rfl,by simp;omega,hq,hne,hown,HG,hbel⟩
theorem Mo {α:Type} {E:TypeId} {size:Nat} {enc:α->List Value} {B:Nat} {w w':World} {v:Value} {l:List α} {row:Option Nat} (h:aC E size enc B w v l) (hg:w.grownBy w' row) (hne:v.ownBlock≠row):aC E size enc B w' v l:=World.ownsRow.kept h hg (.inr hne)
theorem ints_at {q:List Nat} {p:Nat} (hp:p<q.length):(ints q)[p]'(by simp[ints];exact hp)=(q[p]:Int):=by simp[ints]
theorem mY (q:List Nat):(ints q).length=q.length:=by simp[ints]
theorem GL {B g n c:Nat} {l:List Int} {w:World} (h:aC 3 1 aY B w (.slice (some ⟨g,0,none⟩) n c) l) {i:Nat} (hi:i<l.length):w.cell? ⟨g,i,none⟩=some (.int .i64 l[i]):=by
 have:=h.slot aL (by decide) hi 0 _ rfl;simpa using this
theorem LA {B : Nat} (v : Value) (T : List (List Dm)) (near : List (List Int)) (s : Nat) (w : World) (h : dF 24 3 1 aY B w v near) (hA : Adj T near) (hT : mX T) (hs : s < T.length) : Calls Tryz.prog 201 #[v, .int .i64 s] w (fun e w' => jA 3 1 aY (rU T.length (pY T s)) w e w' /\ jU (Edge T) s T.length (pY T s)) := by
 obtain⟨A,c,rfl,hc,hm⟩:=h.form;have hsm:=hT.sm;have hnl:=hA.len;obtain⟨n,hn⟩:=Oy T.length;rw[hnl,<-hn]at h⊢;rw[<-hn]at hs hsm hnl;have HA:=OA hA;have HFS:=OA hT;have HNL:=OA hnl;have HN:=OA hn;clear hA hT hnl hn hc hm;have h8n:8*n<=281474976710656:=(by omega);have hmn:n<=maxLen:=by unfold maxLen;omega
 go_enter Tryz.func201,Tryz.ntmps201
 go_wp2_with (at_make;go_must (refine Dq (enc:=aY) (z0:=(0:Int)) fA rfl (Below.refl _ w) n h8n hmn rfl _ _ rfl rfl rfl ?_);intro w1 hown1 hb1 hg1)
 obtain⟨gO,hgO'⟩:=Oy w.heap.size;have hgO:w.heap.size<=gO:=(by omega);have hown1:aC 3 1 aY w.heap.size w1 (.slice (some ⟨gO,0,none⟩) n n) (replicate n 0):=by rw[hgO'];exact hown1
 rw[<-hgO'];have HGO:=OA hgO';clear hgO' hg1;go_loopw [6] (fun s6 wr=>∃(k:Nat) (m:List Int),k<=n/\s6= .int .i64 k/\Ay k m (replicate n (-1:Int))/\aC 3 1 aY w.heap.size wr (.slice (some ⟨gO,0,none⟩) n n) m/\Below w.heap.size w wr) (fun i _=>n-(intOf i).toNat)
 case atStart=>exact⟨0,replicate n (0:Int),zero_le _,rfl,Ay.start _ _ (by simp),hown1,hb1⟩
 case round=>
  obtain⟨k,m,hk,rfl,hu,hown,hbel⟩:=hrel;clear hown1 hb1;have hml:m.length=n:=(by rw[hu.1,length_replicate]);by_cases hlt:k<n
  . have hki : (k : Int) < (n : Int) := by omega
    obtain⟨u0,s0⟩:=hown.Az aL (k:=k) (by omega);have hsf:=hown.free;have hst:=hu.step (by rw[length_replicate];exact hlt);rw[List.getElem_replicate]at hst;have own2:=hown.iJ aL (k:=k) (y:=(-1:Int)) (by omega) rfl;have B2:=hbel.setCell (p:=⟨gO,k,none⟩) hgO (.int .i64 (-1));go_wp2;go_roundw
    case rel=>exact⟨k+1,m.set k (-1),by omega,by go_num,hst,own2,B2⟩
    case measure=>simp[intOf];omega
  . have hkn : n = k := by omega
    subst hkn;have hmr:=hu.done (by rw[length_replicate];exact Nat.le_refl _);rw[hmr,JK]at hown;have o0:=uP hown hs 0;have c0:=jS hown hs;have hfr:=hown.free;have hsi:(s:Int)<(n:Int):=by omega
    have hgO2:gO<wr.heap.size:=by
     obtain⟨g',e',_,h5⟩:=hown.split (k:=0) (by rw[iW];omega);injection e' with e';injection e' with e';omega
    have B1:=hbel.setCell (p:=⟨gO,s,none⟩) hgO (.int .i64 0);have hsz:(wr.setCell ⟨gO,s,none⟩ (.int .i64 0)).heap.size=wr.heap.size:=(by simp);have q0:=(JE (E:=3) (enc:=aY) (wr.setCell ⟨gO,s,none⟩ (.int .i64 0)) (s:Int) rfl).mono (by rw[hsz];exact hbel.size:w.heap.size<=_);rw[hsz]at q0;have o1:=o0.alloc (.cells #[.int .i64 (s:Int)] 3);have B2:=B1.al (.cells #[.int .i64 (s:Int)] 3);have hne:(Value.slice (some ⟨wr.heap.size,0,none⟩) 1 1).ownBlock≠some gO:=by simp[Value.ownBlock];omega
    have hbf:=OA (Em (Edge T) hs);have hf0:upd (fun _=> -1) s 0=f0 s:=rfl;rw[hf0]at o1;clear o0 B1 hsz hf0 hown hmr hu hml;go_wp2;go_loopw [7,8,9,10] (fun s7 s8 s9 s10 wr=>∃(q:List Nat) (p:Nat) (f:Nat->Int) (D:Option Addr) (d:Nat) (z9 z10:Value),s9=z9/\s10=z10/\p<=q.length/\s8= .int .i64 p/\s7= .slice D q.length d/\aC 3 1 aY w.heap.size wr (.slice D q.length d) (ints q)/\(Value.slice D q.length d).ownBlock≠some gO/\aC 3 1 aY w.heap.size wr (.slice (some ⟨gO,0,none⟩) n n) (rU n f)/\Hid (Bfs (Edge T) s n f q p)/\Below w.heap.size w wr) (fun _ i _ _ _=>n-(intOf i).toNat)
    case atStart=>exact⟨[s],0,f0 s,_,_,_,_,rfl,rfl,by simp,rfl,rfl,q0,hne,o1,hbf,B2⟩
    case round=>
     clear q0 hne o1 hbf B2 c0 hfr hbel;obtain⟨q,p,f,D,d,z9,z10,rfl,rfl,hp,rfl,rfl,hq,hne,hown,Hb,hbel⟩:=hrel;have hqn:=Hb.out.len;by_cases hlp:p<q.length
     . obtain⟨o,ho⟩:=Oy (q[p]);have hlt:o<n:=by rw[ho];exact Hb.out.lt _ (getElem_mem hlp)
       obtain⟨gQ,rfl,hgQ,hgQ2⟩:=hq.split (k:=0) (by rw[mY];omega);have cq:=GL hq (i:=p) (by rw[mY];exact hlp);rw[ints_at hlp,<-ho]at cq;have hko:o<near.length:=by rw[HNL.out];exact hlt
       obtain⟨gA,D1,d1,rfl,_,hgA,cA,oN⟩:=h.KJ hko;obtain⟨N,hN⟩:=Oy (near[o]);rw[<-hN]at cA oN;have cA2:=(hbel.cell (p:=⟨gA,o,none⟩) hgA).trans cA
       have hNm:N.length<=9223372036854775807:=by
        obtain⟨_,_,e,h1,h2⟩:=oN.form;unfold maxLen at h2;omega
       have hmem:∀x,x∈N↔∃i:Nat,x=i/\Edge T o i:=fun x=>by rw[hN];exact HA.out.mem o hko x
       have HMm:=OA hmem;have HO:=OA ho;have hoi:(o:Int)<(n:Int):=(by omega);have hpi:(p:Int)<(q.length:Int):=(by omega);have hneg:(some gQ:Option Nat)≠some gO:=hne;clear hN hmem cA ho;go_wp2;go_loopw [7,10] (fun s7 s10 wr=>∃(t:Nat) (q2:List Nat) (f:Nat->Int) (D:Option Addr) (d:Nat),t<=N.length/\s10= .int .i64 t/\s7= .slice D q2.length d/\aC 3 1 aY w.heap.size wr (.slice D q2.length d) (ints q2)/\(Value.slice D q2.length d).ownBlock≠some gO/\aC 3 1 aY w.heap.size wr (.slice (some ⟨gO,0,none⟩) n n) (rU n f)/\Hid (Bfs (Edge T) s n f q2 p/\(∃h:p<q2.length,q2[p]=o)/\∀i:Nat,(i:Int)∈N.take t->0<=f i)/\Below w.heap.size w wr) (fun _ i _=>N.length-(intOf i).toNat)
       case atStart=>exact⟨0,q,f,_,_,zero_le _,rfl,rfl,hq,hne,hown,OA ⟨Hb.out,⟨hlp,HO.out.symm⟩,fun i hi=>by simp at hi⟩,hbel⟩
       case round=>
        clear hq hne hown Hb hbel cA2 cq hneg hgQ hgQ2;obtain⟨t,q2,f,D,d,ht,rfl,rfl,hq,hne,hown,Hb,hbel⟩:=hrel;obtain⟨hlq,hqo⟩:=Hb.out.2.1;obtain⟨gQ,rfl,hgQ,hgQ2⟩:=hq.split (k:=0) (by rw[mY];omega);have hql:=Hb.out.1.len;by_cases hlt2:t<N.length
        . obtain ⟨b, off2, rfl, hb, c1w⟩ := (oN.rd aL (by decide)).uE hlt2;have hbg:b≠gO:=(by omega);have c1:=(hbel.cell (p:=⟨b,off2+t,none⟩) hb).trans c1w;obtain⟨i,hi,hE⟩:=(HMm.out N[t]).1 (getElem_mem hlt2);rw[hi]at c1 c1w;have hin:i<n:=by rw[HN.out];exact xS HFS.out hE
          have htk:N.take (t+1)=N.take t++[(i:Int)]:=(by rw[List.take_succ_eq_append_getElem hlt2,hi]);have HTK:=OA htk;have HE:=OA hE;have ci:=jS hown hin;have co:=jS hown hlt;have cq:=GL hq (i:=p) (by rw[mY];exact hlq);rw[ints_at hlq,hqo]at cq;have hfr:=hown.free;have hii:(i:Int)<(n:Int):=(by omega);have hti:(t:Int)<(N.length:Int):=(by omega);have hpq:(p:Int)<(q2.length:Int):=(by omega);have hvb:=Mm Hb.out.1 (i:=o) (by rw[<-hqo];exact getElem_mem hlq);obtain⟨vo,hvo⟩:=Oy (f o);obtain⟨vi,hvi⟩:=Oy (f i);rw[<-hvo]at co hvb;rw[<-hvi]at ci;have HVO:=OA hvo;have HVI:=OA hvi;have HQO:=OA hqo;clear hi hE htk hvo hvi hqo;have hvb2:vo<=300:=(by omega);by_cases hfi:vi<0
          . obtain⟨W,hW⟩:=Oy wr;rw[<-hW]at hq hown hbel ci co cq c1 hfr hgQ2⊢;clear hW;have Bw:Below W.heap.size W W.drew:=(Below.refl _ _).drew;have hz:W.heap.size<=W.drew.heap.size:=by simp
            have hgO3:gO<W.heap.size:=by
             obtain⟨g',e',_,h5⟩:=hown.split (k:=0) (by rw[iW];omega);injection e' with e';injection e' with e';omega
            go_wp2_with fail
            go_still_tail 13,(by kernel_rfl)
            have hown':=hown.below Bw;have hq':=hq.below Bw;have B':=hbel.tr Bw;have o2:=uP hown' hin (vo+1);have B2:=B'.setCell (p:=⟨gO,i,none⟩) hgO (.int .i64 (vo+1));have gX:=dI (World.grownBy.refl W.drew (some gO)) i (.int .i64 (vo+1));have hq2:=Mo hq' gX hne;have c1s:=(B2.cell (p:=⟨b,off2+t,none⟩) hb).trans c1w;have hsz:W.heap.size=(W.drew.setCell ⟨gO,i,none⟩ (.int .i64 (vo+1))).heap.size:=(by simp);have H8:Hid (((ints q2).length+1)*8<=140737488355328):=OA (by rw[mY];omega);have HM:Hid ((ints q2).length+1<=maxLen):=OA (by rw[mY];unfold maxLen;omega)
            have HG : Hid (Bfs (Edge T) s n (upd f i (vo + 1)) (q2 ++ [i]) p /\ (∃ h : p < (q2 ++ [i]).length, (q2 ++ [i])[p] = o) /\ ∀ k : Nat, (k : Int) ∈ N.take (t + 1) -> 0 <= upd f i (vo + 1) k) := OA (by
             have hb0:=Jz Hb.out.1 hlq hin (by rw[HQO.out];exact HE.out) (by rw[<-HVI.out];exact hfi);rw[HQO.out,<-HVO.out]at hb0;refine⟨hb0,⟨by simp;omega,by rw[List.getElem_append_left hlq];exact HQO.out⟩,fun k hk=> ?_⟩;by_cases e:k=i
             . subst e;rw[qH];omega
             . rw[upd_ne e];rw[HTK.out,mem_append]at hk;rcases hk with hk|hk
               . exact Hb.out.2.2 k hk
               . simp at hk;omega)
            have HSZ:=OA hsz;have HL:=OA (mY q2);clear hsz hown' hq' B' hq hown hbel;go_wp2_with (at_builtin;go_must (refine aO (enc:=aY) fA aL jD B2 hq2 (i:Int) H8.out HM.out HSZ.out rfl _ _ rfl rfl rfl ?_);intro v4 w4 own4 hb4 hg4 hd4;rw[Es]at own4;obtain⟨A4,c4,rfl,hc4,hm4⟩:=own4.form)
            have hql2:(ints (q2++[i])).length=(q2++[i]).length:=mY _
            have hne4:(Value.slice A4 (q2++[i]).length c4).ownBlock≠some gO:=by
             rw[hql2]at hd4;rcases hd4 with q|q
             . rw[q];exact hne
             . rw[q,<-HSZ.out];intro e;injection e with e;omega
            have own5:aC 3 1 aY w.heap.size w4 (.slice A4 (q2++[i]).length c4) (ints (q2++[i])):=by rw[<-hql2];exact own4
            have o4:aC 3 1 aY w.heap.size w4 (.slice (some ⟨gO,0,none⟩) n n) (rU n (upd f i (vo+1))):=Mo (o2.alloc _) hg4 (fun e=>hne e.symm);go_roundw
            case rel=>exact⟨t+1,q2++[i],upd f i (vo+1),A4,c4,by omega,by go_num,by rw[hql2],own5,hne4,o4,HG,hb4⟩
            case measure=>simp[intOf];omega
          . have HG : Hid (Bfs (Edge T) s n f q2 p /\ (∃ h : p < q2.length, q2[p] = o) /\ ∀ k : Nat, (k : Int) ∈ N.take (t + 1) -> 0 <= f k) := OA ⟨Hb.out.1, Hb.out.2.1, fun k hk => by
             rw[HTK.out,mem_append]at hk;rcases hk with hk|hk
             . exact Hb.out.2.2 k hk
             . simp at hk;obtain rfl:k=i:=by omega
               rw[<-HVI.out];omega⟩
            go_wp2;go_roundw
            case rel=>exact⟨t+1,q2,f,_,_,by omega,by go_num,rfl,hq,hne,hown,HG,hbel⟩
            case measure=>simp[intOf];omega
        . obtain rfl : t = N.length := by omega
          have HG : Hid (Bfs (Edge T) s n f q2 (p + 1)) := OA (Gs Hb.out.1 hlq (fun i hi => by
           rw[hqo]at hi;have:=(HMm.out (i:Int)).2 ⟨i,rfl,hi⟩;exact Hb.out.2.2 i (by rw[take_length];exact this)))
          go_wp2;go_roundw
          case rel=>exact⟨q2,p+1,f,_,_,_,_,rfl,rfl,by omega,by go_num,rfl,hq,hne,hown,HG,hbel⟩
          case measure=>simp[intOf];omega
     . obtain rfl : p = q.length := by omega
       have HD : Hid (pY T s = f /\ jU (Edge T) s n (pY T s)) := OA (by
        have h2:=JA Hb.out;have h3:pY T s=f:=JC (by rw[<-HN.out];exact h2);exact⟨h3,by rw[h3];exact h2⟩)
       go_wp2;go_ret;exact⟨⟨some ⟨gO,0,none⟩,n,by rw[iW];rfl,by rw[iW,HD.out.1];exact hown,hbel⟩,HD.out.2⟩
end Go.Proofs.YtljfoohaapckeaaGreatDoor
