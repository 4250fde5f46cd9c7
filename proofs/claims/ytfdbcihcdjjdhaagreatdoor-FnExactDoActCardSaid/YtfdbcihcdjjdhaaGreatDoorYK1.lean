/- Words for memory and for the ends of walks, used by all walks of this seat: what a slice value reads as; what a call leaves. Plain lemmas; no conditions. How an argument's reading gives the words of Base: integers, bools, strings, structs, slices. Plain lemmas; no conditions. The argument types of the laws of this seat, opened. Plain lemmas; no conditions. The walks of BoxesOk, of the program and of the reference. No conditions. Slices of the call's own: made, appended to, stored into; and what they read as. Plain lemmas; no conditions. Words for the laws' own helpers. Plain lemmas; no conditions. FnExactActOk: for every Act the law returns true, and its argument reads as before. No conditions. The laws' copying, comparing, marking and holding of lists of this kind: Box. No conditions but sizes. The laws' copying, comparing, marking and holding of lists of this kind: Int. No conditions but sizes. FnExactBoxesOk and FnExactSampleBoxes: the walks of the laws. For every list of boxes the law returns true, and its argument reads as before. No conditions. BestBox, leastPrices, CheapestBoxes: the walks of the program and of the reference. No conditions but valid boxes. The laws' copying, comparing, marking and holding of lists of this kind: Cell. No conditions but sizes. The laws' copying, comparing, marking and holding of lists of this kind: Dom. No conditions but sizes. The laws' copying, comparing, marking and holding of lists of this kind: Str. No conditions but sizes. The laws' copying, comparing, marking and holding of lists of this kind: Act. No conditions but sizes. FnExactSameFloor and FnExactCountSigns: the walks. For all lists of strings the laws return true. No conditions.. Conditions, where there are any, stand in the statements. -/
import Derived.Test.YtfdbcihcdjjdhaaGreatDoorRows
import Derived.WalkKit
import Derived.ProofKit
import Derived.OpenShut
import Derived.ShutString
import Derived.ChangeOld
import Derived.Below
import Derived.Lib.SmallJoins
import Derived.Lib.Hide
import Derived.WalkSpells
import Derived.WalkLawsBesides
import Derived.OrdersHeld
import Derived.Deep.RegionHeld
import Derived.OwnWalk
import Derived.Maps.AppendAt
import Derived.Deep.AppendLies
import Derived.WideShapes
import Derived.StillTailTactics
import Derived.Deep.QuietTactic
import Derived.BigQuiet
import Derived.Deep.RegionWith
import Derived.IntWalk
namespace Go.Proofs.YtfdbcihcdjjdhaaGreatDoor
open Go.RowKit
set_option linter.unusedVariables false
set_option maxHeartbeats 4000000
set_option maxRecDepth 100000
theorem tk {P:Program} {md:Region.Mode} {ops:Array Oper} {Q:Exit→Act→World→Prop} {S:World→Prop} (i:Nat) (oi:Oper) {v:Value} {fuel:Nat} {listed:Array Bool} {a:Act} {w:World} (hi:ops[i]? =some oi)
    (hk:(Region.noSelect ops&&(Region.free md ops listed i&&(Region.ready md ops listed).contains i))=true) (hQ:∀c a w,Q (.panic c) (a.put oi.dst v) w→Q (.panic c) a w) (hy:YieldsIf P ops S oi v a) (hS:S w)
    (h:wpAnyH P md ops Q S fuel (listed.setIfInBounds i true) (a.put oi.dst v) w):wpAnyH P md ops Q S (fuel+1) listed a w:=by
 rw[Bool.and_eq_true,Bool.and_eq_true]at hk;exact wpAnyH_take hi hk.1 hk.2.1 hk.2.2 hQ hy hS h
theorem putL (d:Nat) (v:Value) (l:List Value) (ds:List Deferred):Act.put ⟨l.toArray,ds⟩ (some d) v=⟨(l.set d v).toArray,ds⟩:=by simp[Act.put]
section
variable {P : Program} {md : Region.Mode} {ops : Array Oper} {Q : Exit → Act → World → Prop} {S : World → Prop} {fuel : Nat} {listed : Array Bool} {a a' : Act} {w : World} {o : Oper} {v : Value} {rs : List Nat} {i : Nat}
def opN:List Oper→Nat→Option Oper
  |[],_=>none
  |o::_,0=>some o
  |_::l,n+1=>opN l n
theorem opN_get:∀(l:List Oper) (i:Nat),opN l i=l[i]?
  |[],_=>by simp[opN]
  |_::_,0=>by simp[opN]
  |_::l,n+1=>by simp[opN,opN_get l n]
theorem opA (h:opN ops.toList i=some o):ops[i]? =some o:=by rw[opN_get]at h;simpa using h
theorem rB (S : World → Prop) {id : Nat} (h : S w.drew → wpAnyH P .any ops Q S ops.size (Array.replicate ops.size false) a w.drew) (hm : P.follows .mixedOrders = true := by kernel_rfl)
    (hS:S w.drew:=by(try dsimp only);(try go_keep)):(Code.region id ops true).wp P Q a w:=wp_region_held_drew hm hS h
theorem tW (i : Nat) (hi : opN ops.toList i = some o := by exact rfl) (hk : (Region.noSelect ops && (Region.free md ops listed i && (Region.ready md ops listed).contains i)) = true := by kernel_rfl)
    (hQ:∀c a w,Q (.panic c) (a.put o.dst v) w→Q (.panic c) a w:=by exact fun _ _ _ h=>h) (hw:Region.wanted o (yielded ops a.tmps)=true:=by rfl)
    (hv:∀w,S w→(execOp a.eval o).run P w= .ok (.value v) w:=by(intro wS hSw;(try dsimp only at hSw);go_simp;(all_goals with_reducible rfl))) (hS:S w:=by assumption)
    (ha:a.put o.dst v=a':=by(simp only[putL,List.set];rfl)) (h:wpAnyH P md ops Q S fuel (listed.setIfInBounds i true) a' w):wpAnyH P md ops Q S (fuel+1) listed a w:=by
 subst ha;exact tk i o (opA hi) hk hQ (.inl ⟨hw,hv⟩) hS h
theorem tU (i : Nat) (hi : opN ops.toList i = some o := by exact rfl) (hk : (Region.noSelect ops && (Region.free md ops listed i && (Region.ready md ops listed).contains i)) = true := by kernel_rfl)
    (hQ:∀c a w,Q (.panic c) (a.put o.dst undef) w→Q (.panic c) a w:=by exact fun _ _ _ h=>h) (hw:Region.wanted o (yielded ops a.tmps)=false:=by rfl) (hS:S w:=by assumption)
    (ha:a.put o.dst undef=a':=by(simp only[putL,List.set];rfl)) (h:wpAnyH P md ops Q S fuel (listed.setIfInBounds i true) a' w):wpAnyH P md ops Q S (fuel+1) listed a w:=by
 subst ha;exact tk i o (opA hi) hk hQ (.inr ⟨hw,rfl⟩) hS h
theorem tX (i : Nat) (hi : opN ops.toList i = some o := by exact rfl) (hk : (Region.noSelect ops && (Region.free md ops listed i && (Region.ready md ops listed).contains i)) = true := by decide +kernel)
    (hQ:∀c a w,Q (.panic c) (a.put o.dst v) w→Q (.panic c) a w:=by exact fun _ _ _ h=>h) (hw:Region.wanted o (yielded ops a.tmps)=true:=by rfl)
    (hv:∀w,S w→(execOp a.eval o).run P w= .ok (.value v) w:=by(intro wS hSw;(try dsimp only at hSw);go_simp;(all_goals with_reducible rfl))) (hS:S w:=by assumption)
    (ha:a.put o.dst v=a':=by(simp only[putL,List.set];rfl)) (h:wpAnyH P md ops Q S fuel (listed.setIfInBounds i true) a' w):wpAnyH P md ops Q S (fuel+1) listed a w:=tW i hi hk hQ hw hv hS ha h
theorem tR (rs:List Nat) (hr:Region.ready md ops listed=rs:=by kernel_rfl) (hne:rs≠[]:=by simp) (h:AllReadyH P md ops Q S fuel listed a w rs):wpAnyH P md ops Q S (fuel+1) listed a w:=wpAnyH_ready hr hne h
theorem tQ (rs:List Nat) (hr:Region.ready md ops listed=rs:=by decide+kernel) (hne:rs≠[]:=by simp) (h:AllReadyH P md ops Q S fuel listed a w rs):wpAnyH P md ops Q S (fuel+1) listed a w:=wpAnyH_ready hr hne h
theorem tC (h:∀K':Act→World→Prop,Shut (∀a w,S w→(S w→wpAnyH P md ops Q S fuel (listed.setIfInBounds i true) a w)→K' a w)→if Region.wanted o (yielded ops a.tmps)=true then Oper.wp P o a w K' Q else K' (a.put o.dst undef) w)
    (hs:AllReadyH P md ops Q S fuel listed a w rs) (ho:opN ops.toList i=some o:=by exact rfl):AllReadyH P md ops Q S fuel listed a w (i::rs):=AllReadyH.cons (opA ho) h hs
theorem tL (h:∀K':Act→World→Prop,Shut (∀a w,S w→(S w→wpAnyH P md ops Q S fuel (listed.setIfInBounds i true) a w)→K' a w)→if Region.wanted o (yielded ops a.tmps)=true then Oper.wp P o a w K' Q else K' (a.put o.dst undef) w)
    (ho:opN ops.toList i=some o:=by exact rfl):AllReadyH P md ops Q S fuel listed a w [i]:=AllReadyH.cons (opA ho) h AllReadyH.nil
theorem tN (i:Nat) (h:∀K':Act→World→Prop,Shut (∀a w,S w→(S w→wpAnyH P md ops Q S fuel (listed.setIfInBounds i true) a w)→K' a w)→if Region.wanted o (yielded ops a.tmps)=true then Oper.wp P o a w K' Q else K' (a.put o.dst undef) w)
    (hs:AllReadyH P md ops Q S fuel listed a w rs) (ho:opN ops.toList i=some o:=by exact rfl):AllReadyH P md ops Q S fuel listed a w (i::rs):=AllReadyH.cons (opA ho) h hs
theorem tK {K : Act → World → Prop} (hK : Shut (∀ a w, S w → (S w → wpAnyH P md ops Q S fuel listed a w) → K a w)) (h : S w → wpAnyH P md ops Q S fuel listed a' w) (hs : S w := by (try dsimp only); (try go_keep))
    (ha:a=a':=by((try simp only[Act.put,List.setIfInBounds_toArray,List.set_cons_zero,List.set_cons_succ]);rfl)):K a w:=by subst ha;exact hK.out _ _ hs h
theorem tD (h:Q .normal a w) (hr:Region.ready md ops listed=[]:=by kernel_rfl):wpAnyH P md ops Q S fuel listed a w:=wpAnyH_done hr h _
theorem tE (h:True∧Q .normal a w) (hr:Region.ready md ops listed=[]:=by decide+kernel):wpAnyH P md ops Q S fuel listed a w:=wpAnyH_done hr h.2 _
end
def Small (n:Nat):Prop:=n≤1048576
theorem Small.max {n:Nat} (h:Small n):n≤maxLen:=by unfold Small at h;unfold maxLen;omega
theorem Small.by8 {n:Nat} (h:Small n):8*n≤281474976710656:=by unfold Small at h;omega
theorem Small.by16 {n:Nat} (h:Small n):16*n≤281474976710656:=by unfold Small at h;omega
theorem Small.by24 {n:Nat} (h:Small n):24*n≤281474976710656:=by unfold Small at h;omega
def Pure (v:Value) (w:World) (e:Ending) (w':World):Prop:=e= .returned v∧w=w'
def Ret (v:Value) (w:World) (e:Ending) (w':World):Prop:=e= .returned v∧Below w.heap.size w w'
theorem _root_.Go.RowKit.Below.al {a w:World} (h:Below a.heap.size a w) (o:Obj):Below a.heap.size a (w.alloc o):=h.alloc h.size o
theorem _root_.Go.RowKit.Below.tr {a w w':World} (h:Below a.heap.size a w) (k:Below w.heap.size w w'):Below a.heap.size a w':=h.trans (k.mono h.size)
theorem _root_.Go.RowKit.Below.st {a w:World} (h:Below a.heap.size a w) (p:Addr) (u:Value) (hp:a.heap.size≤p.block):Below a.heap.size a (w.setCell p u):=h.setCell hp u
theorem eq_step {α:Type} [BEq α] {l m:List α} {k:Nat} (h:k<l.length) (h':k<m.length):(l.drop k==m.drop k)=(l[k]==m[k]&&l.drop (k+1)==m.drop (k+1)):=by
 rw[List.drop_eq_getElem_cons h,List.drop_eq_getElem_cons h'];rfl
theorem eq_go {α:Type} [BEq α] {l m:List α} {k:Nat} {r:Bool} (H:Hid ((l.drop k==m.drop k)=r)) (h:k<l.length) (h':k<m.length) (e:(l[k]==m[k])=true):Hid ((l.drop (k+1)==m.drop (k+1))=r):=by
 have:=H.out;rw[eq_step h h',e,Bool.true_and]at this;exact this
theorem eq_no {α:Type} [BEq α] {l m:List α} {k:Nat} {r:Bool} (H:Hid ((l.drop k==m.drop k)=r)) (h:k<l.length) (h':k<m.length) (e:(l[k]==m[k])=false):r=false:=by
 have:=H.out;rw[eq_step h h',e,Bool.false_and]at this;exact this.symm
theorem eq_end {α:Type} [BEq α] {l m:List α} {k:Nat} {r:Bool} (H:Hid ((l.drop k==m.drop k)=r)) (h:l.length≤k) (h':m.length≤k):r=true:=by
 have:=H.out;rw[List.drop_of_length_le h,List.drop_of_length_le h']at this;exact this.symm
theorem retB {a b:Bool} (h:a=b):Ending.returned (.bool a)=Ending.returned (.bool b):=by rw[h]
theorem retT {a b c d:Int} (h:a=b) (h':c=d):Ending.returned (.tuple #[.int .i64 a,.int .i64 c])=Ending.returned (.tuple #[.int .i64 b,.int .i64 d]):=by rw[h,h']
theorem retI {a b:Int} (h:a=b):Ending.returned (.int .i64 a)=Ending.returned (.int .i64 b):=by rw[h]
theorem bk {W w1:World} (hb:Below W.heap.size W w1):(∀b o,b<W.heap.size→w1.cell? ⟨b,o,none⟩=W.cell? ⟨b,o,none⟩)∧(∀b o,b<W.heap.size→w1.frozen? ⟨b,o,none⟩=W.frozen? ⟨b,o,none⟩)∧W.heap.size≤w1.heap.size:=
 ⟨fun b o h=>hb.cell (p:=⟨b,o,none⟩) h,fun b o h=>hb.frozen (p:=⟨b,o,none⟩) h,hb.size⟩
theorem bkn {W w1:World} (hb:Below W.heap.size W w1) (n:Nat) (hn:n≤W.heap.size):(∀b o,b<n→w1.cell? ⟨b,o,none⟩=W.cell? ⟨b,o,none⟩)∧(∀b o,b<n→w1.frozen? ⟨b,o,none⟩=W.frozen? ⟨b,o,none⟩)∧n≤w1.heap.size:=
 ⟨fun b o h=>hb.cell (p:=⟨b,o,none⟩) (Nat.lt_of_lt_of_le h hn),fun b o h=>hb.frozen (p:=⟨b,o,none⟩) (Nat.lt_of_lt_of_le h hn),Nat.le_trans hn hb.size⟩
def CellsAt (w:World) (b off:Nat) (cs:List Value):Prop:=∀j u,cs[j]? =some u→w.cell? ⟨b,off+j,none⟩=some u
def Rd {α:Type} (size:Nat) (R:World→List Value→α→Prop) (w:World) (v:Value) (l:List α):Prop:=
 ∃ A c, v = .slice A l.length c ∧ l.length ≤ c ∧ c ≤ maxLen ∧ (0 < l.length → ∃ b off, A = some ⟨b, off, none⟩ ∧ b < w.heap.size ∧
   ∀i x,l[i]? =some x→∃cs,cs.length=size∧R w cs x∧CellsAt w b (off+i*size) cs)
def Stays {α:Type} (R:World→List Value→α→Prop):Prop:=∀w w' cs x,R w cs x→Below w.heap.size w w'→R w' cs x
theorem CellsAt.below {w w':World} {b off:Nat} {cs:List Value} (h:CellsAt w b off cs) (hb:b<w.heap.size) (hbel:Below w.heap.size w w'):CellsAt w' b off cs:=
 fun j u hj=>(hbel.cell (p:=⟨b,off+j,none⟩) hb).trans (h j u hj)
theorem Rd.below {α:Type} {size:Nat} {R:World→List Value→α→Prop} (hR:Stays R) {w w':World} {v:Value} {l:List α} (h:Rd size R w v l) (hb:Below w.heap.size w w'):Rd size R w' v l:=by
 obtain⟨A,c,rfl,h1,h2,h3⟩:=h;refine⟨A,c,rfl,h1,h2,fun hn=> ?_⟩;obtain⟨b,off,e,hlt,hc⟩:=h3 hn;refine⟨b,off,e,Nat.lt_of_lt_of_le hlt hb.size,fun i x hx=> ?_⟩;obtain⟨cs,hl,hr,hca⟩:=hc i x hx;exact⟨cs,hl,hR _ _ _ _ hr hb,hca.below hlt hb⟩
def RE {α:Type} (enc:α→List Value) (_:World) (cs:List Value) (x:α):Prop:=cs=enc x
theorem RE.stays {α:Type} {enc:α→List Value}:Stays (RE enc):=fun _ _ _ _ h _=>h
@[reducible] def eInt (x:Int):List Value:=[.int .i64 x]
@[reducible] def eByte (x:Int):List Value:=[.int .u8 x]
@[reducible] def eStr (x:ByteArray):List Value:=[.string x]
@[reducible] def eBool (x:Bool):List Value:=[.bool x]
@[reducible] def ePair (x:Int×Int):List Value:=[.int .i64 x.1,.int .i64 x.2]
@[reducible] def eTrip (x:Int×Int×Int):List Value:=[.int .i64 x.1,.int .i64 x.2.1,.int .i64 x.2.2]
@[reducible] def eQuad (x:Int×Int×Int×Int):List Value:=[.int .i64 x.1,.int .i64 x.2.1,.int .i64 x.2.2.1,.int .i64 x.2.2.2]
@[reducible] def eDom (x:Int×Int×Bool):List Value:=[.int .i64 x.1,.int .i64 x.2.1,.bool x.2.2]
abbrev RInt:=RE eInt
abbrev RBool:=RE eBool
abbrev RPair:=RE ePair
abbrev RTrip:=RE eTrip
abbrev RDom:=RE eDom
theorem Rd.form {α:Type} {size:Nat} {R:World→List Value→α→Prop} {w:World} {v:Value} {l:List α} (h:Rd size R w v l):∃A c,v= .slice A l.length c∧l.length≤c∧l.length≤9223372036854775807:=by
 obtain⟨A,c,h0,h1,h2,_⟩:=h;exact⟨A,c,h0,h1,by unfold maxLen at h2;omega⟩
theorem Rd.at_ {α:Type} {enc:α→List Value} {size:Nat} {w:World} {A:Option Addr} {n c:Nat} {l:List α} (h:Rd size (RE enc) w (.slice A n c) l) {k:Nat} (hk:k<l.length):
 ∃b off,A=some ⟨b,off,none⟩∧b<w.heap.size∧∀j u,(enc l[k])[j]? =some u→w.cell? ⟨b,off+k*size+j,none⟩=some u:=by
 obtain⟨A',c',e,h1,h2,h3⟩:=h;injection e with e1 e2 e3;subst e1;obtain⟨b,off,e,hlt,hc⟩:=h3 (by omega);obtain⟨cs,hl,hr,hca⟩:=hc k l[k] (List.getElem?_eq_getElem hk);unfold RE at hr;subst hr;exact⟨b,off,e,hlt,fun j u hu=>hca j u hu⟩
section
variable {w : World} {A : Option Addr} {n c k : Nat}
theorem Rd.atInt {l:List Int} (h:Rd 1 RInt w (.slice A n c) l) (hk:k<l.length):∃b off,A=some ⟨b,off,none⟩∧b<w.heap.size∧w.cell? ⟨b,off+k,none⟩=some (.int .i64 l[k]):=by
 obtain⟨b,off,e,hlt,hc⟩:=h.at_ hk;exact⟨b,off,e,hlt,by simpa using hc 0 _ rfl⟩
theorem Rd.atPair {l:List (Int×Int)} (h:Rd 2 RPair w (.slice A n c) l) (hk:k<l.length):
 ∃b off,A=some ⟨b,off,none⟩∧b<w.heap.size∧w.cell? ⟨b,off+k*2,none⟩=some (.int .i64 l[k].1)∧w.cell? ⟨b,off+k*2+1,none⟩=some (.int .i64 l[k].2):=by
 obtain⟨b,off,e,hlt,hc⟩:=h.at_ hk;exact⟨b,off,e,hlt,by simpa using hc 0 _ rfl,hc 1 _ rfl⟩
theorem Rd.atTrip {l:List (Int×Int×Int)} (h:Rd 3 RTrip w (.slice A n c) l) (hk:k<l.length):
 ∃b off,A=some ⟨b,off,none⟩∧b<w.heap.size∧w.cell? ⟨b,off+k*3,none⟩=some (.int .i64 l[k].1)∧w.cell? ⟨b,off+k*3+1,none⟩=some (.int .i64 l[k].2.1)∧w.cell? ⟨b,off+k*3+2,none⟩=some (.int .i64 l[k].2.2):=by
 obtain⟨b,off,e,hlt,hc⟩:=h.at_ hk;exact⟨b,off,e,hlt,by simpa using hc 0 _ rfl,hc 1 _ rfl,hc 2 _ rfl⟩
theorem Rd.atDom {l:List (Int×Int×Bool)} (h:Rd 3 RDom w (.slice A n c) l) (hk:k<l.length):
 ∃b off,A=some ⟨b,off,none⟩∧b<w.heap.size∧w.cell? ⟨b,off+k*3,none⟩=some (.int .i64 l[k].1)∧w.cell? ⟨b,off+k*3+1,none⟩=some (.int .i64 l[k].2.1)∧w.cell? ⟨b,off+k*3+2,none⟩=some (.bool l[k].2.2):=by
 obtain⟨b,off,e,hlt,hc⟩:=h.at_ hk;exact⟨b,off,e,hlt,by simpa using hc 0 _ rfl,hc 1 _ rfl,hc 2 _ rfl⟩
end
end Go.Proofs.YtfdbcihcdjjdhaaGreatDoor
namespace Go.Proofs.YtfdbcihcdjjdhaaGreatDoor
open Go.ChangeShapes Go.WideShapes Go.RowKit Go.Deep
set_option linter.unusedVariables false
set_option maxHeartbeats 4000000
set_option maxRecDepth 100000
def Opens {α:Type} (P:Program) (W:World) (t:TypeId) (n:Nat) (R:World→List Value→α→Prop) (Ok:α→Prop):Prop:=
 P.cellsOf t=n∧∀(H:Type) (enc:TypeId×Value→H) (fuel:Nat) (cs:List Value) (x:DataW H×List MemPlace),
   DataW.trod enc P W 0 (fun _=>true) true fuel t cs=some x→∃a,R W cs a∧Ok a
def I64 (n:Int):Prop:= -9223372036854775808≤n∧n≤9223372036854775807
def RSl {α:Type} (size:Nat) (R:World→List Value→α→Prop) (w:World) (cs:List Value) (l:List α):Prop:=∃v,cs=[v]∧Rd size R w v l
def Always {α:Type} (_:α):Prop:=True
def AllOk {α:Type} (Ok:α→Prop) (l:List α):Prop:=∀x∈l,Ok x
section
variable {P : Program} {W : World} {t e : TypeId} {n : Nat}
theorem Opens.int (ht:P.underlying t=some (.int .i64)) (hc:P.cellsOf t=1):Opens P W t 1 RInt I64:=by
 refine⟨hc,fun H enc fuel cs x h=> ?_⟩;obtain⟨a,rfl,_,hw⟩:=DataW.trod_int ht h;refine⟨a,rfl,?_⟩;simp[Lit.wf,IntKind.min,IntKind.max,IntKind.signed,IntKind.bits]at hw;exact⟨by omega,by omega⟩
theorem Opens.bool (ht:P.underlying t=some .bool) (hc:P.cellsOf t=1):Opens P W t 1 RBool Always:=by
 refine⟨hc,fun H enc fuel cs x h=> ?_⟩;obtain⟨a,rfl,_⟩:=DataW.trod_bool ht h;exact⟨a,rfl,trivial⟩
theorem Opens.conv {α β:Type} {R:World→List Value→α→Prop} {Ok:α→Prop} {R':World→List Value→β→Prop} {Ok':β→Prop} (h:Opens P W t n R Ok) (f:∀cs a,R W cs a→Ok a→∃b,R' W cs b∧Ok' b):Opens P W t n R' Ok':=
 ⟨h.1,fun H enc fuel cs x hx=>by obtain⟨a,h1,h2⟩:=h.2 H enc fuel cs x hx;exact f cs a h1 h2⟩
theorem field_cells {H : Type} {enc : TypeId × Value → H} {fs : Array Field} {fuel : Nat} {cs : List Value} {x : DataW H × List MemPlace} (hs : P.underlying t = some (.struct fs)) (h : DataW.trod enc P W 0 (fun _ => true) true fuel t cs = some x)
    (i:Nat) (f:Field) (hf:fs[i]? =some f):∃m y,DataW.trod enc P W 0 (fun _=>true) true m f.type ((cs.drop f.offset).take (P.cellsOf f.type))=some y:=by
 obtain⟨xs,m,_,_,_,hl,hg⟩:=DataW.trod_struct hs h;have hi:i<xs.length:=by rw[hl];exact(Array.getElem?_eq_some_iff.1 hf).1
 exact⟨m,xs[i],(hg i f hf).trans (List.getElem?_eq_getElem hi)⟩
theorem struct_len {H : Type} {enc : TypeId × Value → H} {fs : Array Field} {fuel : Nat} {cs : List Value} {x : DataW H × List MemPlace} (hs : P.underlying t = some (.struct fs)) (h : DataW.trod enc P W 0 (fun _ => true) true fuel t cs = some x) :
 cs.length=P.cellsOf t:=by
 obtain⟨xs,m,_,_,hc,hl,hg⟩:=DataW.trod_struct hs h;exact hc
theorem Opens.struct1 {α:Type} {R0:World→List Value→α→Prop} {Ok0:α→Prop} {f0:Field} {n0:Nat} (hs:P.underlying t=some (.struct #[f0])) (hc:P.cellsOf t=n0) (o0:f0.offset=0) (h0:Opens P W f0.type n0 R0 Ok0):Opens P W t n0 R0 Ok0:=by
 refine⟨hc,fun H enc fuel cs x h=> ?_⟩;obtain⟨m,y,hy⟩:=field_cells hs h 0 f0 rfl;have hl:=struct_len hs h;rw[o0,h0.1,List.drop_zero,List.take_of_length_le (by omega)]at hy;exact h0.2 H enc m cs y hy
theorem Opens.struct2 {α β:Type} {R0:World→List Value→α→Prop} {Ok0:α→Prop} {R1:World→List Value→β→Prop} {Ok1:β→Prop} {f0 f1:Field} {n0 n1:Nat} (hs:P.underlying t=some (.struct #[f0,f1])) (hc:P.cellsOf t=n0+n1)
    (o0:f0.offset=0) (o1:f1.offset=n0) (h0:Opens P W f0.type n0 R0 Ok0) (h1:Opens P W f1.type n1 R1 Ok1):
    Opens P W t (n0+n1) (fun w cs (x:α×β)=>∃a b,cs=a++b∧R0 w a x.1∧R1 w b x.2) (fun x=>Ok0 x.1∧Ok1 x.2):=by
 refine⟨hc,fun H enc fuel cs x h=> ?_⟩;obtain⟨m,y,hy⟩:=field_cells hs h 0 f0 rfl;obtain⟨m',y',hy'⟩:=field_cells hs h 1 f1 rfl;have hl:=struct_len hs h;rw[o0,h0.1,List.drop_zero]at hy;rw[o1,h1.1,List.take_of_length_le (by simp;omega)]at hy';obtain⟨a,ha,ka⟩:=h0.2 H enc m _ y hy;obtain⟨b,hb,kb⟩:=h1.2 H enc m' _ y' hy';exact⟨(a,b),⟨_,_,(List.take_append_drop n0 cs).symm,ha,hb⟩,ka,kb⟩
theorem Opens.struct3 {α β γ:Type} {R0:World→List Value→α→Prop} {Ok0:α→Prop} {R1:World→List Value→β→Prop} {Ok1:β→Prop} {R2:World→List Value→γ→Prop} {Ok2:γ→Prop} {f0 f1 f2:Field} {n0 n1 n2:Nat}
    (hs:P.underlying t=some (.struct #[f0,f1,f2])) (hc:P.cellsOf t=n0+n1+n2) (o0:f0.offset=0) (o1:f1.offset=n0) (o2:f2.offset=n0+n1) (h0:Opens P W f0.type n0 R0 Ok0) (h1:Opens P W f1.type n1 R1 Ok1) (h2:Opens P W f2.type n2 R2 Ok2):
    Opens P W t (n0+n1+n2) (fun w cs (x:α×β×γ)=>∃a b c,cs=a++b++c∧R0 w a x.1∧R1 w b x.2.1∧R2 w c x.2.2) (fun x=>Ok0 x.1∧Ok1 x.2.1∧Ok2 x.2.2):=by
 refine⟨hc,fun H enc fuel cs x h=> ?_⟩;obtain⟨m,y,hy⟩:=field_cells hs h 0 f0 rfl;obtain⟨m',y',hy'⟩:=field_cells hs h 1 f1 rfl;obtain⟨m2,y2,hy2⟩:=field_cells hs h 2 f2 rfl;have hl:=struct_len hs h;rw[o0,h0.1,List.drop_zero]at hy;rw[o1,h1.1]at hy';rw[o2,h2.1,List.take_of_length_le (by simp;omega)]at hy2;obtain⟨a,ha,ka⟩:=h0.2 H enc m _ y hy;obtain⟨b,hb,kb⟩:=h1.2 H enc m' _ y' hy';obtain⟨c,hc',kc⟩:=h2.2 H enc m2 _ y2 hy2;refine⟨(a,b,c),⟨_,_,_,?_,ha,hb,hc'⟩,ka,kb,kc⟩;rw[←List.drop_drop,List.append_assoc,List.take_append_drop,List.take_append_drop]
theorem Opens.struct4 {α β γ δ:Type} {R0:World→List Value→α→Prop} {Ok0:α→Prop} {R1:World→List Value→β→Prop} {Ok1:β→Prop} {R2:World→List Value→γ→Prop} {Ok2:γ→Prop} {R3:World→List Value→δ→Prop} {Ok3:δ→Prop} {f0 f1 f2 f3:Field} {n0 n1 n2 n3:Nat}
    (hs:P.underlying t=some (.struct #[f0,f1,f2,f3])) (hc:P.cellsOf t=n0+n1+n2+n3) (o0:f0.offset=0) (o1:f1.offset=n0) (o2:f2.offset=n0+n1) (o3:f3.offset=n0+n1+n2)
    (h0:Opens P W f0.type n0 R0 Ok0) (h1:Opens P W f1.type n1 R1 Ok1) (h2:Opens P W f2.type n2 R2 Ok2) (h3:Opens P W f3.type n3 R3 Ok3):
    Opens P W t (n0+n1+n2+n3) (fun w cs (x:α×β×γ×δ)=>∃a b c d,cs=a++b++c++d∧R0 w a x.1∧R1 w b x.2.1∧R2 w c x.2.2.1∧R3 w d x.2.2.2) (fun x=>Ok0 x.1∧Ok1 x.2.1∧Ok2 x.2.2.1∧Ok3 x.2.2.2):=by
 refine⟨hc,fun H enc fuel cs x h=> ?_⟩;obtain⟨m,y,hy⟩:=field_cells hs h 0 f0 rfl;obtain⟨m',y',hy'⟩:=field_cells hs h 1 f1 rfl;obtain⟨m2,y2,hy2⟩:=field_cells hs h 2 f2 rfl;obtain⟨m3,y3,hy3⟩:=field_cells hs h 3 f3 rfl;have hl:=struct_len hs h;rw[o0,h0.1,List.drop_zero]at hy;rw[o1,h1.1]at hy';rw[o2,h2.1]at hy2;rw[o3,h3.1,List.take_of_length_le (by simp;omega)]at hy3;obtain⟨a,ha,ka⟩:=h0.2 H enc m _ y hy;obtain⟨b,hb,kb⟩:=h1.2 H enc m' _ y' hy';obtain⟨c,hc',kc⟩:=h2.2 H enc m2 _ y2 hy2;obtain⟨d,hd,kd⟩:=h3.2 H enc m3 _ y3 hy3;refine⟨(a,b,c,d),⟨_,_,_,_,?_,ha,hb,hc',hd⟩,ka,kb,kc,kd⟩;rw[←List.drop_drop (i:=n2) (j:=n0+n1),←List.drop_drop (i:=n1) (j:=n0),List.append_assoc,List.append_assoc,List.take_append_drop,List.take_append_drop,List.take_append_drop]
theorem Opens.slice {α:Type} {size:Nat} {R:World→List Value→α→Prop} {Ok:α→Prop} (ht:P.underlying t=some (.slice e)) (hc:P.cellsOf t=1) (hpos:0<size) (he:Opens P W e size R Ok):Opens P W t 1 (RSl size R) (AllOk Ok):=by
 refine⟨hc,fun H enc fuel cs x h=> ?_⟩;rcases open_slice ht h with⟨rfl,_⟩|⟨a,len,cap,m,n,D,Pl,rfl,_,hl,hm,hmm,hxx,hi⟩
 · exact⟨[],⟨_,rfl,none,0,rfl,Nat.le_refl _,by simp[maxLen],fun h=>absurd h (by simp)⟩,fun x hx=>by cases hx⟩
 · simp only[if_true]at hmm;obtain rfl:m=cap:=hmm
   have key:∀i,i<len→∃y cs',cs'.length=size∧R W cs' y∧Ok y∧∀j u,cs'[j]? =some u→W.cell? (a.add (i*size+j))=some u:=by
    intro i him;obtain⟨cs',hcell,ht'⟩:=hi i (by omega);rw[he.1]at hcell;obtain⟨_,hlen,hat⟩:=World.cells?_some hcell;obtain⟨y,hy,oy⟩:=he.2 H enc n cs' _ ht';refine⟨y,cs',hlen,hy,oy,fun j u hu=> ?_⟩;have hj:j<size:=by rw[←hlen];exact(List.getElem?_eq_some_iff.1 hu).1
    rw[←Go.Deep.add_add,hat j hj,hu]
   obtain⟨l,hll,hlx⟩:∃l:List α,l.length=len∧∀i y,l[i]? =some y→∃cs',cs'.length=size∧R W cs' y∧Ok y∧∀j u,cs'[j]? =some u→W.cell? (a.add (i*size+j))=some u:=by
    clear hi hl hm hxx h;induction len with
    |zero=>exact⟨[],rfl,fun i y h=>by simp at h⟩
    |succ k ih=>
     obtain⟨l,hl,hx⟩:=ih (fun i hi=>key i (by omega));obtain⟨y,cs',h1,h2,h3,h4⟩:=key k (by omega);refine⟨l++[y],by simp[hl],fun i z hz=> ?_⟩;rcases Nat.lt_or_ge i l.length with hlt|hge
     · rw[List.getElem?_append_left hlt]at hz;exact hx i z hz
     · have hik:i=k:=by
        have:=(List.getElem?_eq_some_iff.1 hz).1;simp at this;omega
       subst hik;rw[←hl]at hz;simp at hz;subst hz;exact⟨cs',h1,h2,h3,h4⟩
   refine⟨l,⟨_,rfl,some a,m,by rw[hll],by omega,hm,fun hn=> ?_⟩,fun y hy=> ?_⟩
   · obtain⟨b,off,spot⟩:=a;have h0:l[0]? =some (l[0]'hn):=List.getElem?_eq_getElem hn;obtain⟨cs',k1,k2,k3,k4⟩:=hlx 0 _ h0;have hc0:=k4 0 _ (List.getElem?_eq_getElem (by omega));have hsp:spot=none:=(by simpa[Addr.add]using World.cell?_spot hc0);subst hsp
     have hblk:b<W.heap.size:=by
      rcases Nat.lt_or_ge b W.heap.size with h'|h'
      · exact h'
      · have:W.heap[b]? =none:=Array.getElem?_eq_none h';simp[Addr.add,World.cell?,this]at hc0
     refine⟨b,off,rfl,hblk,fun i y hy=> ?_⟩;obtain⟨cs',k1,k2,k3,k4⟩:=hlx i y hy;refine⟨cs',k1,k2,fun j u hu=> ?_⟩;have:=k4 j u hu
     have e:(Addr.mk b off none).add (i*size+j)=⟨b,off+i*size+j,none⟩:=by
      unfold Addr.add;split
      · simp_all
      · simp[Nat.add_assoc]
     rw[e]at this;exact this
   · obtain⟨i,hi',rfl⟩:=List.mem_iff_getElem.1 hy;obtain⟨_,_,_,h3,_⟩:=hlx i _ (List.getElem?_eq_getElem hi');exact h3
theorem open_sl {α:Type} {size:Nat} {R:World→List Value→α→Prop} {Ok:List α→Prop} (h:Opens P W t 1 (RSl size R) Ok) {H:Type} {enc:TypeId×Value→H} {v:Value} {d:DataW H} {p:List MemPlace} (hv:∃a n c,v= .slice a n c)
    (hr:DataW.Trod enc P W 0 (fun _=>true) true t v d p):∃l,Rd size R W v l∧Ok l:=by
 obtain⟨a,n,c,rfl⟩:=hv;obtain⟨fuel,hf⟩:=hr;obtain⟨l,⟨v',hv',hl⟩,ok⟩:=h.2 H enc fuel _ _ hf;simp[Value.cells]at hv';subst hv';exact⟨l,hl,ok⟩
theorem open_ag {α:Type} {m:Nat} {R:World→List Value→α→Prop} {Ok:α→Prop} (h:Opens P W t m R Ok) {H:Type} {enc:TypeId×Value→H} {v:Value} {d:DataW H} {p:List MemPlace} (hv:∃cs,v= .agg cs∧cs.size=P.cellsOf t)
    (hr:DataW.Trod enc P W 0 (fun _=>true) true t v d p):∃l x,v= .agg (List.toArray l)∧R W l x∧Ok x:=by
 obtain⟨cs,rfl,_⟩:=hv;obtain⟨fuel,hf⟩:=hr;obtain⟨x,hx,ok⟩:=h.2 H enc fuel _ _ hf;exact⟨cs.toList,x,by simp,by simpa[Value.cells]using hx,ok⟩
end
theorem RSl.stays {α:Type} {size:Nat} {R:World→List Value→α→Prop} (hR:Stays R):Stays (RSl size R):=fun w w' cs l ⟨v,h1,h2⟩ hb=>⟨v,h1,h2.below hR hb⟩
section
variable {W : World}
theorem o_int:Opens Tryz.prog W 3 1 RInt I64:=Opens.int Tryz.underlying3 (by kernel_rfl)
theorem o_bool:Opens Tryz.prog W 4 1 RBool Always:=Opens.bool Tryz.underlying4 (by kernel_rfl)
theorem pair_conv {P : Program} {t : TypeId} (h : Opens P W t (1 + 1) (fun w cs (x : Int × Int) => ∃ a b, cs = a ++ b ∧ RInt w a x.1 ∧ RInt w b x.2) (fun x => I64 x.1 ∧ I64 x.2)) : Opens P W t 2 RPair (fun x => I64 x.1 ∧ I64 x.2) :=
 h.conv fun cs x ⟨a,b,hcs,ha,hb⟩ ok=>⟨x,by show cs=_;rw[hcs,ha,hb];rfl,ok⟩
theorem trip_conv {P : Program} {t : TypeId} (h : Opens P W t (1 + 1 + 1) (fun w cs (x : Int × Int × Int) => ∃ a b c, cs = a ++ b ++ c ∧ RInt w a x.1 ∧ RInt w b x.2.1 ∧ RInt w c x.2.2) (fun x => I64 x.1 ∧ I64 x.2.1 ∧ I64 x.2.2)) :
 Opens P W t 3 RTrip (fun x=>I64 x.1∧I64 x.2.1∧I64 x.2.2):=
 h.conv fun cs x ⟨a,b,c,hcs,ha,hb,hc⟩ ok=>⟨x,by show cs=_;rw[hcs,ha,hb,hc];rfl,ok⟩
theorem dom_conv {P : Program} {t : TypeId} (h : Opens P W t (1 + 1 + 1) (fun w cs (x : Int × Int × Bool) => ∃ a b c, cs = a ++ b ++ c ∧ RInt w a x.1 ∧ RInt w b x.2.1 ∧ RBool w c x.2.2) (fun x => I64 x.1 ∧ I64 x.2.1 ∧ Always x.2.2)) :
 Opens P W t 3 RDom (fun x=>I64 x.1∧I64 x.2.1∧Always x.2.2):=
 h.conv fun cs x ⟨a,b,c,hcs,ha,hb,hc⟩ ok=>⟨x,by show cs=_;rw[hcs,ha,hb,hc];rfl,ok⟩
theorem o_cell:Opens Tryz.prog W 223 2 RPair (fun x=>I64 x.1∧I64 x.2):=pair_conv (Opens.struct2 Tryz.underlying223 (by kernel_rfl) rfl rfl o_int o_int)
theorem o_cells:Opens Tryz.prog W 26 1 (RSl 2 RPair) (AllOk fun x=>I64 x.1∧I64 x.2):=Opens.slice Tryz.underlying26 (by kernel_rfl) (by decide) o_cell
theorem o_dom:Opens Tryz.prog W 221 3 RDom (fun x=>I64 x.1∧I64 x.2.1∧Always x.2.2):=dom_conv (Opens.struct3 Tryz.underlying221 (by kernel_rfl) rfl rfl rfl o_int o_int o_bool)
theorem o_doms:Opens Tryz.prog W 25 1 (RSl 3 RDom) (AllOk fun x=>I64 x.1∧I64 x.2.1∧Always x.2.2):=Opens.slice Tryz.underlying25 (by kernel_rfl) (by decide) o_dom
theorem o_act:Opens Tryz.prog W 46 3 RTrip (fun x=>I64 x.1∧I64 x.2.1∧I64 x.2.2):=trip_conv (Opens.struct3 Tryz.underlying46 (by kernel_rfl) rfl rfl rfl o_int o_int o_int)
theorem o_acts:Opens Tryz.prog W 51 1 (RSl 3 RTrip) (AllOk fun x=>I64 x.1∧I64 x.2.1∧I64 x.2.2):=Opens.slice Tryz.underlying51 (by kernel_rfl) (by decide) o_act
theorem o_ints:Opens Tryz.prog W 22 1 (RSl 1 RInt) (AllOk I64):=Opens.slice Tryz.underlying22 (by kernel_rfl) (by decide) o_int
theorem o_region:Opens Tryz.prog W 24 1 (RSl 1 RInt) (AllOk I64):=Opens.struct1 Tryz.underlying24 (by kernel_rfl) rfl o_ints
end
theorem own:ownKnob Tryz.prog.godebug=none:=by kernel_rfl
theorem laidOut:laidOutB Tryz.prog=true:=by kernel_rfl
end Go.Proofs.YtfdbcihcdjjdhaaGreatDoor
namespace Go.Proofs.YtfdbcihcdjjdhaaGreatDoor
open Go.RowKit
set_option linter.unusedVariables false
set_option maxHeartbeats 4000000
set_option maxRecDepth 100000
def inB (n a b:Int):Bool:=decide (a≤n)&&decide (n≤b)
theorem within_any (n a b:Int) (w:World):
 Calls Tryz.prog 88 #[.int .i64 n,.int .i64 a,.int .i64 b] w (Pure (.bool (inB n a b)) w):=by
 go_enter Tryz.func88,Tryz.ntmps88
 go_wp2
 all_goals go_ret
 all_goals exact⟨by simp_all [inB]<;>omega,rfl⟩
theorem in_any (n a b:Int) (w:World):
 Calls Tryz.prog 83 #[.int .i64 n,.int .i64 a,.int .i64 b] w (Pure (.bool (inB n a b)) w):=by
 go_enter Tryz.func83,Tryz.ntmps83
 go_wp2
 all_goals go_ret
 all_goals exact⟨by simp_all [inB]<;>omega,rfl⟩
def boxesOk:List (Int×Int)→Int→Bool
  |[],n=>inB n 1 5
  |x::xs,n=>if !inB x.1 1 50|| !inB x.2 1 1000 then false else boxesOk xs n
theorem boxesOkI_any (v:Value) (l:List (Int×Int)) (w:World) (h:Rd 2 RPair w v l):
 Calls Tryz.prog 130 #[v] w (Ret (.bool (boxesOk l l.length)) w):=by
 obtain⟨A,c,rfl,hc,hm⟩:=h.form;go_enter Tryz.func130,Tryz.ntmps130
 go_wp2;go_loopw [7] (fun i wr=>∃k:Nat,k≤l.length∧i= .int .i64 k∧Hid (boxesOk (l.drop k) l.length=boxesOk l l.length)∧Below w.heap.size w wr) (fun i _=>l.length-(intOf i).toNat)
 case atStart=>exact⟨0,Nat.zero_le _,rfl,Lib.hid rfl,Below.refl _ _⟩
 case round=>
  obtain⟨k,hk,rfl,Hg,hbel⟩:=hrel;by_cases hlt:k<l.length
  · obtain⟨b,off,rfl,hb,h1,h2⟩:=(h.below RE.stays hbel).atPair hlt;go_wp2_with (go_at_call 88;(with_reducible refine(within_any _ _ _ _).mono ?_);rintro e w' ⟨rfl,rfl⟩)
    all_goals first
      | (go_roundw
         case rel=>exact⟨k+1,by omega,by go_num,Lib.hid (by rw[←Hg.out,List.drop_eq_getElem_cons hlt];simp_all [boxesOk]),by exact Below.alloc hbel hbel.size _⟩
         case measure=>simp[intOf];omega)
      | (go_ret
         exact⟨by congr 2;rw[←Hg.out,List.drop_eq_getElem_cons hlt];simp_all [boxesOk],Below.alloc hbel hbel.size _⟩)
  · go_wp2_with (go_at_call 88;(with_reducible refine(within_any _ _ _ _).mono ?_);rintro e w' ⟨rfl,rfl⟩)
    go_ret;have hke:k=l.length:=(by omega);exact⟨by congr 2;rw[←Hg.out,hke,List.drop_length];rfl,hbel⟩
theorem boxesOkS_any (v:Value) (l:List (Int×Int)) (w:World) (h:Rd 2 RPair w v l):
 Calls Tryz.prog 122 #[v] w (Pure (.bool (boxesOk l l.length)) w):=by
 obtain⟨A,c,rfl,hc,hm⟩:=h.form;go_enter Tryz.func122,Tryz.ntmps122
 go_wp2;go_loop [3] (fun i=>∃k:Nat,k≤l.length∧i= .int .i64 k∧Hid (boxesOk (l.drop k) l.length=boxesOk l l.length)) (fun i=>l.length-(intOf i).toNat)
 case atStart=>exact⟨0,Nat.zero_le _,rfl,Lib.hid rfl⟩
 case round=>
  obtain⟨k,hk,rfl,Hg⟩:=hrel;by_cases hlt:k<l.length
  · obtain⟨b,off,rfl,hb,h1,h2⟩:=h.atPair hlt;go_wp2_with (go_at_call 83;(with_reducible refine(in_any _ _ _ _).mono ?_);rintro e w' ⟨rfl,rfl⟩)
    all_goals first
      | (go_round
         case rel=>exact⟨k+1,by omega,by go_num,Lib.hid (by rw[←Hg.out,List.drop_eq_getElem_cons hlt];simp_all [boxesOk])⟩
         case measure=>simp[intOf];omega)
      | (go_ret
         exact⟨retB (by rw[←Hg.out,List.drop_eq_getElem_cons hlt];simp_all [boxesOk]),rfl⟩)
  · go_wp2_with (go_at_call 83;(with_reducible refine(in_any _ _ _ _).mono ?_);rintro e w' ⟨rfl,rfl⟩)
    go_ret;have hke:k=l.length:=(by omega);exact⟨retB (by rw[←Hg.out,hke,List.drop_length];rfl),rfl⟩
def OwnL {α:Type} (E:TypeId) (size:Nat) (enc:α→List Value) (B:Nat) (w:World) (v:Value) (l:List α):Prop:=w.ownsRow B E size v l.length (l.flatMap enc)
def RetOwn {α:Type} (E:TypeId) (size:Nat) (enc:α→List Value) (l:List α) (w:World) (e:Ending) (w':World):Prop:=
 ∃A c,e= .returned (.slice A l.length c)∧OwnL E size enc w.heap.size w' (.slice A l.length c) l∧Below w.heap.size w w'
def UpTo {α:Type} (k:Nat) (m l:List α):Prop:=m.length=l.length∧m.take k=l.take k
theorem UpTo.start {α:Type} (m l:List α) (h:m.length=l.length):UpTo 0 m l:=⟨h,rfl⟩
theorem UpTo.step {α:Type} {k:Nat} {m l:List α} (h:UpTo k m l) (hk:k<l.length):UpTo (k+1) (m.set k l[k]) l:=by
 refine⟨by rw[List.length_set];exact h.1,?_⟩;refine List.ext_getElem? fun i=> ?_
 by_cases h1:i<k+1
 · rw[List.getElem?_take_of_lt h1,List.getElem?_take_of_lt h1];by_cases h2:i=k
   · subst h2;rw[List.getElem?_set_self (by rw[h.1];exact hk)];exact(List.getElem?_eq_getElem hk).symm
   · rw [List.getElem?_set_ne (by omega)];have:=congrArg (fun x=>x[i]?) h.2;simpa[List.getElem?_take_of_lt (show i<k by omega)]using this
 · rw[List.getElem?_eq_none (by simp;omega),List.getElem?_eq_none (by simp;omega)]
theorem UpTo.done {α:Type} {k:Nat} {m l:List α} (h:UpTo k m l) (hk:l.length≤k):m=l:=by
 have:=h.2;rwa [List.take_of_length_le (by rw[h.1];exact hk),List.take_of_length_le hk]at this
section
variable {α : Type} {E : TypeId} {size : Nat} {enc : α → List Value} {B : Nat} {w w' : World} {v : Value} {l : List α}
theorem flat_len (henc:∀x,(enc x).length=size) (l:List α):(l.flatMap enc).length=l.length*size:=by
 induction l with
 |nil=>simp
 |cons x l ih=>rw[List.flatMap_cons,List.length_append,ih,henc,List.length_cons,Nat.add_mul];omega
theorem flat_at (henc:∀x,(enc x).length=size) (hs:0<size):∀(l:List α) (i:Nat) (x:α),l[i]? =some x→∀j u,(enc x)[j]? =some u→(l.flatMap enc)[i*size+j]? =some u:=by
 intro l;induction l with
 |nil=>intro i x h;simp at h
 |cons y l ih=>
  intro i x h j u hu;rw[List.flatMap_cons];cases i with
  |zero=>
   simp at h;subst h;rw[List.getElem?_append_left (by rw[Nat.zero_mul,Nat.zero_add];exact(List.getElem?_eq_some_iff.1 hu).1),Nat.zero_mul,Nat.zero_add];exact hu
  |succ i=>
   simp at h;rw[List.getElem?_append_right (by rw[henc,Nat.add_mul];omega),henc];have:=ih i x h j u hu;rw[←this];congr 1;rw[Nat.add_mul];omega
theorem OwnL.form (h:OwnL E size enc B w v l):∃A c,v= .slice A l.length c∧l.length≤c∧c≤maxLen:=by
 rcases h.2 with⟨rfl,hn⟩|⟨g,cap,cur,rfl,_,_,hc,hm,_⟩
 · exact⟨none,0,by rw[hn],by omega,by simp[maxLen]⟩
 · exact⟨_,cap,rfl,hc,hm⟩
theorem OwnL.nil_:OwnL E size enc B w (.slice none 0 0) ([]:List α):=World.ownsRow_nil _ _ _ _
theorem OwnL.below (h:OwnL E size enc B w v l) (hb:Below w.heap.size w w'):OwnL E size enc B w' v l:=by
 refine World.ownsRow.kept h (row:=none) ⟨hb.os,hb.tape,hb.output,hb.size,fun k hk _=>hb.block k hk⟩ ?_;cases v.ownBlock<;>simp
theorem OwnL.drewN (h:OwnL E size enc B w v l) (k:Nat):OwnL E size enc B (w.drewN k) v l:=h.below (below_drewN (Below.refl _ _) k)
theorem OwnL.alloc (h:OwnL E size enc B w v l) (o:Obj):OwnL E size enc B (w.alloc o) v l:=World.ownsRow.alloc h o
theorem OwnL.mono {B':Nat} (h:OwnL E size enc B w v l) (hb:B'≤B):OwnL E size enc B' w v l:=Go.Joins.ownsRow_le h hb
theorem OwnL.far (h:OwnL E size enc B w v l) {a:Addr} (ha:v.ownBlock≠some a.block) (u:Value):OwnL E size enc B (w.setCell a u) v l:=ownsRow_setCell_other h ha u
theorem OwnL.rd (h:OwnL E size enc B w v l) (henc:∀x,(enc x).length=size) (hs:0<size):Rd size (RE enc) w v l:=by
 have h':=h;rcases h.2 with⟨rfl,hn⟩|⟨g,cap,cur,rfl,hg,hh,hc,hm,hsz,hx⟩
 · exact⟨none,0,by rw[hn],by omega,by simp[maxLen],fun h=>absurd h (by omega)⟩
 · refine ⟨_, cap, rfl, hc, hm, fun hn => ⟨g, 0, rfl, ?_, fun i x hx' => ⟨enc x, henc x, rfl, fun j u hu => ?_⟩⟩⟩
   · exact(World.ownsRow.lt h' g rfl).2
   · have:=World.ownsRow.cells h' (g:=g) rfl _ _ (flat_at henc hs l i x hx' j u hu)
     have e:(Addr.mk g 0 none).add (i*size+j)=⟨g,0+i*size+j,none⟩:=by
      unfold Addr.add;split
      · simp_all
      · simp
     rw[e]at this;exact this
end
theorem flat_set {α:Type} {enc:α→List Value} {size:Nat} (henc:∀x,(enc x).length=size):∀(l:List α) (k:Nat) (y:α),k<l.length→(l.set k y).flatMap enc=(l.flatMap enc).take (k*size)++enc y++(l.flatMap enc).drop (k*size+size):=by
 intro l;induction l with
 |nil=>intro k y h;simp at h
 |cons x l ih=>
  intro k y h;cases k with
  |zero=>simp[henc]
  |succ k=>
   rw [List.set_cons_succ, List.flatMap_cons, ih k y (by simpa using h), List.flatMap_cons, List.take_append, List.drop_append, henc,
     List.take_of_length_le (l:=enc x) (i:=(k+1)*size) (by rw[henc,Nat.add_mul];omega),List.drop_of_length_le (l:=enc x) (i:=(k+1)*size+size) (by rw[henc,Nat.add_mul];omega)]
   rw[show(k+1)*size-size=k*size by rw[Nat.add_mul];omega,show(k+1)*size+size-size=k*size+size by rw[Nat.add_mul];omega];simp[List.append_assoc]
section
variable {α : Type} {E : TypeId} {size : Nat} {enc : α → List Value} {B : Nat} {w : World} {l : List α} {g n c k : Nat}
theorem OwnL.slot (h:OwnL E size enc B w (.slice (some ⟨g,0,none⟩) n c) l) (henc:∀x,(enc x).length=size) (hs:0<size) (hk:k<l.length):∀j u,(enc l[k])[j]? =some u→w.cell? ⟨g,k*size+j,none⟩=some u:=by
 intro j u hu;have:=World.ownsRow.cells h (g:=g) rfl _ _ (flat_at henc hs l k _ (List.getElem?_eq_getElem hk) j u hu)
 have e:(Addr.mk g 0 none).add (k*size+j)=⟨g,k*size+j,none⟩:=by
  unfold Addr.add;split
  · simp_all
  · simp
 rw[e]at this;exact this
theorem OwnL.free (h:OwnL E size enc B w (.slice (some ⟨g,0,none⟩) n c) l) (j:Nat):w.frozen? ⟨g,j,none⟩=false:=by
 have hn:l.length=n:=by
  rcases h.2 with⟨e,_⟩|⟨g',cap,cur,e,_⟩<;>injection e with e1 e2 e3
  · cases e1
  · exact e2.symm
 unfold OwnL at h;rw[hn]at h;exact World.ownsRow.frozenAt h j
theorem OwnL.at_ (h:OwnL E size enc B w (.slice (some ⟨g,0,none⟩) n c) l):l.length=n∧B≤g∧g<w.heap.size:=by
 refine⟨?_,World.ownsRow.lt h g rfl⟩;rcases h.2 with⟨e,_⟩|⟨g',cap,cur,e,_⟩<;>injection e with e1 e2 e3
 · cases e1
 · exact e2.symm
theorem OwnL.pos {v:Value} (h:OwnL E size enc B w v l) (hn:0<l.length):∃g c,v= .slice (some ⟨g,0,none⟩) l.length c∧B≤g∧g<w.heap.size:=by
 obtain⟨g,c,rfl⟩:=Go.Joins.ownsRow_form h hn;exact⟨g,c,rfl,World.ownsRow.lt h g rfl⟩
theorem OwnL.split {A:Option Addr} (h:OwnL E size enc B w (.slice A n c) l) (hk:k<l.length):∃g,A=some ⟨g,0,none⟩∧B≤g∧g<w.heap.size:=by
 obtain⟨g,c',e,h1,h2⟩:=h.pos (by omega);injection e with e1 e2 e3;exact⟨g,e1,h1,h2⟩
theorem OwnL.slot1 (h:OwnL E 1 enc B w (.slice (some ⟨g,0,none⟩) n c) l) (henc:∀x,(enc x).length=1) (hk:k<l.length):∃u,w.cell? ⟨g,k,none⟩=some u:=by
 have hl:=henc l[k];exact⟨_,by simpa using h.slot henc (by decide) hk 0 _ (List.getElem?_eq_getElem (by omega))⟩
theorem OwnL.slot2 (h:OwnL E 2 enc B w (.slice (some ⟨g,0,none⟩) n c) l) (henc:∀x,(enc x).length=2) (hk:k<l.length):∃u v,w.cell? ⟨g,k*2,none⟩=some u∧w.cell? ⟨g,k*2+1,none⟩=some v:=by
 have hl:=henc l[k];exact⟨_,_,by simpa using h.slot henc (by decide) hk 0 _ (List.getElem?_eq_getElem (by omega)),h.slot henc (by decide) hk 1 _ (List.getElem?_eq_getElem (by omega))⟩
theorem OwnL.slot3 (h:OwnL E 3 enc B w (.slice (some ⟨g,0,none⟩) n c) l) (henc:∀x,(enc x).length=3) (hk:k<l.length):∃u v z,w.cell? ⟨g,k*3,none⟩=some u∧w.cell? ⟨g,k*3+1,none⟩=some v∧w.cell? ⟨g,k*3+2,none⟩=some z:=by
 have hl:=henc l[k];exact⟨_,_,_,by simpa using h.slot henc (by decide) hk 0 _ (List.getElem?_eq_getElem (by omega)),h.slot henc (by decide) hk 1 _ (List.getElem?_eq_getElem (by omega)),h.slot henc (by decide) hk 2 _ (List.getElem?_eq_getElem (by omega))⟩
theorem set_take_drop (xs:List Value) (i:Nat) (u:Value) (h:i<xs.length):xs.set i u=xs.take i++[u]++xs.drop (i+1):=by
 rw[List.set_eq_take_append_cons_drop,if_pos h];simp
theorem OwnL.store1 (h:OwnL E 1 enc B w (.slice (some ⟨g,0,none⟩) n c) l) (henc:∀x,(enc x).length=1) (hk:k<l.length) {y:α} {u:Value} (hy:enc y=[u]):OwnL E 1 enc B (w.setCell ⟨g,k,none⟩ u) (.slice (some ⟨g,0,none⟩) n c) (l.set k y):=by
 have hn:=h.at_.1;have hf:=flat_len henc l;subst hn;unfold OwnL at h⊢;rw[List.length_set];have:=(World.ownsRow.stored h k u).1;rw[flat_set henc l k y (by omega),hy];rw[set_take_drop _ _ _ (by omega)]at this;simpa using this
theorem OwnL.store1' {z:α} (h:OwnL E 1 enc B w (.slice (some ⟨g,0,none⟩) n c) (l.set k z)) (henc:∀x,(enc x).length=1) (hk:k<l.length) {y:α} {u:Value} (hy:enc y=[u]):OwnL E 1 enc B (w.setCell ⟨g,k,none⟩ u) (.slice (some ⟨g,0,none⟩) n c) (l.set k y):=by
 have:=h.store1 henc (k:=k) (y:=y) (by rw[List.length_set];exact hk) hy;rwa [List.set_set]at this
theorem OwnL.store2 (h:OwnL E 2 enc B w (.slice (some ⟨g,0,none⟩) n c) l) (henc:∀x,(enc x).length=2) (hk:k<l.length) {y:α} {u v:Value} (hy:enc y=[u,v]):
 OwnL E 2 enc B ((w.setCell ⟨g,k*2,none⟩ u).setCell ⟨g,k*2+1,none⟩ v) (.slice (some ⟨g,0,none⟩) n c) (l.set k y):=by
 have hn:=h.at_.1;have hf:=flat_len henc l;subst hn;unfold OwnL at h⊢;rw[List.length_set];have:=(World.ownsRow.stored (World.ownsRow.stored h (k*2) u).1 (k*2+1) v).1;rw[flat_set henc l k y (by omega),hy]
 have hgen:∀(xs:List Value) (m:Nat),m+2≤xs.length→(xs.set m u).set (m+1) v=xs.take m++[u,v]++xs.drop (m+2):=by
  intro xs m hm;refine List.ext_getElem? fun i=> ?_
  have e1:(List.take m xs).length=m:=by rw[List.length_take];omega
  rw[List.append_assoc];by_cases h1:i<m
  · rw[List.getElem?_append_left (by omega),List.getElem?_set_ne (by omega),List.getElem?_set_ne (by omega),List.getElem?_take_of_lt h1]
  · rw [List.getElem?_append_right (by omega), e1];by_cases h2:i=m
    · subst h2;rw[List.getElem?_set_ne (by omega),List.getElem?_set_self (by omega)];simp
    · by_cases h3:i=m+1
      · subst h3;rw[List.getElem?_set_self (by rw[List.length_set];omega)];simp[show m+1-m=1 by omega]
      · rw [List.getElem?_set_ne (by omega), List.getElem?_set_ne (by omega)];rw[List.getElem?_append_right (by simp;omega),List.getElem?_drop];congr 1;simp;omega
 rw[hgen _ _ (by omega)]at this;exact this
theorem OwnL.store3 (h:OwnL E 3 enc B w (.slice (some ⟨g,0,none⟩) n c) l) (henc:∀x,(enc x).length=3) (hk:k<l.length) {y:α} {u v z:Value} (hy:enc y=[u,v,z]):
 OwnL E 3 enc B (((w.setCell ⟨g,k*3,none⟩ u).setCell ⟨g,k*3+1,none⟩ v).setCell ⟨g,k*3+2,none⟩ z) (.slice (some ⟨g,0,none⟩) n c) (l.set k y):=by
 have hn:=h.at_.1;have hf:=flat_len henc l;subst hn;unfold OwnL at h⊢;rw[List.length_set];have:=(World.ownsRow.stored (World.ownsRow.stored (World.ownsRow.stored h (k*3) u).1 (k*3+1) v).1 (k*3+2) z).1;rw[flat_set henc l k y (by omega),hy]
 have hgen:∀(xs:List Value) (m:Nat),m+3≤xs.length→((xs.set m u).set (m+1) v).set (m+2) z=xs.take m++[u,v,z]++xs.drop (m+3):=by
  intro xs m hm;refine List.ext_getElem? fun i=> ?_
  have e1:(List.take m xs).length=m:=by rw[List.length_take];omega
  rw[List.append_assoc];by_cases h1:i<m
  · rw[List.getElem?_append_left (by omega),List.getElem?_set_ne (by omega),List.getElem?_set_ne (by omega),List.getElem?_set_ne (by omega),List.getElem?_take_of_lt h1]
  · rw [List.getElem?_append_right (by omega), e1];by_cases h2:i=m
    · subst h2;rw[List.getElem?_set_ne (by omega),List.getElem?_set_ne (by omega),List.getElem?_set_self (by omega)];simp
    · by_cases h3:i=m+1
      · subst h3;rw[List.getElem?_set_ne (by omega),List.getElem?_set_self (by rw[List.length_set];omega)];simp[show m+1-m=1 by omega]
      · by_cases h4:i=m+2
        · subst h4;rw[List.getElem?_set_self (by rw[List.length_set,List.length_set];omega)];simp[show m+2-m=2 by omega]
        · rw [List.getElem?_set_ne (by omega), List.getElem?_set_ne (by omega), List.getElem?_set_ne (by omega)];rw[List.getElem?_append_right (by simp;omega),List.getElem?_drop];congr 1;simp;omega
 rw[hgen _ _ (by omega)]at this;exact this
end
theorem one_of {α:Type} {enc:α→List Value} (h1:∀x,∀u∈enc x,u.oneCell'=true) (l:List α):∀u∈l.flatMap enc,u.oneCell'=true:=by
 intro u hu;obtain⟨x,_,hx⟩:=List.mem_flatMap.1 hu;exact h1 x u hx
def Row (P:Program) (t E:TypeId) (z:Value) (size bytes:Nat):Prop:=P.underlying t=some (.slice E)∧(P.info? E).map (fun i=>(i.zero,i.size,i.bytes))=some (some z,size,bytes)∧z.cells.size=size∧0<size
theorem wpList_app1 {P:Program} {ops:Array Oper} {rest:List Oper} {o:Oper} {a:Act} {Q:Exit→Act→World→Prop} {α:Type} {t E:TypeId} {z:Value} {size bytes:Nat} (R:Row P t E z size bytes)
    {enc:α→List Value} (henc:∀x,(enc x).length=size) (h1:∀x,∀u∈enc x,u.oneCell'=true)
    {W0 w:World} (hbel:Below W0.heap.size W0 w) {v:Value} {l:List α} (hown:OwnL E size enc W0.heap.size w v l) (y:α)
    (hlen:(l.length+1)*bytes≤140737488355328) (hlen2:l.length+1≤maxLen)
    (hgd:o.guard=none) (s x:Operand) (ho:o.op= .call {callee:= .builtin .append,args:= #[s,x],argTypes:= #[t,t]})
    (hs:a.eval s=v) (hx:a.eval x= .slice (some ⟨w.heap.size,0,none⟩) 1 1)
    (h:∀v' w',OwnL E size enc W0.heap.size w' v' (l++[y])→Below W0.heap.size W0 w'→(w.alloc (.cells (enc y).toArray E)).grownBy w' v.ownBlock→(v'.ownBlock=v.ownBlock∨v'.ownBlock=some (w.heap.size+1))→wpList P ops Q rest (a.put o.dst v') w'):
    wpList P ops Q (o::rest) a (w.alloc (.cells (enc y).toArray E)):=by
 obtain⟨ht,hinfo,hzs,hsz⟩:=R;obtain⟨i0,hi,hz0,hz1,hz2⟩:=info_parts hinfo;have hne:(enc y).length=size:=henc y
 obtain⟨v',w',hrun,h2,h3,_,h5⟩:=run_append_own_at (P:=P) (w.alloc (.cells (enc y).toArray E)) W0.heap.size t o.type E i0 z size bytes ht hi hz0 hz1 hz2 hzs hsz v l.length (l.flatMap enc) (World.ownsRow.alloc hown _)
   ⟨w.heap.size, 0, none⟩ 1 1 (enc y) (by rw [henc]; omega) (fun j u hj => by
    have hb:=World.ownsRow.cells (w:=w.alloc (.cells (enc y).toArray E)) (base:=0) (e:=E) (size:=size) (v:= .slice (some ⟨w.heap.size,0,none⟩) 1 1) (n:=1) (xs:=enc y)
      ⟨by rw[henc];omega,.inr ⟨w.heap.size,1,(enc y).toArray,rfl,by omega,heap_alloc_new w _,by omega,by simp[maxLen],by simp[henc],by simp[henc,List.take_of_length_le]⟩⟩ (g:=w.heap.size) rfl
    exact hb j u hj) (h1 y) hlen2 hlen (by have:=hbel.size;simp;omega)
 refine wpList_plain hgd fun _ hK=> ?_
 unfold Oper.wp execOp;simp only[ho,resolve,invoke,builtin,Sem.run_bind,Sem.run_pure,Result.andThen_ok,List.map_toArray,List.map_cons,List.map_nil,hs,hx,hrun];refine hK _ _ (h v' w' ?_ ?_ h3 (by simpa using h5))
 · unfold OwnL;rw[List.length_append,List.flatMap_append,List.length_singleton];simpa using h2
 · refine (hbel.al _).grown h3 (by have := (hbel.al (.cells (enc y).toArray E)).size; exact this) (fun k hk => ?_);exact(World.ownsRow.lt hown k hk).1
theorem flat_rep {α:Type} {enc:α→List Value} {z0:α} {size:Nat} (henc:∀x,x=z0→(enc x).length=size):∀(n i j:Nat) (u:Value),i<n→(enc z0)[j]? =some u→((List.replicate n z0).flatMap enc)[i*size+j]? =some u:=by
 intro n;induction n with
 |zero=>intro i j u h;omega
 |succ n ih=>
  intro i j u h hu;rw[List.replicate_succ,List.flatMap_cons];cases i with
  |zero=>rw[List.getElem?_append_left (by rw[Nat.zero_mul,Nat.zero_add];exact(List.getElem?_eq_some_iff.1 hu).1),Nat.zero_mul,Nat.zero_add];exact hu
  |succ i=>
   rw[List.getElem?_append_right (by rw[henc _ rfl,Nat.add_mul];omega),henc _ rfl];have:=ih i j u (by omega) hu;rw[←this];congr 1;rw[Nat.add_mul];omega
theorem wpList_mk {P:Program} {ops:Array Oper} {rest:List Oper} {o:Oper} {a:Act} {Q:Exit→Act→World→Prop} {α:Type} {t E:TypeId} {z:Value} {size bytes:Nat} (R:Row P t E z size bytes)
    {enc:α→List Value} {z0:α} (hz:z.cells.toList=enc z0)
    {W0 w:World} (hbel:Below W0.heap.size W0 w) (n:Nat) (hn:bytes*n≤281474976710656) (hn2:n≤maxLen)
    (hgd:o.guard=none) (s x:Operand) (hop:o.op=Op.makeSlice t s x) {kl kc:IntKind}
    (hs:a.eval s= .int kl n) (hx:a.eval x= .int kc n)
    (h:∀w',OwnL E size enc W0.heap.size w' (.slice (some ⟨w.heap.size,0,none⟩) n n) (List.replicate n z0)→Below W0.heap.size W0 w'→w.grownBy w' none→wpList P ops Q rest (a.put o.dst (.slice (some ⟨w.heap.size,0,none⟩) n n)) w'):
    wpList P ops Q (o::rest) a w:=by
 obtain⟨ht,hinfo,hzs,hsz⟩:=R;obtain⟨i0,hi,hz0,hz1,hz2⟩:=info_parts hinfo;refine wpList_make_full w hgd s x t hop W0.heap.size E i0 z size ht hi hz0 hz1 kl kc n n n hs hx rfl rfl (by rw[hz2];exact hn) hn2 hbel.size fun w' hown hg=> ?_
 refine h w' ?_ (hbel.grown hg hbel.size (fun k hk=>by cases hk)) hg;unfold OwnL
 have e:(List.replicate n z0).flatMap enc=(madeCells z.cells (n*size)).toList:=by
  have henc:∀x:α,x=z0→(enc x).length=size:=fun x hx=>by rw[hx,←hz];simpa using hzs
  have hlen:((List.replicate n z0).flatMap enc).length=n*size:=by
   rw[List.flatMap_replicate];simp[henc z0 rfl]
  refine List.ext_getElem? fun i=> ?_
  by_cases hi:i<n*size
  · have h1 : (List.replicate n z0)[i / size]? = some z0 := by rw [List.getElem?_replicate, if_pos (Nat.div_lt_of_lt_mul (by rw [Nat.mul_comm]; exact hi))]
    have hm:i%size<z.cells.size:=by
     rw[hzs];exact Nat.mod_lt _ hsz
    have h2:(enc z0)[i%size]? =some z.cells[i%size]:=by rw[←hz];simp[hm]
    have h3:((List.replicate n z0).map enc).flatten[i/size*size+i%size]? =some z.cells[i%size]:=by
     have:=flat_rep henc n (i/size) (i%size) z.cells[i%size] (Nat.div_lt_of_lt_mul (by rw[Nat.mul_comm];exact hi)) h2;simpa[List.flatMap]using this
    have h4:i/size*size+i%size=i:=by rw[Nat.mul_comm];exact Nat.div_add_mod i size
    rw[h4]at h3;rw[show(List.replicate n z0).flatMap enc=((List.replicate n z0).map enc).flatten from rfl,h3];simp only[madeCells,Array.toList_map,Array.toList_range,List.getElem?_map,List.getElem?_range hi,Option.map_some];congr 1
    have:i%z.cells.size<z.cells.size:=by rw[hzs];exact Nat.mod_lt _ hsz
    rw[getElem!_pos z.cells _ this];simp only[hzs]
  · rw[List.getElem?_eq_none (by omega),List.getElem?_eq_none (by simp[size_madeCells];omega)]
 rw[e];simpa using hown
theorem wpList_mk' {P:Program} {ops:Array Oper} {rest:List Oper} {o:Oper} {a:Act} {Q:Exit→Act→World→Prop} {α:Type} {t E:TypeId} {z:Value} {size bytes:Nat} (R:Row P t E z size bytes)
    {enc:α→List Value} {z0:α} (hz:z.cells.toList=enc z0)
    {W0 w:World} (hbel:Below W0.heap.size W0 w) (n:Nat) (hn:bytes*n≤281474976710656) (hn2:n≤maxLen) (L:Int) (hL:L=n)
    (hgd:o.guard=none) (s x:Operand) (hop:o.op=Op.makeSlice t s x) {kl kc:IntKind}
    (hs:a.eval s= .int kl L) (hx:a.eval x= .int kc L)
    (h:∀w',OwnL E size enc W0.heap.size w' (.slice (some ⟨w.heap.size,0,none⟩) n n) (List.replicate n z0)→Below W0.heap.size W0 w'→w.grownBy w' none→wpList P ops Q rest (a.put o.dst (.slice (some ⟨w.heap.size,0,none⟩) n n)) w'):
    wpList P ops Q (o::rest) a w:=by
 subst hL;exact wpList_mk R hz hbel n hn hn2 hgd s x hop hs hx h
def szOf (left:Int) (n:Nat):Int:=if left<n then-1 else left-n
theorem gr_set {w w':World} {g:Nat} (h:w.grownBy w' (some g)) (i:Nat) (u:Value):w.grownBy (w'.setCell ⟨g,i,none⟩ u) (some g):=
 ⟨h.os,h.tape,h.output,by simpa using h.size,fun k hk hne=>(Below.heap_setCell _ _ _ _ (by simp;intro e;exact hne (by rw[e]))).trans (h.block k hk hne)⟩
def Marked (r:Value) (v:Value) (F:World→Prop) (w:World) (e:Ending) (w':World):Prop:=e= .returned r∧F w'∧w.grownBy w' v.ownBlock
theorem take_set {α:Type} {m:List α} {j:Nat} (y:α) (h:j<m.length):(m.set j y).take (j+1)=m.take j++[y]:=by
 refine List.ext_getElem? fun i=> ?_
 by_cases h1:i<j+1
 · rw[List.getElem?_take_of_lt h1];by_cases h2:i=j
   · subst h2;rw[List.getElem?_set_self h,List.getElem?_append_right (by simp;omega)];simp[List.length_take,Nat.min_eq_left (Nat.le_of_lt h)]
   · rw[List.getElem?_set_ne (by omega),List.getElem?_append_left (by simp;omega),List.getElem?_take_of_lt (by omega)]
 · rw[List.getElem?_eq_none (by simp;omega),List.getElem?_eq_none (by simp;omega)]
theorem szOf_ok {left:Int} {n:Nat} (h:(n:Int)≤left):szOf left n=left-n:=by unfold szOf;rw[if_neg (by omega)]
theorem szOf_no {left:Int} {n:Nat} (h:¬(n:Int)≤left):szOf left n= -1:=by unfold szOf;rw[if_pos (by omega)]
section
variable {α : Type} [DecidableEq α] {l m : List α} {k : Nat} {r : Bool}
omit [DecidableEq α] in
theorem eqd_step (h:k<l.length) (h':k<m.length):(l.drop k=m.drop k)↔(l[k]=m[k]∧l.drop (k+1)=m.drop (k+1)):=by
 rw[List.drop_eq_getElem_cons h,List.drop_eq_getElem_cons h'];exact⟨fun e=>by injection e with a b;exact⟨a,b⟩,fun⟨a,b⟩=>by rw[a,b]⟩
theorem eqd_go (H:Hid (decide (l.drop k=m.drop k)=r)) (h:k<l.length) (h':k<m.length) (e:l[k]=m[k]):Hid (decide (l.drop (k+1)=m.drop (k+1))=r):=by
 have:=H.out;rw[←this];exact Lib.hid (by rw[decide_eq_decide,eqd_step h h'];exact⟨fun x=>⟨e,x⟩,fun x=>x.2⟩)
theorem eqd_no (H:Hid (decide (l.drop k=m.drop k)=r)) (h:k<l.length) (h':k<m.length) (e:¬l[k]=m[k]):r=false:=by
 have:=H.out;rw[←this,decide_eq_false_iff_not,eqd_step h h'];exact fun x=>e x.1
theorem eqd_end (H:Hid (decide (l.drop k=m.drop k)=r)) (h:l.length≤k) (h':m.length≤k):r=true:=by
 have:=H.out;rw[List.drop_of_length_le h,List.drop_of_length_le h']at this;rw[←this];simp
end
end Go.Proofs.YtfdbcihcdjjdhaaGreatDoor
namespace Go.Proofs.YtfdbcihcdjjdhaaGreatDoor
open Go.ChangeShapes Go.WideShapes Go.ChangeAt Go.RowKit
set_option linter.unusedVariables false
set_option maxHeartbeats 4000000
set_option maxRecDepth 100000
def actOk (k a b:Int):Bool:=
 if k==1 then inB a 0 7&&inB b 0 7
 else if k==2 then inB a 0 31&&b==0
 else if k==3 then inB a 1 100&&b==0
 else(k==4||k==5)&&a==0&&b==0
theorem actOkI_any (k a b:Int) (w:World):
 Calls Tryz.prog 102 #[.agg #[.int .i64 k,.int .i64 a,.int .i64 b]] w (Ret (.bool (actOk k a b)) w):=by
 go_enter Tryz.func102,Tryz.ntmps102
 go_wp2_with (go_at_call 88;(with_reducible refine(within_any _ _ _ _).mono ?_);rintro e w' ⟨rfl,rfl⟩)
 all_goals go_ret
 all_goals exact⟨by simp_all [actOk],(Below.refl _ _).al _⟩
theorem cellOkS_any (a b:Int) (w:World):
 Calls Tryz.prog 182 #[.agg #[.int .i64 a,.int .i64 b]] w (Ret (.bool (inB a 0 7&&inB b 0 7)) w):=by
 go_enter Tryz.func182,Tryz.ntmps182
 go_wp2_with (go_at_call 83;(with_reducible refine(in_any _ _ _ _).mono ?_);rintro e w' ⟨rfl,rfl⟩)
 all_goals go_ret
 all_goals exact⟨by simp_all,(Below.refl _ _).al _⟩
theorem actOkS_any (k a b:Int) (w:World):
 Calls Tryz.prog 95 #[.agg #[.int .i64 k,.int .i64 a,.int .i64 b]] w (Ret (.bool (actOk k a b)) w):=by
 go_enter Tryz.func95,Tryz.ntmps95
 go_wp2_with (first|(go_at_call 83;(with_reducible refine(in_any _ _ _ _).mono ?_);rintro e w' ⟨rfl,rfl⟩)|(go_at_call 182;(with_reducible refine(cellOkS_any _ _ _).mono ?_);rintro e w1 ⟨rfl,hb1⟩;obtain⟨hc1,hf1,hz1⟩:=bk hb1;try simp at hz1))
 all_goals go_ret
 all_goals exact⟨by simp_all [actOk],by first|exact(Below.refl _ _).al _|exact((Below.refl _ _).al _).tr hb1⟩
end Go.Proofs.YtfdbcihcdjjdhaaGreatDoor
namespace Go.Proofs.YtfdbcihcdjjdhaaGreatDoor
open Go.RowKit
set_option linter.unusedVariables false
set_option maxHeartbeats 4000000
set_option maxRecDepth 100000
theorem lenBox:∀x:Int×Int,(ePair x).length=2:=fun _=>rfl
theorem rowBox:Row Tryz.prog 80 144 (.agg #[.int .i64 0,.int .i64 0]) 2 16:=⟨Tryz.underlying80,by kernel_rfl,rfl,by decide⟩
theorem lenInt:∀x:Int,(eInt x).length=1:=fun _=>rfl
theorem oneInt:∀x:Int,∀u∈eInt x,u.oneCell'=true:=by
 intro x u hu;simp[eInt]at hu;rcases hu with rfl<;>rfl
theorem rowInt:Row Tryz.prog 22 3 (.int .i64 0) 1 8:=⟨Tryz.underlying22,by kernel_rfl,rfl,by decide⟩
theorem toInts_any (v:Value) (l:List (Int)) (w:World) (h:Rd 1 (RE eInt) w v l) (hl:Small l.length):Calls Tryz.prog 37 #[v] w (RetOwn 3 1 eInt l w):=by
 obtain⟨A,c,rfl,hc,hm⟩:=h.form;go_enter Tryz.func37,Tryz.ntmps37
 go_wp2_with (at_make;go_must (refine wpList_mk (enc:=eInt) (z0:=(0:Int)) rowInt rfl (Below.refl _ w) l.length hl.by8 hl.max rfl _ _ rfl rfl rfl ?_);intro w1 hown1 hb1 hg1)
 go_loopw [4] (fun i wr=>∃(k:Nat) (m:List (Int)),k≤l.length∧i= .int .i64 k∧UpTo k m l∧OwnL 3 1 eInt w.heap.size wr (.slice (some ⟨w.heap.size,0,none⟩) l.length l.length) m∧Below w.heap.size w wr) (fun i _=>l.length-(intOf i).toNat)
 case atStart=>exact⟨0,List.replicate l.length (0:Int),Nat.zero_le _,rfl,UpTo.start _ _ (by simp),hown1,hb1⟩
 case round=>
  obtain⟨k,m,hk,rfl,hu,hown,hbel⟩:=hrel;clear hown1 hb1 hg1;by_cases hlt:k<l.length
  · obtain⟨b,off,rfl,hb,h1⟩:=(h.below RE.stays hbel).atInt hlt;obtain⟨u0,s0⟩:=hown.slot1 lenInt (k:=k) (by rw[hu.1];omega);have hsf:=hown.free;go_wp2;go_roundw
    case rel=>exact⟨k+1,_,by omega,by go_num,hu.step hlt,hown.store1 lenInt (by rw[hu.1];omega) rfl,(hbel).st _ _ (Nat.le_refl _)⟩
    case measure=>simp[intOf];omega
  · go_wp2;go_ret;obtain rfl:=hu.done (by omega);exact⟨_,_,rfl,hown,hbel⟩
theorem eqInts_any (u v:Value) (l m:List (Int)) (w:World) (h:Rd 1 (RE eInt) w u l) (h':Rd 1 (RE eInt) w v m):Calls Tryz.prog 31 #[u,v] w (Ret (.bool (l==m)) w):=by
 obtain⟨A,c,rfl,hc,hm⟩:=h.form;obtain⟨A',c',rfl,hc',hm'⟩:=h'.form;by_cases hlen:l.length=m.length
 · have hne : ((l.length : Int) != (m.length : Int)) = false := by simp [hlen]
   have Hlen:=Lib.hid hlen;clear hlen;go_enter Tryz.func31,Tryz.ntmps31
   go_wp2;go_loopw [5] (fun i wr=>∃k:Nat,k≤l.length∧i= .int .i64 k∧Hid ((l.drop k==m.drop k)=(l==m))∧Below w.heap.size w wr) (fun i _=>l.length-(intOf i).toNat)
   case atStart=>exact⟨0,Nat.zero_le _,rfl,Lib.hid rfl,Below.refl _ _⟩
   case round=>
    obtain⟨k,hk,rfl,Hg,hbel⟩:=hrel;by_cases hlt:k<l.length
    · have hlm : k < m.length := by have := Hlen.out; omega
      obtain⟨b,off,rfl,hb,h1⟩:=(h.below RE.stays hbel).atInt hlt;obtain⟨b',off',rfl,hb',q1⟩:=(h'.below RE.stays hbel).atInt hlm;have hlt':(k:Int)<(m.length:Int):=(by omega);go_wp2_with fail
      go_quiet (fail)
      go_wp2
      all_goals first
        | (go_roundw
           case rel=>exact⟨k+1,by omega,by go_num,eq_go Hg hlt hlm (by rename_i hx;simpa using hx),below_drewN hbel _⟩
           case measure=>simp[intOf];omega)
        | (go_ret
           exact⟨retB (eq_no Hg hlt hlm (by rename_i hx;simpa using hx)).symm,below_drewN hbel _⟩)
    · go_wp2;go_ret;exact⟨retB (eq_end Hg (by omega) (by have:=Hlen.out;omega)).symm,hbel⟩
 · have hne : ((l.length : Int) != (m.length : Int)) = true := by simp; omega
   go_enter Tryz.func31,Tryz.ntmps31
   go_wp2;go_ret;exact⟨retB (by rw[eq_comm,beq_eq_false_iff_ne];exact fun e=>hlen (by rw[e])),Below.refl _ _⟩
theorem szInts_any (v:Value) (l:List (Int)) (left:Int) (w:World) (h:Rd 1 (RE eInt) w v l) (h0:0≤left) (h1:left≤1048576):Calls Tryz.prog 226 #[v,.int .i64 left] w (Pure (.int .i64 (szOf left l.length)) w):=by
 obtain⟨A,c,rfl,hc,hm⟩:=h.form;go_enter Tryz.func226,Tryz.ntmps226
 go_wp2
 all_goals go_ret
 all_goals exact⟨by simp_all [szOf];try omega,rfl⟩
def mkInt (k:Int) (j:Nat):Int:=(k+j)
def marksInt (k:Int) (n:Nat):List (Int):=(List.range n).map (mkInt k)
theorem marksInt_set {m l:List (Int)} {j:Nat} {k:Int} (h:m.length=l.length) (e:m.take j=marksInt k j) (hj:j<l.length):(m.set j (mkInt k j)).length=l.length∧(m.set j (mkInt k j)).take (j+1)=marksInt k (j+1):=by
 refine⟨by simpa using h,?_⟩;rw[take_set _ (by omega),e];simp[marksInt,List.range_succ]
theorem markInts_any (v:Value) (l:List (Int)) (k:Int) (B:Nat) (w:World) (h:OwnL 3 1 eInt B w v l) (h0:0≤k) (h1:k≤67108864) (hl:l.length≤1048576):
 Calls Tryz.prog 34 #[v,.int .i64 k] w (Marked (.int .i64 (k+l.length)) v (fun w'=>OwnL 3 1 eInt B w' v (marksInt k l.length)) w):=by
 obtain⟨A,c,rfl,hc,hm⟩:=h.form;go_enter Tryz.func34,Tryz.ntmps34
 go_wp2;go_loopw [1,5] (fun q i wr=>∃(j:Nat) (m:List (Int)),j≤l.length∧i= .int .i64 j∧q= .int .i64 (k+j)∧Hid (m.length=l.length∧m.take j=marksInt k j)∧OwnL 3 1 eInt B wr (.slice A l.length c) m∧w.grownBy wr (Value.slice A l.length c).ownBlock) (fun _ i _=>l.length-(intOf i).toNat)
 case atStart=>exact⟨0,l,Nat.zero_le _,rfl,by simp,Lib.hid ⟨rfl,rfl⟩,h,World.grownBy.refl _ _⟩
 case round=>
  obtain⟨j,m,hj,rfl,rfl,Hg,hown,hgr⟩:=hrel;by_cases hlt:j<l.length
  · obtain ⟨g, rfl, hB, hgl⟩ := hown.split (k := j) (by rw [Hg.out.1]; omega);obtain⟨u0,s0⟩:=hown.slot1 lenInt (k:=j) (by rw[Hg.out.1];omega);have hsf:=hown.free;go_wp2;go_roundw
    case rel=>exact⟨j+1,m.set j (mkInt k j),by omega,by go_num,by go_num,Lib.hid (marksInt_set Hg.out.1 Hg.out.2 hlt),hown.store1 lenInt (by rw[Hg.out.1];omega) rfl,gr_set hgr _ _⟩
    case measure=>simp[intOf];omega
  · go_wp2;go_ret;obtain rfl:j=l.length:=by omega
    exact⟨rfl,by have e:=Hg.out.2;rw[List.take_of_length_le (by rw[Hg.out.1];omega)]at e;rw[←e];exact hown,hgr⟩
theorem heldInts_any (v:Value) (k:Int) (n:Nat) (w:World) (h:Rd 1 (RE eInt) w v (marksInt k n)) (h0:0≤k) (h1:k≤67108864) (hl:n≤1048576):
 Calls Tryz.prog 35 #[v,.int .i64 k] w (Pure (.int .i64 (k+n)) w):=by
 have hlen:(marksInt k n).length=n:=(by simp[marksInt]);obtain⟨A,c,rfl,hc,hm⟩:=h.form;rw[hlen]at h hc hm⊢;go_enter Tryz.func35,Tryz.ntmps35
 go_wp2;go_loop [1,5] (fun q i=>∃j:Nat,j≤n∧i= .int .i64 j∧q= .int .i64 (k+j)) (fun _ i=>n-(intOf i).toNat)
 case atStart=>exact⟨0,Nat.zero_le _,rfl,by simp⟩
 case round=>
  obtain⟨j,hj,rfl,rfl⟩:=hrel;by_cases hlt:j<n
  · obtain ⟨b, off, rfl, hb, k1⟩ := h.atInt (k := j) (by omega);simp only[marksInt,mkInt,List.getElem_map,List.getElem_range]at k1;clear hlen;go_wp2;go_round
    case rel=>exact⟨j+1,by omega,by go_num,by go_num⟩
    case measure=>simp[intOf];omega
  · go_wp2;go_ret;obtain rfl:j=n:=by omega
    exact⟨rfl,rfl⟩
end Go.Proofs.YtfdbcihcdjjdhaaGreatDoor
namespace Go.Proofs.YtfdbcihcdjjdhaaGreatDoor
open Go.ChangeShapes Go.WideShapes Go.ChangeAt Go.RowKit
set_option linter.unusedVariables false
set_option maxHeartbeats 4000000
set_option maxRecDepth 100000
theorem own_lit2 (w:World) {E:TypeId} (x y:Int×Int):OwnL E 2 ePair w.heap.size (w.alloc (.cells #[.int .i64 x.1,.int .i64 x.2,.int .i64 y.1,.int .i64 y.2] E)) (.slice (some ⟨w.heap.size,0,none⟩) 2 2) [x,y]:=
 World.ownsRow_lit w _ 2 (Nat.le_refl _) (by simp[maxLen]) rfl
theorem sampleI_any (w:World):Calls Tryz.prog 61 #[] w (RetOwn 144 2 ePair [(6,7),(10,11)] w):=by
 go_enter Tryz.func61,Tryz.ntmps61
 go_wp2;go_ret;exact⟨_,_,rfl,own_lit2 w (6,7) (10,11),(Below.refl _ _).al _⟩
theorem sampleS_any (w:World):Calls Tryz.prog 98 #[] w (RetOwn 144 2 ePair [(6,7),(10,11)] w):=by
 go_enter Tryz.func98,Tryz.ntmps98
 go_wp2;go_ret;exact⟨_,_,rfl,own_lit2 w (6,7) (10,11),(Below.refl _ _).al _⟩
def BoxFine (x:Int×Int):Prop:=1≤x.1∧x.1≤50∧1≤x.2∧x.2≤1000
theorem boxesOk_all:∀(l:List (Int×Int)) (n:Int),boxesOk l n=true→(∀x∈l,BoxFine x)∧1≤n∧n≤5:=by
 intro l;induction l with
 |nil=>intro n h;simp[boxesOk,inB]at h;exact⟨fun x hx=>(by cases hx),h⟩
 |cons x r ih=>
  intro n h;unfold boxesOk at h;by_cases hx:(!inB x.1 1 50|| !inB x.2 1 1000)=true
  · rw[if_pos hx]at h;cases h
  · rw[if_neg hx]at h;obtain⟨h1,h2⟩:=ih n h;refine⟨fun y hy=> ?_,h2⟩;rcases List.mem_cons.1 hy with rfl|hy
    · simp[inB]at hx;unfold BoxFine;omega
    · exact h1 y hy
end Go.Proofs.YtfdbcihcdjjdhaaGreatDoor
namespace Go.Proofs.YtfdbcihcdjjdhaaGreatDoor
open Go.RowKit
set_option linter.unusedVariables false
set_option maxHeartbeats 4000000
set_option maxRecDepth 100000
theorem lenCell:∀x:Int×Int,(ePair x).length=2:=fun _=>rfl
theorem oneCell:∀x:Int×Int,∀u∈ePair x,u.oneCell'=true:=by
 intro x u hu;simp[ePair]at hu;rcases hu with rfl|rfl<;>rfl
theorem rowCell:Row Tryz.prog 34 77 (.agg #[.int .i64 0,.int .i64 0]) 2 16:=⟨Tryz.underlying34,by kernel_rfl,rfl,by decide⟩
theorem toCell_any (x:Int×Int) (w:World):Calls Tryz.prog 232 #[.agg #[.int .i64 x.1,.int .i64 x.2]] w (Ret (.agg #[.int .i64 x.1,.int .i64 x.2]) w):=by
 go_enter Tryz.func232,Tryz.ntmps232
 go_wp2;refine bodyPost_ret (v:= .agg #[.int .i64 x.1,.int .i64 x.2]) (by simp[results,Tryz.results232,go_sem]) rfl ⟨rfl,?_⟩;exact(((Below.refl _ _).al _).al _).al _
theorem eqCell_any (x y:Int×Int) (w:World):Calls Tryz.prog 240 #[.agg #[.int .i64 x.1,.int .i64 x.2],.agg #[.int .i64 y.1,.int .i64 y.2]] w (Ret (.bool (x==y)) w):=by
 obtain⟨x1,x2⟩:=x;obtain⟨y1,y2⟩:=y;go_enter Tryz.func240,Tryz.ntmps240
 go_wp2
 all_goals go_ret
 all_goals exact⟨by simp_all,((Below.refl _ _).al _).al _⟩
theorem toCells_any (v:Value) (l:List (Int×Int)) (w:World) (h:Rd 2 (RE ePair) w v l) (hl:Small l.length):Calls Tryz.prog 165 #[v] w (RetOwn 77 2 ePair l w):=by
 obtain⟨A,c,rfl,hc,hm⟩:=h.form;go_enter Tryz.func165,Tryz.ntmps165
 go_wp2_with (at_make;go_must (refine wpList_mk (enc:=ePair) (z0:=((0,0):Int×Int)) rowCell rfl (Below.refl _ w) l.length hl.by16 hl.max rfl _ _ rfl rfl rfl ?_);intro w1 hown1 hb1 hg1)
 go_loopw [4] (fun i wr=>∃(k:Nat) (m:List (Int×Int)),k≤l.length∧i= .int .i64 k∧UpTo k m l∧OwnL 77 2 ePair w.heap.size wr (.slice (some ⟨w.heap.size,0,none⟩) l.length l.length) m∧Below w.heap.size w wr) (fun i _=>l.length-(intOf i).toNat)
 case atStart=>exact⟨0,List.replicate l.length ((0,0):Int×Int),Nat.zero_le _,rfl,UpTo.start _ _ (by simp),hown1,hb1⟩
 case round=>
  obtain⟨k,m,hk,rfl,hu,hown,hbel⟩:=hrel;clear hown1 hb1 hg1;by_cases hlt:k<l.length
  · obtain⟨b,off,rfl,hb,h1,h2⟩:=(h.below RE.stays hbel).atPair hlt;go_wp2_with (go_at_call 232;refine(toCell_any l[k] _).mono ?_;rintro e w2 ⟨rfl,hb2⟩;obtain⟨u0,u1,s0,s1⟩:=(hown.below hb2).slot2 lenCell (k:=k) (by rw[hu.1];omega);have hsf:=(hown.below hb2).free)
    go_roundw
    case rel=>exact⟨k+1,_,by omega,by go_num,hu.step hlt,(hown.below hb2).store2 lenCell (by rw[hu.1];omega) rfl,((hbel.tr hb2).st _ _ (Nat.le_refl _)).st _ _ (Nat.le_refl _)⟩
    case measure=>simp[intOf];omega
  · go_wp2;go_ret;obtain rfl:=hu.done (by omega);exact⟨_,_,rfl,hown,hbel⟩
theorem eqCells_any (u v:Value) (l m:List (Int×Int)) (w:World) (h:Rd 2 (RE ePair) w u l) (h':Rd 2 (RE ePair) w v m):Calls Tryz.prog 175 #[u,v] w (Ret (.bool (l==m)) w):=by
 obtain⟨A,c,rfl,hc,hm⟩:=h.form;obtain⟨A',c',rfl,hc',hm'⟩:=h'.form;by_cases hlen:l.length=m.length
 · have hne : ((l.length : Int) != (m.length : Int)) = false := by simp [hlen]
   have Hlen:=Lib.hid hlen;clear hlen;go_enter Tryz.func175,Tryz.ntmps175
   go_wp2;go_loopw [5] (fun i wr=>∃k:Nat,k≤l.length∧i= .int .i64 k∧Hid ((l.drop k==m.drop k)=(l==m))∧Below w.heap.size w wr) (fun i _=>l.length-(intOf i).toNat)
   case atStart=>exact⟨0,Nat.zero_le _,rfl,Lib.hid rfl,Below.refl _ _⟩
   case round=>
    obtain⟨k,hk,rfl,Hg,hbel⟩:=hrel;by_cases hlt:k<l.length
    · have hlm : k < m.length := by have := Hlen.out; omega
      obtain⟨b,off,rfl,hb,h1,h2⟩:=(h.below RE.stays hbel).atPair hlt;obtain⟨b',off',rfl,hb',q1,q2⟩:=(h'.below RE.stays hbel).atPair hlm;have hlt':(k:Int)<(m.length:Int):=(by omega);go_wp2_with fail
      go_still_tail 8,(by kernel_rfl)
      go_wp2_with (go_at_call 240;(with_reducible refine(eqCell_any l[k] m[k] _).mono ?_);rintro e w2 ⟨rfl,hb2⟩;obtain⟨hc2,hf2,hz2⟩:=bk hb2;try simp at hz2)
      all_goals first
        | (go_roundw
           case rel=>exact⟨k+1,by omega,by go_num,eq_go Hg hlt hlm (by rename_i hx;simpa using hx),hbel.drew.tr hb2⟩
           case measure=>simp[intOf];omega)
        | (go_ret
           exact⟨retB (eq_no Hg hlt hlm (by rename_i hx;simpa using hx)).symm,hbel.drew.tr hb2⟩)
    · go_wp2;go_ret;exact⟨retB (eq_end Hg (by omega) (by have:=Hlen.out;omega)).symm,hbel⟩
 · have hne : ((l.length : Int) != (m.length : Int)) = true := by simp; omega
   go_enter Tryz.func175,Tryz.ntmps175
   go_wp2;go_ret;exact⟨retB (by rw[eq_comm,beq_eq_false_iff_ne];exact fun e=>hlen (by rw[e])),Below.refl _ _⟩
theorem szCells_any (v:Value) (l:List (Int×Int)) (left:Int) (w:World) (h:Rd 2 (RE ePair) w v l) (h0:0≤left) (h1:left≤1048576):Calls Tryz.prog 155 #[v,.int .i64 left] w (Pure (.int .i64 (szOf left l.length)) w):=by
 obtain⟨A,c,rfl,hc,hm⟩:=h.form;go_enter Tryz.func155,Tryz.ntmps155
 go_wp2
 all_goals go_ret
 all_goals exact⟨by simp_all [szOf];try omega,rfl⟩
def mkCell (k:Int) (j:Nat):Int×Int:=(k+2*j,k+2*j+1)
def marksCell (k:Int) (n:Nat):List (Int×Int):=(List.range n).map (mkCell k)
theorem marksCell_set {m l:List (Int×Int)} {j:Nat} {k:Int} (h:m.length=l.length) (e:m.take j=marksCell k j) (hj:j<l.length):(m.set j (mkCell k j)).length=l.length∧(m.set j (mkCell k j)).take (j+1)=marksCell k (j+1):=by
 refine⟨by simpa using h,?_⟩;rw[take_set _ (by omega),e];simp[marksCell,List.range_succ]
theorem markCells_any (v:Value) (l:List (Int×Int)) (k:Int) (B:Nat) (w:World) (h:OwnL 77 2 ePair B w v l) (h0:0≤k) (h1:k≤67108864) (hl:l.length≤1048576):
 Calls Tryz.prog 178 #[v,.int .i64 k] w (Marked (.int .i64 (k+2*l.length)) v (fun w'=>OwnL 77 2 ePair B w' v (marksCell k l.length)) w):=by
 obtain⟨A,c,rfl,hc,hm⟩:=h.form;go_enter Tryz.func178,Tryz.ntmps178
 go_wp2;go_loopw [1,5] (fun q i wr=>∃(j:Nat) (m:List (Int×Int)),j≤l.length∧i= .int .i64 j∧q= .int .i64 (k+2*j)∧Hid (m.length=l.length∧m.take j=marksCell k j)∧OwnL 77 2 ePair B wr (.slice A l.length c) m∧w.grownBy wr (Value.slice A l.length c).ownBlock) (fun _ i _=>l.length-(intOf i).toNat)
 case atStart=>exact⟨0,l,Nat.zero_le _,rfl,by simp,Lib.hid ⟨rfl,rfl⟩,h,World.grownBy.refl _ _⟩
 case round=>
  obtain⟨j,m,hj,rfl,rfl,Hg,hown,hgr⟩:=hrel;by_cases hlt:j<l.length
  · obtain ⟨g, rfl, hB, hgl⟩ := hown.split (k := j) (by rw [Hg.out.1]; omega);obtain⟨u0,u1,s0,s1⟩:=hown.slot2 lenCell (k:=j) (by rw[Hg.out.1];omega);have hsf:=hown.free;go_wp2;go_roundw
    case rel=>exact⟨j+1,m.set j (mkCell k j),by omega,by go_num,by go_num,Lib.hid (marksCell_set Hg.out.1 Hg.out.2 hlt),hown.store2 lenCell (by rw[Hg.out.1];omega) rfl,gr_set (gr_set hgr _ _) _ _⟩
    case measure=>simp[intOf];omega
  · go_wp2;go_ret;obtain rfl:j=l.length:=by omega
    exact⟨rfl,by have e:=Hg.out.2;rw[List.take_of_length_le (by rw[Hg.out.1];omega)]at e;rw[←e];exact hown,hgr⟩
theorem heldCells_any (v:Value) (k:Int) (n:Nat) (w:World) (h:Rd 2 (RE ePair) w v (marksCell k n)) (h0:0≤k) (h1:k≤67108864) (hl:n≤1048576):
 Calls Tryz.prog 181 #[v,.int .i64 k] w (Pure (.int .i64 (k+2*n)) w):=by
 have hlen:(marksCell k n).length=n:=(by simp[marksCell]);obtain⟨A,c,rfl,hc,hm⟩:=h.form;rw[hlen]at h hc hm⊢;go_enter Tryz.func181,Tryz.ntmps181
 go_wp2;go_loop [1,5] (fun q i=>∃j:Nat,j≤n∧i= .int .i64 j∧q= .int .i64 (k+2*j)) (fun _ i=>n-(intOf i).toNat)
 case atStart=>exact⟨0,Nat.zero_le _,rfl,by simp⟩
 case round=>
  obtain⟨j,hj,rfl,rfl⟩:=hrel;by_cases hlt:j<n
  · obtain ⟨b, off, rfl, hb, k1, k2⟩ := h.atPair (k := j) (by omega);simp only[marksCell,mkCell,List.getElem_map,List.getElem_range]at k1 k2;clear hlen;go_wp2;go_round
    case rel=>exact⟨j+1,by omega,by go_num,by go_num⟩
    case measure=>simp[intOf];omega
  · go_wp2;go_ret;obtain rfl:j=n:=by omega
    exact⟨rfl,rfl⟩
theorem lenDom:∀x:Int×Int×Bool,(eDom x).length=3:=fun _=>rfl
theorem oneDom:∀x:Int×Int×Bool,∀u∈eDom x,u.oneCell'=true:=by
 intro x u hu;simp[eDom]at hu;rcases hu with rfl|rfl|rfl<;>rfl
theorem rowDom:Row Tryz.prog 33 90 (.agg #[.int .i64 0,.int .i64 0,.bool false]) 3 24:=⟨Tryz.underlying33,by kernel_rfl,rfl,by decide⟩
theorem toDom_any (x:Int×Int×Bool) (w:World):Calls Tryz.prog 231 #[.agg #[.int .i64 x.1,.int .i64 x.2.1,.bool x.2.2]] w (Ret (.agg #[.int .i64 x.1,.int .i64 x.2.1,.bool x.2.2]) w):=by
 go_enter Tryz.func231,Tryz.ntmps231
 go_wp2;refine bodyPost_ret (v:= .agg #[.int .i64 x.1,.int .i64 x.2.1,.bool x.2.2]) (by simp[results,Tryz.results231,go_sem]) rfl ⟨rfl,?_⟩;exact(((Below.refl _ _).al _).al _).al _
theorem eqDom_any (x y:Int×Int×Bool) (w:World):Calls Tryz.prog 239 #[.agg #[.int .i64 x.1,.int .i64 x.2.1,.bool x.2.2],.agg #[.int .i64 y.1,.int .i64 y.2.1,.bool y.2.2]] w (Ret (.bool (x==y)) w):=by
 obtain⟨x1,x2,x3⟩:=x;obtain⟨y1,y2,y3⟩:=y;go_enter Tryz.func239,Tryz.ntmps239
 go_wp2
 all_goals go_ret
 all_goals exact⟨by simp_all,((Below.refl _ _).al _).al _⟩
theorem toDoms_any (v:Value) (l:List (Int×Int×Bool)) (w:World) (h:Rd 3 (RE eDom) w v l) (hl:Small l.length):Calls Tryz.prog 164 #[v] w (RetOwn 90 3 eDom l w):=by
 obtain⟨A,c,rfl,hc,hm⟩:=h.form;go_enter Tryz.func164,Tryz.ntmps164
 go_wp2_with (at_make;go_must (refine wpList_mk (enc:=eDom) (z0:=((0,0,false):Int×Int×Bool)) rowDom rfl (Below.refl _ w) l.length hl.by24 hl.max rfl _ _ rfl rfl rfl ?_);intro w1 hown1 hb1 hg1)
 go_loopw [4] (fun i wr=>∃(k:Nat) (m:List (Int×Int×Bool)),k≤l.length∧i= .int .i64 k∧UpTo k m l∧OwnL 90 3 eDom w.heap.size wr (.slice (some ⟨w.heap.size,0,none⟩) l.length l.length) m∧Below w.heap.size w wr) (fun i _=>l.length-(intOf i).toNat)
 case atStart=>exact⟨0,List.replicate l.length ((0,0,false):Int×Int×Bool),Nat.zero_le _,rfl,UpTo.start _ _ (by simp),hown1,hb1⟩
 case round=>
  obtain⟨k,m,hk,rfl,hu,hown,hbel⟩:=hrel;clear hown1 hb1 hg1;by_cases hlt:k<l.length
  · obtain⟨b,off,rfl,hb,h1,h2,h3⟩:=(h.below RE.stays hbel).atDom hlt;go_wp2_with (go_at_call 231;refine(toDom_any l[k] _).mono ?_;rintro e w2 ⟨rfl,hb2⟩;obtain⟨u0,u1,u2,s0,s1,s2⟩:=(hown.below hb2).slot3 lenDom (k:=k) (by rw[hu.1];omega);have hsf:=(hown.below hb2).free)
    go_roundw
    case rel=>exact⟨k+1,_,by omega,by go_num,hu.step hlt,(hown.below hb2).store3 lenDom (by rw[hu.1];omega) rfl,(((hbel.tr hb2).st _ _ (Nat.le_refl _)).st _ _ (Nat.le_refl _)).st _ _ (Nat.le_refl _)⟩
    case measure=>simp[intOf];omega
  · go_wp2;go_ret;obtain rfl:=hu.done (by omega);exact⟨_,_,rfl,hown,hbel⟩
theorem eqDoms_any (u v:Value) (l m:List (Int×Int×Bool)) (w:World) (h:Rd 3 (RE eDom) w u l) (h':Rd 3 (RE eDom) w v m):Calls Tryz.prog 174 #[u,v] w (Ret (.bool (l==m)) w):=by
 obtain⟨A,c,rfl,hc,hm⟩:=h.form;obtain⟨A',c',rfl,hc',hm'⟩:=h'.form;by_cases hlen:l.length=m.length
 · have hne : ((l.length : Int) != (m.length : Int)) = false := by simp [hlen]
   have Hlen:=Lib.hid hlen;clear hlen;go_enter Tryz.func174,Tryz.ntmps174
   go_wp2;go_loopw [5] (fun i wr=>∃k:Nat,k≤l.length∧i= .int .i64 k∧Hid ((l.drop k==m.drop k)=(l==m))∧Below w.heap.size w wr) (fun i _=>l.length-(intOf i).toNat)
   case atStart=>exact⟨0,Nat.zero_le _,rfl,Lib.hid rfl,Below.refl _ _⟩
   case round=>
    obtain⟨k,hk,rfl,Hg,hbel⟩:=hrel;by_cases hlt:k<l.length
    · have hlm : k < m.length := by have := Hlen.out; omega
      obtain⟨b,off,rfl,hb,h1,h2,h3⟩:=(h.below RE.stays hbel).atDom hlt;obtain⟨b',off',rfl,hb',q1,q2,q3⟩:=(h'.below RE.stays hbel).atDom hlm;have hlt':(k:Int)<(m.length:Int):=(by omega);go_wp2_with fail
      go_still_tail 8,(by kernel_rfl)
      go_wp2_with (go_at_call 239;(with_reducible refine(eqDom_any l[k] m[k] _).mono ?_);rintro e w2 ⟨rfl,hb2⟩;obtain⟨hc2,hf2,hz2⟩:=bk hb2;try simp at hz2)
      all_goals first
        | (go_roundw
           case rel=>exact⟨k+1,by omega,by go_num,eq_go Hg hlt hlm (by rename_i hx;simpa using hx),hbel.drew.tr hb2⟩
           case measure=>simp[intOf];omega)
        | (go_ret
           exact⟨retB (eq_no Hg hlt hlm (by rename_i hx;simpa using hx)).symm,hbel.drew.tr hb2⟩)
    · go_wp2;go_ret;exact⟨retB (eq_end Hg (by omega) (by have:=Hlen.out;omega)).symm,hbel⟩
 · have hne : ((l.length : Int) != (m.length : Int)) = true := by simp; omega
   go_enter Tryz.func174,Tryz.ntmps174
   go_wp2;go_ret;exact⟨retB (by rw[eq_comm,beq_eq_false_iff_ne];exact fun e=>hlen (by rw[e])),Below.refl _ _⟩
theorem szDoms_any (v:Value) (l:List (Int×Int×Bool)) (left:Int) (w:World) (h:Rd 3 (RE eDom) w v l) (h0:0≤left) (h1:left≤1048576):Calls Tryz.prog 154 #[v,.int .i64 left] w (Pure (.int .i64 (szOf left l.length)) w):=by
 obtain⟨A,c,rfl,hc,hm⟩:=h.form;go_enter Tryz.func154,Tryz.ntmps154
 go_wp2
 all_goals go_ret
 all_goals exact⟨by simp_all [szOf];try omega,rfl⟩
def mkDom (k:Int) (j:Nat):Int×Int×Bool:=(k+3*j,k+3*j+1,((k+3*j+1+1)%3==0))
def marksDom (k:Int) (n:Nat):List (Int×Int×Bool):=(List.range n).map (mkDom k)
theorem marksDom_set {m l:List (Int×Int×Bool)} {j:Nat} {k:Int} (h:m.length=l.length) (e:m.take j=marksDom k j) (hj:j<l.length):(m.set j (mkDom k j)).length=l.length∧(m.set j (mkDom k j)).take (j+1)=marksDom k (j+1):=by
 refine⟨by simpa using h,?_⟩;rw[take_set _ (by omega),e];simp[marksDom,List.range_succ]
theorem markDoms_any (v:Value) (l:List (Int×Int×Bool)) (k:Int) (B:Nat) (w:World) (h:OwnL 90 3 eDom B w v l) (h0:0≤k) (h1:k≤67108864) (hl:l.length≤1048576):
 Calls Tryz.prog 177 #[v,.int .i64 k] w (Marked (.int .i64 (k+3*l.length)) v (fun w'=>OwnL 90 3 eDom B w' v (marksDom k l.length)) w):=by
 obtain⟨A,c,rfl,hc,hm⟩:=h.form;go_enter Tryz.func177,Tryz.ntmps177
 go_wp2;go_loopw [1,5] (fun q i wr=>∃(j:Nat) (m:List (Int×Int×Bool)),j≤l.length∧i= .int .i64 j∧q= .int .i64 (k+3*j)∧Hid (m.length=l.length∧m.take j=marksDom k j)∧OwnL 90 3 eDom B wr (.slice A l.length c) m∧w.grownBy wr (Value.slice A l.length c).ownBlock) (fun _ i _=>l.length-(intOf i).toNat)
 case atStart=>exact⟨0,l,Nat.zero_le _,rfl,by simp,Lib.hid ⟨rfl,rfl⟩,h,World.grownBy.refl _ _⟩
 case round=>
  obtain⟨j,m,hj,rfl,rfl,Hg,hown,hgr⟩:=hrel;by_cases hlt:j<l.length
  · obtain ⟨g, rfl, hB, hgl⟩ := hown.split (k := j) (by rw [Hg.out.1]; omega);obtain⟨u0,u1,u2,s0,s1,s2⟩:=hown.slot3 lenDom (k:=j) (by rw[Hg.out.1];omega);have hsf:=hown.free;have hmod:(k+3*(j:Int)+1+1).tmod 3=(k+3*(j:Int)+1+1)%3:=Int.tmod_eq_emod_of_nonneg (by omega);go_wp2;go_roundw
    case rel=>exact⟨j+1,m.set j (mkDom k j),by omega,by go_num,by go_num,Lib.hid (marksDom_set Hg.out.1 Hg.out.2 hlt),hown.store3 lenDom (by rw[Hg.out.1];omega) rfl,gr_set (gr_set (gr_set hgr _ _) _ _) _ _⟩
    case measure=>simp[intOf];omega
  · go_wp2;go_ret;obtain rfl:j=l.length:=by omega
    exact⟨rfl,by have e:=Hg.out.2;rw[List.take_of_length_le (by rw[Hg.out.1];omega)]at e;rw[←e];exact hown,hgr⟩
theorem heldDoms_any (v:Value) (k:Int) (n:Nat) (w:World) (h:Rd 3 (RE eDom) w v (marksDom k n)) (h0:0≤k) (h1:k≤67108864) (hl:n≤1048576):
 Calls Tryz.prog 180 #[v,.int .i64 k] w (Pure (.int .i64 (k+3*n)) w):=by
 have hlen:(marksDom k n).length=n:=(by simp[marksDom]);obtain⟨A,c,rfl,hc,hm⟩:=h.form;rw[hlen]at h hc hm⊢;go_enter Tryz.func180,Tryz.ntmps180
 go_wp2;go_loop [1,5] (fun q i=>∃j:Nat,j≤n∧i= .int .i64 j∧q= .int .i64 (k+3*j)) (fun _ i=>n-(intOf i).toNat)
 case atStart=>exact⟨0,Nat.zero_le _,rfl,by simp⟩
 case round=>
  obtain⟨j,hj,rfl,rfl⟩:=hrel;by_cases hlt:j<n
  · obtain ⟨b, off, rfl, hb, k1, k2, k3⟩ := h.atDom (k := j) (by omega);simp only[marksDom,mkDom,List.getElem_map,List.getElem_range]at k1 k2 k3;clear hlen;have hmod:(k+3*(j:Int)+1+1).tmod 3=(k+3*(j:Int)+1+1)%3:=Int.tmod_eq_emod_of_nonneg (by omega);go_wp2;go_round
    case rel=>exact⟨j+1,by omega,by go_num,by go_num⟩
    case measure=>simp[intOf];omega
  · go_wp2;go_ret;obtain rfl:j=n:=by omega
    exact⟨rfl,rfl⟩
theorem lenStr:∀x:ByteArray,(eStr x).length=1:=fun _=>rfl
theorem oneStr:∀x:ByteArray,∀u∈eStr x,u.oneCell'=true:=by
 intro x u hu;simp[eStr]at hu;rcases hu with rfl<;>rfl
theorem rowStr:Row Tryz.prog 98 9 (.string ByteArray.empty) 1 16:=⟨Tryz.underlying98,by kernel_rfl,rfl,by decide⟩
theorem lenAct:∀x:Int×Int×Int,(eTrip x).length=3:=fun _=>rfl
theorem rowAct:Row Tryz.prog 55 48 (.agg #[.int .i64 0,.int .i64 0,.int .i64 0]) 3 24:=⟨Tryz.underlying55,by kernel_rfl,rfl,by decide⟩
theorem toAct_any (x:Int×Int×Int) (w:World):Calls Tryz.prog 25 #[.agg #[.int .i64 x.1,.int .i64 x.2.1,.int .i64 x.2.2]] w (Ret (.agg #[.int .i64 x.1,.int .i64 x.2.1,.int .i64 x.2.2]) w):=by
 go_enter Tryz.func25,Tryz.ntmps25
 go_wp2;refine bodyPost_ret (v:= .agg #[.int .i64 x.1,.int .i64 x.2.1,.int .i64 x.2.2]) (by simp[results,Tryz.results25,go_sem]) rfl ⟨rfl,?_⟩;exact(((Below.refl _ _).al _).al _).al _
theorem eqAct_any (x y:Int×Int×Int) (w:World):Calls Tryz.prog 104 #[.agg #[.int .i64 x.1,.int .i64 x.2.1,.int .i64 x.2.2],.agg #[.int .i64 y.1,.int .i64 y.2.1,.int .i64 y.2.2]] w (Ret (.bool (x==y)) w):=by
 obtain⟨x1,x2,x3⟩:=x;obtain⟨y1,y2,y3⟩:=y;go_enter Tryz.func104,Tryz.ntmps104
 go_wp2
 all_goals go_ret
 all_goals exact⟨by simp_all,((Below.refl _ _).al _).al _⟩
theorem toActs_any (v:Value) (l:List (Int×Int×Int)) (w:World) (h:Rd 3 (RE eTrip) w v l) (hl:Small l.length):Calls Tryz.prog 29 #[v] w (RetOwn 48 3 eTrip l w):=by
 obtain⟨A,c,rfl,hc,hm⟩:=h.form;go_enter Tryz.func29,Tryz.ntmps29
 go_wp2_with (at_make;go_must (refine wpList_mk (enc:=eTrip) (z0:=((0,0,0):Int×Int×Int)) rowAct rfl (Below.refl _ w) l.length hl.by24 hl.max rfl _ _ rfl rfl rfl ?_);intro w1 hown1 hb1 hg1)
 go_loopw [4] (fun i wr=>∃(k:Nat) (m:List (Int×Int×Int)),k≤l.length∧i= .int .i64 k∧UpTo k m l∧OwnL 48 3 eTrip w.heap.size wr (.slice (some ⟨w.heap.size,0,none⟩) l.length l.length) m∧Below w.heap.size w wr) (fun i _=>l.length-(intOf i).toNat)
 case atStart=>exact⟨0,List.replicate l.length ((0,0,0):Int×Int×Int),Nat.zero_le _,rfl,UpTo.start _ _ (by simp),hown1,hb1⟩
 case round=>
  obtain⟨k,m,hk,rfl,hu,hown,hbel⟩:=hrel;clear hown1 hb1 hg1;by_cases hlt:k<l.length
  · obtain⟨b,off,rfl,hb,h1,h2,h3⟩:=(h.below RE.stays hbel).atTrip hlt;go_wp2_with (go_at_call 25;refine(toAct_any l[k] _).mono ?_;rintro e w2 ⟨rfl,hb2⟩;obtain⟨u0,u1,u2,s0,s1,s2⟩:=(hown.below hb2).slot3 lenAct (k:=k) (by rw[hu.1];omega);have hsf:=(hown.below hb2).free)
    go_roundw
    case rel=>exact⟨k+1,_,by omega,by go_num,hu.step hlt,(hown.below hb2).store3 lenAct (by rw[hu.1];omega) rfl,(((hbel.tr hb2).st _ _ (Nat.le_refl _)).st _ _ (Nat.le_refl _)).st _ _ (Nat.le_refl _)⟩
    case measure=>simp[intOf];omega
  · go_wp2;go_ret;obtain rfl:=hu.done (by omega);exact⟨_,_,rfl,hown,hbel⟩
theorem eqActs_any (u v:Value) (l m:List (Int×Int×Int)) (w:World) (h:Rd 3 (RE eTrip) w u l) (h':Rd 3 (RE eTrip) w v m):Calls Tryz.prog 32 #[u,v] w (Ret (.bool (l==m)) w):=by
 obtain⟨A,c,rfl,hc,hm⟩:=h.form;obtain⟨A',c',rfl,hc',hm'⟩:=h'.form;by_cases hlen:l.length=m.length
 · have hne : ((l.length : Int) != (m.length : Int)) = false := by simp [hlen]
   have Hlen:=Lib.hid hlen;clear hlen;go_enter Tryz.func32,Tryz.ntmps32
   go_wp2;go_loopw [5] (fun i wr=>∃k:Nat,k≤l.length∧i= .int .i64 k∧Hid ((l.drop k==m.drop k)=(l==m))∧Below w.heap.size w wr) (fun i _=>l.length-(intOf i).toNat)
   case atStart=>exact⟨0,Nat.zero_le _,rfl,Lib.hid rfl,Below.refl _ _⟩
   case round=>
    obtain⟨k,hk,rfl,Hg,hbel⟩:=hrel;by_cases hlt:k<l.length
    · have hlm : k < m.length := by have := Hlen.out; omega
      obtain⟨b,off,rfl,hb,h1,h2,h3⟩:=(h.below RE.stays hbel).atTrip hlt;obtain⟨b',off',rfl,hb',q1,q2,q3⟩:=(h'.below RE.stays hbel).atTrip hlm;have hlt':(k:Int)<(m.length:Int):=(by omega);go_wp2_with fail
      go_still_tail 8,(by kernel_rfl)
      go_wp2_with (go_at_call 104;(with_reducible refine(eqAct_any l[k] m[k] _).mono ?_);rintro e w2 ⟨rfl,hb2⟩;obtain⟨hc2,hf2,hz2⟩:=bk hb2;try simp at hz2)
      all_goals first
        | (go_roundw
           case rel=>exact⟨k+1,by omega,by go_num,eq_go Hg hlt hlm (by rename_i hx;simpa using hx),hbel.drew.tr hb2⟩
           case measure=>simp[intOf];omega)
        | (go_ret
           exact⟨retB (eq_no Hg hlt hlm (by rename_i hx;simpa using hx)).symm,hbel.drew.tr hb2⟩)
    · go_wp2;go_ret;exact⟨retB (eq_end Hg (by omega) (by have:=Hlen.out;omega)).symm,hbel⟩
 · have hne : ((l.length : Int) != (m.length : Int)) = true := by simp; omega
   go_enter Tryz.func32,Tryz.ntmps32
   go_wp2;go_ret;exact⟨retB (by rw[eq_comm,beq_eq_false_iff_ne];exact fun e=>hlen (by rw[e])),Below.refl _ _⟩
theorem szActs_any (v:Value) (l:List (Int×Int×Int)) (left:Int) (w:World) (h:Rd 3 (RE eTrip) w v l) (h0:0≤left) (h1:left≤1048576):Calls Tryz.prog 27 #[v,.int .i64 left] w (Pure (.int .i64 (szOf left l.length)) w):=by
 obtain⟨A,c,rfl,hc,hm⟩:=h.form;go_enter Tryz.func27,Tryz.ntmps27
 go_wp2
 all_goals go_ret
 all_goals exact⟨by simp_all [szOf];try omega,rfl⟩
def mkAct (k:Int) (j:Nat):Int×Int×Int:=(k+3*j,k+3*j+1,k+3*j+1+1)
def marksAct (k:Int) (n:Nat):List (Int×Int×Int):=(List.range n).map (mkAct k)
theorem marksAct_set {m l:List (Int×Int×Int)} {j:Nat} {k:Int} (h:m.length=l.length) (e:m.take j=marksAct k j) (hj:j<l.length):(m.set j (mkAct k j)).length=l.length∧(m.set j (mkAct k j)).take (j+1)=marksAct k (j+1):=by
 refine⟨by simpa using h,?_⟩;rw[take_set _ (by omega),e];simp[marksAct,List.range_succ]
theorem markActs_any (v:Value) (l:List (Int×Int×Int)) (k:Int) (B:Nat) (w:World) (h:OwnL 48 3 eTrip B w v l) (h0:0≤k) (h1:k≤67108864) (hl:l.length≤1048576):
 Calls Tryz.prog 33 #[v,.int .i64 k] w (Marked (.int .i64 (k+3*l.length)) v (fun w'=>OwnL 48 3 eTrip B w' v (marksAct k l.length)) w):=by
 obtain⟨A,c,rfl,hc,hm⟩:=h.form;go_enter Tryz.func33,Tryz.ntmps33
 go_wp2;go_loopw [1,5] (fun q i wr=>∃(j:Nat) (m:List (Int×Int×Int)),j≤l.length∧i= .int .i64 j∧q= .int .i64 (k+3*j)∧Hid (m.length=l.length∧m.take j=marksAct k j)∧OwnL 48 3 eTrip B wr (.slice A l.length c) m∧w.grownBy wr (Value.slice A l.length c).ownBlock) (fun _ i _=>l.length-(intOf i).toNat)
 case atStart=>exact⟨0,l,Nat.zero_le _,rfl,by simp,Lib.hid ⟨rfl,rfl⟩,h,World.grownBy.refl _ _⟩
 case round=>
  obtain⟨j,m,hj,rfl,rfl,Hg,hown,hgr⟩:=hrel;by_cases hlt:j<l.length
  · obtain ⟨g, rfl, hB, hgl⟩ := hown.split (k := j) (by rw [Hg.out.1]; omega);obtain⟨u0,u1,u2,s0,s1,s2⟩:=hown.slot3 lenAct (k:=j) (by rw[Hg.out.1];omega);have hsf:=hown.free;go_wp2;go_roundw
    case rel=>exact⟨j+1,m.set j (mkAct k j),by omega,by go_num,by go_num,Lib.hid (marksAct_set Hg.out.1 Hg.out.2 hlt),hown.store3 lenAct (by rw[Hg.out.1];omega) rfl,gr_set (gr_set (gr_set hgr _ _) _ _) _ _⟩
    case measure=>simp[intOf];omega
  · go_wp2;go_ret;obtain rfl:j=l.length:=by omega
    exact⟨rfl,by have e:=Hg.out.2;rw[List.take_of_length_le (by rw[Hg.out.1];omega)]at e;rw[←e];exact hown,hgr⟩
end Go.Proofs.YtfdbcihcdjjdhaaGreatDoor
