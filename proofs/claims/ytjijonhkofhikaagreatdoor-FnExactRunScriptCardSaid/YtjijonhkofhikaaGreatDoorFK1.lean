/- Squeezed by shake.py of this repo's wip folder, where the readable texts lie. -/
import Derived.Test.YtjijonhkofhikaaGreatDoorRows
import Derived.Lib.SmallJoins
import Derived.Lib.Hide
import Derived.WalkSpells
import Derived.WalkLawsBesides
import Derived.Deep.RegionHeld
import Derived.Deep.AppendLies
import Derived.StillTailTactics
import Derived.BigQuiet
open _root_.List renaming getElem?_eq_getElem->Tm,drop_eq_getElem_cons->Tn,length_set->Tp,ext_getElem?->Tq,getElem?_take_of_lt->Tt,getElem?_set_self->Tu,getElem?_set_ne->Tv,getElem?_eq_none->Tw,take_of_length_le->Tx,flatMap_cons->Ty,getElem?_append_right->Tz,replicate->TA
open _root_.Nat renaming zero_le->TB,add_mul->TC,zero_mul->TD,zero_add->TE,mul_comm->TF
open _root_.Go.Proofs.Tryz (prog func15 ntmps15)
set_option linter.unusedVariables false
set_option maxHeartbeats 4000000
set_option maxRecDepth 100000
namespace Go.Proofs.YtjijonhkofhikaaGreatDoor
open Go.RowKit
theorem Ti{α:Type _} (a:α):∃x,x=a:=⟨a,rfl⟩
theorem Tk{P:Prop} (h:P):Hid P:=Lib.hid h
theorem tk {P:Program} {md:Region.Mode} {ops:Array Oper} {Q:Exit->Act->World->Prop} {S:World->Prop} (i:Nat) (oi:Oper) {v:Value} {fuel:Nat} {listed:Array Bool} {a:Act} {w:World} (hi:ops[i]? =some oi)
    (hk:(Region.noSelect ops&&(Region.free md ops listed i&&(Region.ready md ops listed).contains i))=true) (hQ:∀c a w,Q (.panic c) (a.put oi.dst v) w->Q (.panic c) a w) (hy:YieldsIf P ops S oi v a) (hS:S w)
    (h:wpAnyH P md ops Q S fuel (listed.setIfInBounds i true) (a.put oi.dst v) w):wpAnyH P md ops Q S (fuel+1) listed a w:=by
 rw[Bool.and_eq_true,Bool.and_eq_true]at hk;exact wpAnyH_take hi hk.1 hk.2.1 hk.2.2 hQ hy hS h
theorem SE (d:Nat) (v:Value) (l:List Value) (ds:List Deferred):Act.put ⟨l.toArray,ds⟩ (some d) v=⟨(l.set d v).toArray,ds⟩:=by simp[Act.put]
section
variable {P : Program} {md : Region.Mode} {ops : Array Oper} {Q : Exit -> Act -> World -> Prop} {S : World -> Prop} {fuel : Nat} {listed : Array Bool} {a a' : Act} {w : World} {o : Oper} {v : Value} {rs : List Nat} {i : Nat}
def opN:List Oper->Nat->Option Oper
  |[],_=>none
  |o::_,0=>some o
  |_::l,n+1=>opN l n
theorem Ma:∀(l:List Oper) (i:Nat),opN l i=l[i]?
  |[],_=>by simp[opN]
  |_::_,0=>by simp[opN]
  |_::l,n+1=>by simp[opN,Ma l n]
theorem opA (h:opN ops.toList i=some o):ops[i]? =some o:=by rw[Ma]at h;simpa using h
theorem rB (S : World -> Prop) {id : Nat} (h : S w.drew -> wpAnyH P .any ops Q S ops.size (Array.replicate ops.size false) a w.drew) (hm : P.follows .mixedOrders = true := by kernel_rfl)
    (hS:S w.drew:=by(try dsimp only);(try go_keep)):(Code.region id ops true).wp P Q a w:=wp_region_held_drew hm hS h
theorem tW (i : Nat) (hi : opN ops.toList i = some o := by exact rfl) (hk : (Region.noSelect ops && (Region.free md ops listed i && (Region.ready md ops listed).contains i)) = true := by kernel_rfl)
    (hQ:∀c a w,Q (.panic c) (a.put o.dst v) w->Q (.panic c) a w:=by exact fun _ _ _ h=>h) (hw:Region.wanted o (yielded ops a.tmps)=true:=by rfl)
    (hv:∀w,S w->(execOp a.eval o).run P w= .ok (.value v) w:=by(intro wS hSw;(try dsimp only at hSw);go_simp;(all_goals with_reducible rfl))) (hS:S w:=by assumption)
    (ha:a.put o.dst v=a':=by(simp only[SE,List.set];rfl)) (h:wpAnyH P md ops Q S fuel (listed.setIfInBounds i true) a' w):wpAnyH P md ops Q S (fuel+1) listed a w:=by
 subst ha;exact tk i o (opA hi) hk hQ (.inl ⟨hw,hv⟩) hS h
theorem tU (i : Nat) (hi : opN ops.toList i = some o := by exact rfl) (hk : (Region.noSelect ops && (Region.free md ops listed i && (Region.ready md ops listed).contains i)) = true := by kernel_rfl)
    (hQ:∀c a w,Q (.panic c) (a.put o.dst undef) w->Q (.panic c) a w:=by exact fun _ _ _ h=>h) (hw:Region.wanted o (yielded ops a.tmps)=false:=by rfl) (hS:S w:=by assumption)
    (ha:a.put o.dst undef=a':=by(simp only[SE,List.set];rfl)) (h:wpAnyH P md ops Q S fuel (listed.setIfInBounds i true) a' w):wpAnyH P md ops Q S (fuel+1) listed a w:=by
 subst ha;exact tk i o (opA hi) hk hQ (.inr ⟨hw,rfl⟩) hS h
theorem tX (i : Nat) (hi : opN ops.toList i = some o := by exact rfl) (hk : (Region.noSelect ops && (Region.free md ops listed i && (Region.ready md ops listed).contains i)) = true := by decide +kernel)
    (hQ:∀c a w,Q (.panic c) (a.put o.dst v) w->Q (.panic c) a w:=by exact fun _ _ _ h=>h) (hw:Region.wanted o (yielded ops a.tmps)=true:=by rfl)
    (hv:∀w,S w->(execOp a.eval o).run P w= .ok (.value v) w:=by(intro wS hSw;(try dsimp only at hSw);go_simp;(all_goals with_reducible rfl))) (hS:S w:=by assumption)
    (ha:a.put o.dst v=a':=by(simp only[SE,List.set];rfl)) (h:wpAnyH P md ops Q S fuel (listed.setIfInBounds i true) a' w):wpAnyH P md ops Q S (fuel+1) listed a w:=tW i hi hk hQ hw hv hS ha h
theorem tR (rs:List Nat) (hr:Region.ready md ops listed=rs:=by kernel_rfl) (hne:rs≠[]:=by simp) (h:AllReadyH P md ops Q S fuel listed a w rs):wpAnyH P md ops Q S (fuel+1) listed a w:=wpAnyH_ready hr hne h
theorem tQ (rs:List Nat) (hr:Region.ready md ops listed=rs:=by decide+kernel) (hne:rs≠[]:=by simp) (h:AllReadyH P md ops Q S fuel listed a w rs):wpAnyH P md ops Q S (fuel+1) listed a w:=wpAnyH_ready hr hne h
theorem tC (h:∀K':Act->World->Prop,Shut (∀a w,S w->(S w->wpAnyH P md ops Q S fuel (listed.setIfInBounds i true) a w)->K' a w)->if Region.wanted o (yielded ops a.tmps)=true then Oper.wp P o a w K' Q else K' (a.put o.dst undef) w)
    (hs:AllReadyH P md ops Q S fuel listed a w rs) (ho:opN ops.toList i=some o:=by exact rfl):AllReadyH P md ops Q S fuel listed a w (i::rs):=AllReadyH.cons (opA ho) h hs
theorem tL (h:∀K':Act->World->Prop,Shut (∀a w,S w->(S w->wpAnyH P md ops Q S fuel (listed.setIfInBounds i true) a w)->K' a w)->if Region.wanted o (yielded ops a.tmps)=true then Oper.wp P o a w K' Q else K' (a.put o.dst undef) w)
    (ho:opN ops.toList i=some o:=by exact rfl):AllReadyH P md ops Q S fuel listed a w [i]:=AllReadyH.cons (opA ho) h AllReadyH.nil
theorem tN (i:Nat) (h:∀K':Act->World->Prop,Shut (∀a w,S w->(S w->wpAnyH P md ops Q S fuel (listed.setIfInBounds i true) a w)->K' a w)->if Region.wanted o (yielded ops a.tmps)=true then Oper.wp P o a w K' Q else K' (a.put o.dst undef) w)
    (hs:AllReadyH P md ops Q S fuel listed a w rs) (ho:opN ops.toList i=some o:=by exact rfl):AllReadyH P md ops Q S fuel listed a w (i::rs):=AllReadyH.cons (opA ho) h hs
theorem tK {K : Act -> World -> Prop} (hK : Shut (∀ a w, S w -> (S w -> wpAnyH P md ops Q S fuel listed a w) -> K a w)) (h : S w -> wpAnyH P md ops Q S fuel listed a' w) (hs : S w := by (try dsimp only); (try go_keep))
    (ha:a=a':=by((try simp only[Act.put,List.setIfInBounds_toArray,List.set_cons_zero,List.set_cons_succ]);rfl)):K a w:=by subst ha;exact hK.out _ _ hs h
theorem tD (h:Q .normal a w) (hr:Region.ready md ops listed=[]:=by kernel_rfl):wpAnyH P md ops Q S fuel listed a w:=wpAnyH_done hr h _
theorem tE (h:True/\Q .normal a w) (hr:Region.ready md ops listed=[]:=by decide+kernel):wpAnyH P md ops Q S fuel listed a w:=wpAnyH_done hr h.2 _
end
def Small (n:Nat):Prop:=n<=1048576
theorem Small.max {n:Nat} (h:Small n):n<=maxLen:=by unfold Small at h;unfold maxLen;omega
def Pure (v:Value) (w:World) (e:Ending) (w':World):Prop:=e= .returned v/\w=w'
def Ret (v:Value) (w:World) (e:Ending) (w':World):Prop:=e= .returned v/\Below w.heap.size w w'
theorem _root_.Go.RowKit.Below.al {a w:World} (h:Below a.heap.size a w) (o:Obj):Below a.heap.size a (w.alloc o):=h.alloc h.size o
theorem _root_.Go.RowKit.Below.tr {a w w':World} (h:Below a.heap.size a w) (k:Below w.heap.size w w'):Below a.heap.size a w':=h.trans (k.mono h.size)
theorem _root_.Go.RowKit.Below.st {a w:World} (h:Below a.heap.size a w) (p:Addr) (u:Value) (hp:a.heap.size<=p.block):Below a.heap.size a (w.setCell p u):=h.setCell hp u
theorem lJ {a b:Bool} (h:a=b):Ending.returned (.bool a)=Ending.returned (.bool b):=by rw[h]
theorem S9 {a b c d:Int} (h:a=b) (h':c=d):Ending.returned (.tuple #[.int .i64 a,.int .i64 c])=Ending.returned (.tuple #[.int .i64 b,.int .i64 d]):=by rw[h,h']
theorem FQ {a b:Int} (h:a=b):Ending.returned (.int .i64 a)=Ending.returned (.int .i64 b):=by rw[h]
theorem bk {W w1:World} (hb:Below W.heap.size W w1):(∀b o,b<W.heap.size->w1.cell? ⟨b,o,none⟩=W.cell? ⟨b,o,none⟩)/\(∀b o,b<W.heap.size->w1.frozen? ⟨b,o,none⟩=W.frozen? ⟨b,o,none⟩)/\W.heap.size<=w1.heap.size:=
 ⟨fun b o h=>hb.cell (p:=⟨b,o,none⟩) h,fun b o h=>hb.frozen (p:=⟨b,o,none⟩) h,hb.size⟩
theorem bkn {W w1:World} (hb:Below W.heap.size W w1) (n:Nat) (hn:n<=W.heap.size):(∀b o,b<n->w1.cell? ⟨b,o,none⟩=W.cell? ⟨b,o,none⟩)/\(∀b o,b<n->w1.frozen? ⟨b,o,none⟩=W.frozen? ⟨b,o,none⟩)/\n<=w1.heap.size:=
 ⟨fun b o h=>hb.cell (p:=⟨b,o,none⟩) (Nat.lt_of_lt_of_le h hn),fun b o h=>hb.frozen (p:=⟨b,o,none⟩) (Nat.lt_of_lt_of_le h hn),Nat.le_trans hn hb.size⟩
def Df (w:World) (b off:Nat) (cs:List Value):Prop:=∀j u,cs[j]? =some u->w.cell? ⟨b,off+j,none⟩=some u
def Rd {α:Type} (size:Nat) (R:World->List Value->α->Prop) (w:World) (v:Value) (l:List α):Prop:=
 ∃ A c, v = .slice A l.length c /\ l.length <= c /\ c <= maxLen /\ (0 < l.length -> ∃ b off, A = some ⟨b, off, none⟩ /\ b < w.heap.size /\
   ∀i x,l[i]? =some x->∃cs,cs.length=size/\R w cs x/\Df w b (off+i*size) cs)
def RU {α:Type} (R:World->List Value->α->Prop):Prop:=∀w w' cs x,R w cs x->Below w.heap.size w w'->R w' cs x
theorem Df.below {w w':World} {b off:Nat} {cs:List Value} (h:Df w b off cs) (hb:b<w.heap.size) (a6:Below w.heap.size w w'):Df w' b off cs:=
 fun j u hj=>(a6.cell (p:=⟨b,off+j,none⟩) hb).trans (h j u hj)
theorem Rd.below {α:Type} {size:Nat} {R:World->List Value->α->Prop} (hR:RU R) {w w':World} {v:Value} {l:List α} (h:Rd size R w v l) (hb:Below w.heap.size w w'):Rd size R w' v l:=by
 obtain⟨A,c,rfl,h1,h2,h3⟩:=h;refine⟨A,c,rfl,h1,h2,fun hn=> ?_⟩;obtain⟨b,off,e,hlt,hc⟩:=h3 hn;refine⟨b,off,e,Nat.lt_of_lt_of_le hlt hb.size,fun i x hx=> ?_⟩;obtain⟨cs,hl,hr,a6⟩:=hc i x hx;exact⟨cs,hl,hR _ _ _ _ hr hb,a6.below hlt hb⟩
def RE {α:Type} (enc:α->List Value) (_:World) (cs:List Value) (x:α):Prop:=cs=enc x
theorem RE.stays {α:Type} {enc:α->List Value}:RU (RE enc):=fun _ _ _ _ h _=>h
@[reducible] def aW (x:Int):List Value:=[.int .i64 x]
@[reducible] def vS (x:Int):List Value:=[.int .u8 x]
@[reducible] def fJ (x:ByteArray):List Value:=[.string x]
@[reducible] def OD (x:Bool):List Value:=[.bool x]
@[reducible] def dM (x:Int×Int):List Value:=[.int .i64 x.1,.int .i64 x.2]
@[reducible] def mM (x:Int×Int×Int):List Value:=[.int .i64 x.1,.int .i64 x.2.1,.int .i64 x.2.2]
@[reducible] def Tg (x:Int×Int×Int×Int):List Value:=[.int .i64 x.1,.int .i64 x.2.1,.int .i64 x.2.2.1,.int .i64 x.2.2.2]
@[reducible] def aV (x:Int×Int×Bool):List Value:=[.int .i64 x.1,.int .i64 x.2.1,.bool x.2.2]
theorem Rd.Tj{α:Type} {size:Nat} {R:World->List Value->α->Prop} {w w':World} {v:Value} {l:List α} (h:Rd size R w v l) (hb:Below w.heap.size w w') (hR:RU R:=by exact RE.stays):Rd size R w' v l:=h.below hR hb
abbrev aZ:=RE aW
abbrev Te:=RE fJ
abbrev bT:=RE dM
abbrev SI:=RE mM
abbrev aQ:=RE aV
theorem Rd.form {α:Type} {size:Nat} {R:World->List Value->α->Prop} {w:World} {v:Value} {l:List α} (h:Rd size R w v l):∃A c,v= .slice A l.length c/\l.length<=c/\l.length<=9223372036854775807:=by
 obtain⟨A,c,h0,h1,h2,_⟩:=h;exact⟨A,c,h0,h1,by unfold maxLen at h2;omega⟩
theorem Rd.at_ {α:Type} {enc:α->List Value} {size:Nat} {w:World} {A:Option Addr} {n c:Nat} {l:List α} (h:Rd size (RE enc) w (.slice A n c) l) {k:Nat} (hk:k<l.length):
 ∃b off,A=some ⟨b,off,none⟩/\b<w.heap.size/\∀j u,(enc l[k])[j]? =some u->w.cell? ⟨b,off+k*size+j,none⟩=some u:=by
 obtain⟨A',c',e,h1,h2,h3⟩:=h;injection e with e1 e2 e3;subst e1;obtain⟨b,off,e,hlt,hc⟩:=h3 (by omega);obtain⟨cs,hl,hr,a6⟩:=hc k l[k] (Tm hk);unfold RE at hr;subst hr;exact⟨b,off,e,hlt,fun j u hu=>a6 j u hu⟩
section
variable {w : World} {A : Option Addr} {n c k : Nat}
theorem Rd.uX {l:List Int} (h:Rd 1 aZ w (.slice A n c) l) (hk:k<l.length):∃b off,A=some ⟨b,off,none⟩/\b<w.heap.size/\w.cell? ⟨b,off+k,none⟩=some (.int .i64 l[k]):=by
 obtain⟨b,off,e,hlt,hc⟩:=h.at_ hk;exact⟨b,off,e,hlt,by simpa using hc 0 _ rfl⟩
theorem Rd.KS {l:List ByteArray} (h:Rd 1 Te w (.slice A n c) l) (hk:k<l.length):∃b off,A=some ⟨b,off,none⟩/\b<w.heap.size/\w.cell? ⟨b,off+k,none⟩=some (.string l[k]):=by
 obtain⟨b,off,e,hlt,hc⟩:=h.at_ hk;exact⟨b,off,e,hlt,by simpa using hc 0 _ rfl⟩
theorem Rd.iR {l:List (Int×Int)} (h:Rd 2 bT w (.slice A n c) l) (hk:k<l.length):
 ∃b off,A=some ⟨b,off,none⟩/\b<w.heap.size/\w.cell? ⟨b,off+k*2,none⟩=some (.int .i64 l[k].1)/\w.cell? ⟨b,off+k*2+1,none⟩=some (.int .i64 l[k].2):=by
 obtain⟨b,off,e,hlt,hc⟩:=h.at_ hk;exact⟨b,off,e,hlt,by simpa using hc 0 _ rfl,hc 1 _ rfl⟩
theorem Rd.Qn {l:List (Int×Int×Int)} (h:Rd 3 SI w (.slice A n c) l) (hk:k<l.length):
 ∃b off,A=some ⟨b,off,none⟩/\b<w.heap.size/\w.cell? ⟨b,off+k*3,none⟩=some (.int .i64 l[k].1)/\w.cell? ⟨b,off+k*3+1,none⟩=some (.int .i64 l[k].2.1)/\w.cell? ⟨b,off+k*3+2,none⟩=some (.int .i64 l[k].2.2):=by
 obtain⟨b,off,e,hlt,hc⟩:=h.at_ hk;exact⟨b,off,e,hlt,by simpa using hc 0 _ rfl,hc 1 _ rfl,hc 2 _ rfl⟩
theorem Rd.kE {l:List (Int×Int×Bool)} (h:Rd 3 aQ w (.slice A n c) l) (hk:k<l.length):
 ∃b off,A=some ⟨b,off,none⟩/\b<w.heap.size/\w.cell? ⟨b,off+k*3,none⟩=some (.int .i64 l[k].1)/\w.cell? ⟨b,off+k*3+1,none⟩=some (.int .i64 l[k].2.1)/\w.cell? ⟨b,off+k*3+2,none⟩=some (.bool l[k].2.2):=by
 obtain⟨b,off,e,hlt,hc⟩:=h.at_ hk;exact⟨b,off,e,hlt,by simpa using hc 0 _ rfl,hc 1 _ rfl,hc 2 _ rfl⟩
end
end Go.Proofs.YtjijonhkofhikaaGreatDoor
namespace Go.Proofs.YtjijonhkofhikaaGreatDoor
open Go.ChangeShapes Go.WideShapes Go.RowKit Go.Deep
theorem own:ownKnob Tryz.prog.godebug=none:=by kernel_rfl
theorem laidOut:laidOutB prog=true:=by kernel_rfl
end Go.Proofs.YtjijonhkofhikaaGreatDoor
namespace Go.Proofs.YtjijonhkofhikaaGreatDoor
open Go.RowKit
def inB (n a b:Int):Bool:=decide (a<=n)&&decide (n<=b)
theorem dI (n a b:Int) (w:World):
 Calls prog 46 #[.int .i64 n,.int .i64 a,.int .i64 b] w (Pure (.bool (inB n a b)) w):=by
 go_enter Tryz.func46,Tryz.ntmps46
 go_wp2
 all_goals go_ret
 all_goals exact⟨by simp_all [inB]<;>omega,rfl⟩
theorem iY (n a b:Int) (w:World):
 Calls prog 65 #[.int .i64 n,.int .i64 a,.int .i64 b] w (Pure (.bool (inB n a b)) w):=by
 go_enter Tryz.func65,Tryz.ntmps65
 go_wp2
 all_goals go_ret
 all_goals exact⟨by simp_all [inB]<;>omega,rfl⟩
def dV:List (Int×Int)->Int->Bool
  |[],n=>inB n 1 5
  |x::xs,n=>if !inB x.1 1 50|| !inB x.2 1 1000 then false else dV xs n
theorem kM (v:Value) (l:List (Int×Int)) (w:World) (h:Rd 2 bT w v l):
 Calls prog 153 #[v] w (Ret (.bool (dV l l.length)) w):=by
 obtain⟨A,c,rfl,hc,hm⟩:=h.form;go_enter Tryz.func153,Tryz.ntmps153
 go_wp2;go_loopw [7] (fun i wr=>∃k:Nat,k<=l.length/\i= .int .i64 k/\Hid (dV (l.drop k) l.length=dV l l.length)/\Below w.heap.size w wr) (fun i _=>l.length-(intOf i).toNat)
 case atStart=>exact⟨0,TB _,rfl,Tk rfl,Below.refl _ _⟩
 case round=>
  obtain⟨k,hk,rfl,Hg,a6⟩:=hrel;by_cases hlt:k<l.length
  . obtain⟨b,off,rfl,hb,h1,h2⟩:=(h.Tj a6).iR hlt;go_wp2_with (go_at_call 46;(with_reducible refine(dI _ _ _ _).mono ?_);rintro e w' ⟨rfl,rfl⟩)
    all_goals first
      | (go_roundw
         case rel=>exact⟨k+1,by omega,by go_num,Tk (by rw[<-Hg.out,Tn hlt];simp_all [dV]),by exact Below.alloc a6 a6.size _⟩
         case measure=>simp[intOf];omega)
      | (go_ret
         exact⟨by congr 2;rw[<-Hg.out,Tn hlt];simp_all [dV],Below.alloc a6 a6.size _⟩)
  . go_wp2_with (go_at_call 46;(with_reducible refine(dI _ _ _ _).mono ?_);rintro e w' ⟨rfl,rfl⟩)
    go_ret;have a7:k=l.length:=(by omega);exact⟨by congr 2;rw[<-Hg.out,a7,List.drop_length];rfl,a6⟩
theorem lT (v:Value) (l:List (Int×Int)) (w:World) (h:Rd 2 bT w v l):
 Calls prog 178 #[v] w (Pure (.bool (dV l l.length)) w):=by
 obtain⟨A,c,rfl,hc,hm⟩:=h.form;go_enter Tryz.func178,Tryz.ntmps178
 go_wp2;go_loop [3] (fun i=>∃k:Nat,k<=l.length/\i= .int .i64 k/\Hid (dV (l.drop k) l.length=dV l l.length)) (fun i=>l.length-(intOf i).toNat)
 case atStart=>exact⟨0,TB _,rfl,Tk rfl⟩
 case round=>
  obtain⟨k,hk,rfl,Hg⟩:=hrel;by_cases hlt:k<l.length
  . obtain⟨b,off,rfl,hb,h1,h2⟩:=h.iR hlt;go_wp2_with (go_at_call 65;(with_reducible refine(iY _ _ _ _).mono ?_);rintro e w' ⟨rfl,rfl⟩)
    all_goals first
      | (go_round
         case rel=>exact⟨k+1,by omega,by go_num,Tk (by rw[<-Hg.out,Tn hlt];simp_all [dV])⟩
         case measure=>simp[intOf];omega)
      | (go_ret
         exact⟨lJ (by rw[<-Hg.out,Tn hlt];simp_all [dV]),rfl⟩)
  . go_wp2_with (go_at_call 65;(with_reducible refine(iY _ _ _ _).mono ?_);rintro e w' ⟨rfl,rfl⟩)
    go_ret;have a6:k=l.length:=(by omega);exact⟨lJ (by rw[<-Hg.out,a6,List.drop_length];rfl),rfl⟩
def aD {α:Type} (E:TypeId) (size:Nat) (enc:α->List Value) (B:Nat) (w:World) (v:Value) (l:List α):Prop:=w.ownsRow B E size v l.length (l.flatMap enc)
def fM {α:Type} (E:TypeId) (size:Nat) (enc:α->List Value) (l:List α) (w:World) (e:Ending) (w':World):Prop:=
 ∃A c,e= .returned (.slice A l.length c)/\aD E size enc w.heap.size w' (.slice A l.length c) l/\Below w.heap.size w w'
def Dh {α:Type} (k:Nat) (m l:List α):Prop:=m.length=l.length/\m.take k=l.take k
theorem Dh.start {α:Type} (m l:List α) (h:m.length=l.length):Dh 0 m l:=⟨h,rfl⟩
theorem Dh.step {α:Type} {k:Nat} {m l:List α} (h:Dh k m l) (hk:k<l.length):Dh (k+1) (m.set k l[k]) l:=by
 refine⟨by rw[Tp];exact h.1,?_⟩;refine Tq fun i=> ?_
 by_cases h1:i<k+1
 . rw[Tt h1,Tt h1];by_cases h2:i=k
   . subst h2;rw[Tu (by rw[h.1];exact hk)];exact(Tm hk).symm
   . rw [Tv (by omega)];have:=congrArg (fun x=>x[i]?) h.2;simpa[Tt (show i<k by omega)]using this
 . rw[Tw (by simp;omega),Tw (by simp;omega)]
theorem Dh.done {α:Type} {k:Nat} {m l:List α} (h:Dh k m l) (hk:l.length<=k):m=l:=by
 have:=h.2;rwa [Tx (by rw[h.1];exact hk),Tx hk]at this
section
variable {α : Type} {E : TypeId} {size : Nat} {enc : α -> List Value} {B : Nat} {w w' : World} {v : Value} {l : List α}
theorem iB (a6:∀x,(enc x).length=size) (l:List α):(l.flatMap enc).length=l.length*size:=by
 induction l with
 |nil=>simp
 |cons x l ih=>rw[Ty,List.length_append,ih,a6,List.length_cons,TC];omega
theorem Ih (a6:∀x,(enc x).length=size) (hs:0<size):∀(l:List α) (i:Nat) (x:α),l[i]? =some x->∀j u,(enc x)[j]? =some u->(l.flatMap enc)[i*size+j]? =some u:=by
 intro l;induction l with
 |nil=>intro i x h;simp at h
 |cons y l ih=>
  intro i x h j u hu;rw[Ty];cases i with
  |zero=>
   simp at h;subst h;rw[List.getElem?_append_left (by rw[TD,TE];exact(List.getElem?_eq_some_iff.1 hu).1),TD,TE];exact hu
  |succ i=>
   simp at h;rw[Tz (by rw[a6,TC];omega),a6];have:=ih i x h j u hu;rw[<-this];congr 1;rw[TC];omega
theorem aD.form (h:aD E size enc B w v l):∃A c,v= .slice A l.length c/\l.length<=c/\c<=maxLen:=by
 rcases h.2 with⟨rfl,hn⟩|⟨g,cap,cur,rfl,_,_,hc,hm,_⟩
 . exact⟨none,0,by rw[hn],by omega,by simp[maxLen]⟩
 . exact⟨_,cap,rfl,hc,hm⟩
theorem aD.Di:aD E size enc B w (.slice none 0 0) ([]:List α):=World.ownsRow_nil _ _ _ _
theorem aD.below (h:aD E size enc B w v l) (hb:Below w.heap.size w w'):aD E size enc B w' v l:=by
 refine World.ownsRow.kept h (row:=none) ⟨hb.os,hb.tape,hb.output,hb.size,fun k hk _=>hb.block k hk⟩ ?_;cases v.ownBlock<;>simp
theorem aD.drewN (h:aD E size enc B w v l) (k:Nat):aD E size enc B (w.drewN k) v l:=h.below (below_drewN (Below.refl _ _) k)
theorem aD.alloc (h:aD E size enc B w v l) (o:Obj):aD E size enc B (w.alloc o) v l:=World.ownsRow.alloc h o
theorem aD.mono {B':Nat} (h:aD E size enc B w v l) (hb:B'<=B):aD E size enc B' w v l:=Go.Joins.ownsRow_le h hb
theorem aD.far (h:aD E size enc B w v l) {a:Addr} (ha:v.ownBlock≠some a.block) (u:Value):aD E size enc B (w.setCell a u) v l:=ownsRow_setCell_other h ha u
theorem aD.rd (h:aD E size enc B w v l) (a6:∀x,(enc x).length=size) (hs:0<size):Rd size (RE enc) w v l:=by
 have h':=h;rcases h.2 with⟨rfl,hn⟩|⟨g,cap,cur,rfl,hg,hh,hc,hm,hsz,hx⟩
 . exact⟨none,0,by rw[hn],by omega,by simp[maxLen],fun h=>absurd h (by omega)⟩
 . refine ⟨_, cap, rfl, hc, hm, fun hn => ⟨g, 0, rfl, ?_, fun i x a7 => ⟨enc x, a6 x, rfl, fun j u hu => ?_⟩⟩⟩
   . exact(World.ownsRow.lt h' g rfl).2
   . have:=World.ownsRow.cells h' (g:=g) rfl _ _ (Ih a6 hs l i x a7 j u hu)
     have e:(Addr.mk g 0 none).add (i*size+j)=⟨g,0+i*size+j,none⟩:=by
      unfold Addr.add;split
      . simp_all
      . simp
     rw[e]at this;exact this
end
theorem JV {α:Type} {enc:α->List Value} {size:Nat} (a6:∀x,(enc x).length=size):∀(l:List α) (k:Nat) (y:α),k<l.length->(l.set k y).flatMap enc=(l.flatMap enc).take (k*size)++enc y++(l.flatMap enc).drop (k*size+size):=by
 intro l;induction l with
 |nil=>intro k y h;simp at h
 |cons x l ih=>
  intro k y h;cases k with
  |zero=>simp[a6]
  |succ k=>
   rw [List.set_cons_succ, Ty, ih k y (by simpa using h), Ty, List.take_append, List.drop_append, a6,
     Tx (l:=enc x) (i:=(k+1)*size) (by rw[a6,TC];omega),List.drop_of_length_le (l:=enc x) (i:=(k+1)*size+size) (by rw[a6,TC];omega)]
   rw[show(k+1)*size-size=k*size by rw[TC];omega,show(k+1)*size+size-size=k*size+size by rw[TC];omega];simp[List.append_assoc]
section
variable {α : Type} {E : TypeId} {size : Nat} {enc : α -> List Value} {B : Nat} {w : World} {l : List α} {g n c k : Nat}
theorem aD.slot (h:aD E size enc B w (.slice (some ⟨g,0,none⟩) n c) l) (a6:∀x,(enc x).length=size) (hs:0<size) (hk:k<l.length):∀j u,(enc l[k])[j]? =some u->w.cell? ⟨g,k*size+j,none⟩=some u:=by
 intro j u hu;have:=World.ownsRow.cells h (g:=g) rfl _ _ (Ih a6 hs l k _ (Tm hk) j u hu)
 have e:(Addr.mk g 0 none).add (k*size+j)=⟨g,k*size+j,none⟩:=by
  unfold Addr.add;split
  . simp_all
  . simp
 rw[e]at this;exact this
theorem aD.free (h:aD E size enc B w (.slice (some ⟨g,0,none⟩) n c) l) (j:Nat):w.frozen? ⟨g,j,none⟩=false:=by
 have hn:l.length=n:=by
  rcases h.2 with⟨e,_⟩|⟨g',cap,cur,e,_⟩<;>injection e with e1 e2 e3
  . cases e1
  . exact e2.symm
 unfold aD at h;rw[hn]at h;exact World.ownsRow.frozenAt h j
theorem aD.at_ (h:aD E size enc B w (.slice (some ⟨g,0,none⟩) n c) l):l.length=n/\B<=g/\g<w.heap.size:=by
 refine⟨?_,World.ownsRow.lt h g rfl⟩;rcases h.2 with⟨e,_⟩|⟨g',cap,cur,e,_⟩<;>injection e with e1 e2 e3
 . cases e1
 . exact e2.symm
theorem aD.pos {v:Value} (h:aD E size enc B w v l) (hn:0<l.length):∃g c,v= .slice (some ⟨g,0,none⟩) l.length c/\B<=g/\g<w.heap.size:=by
 obtain⟨g,c,rfl⟩:=Go.Joins.ownsRow_form h hn;exact⟨g,c,rfl,World.ownsRow.lt h g rfl⟩
theorem aD.split {A:Option Addr} (h:aD E size enc B w (.slice A n c) l) (hk:k<l.length):∃g,A=some ⟨g,0,none⟩/\B<=g/\g<w.heap.size:=by
 obtain⟨g,c',e,h1,h2⟩:=h.pos (by omega);injection e with e1 e2 e3;exact⟨g,e1,h1,h2⟩
theorem aD.Cv (h:aD E 1 enc B w (.slice (some ⟨g,0,none⟩) n c) l) (a6:∀x,(enc x).length=1) (hk:k<l.length):∃u,w.cell? ⟨g,k,none⟩=some u:=by
 have hl:=a6 l[k];exact⟨_,by simpa using h.slot a6 (by decide) hk 0 _ (Tm (by omega))⟩
theorem aD.Dl (h:aD E 3 enc B w (.slice (some ⟨g,0,none⟩) n c) l) (a6:∀x,(enc x).length=3) (hk:k<l.length):∃u v z,w.cell? ⟨g,k*3,none⟩=some u/\w.cell? ⟨g,k*3+1,none⟩=some v/\w.cell? ⟨g,k*3+2,none⟩=some z:=by
 have hl:=a6 l[k];exact⟨_,_,_,by simpa using h.slot a6 (by decide) hk 0 _ (Tm (by omega)),h.slot a6 (by decide) hk 1 _ (Tm (by omega)),h.slot a6 (by decide) hk 2 _ (Tm (by omega))⟩
theorem Fx (xs:List Value) (i:Nat) (u:Value) (h:i<xs.length):xs.set i u=xs.take i++[u]++xs.drop (i+1):=by
 rw[List.set_eq_take_append_cons_drop,if_pos h];simp
theorem aD.kI (h:aD E 1 enc B w (.slice (some ⟨g,0,none⟩) n c) l) (a6:∀x,(enc x).length=1) (hk:k<l.length) {y:α} {u:Value} (hy:enc y=[u]):aD E 1 enc B (w.setCell ⟨g,k,none⟩ u) (.slice (some ⟨g,0,none⟩) n c) (l.set k y):=by
 have hn:=h.at_.1;have hf:=iB a6 l;subst hn;unfold aD at h⊢;rw[Tp];have:=(World.ownsRow.stored h k u).1;rw[JV a6 l k y (by omega),hy];rw[Fx _ _ _ (by omega)]at this;simpa using this
theorem aD.QU {z:α} (h:aD E 1 enc B w (.slice (some ⟨g,0,none⟩) n c) (l.set k z)) (a6:∀x,(enc x).length=1) (hk:k<l.length) {y:α} {u:Value} (hy:enc y=[u]):aD E 1 enc B (w.setCell ⟨g,k,none⟩ u) (.slice (some ⟨g,0,none⟩) n c) (l.set k y):=by
 have:=h.kI a6 (k:=k) (y:=y) (by rw[Tp];exact hk) hy;rwa [List.set_set]at this
theorem aD.xR (h:aD E 3 enc B w (.slice (some ⟨g,0,none⟩) n c) l) (a6:∀x,(enc x).length=3) (hk:k<l.length) {y:α} {u v z:Value} (hy:enc y=[u,v,z]):
 aD E 3 enc B (((w.setCell ⟨g,k*3,none⟩ u).setCell ⟨g,k*3+1,none⟩ v).setCell ⟨g,k*3+2,none⟩ z) (.slice (some ⟨g,0,none⟩) n c) (l.set k y):=by
 have hn:=h.at_.1;have hf:=iB a6 l;subst hn;unfold aD at h⊢;rw[Tp];have:=(World.ownsRow.stored (World.ownsRow.stored (World.ownsRow.stored h (k*3) u).1 (k*3+1) v).1 (k*3+2) z).1;rw[JV a6 l k y (by omega),hy]
 have a7:∀(xs:List Value) (m:Nat),m+3<=xs.length->((xs.set m u).set (m+1) v).set (m+2) z=xs.take m++[u,v,z]++xs.drop (m+3):=by
  intro xs m hm;refine Tq fun i=> ?_
  have e1:(List.take m xs).length=m:=by rw[List.length_take];omega
  rw[List.append_assoc];by_cases h1:i<m
  . rw[List.getElem?_append_left (by omega),Tv (by omega),Tv (by omega),Tv (by omega),Tt h1]
  . rw [Tz (by omega), e1];by_cases h2:i=m
    . subst h2;rw[Tv (by omega),Tv (by omega),Tu (by omega)];simp
    . by_cases h3:i=m+1
      . subst h3;rw[Tv (by omega),Tu (by rw[Tp];omega)];simp[show m+1-m=1 by omega]
      . by_cases h4:i=m+2
        . subst h4;rw[Tu (by rw[Tp,Tp];omega)];simp[show m+2-m=2 by omega]
        . rw [Tv (by omega), Tv (by omega), Tv (by omega)];rw[Tz (by simp;omega),List.getElem?_drop];congr 1;simp;omega
 rw[a7 _ _ (by omega)]at this;exact this
end
theorem IL {α:Type} {enc:α->List Value} (h1:∀x,∀u∈enc x,u.oneCell'=true) (l:List α):∀u∈l.flatMap enc,u.oneCell'=true:=by
 intro u hu;obtain⟨x,_,hx⟩:=List.mem_flatMap.1 hu;exact h1 x u hx
def Row (P:Program) (t E:TypeId) (z:Value) (size bytes:Nat):Prop:=P.underlying t=some (.slice E)/\(P.info? E).map (fun i=>(i.zero,i.size,i.bytes))=some (some z,size,bytes)/\z.cells.size=size/\0<size
theorem aF {P:Program} {ops:Array Oper} {rest:List Oper} {o:Oper} {a:Act} {Q:Exit->Act->World->Prop} {α:Type} {t E:TypeId} {z:Value} {size bytes:Nat} (R:Row P t E z size bytes)
    {enc:α->List Value} (a6:∀x,(enc x).length=size) (h1:∀x,∀u∈enc x,u.oneCell'=true)
    {W0 w:World} (a7:Below W0.heap.size W0 w) {v:Value} {l:List α} (hown:aD E size enc W0.heap.size w v l) (y:α)
    (hlen:(l.length+1)*bytes<=140737488355328) (a8:l.length+1<=maxLen)
    (hgd:o.guard=none) (s x:Operand) (ho:o.op= .call {callee:= .builtin .append,args:= #[s,x],argTypes:= #[t,t]})
    (hs:a.eval s=v) (hx:a.eval x= .slice (some ⟨w.heap.size,0,none⟩) 1 1)
    (h:∀v' w',aD E size enc W0.heap.size w' v' (l++[y])->Below W0.heap.size W0 w'->(w.alloc (.cells (enc y).toArray E)).grownBy w' v.ownBlock->(v'.ownBlock=v.ownBlock∨v'.ownBlock=some (w.heap.size+1))->wpList P ops Q rest (a.put o.dst v') w'):
    wpList P ops Q (o::rest) a (w.alloc (.cells (enc y).toArray E)):=by
 obtain⟨ht,bA,hzs,hsz⟩:=R;obtain⟨i0,hi,hz0,hz1,hz2⟩:=info_parts bA;have hne:(enc y).length=size:=a6 y
 obtain⟨v',w',hrun,h2,h3,_,h5⟩:=run_append_own_at (P:=P) (w.alloc (.cells (enc y).toArray E)) W0.heap.size t o.type E i0 z size bytes ht hi hz0 hz1 hz2 hzs hsz v l.length (l.flatMap enc) (World.ownsRow.alloc hown _)
   ⟨w.heap.size, 0, none⟩ 1 1 (enc y) (by rw [a6]; omega) (fun j u hj => by
    have hb:=World.ownsRow.cells (w:=w.alloc (.cells (enc y).toArray E)) (base:=0) (e:=E) (size:=size) (v:= .slice (some ⟨w.heap.size,0,none⟩) 1 1) (n:=1) (xs:=enc y)
      ⟨by rw[a6];omega,.inr ⟨w.heap.size,1,(enc y).toArray,rfl,by omega,heap_alloc_new w _,by omega,by simp[maxLen],by simp[a6],by simp[a6,Tx]⟩⟩ (g:=w.heap.size) rfl
    exact hb j u hj) (h1 y) a8 hlen (by have:=a7.size;simp;omega)
 refine wpList_plain hgd fun _ hK=> ?_
 unfold Oper.wp execOp;simp only[ho,resolve,invoke,builtin,Sem.run_bind,Sem.run_pure,Result.andThen_ok,List.map_toArray,List.map_cons,List.map_nil,hs,hx,hrun];refine hK _ _ (h v' w' ?_ ?_ h3 (by simpa using h5))
 . unfold aD;rw[List.length_append,List.flatMap_append,List.length_singleton];simpa using h2
 . refine (a7.al _).grown h3 (by have := (a7.al (.cells (enc y).toArray E)).size; exact this) (fun k hk => ?_);exact(World.ownsRow.lt hown k hk).1
theorem OM {α:Type} {enc:α->List Value} {z0:α} {size:Nat} (a6:∀x,x=z0->(enc x).length=size):∀(n i j:Nat) (u:Value),i<n->(enc z0)[j]? =some u->((TA n z0).flatMap enc)[i*size+j]? =some u:=by
 intro n;induction n with
 |zero=>intro i j u h;omega
 |succ n ih=>
  intro i j u h hu;rw[List.replicate_succ,Ty];cases i with
  |zero=>rw[List.getElem?_append_left (by rw[TD,TE];exact(List.getElem?_eq_some_iff.1 hu).1),TD,TE];exact hu
  |succ i=>
   rw[Tz (by rw[a6 _ rfl,TC];omega),a6 _ rfl];have:=ih i j u (by omega) hu;rw[<-this];congr 1;rw[TC];omega
theorem FR {P:Program} {ops:Array Oper} {rest:List Oper} {o:Oper} {a:Act} {Q:Exit->Act->World->Prop} {α:Type} {t E:TypeId} {z:Value} {size bytes:Nat} (R:Row P t E z size bytes)
    {enc:α->List Value} {z0:α} (hz:z.cells.toList=enc z0)
    {W0 w:World} (a6:Below W0.heap.size W0 w) (n:Nat) (hn:bytes*n<=281474976710656) (bA:n<=maxLen)
    (hgd:o.guard=none) (s x:Operand) (hop:o.op=Op.makeSlice t s x) {kl kc:IntKind}
    (hs:a.eval s= .int kl n) (hx:a.eval x= .int kc n)
    (h:∀w',aD E size enc W0.heap.size w' (.slice (some ⟨w.heap.size,0,none⟩) n n) (TA n z0)->Below W0.heap.size W0 w'->w.grownBy w' none->wpList P ops Q rest (a.put o.dst (.slice (some ⟨w.heap.size,0,none⟩) n n)) w'):
    wpList P ops Q (o::rest) a w:=by
 obtain⟨ht,a7,hzs,hsz⟩:=R;obtain⟨i0,hi,hz0,hz1,hz2⟩:=info_parts a7;refine wpList_make_full w hgd s x t hop W0.heap.size E i0 z size ht hi hz0 hz1 kl kc n n n hs hx rfl rfl (by rw[hz2];exact hn) bA a6.size fun w' hown hg=> ?_
 refine h w' ?_ (a6.grown hg a6.size (fun k hk=>by cases hk)) hg;unfold aD
 have e:(TA n z0).flatMap enc=(madeCells z.cells (n*size)).toList:=by
  have a8:∀x:α,x=z0->(enc x).length=size:=fun x hx=>by rw[hx,<-hz];simpa using hzs
  have hlen:((TA n z0).flatMap enc).length=n*size:=by
   rw[List.flatMap_replicate];simp[a8 z0 rfl]
  refine Tq fun i=> ?_
  by_cases hi:i<n*size
  . have h1 : (TA n z0)[i / size]? = some z0 := by rw [List.getElem?_replicate, if_pos (Nat.div_lt_of_lt_mul (by rw [TF]; exact hi))]
    have hm:i%size<z.cells.size:=by
     rw[hzs];exact Nat.mod_lt _ hsz
    have h2:(enc z0)[i%size]? =some z.cells[i%size]:=by rw[<-hz];simp[hm]
    have h3:((TA n z0).map enc).flatten[i/size*size+i%size]? =some z.cells[i%size]:=by
     have:=OM a8 n (i/size) (i%size) z.cells[i%size] (Nat.div_lt_of_lt_mul (by rw[TF];exact hi)) h2;simpa[List.flatMap]using this
    have h4:i/size*size+i%size=i:=by rw[TF];exact Nat.div_add_mod i size
    rw[h4]at h3;rw[show(TA n z0).flatMap enc=((TA n z0).map enc).flatten from rfl,h3];simp only[madeCells,Array.toList_map,Array.toList_range,List.getElem?_map,List.getElem?_range hi,Option.map_some];congr 1
    have:i%z.cells.size<z.cells.size:=by rw[hzs];exact Nat.mod_lt _ hsz
    rw[getElem!_pos z.cells _ this];simp only[hzs]
  . rw[Tw (by omega),Tw (by simp[size_madeCells];omega)]
 rw[e];simpa using hown
theorem mQ {P:Program} {ops:Array Oper} {rest:List Oper} {o:Oper} {a:Act} {Q:Exit->Act->World->Prop} {α:Type} {t E:TypeId} {z:Value} {size bytes:Nat} (R:Row P t E z size bytes)
    {enc:α->List Value} {z0:α} (hz:z.cells.toList=enc z0)
    {W0 w:World} (a6:Below W0.heap.size W0 w) (n:Nat) (hn:bytes*n<=281474976710656) (a7:n<=maxLen) (L:Int) (hL:L=n)
    (hgd:o.guard=none) (s x:Operand) (hop:o.op=Op.makeSlice t s x) {kl kc:IntKind}
    (hs:a.eval s= .int kl L) (hx:a.eval x= .int kc L)
    (h:∀w',aD E size enc W0.heap.size w' (.slice (some ⟨w.heap.size,0,none⟩) n n) (TA n z0)->Below W0.heap.size W0 w'->w.grownBy w' none->wpList P ops Q rest (a.put o.dst (.slice (some ⟨w.heap.size,0,none⟩) n n)) w'):
    wpList P ops Q (o::rest) a w:=by
 subst hL;exact FR R hz a6 n hn a7 hgd s x hop hs hx h
theorem dB {w w':World} {g:Nat} (h:w.grownBy w' (some g)) (i:Nat) (u:Value):w.grownBy (w'.setCell ⟨g,i,none⟩ u) (some g):=
 ⟨h.os,h.tape,h.output,by simpa using h.size,fun k hk hne=>(Below.heap_setCell _ _ _ _ (by simp;intro e;exact hne (by rw[e]))).trans (h.block k hk hne)⟩
def R7 (r:Value) (v:Value) (F:World->Prop) (w:World) (e:Ending) (w':World):Prop:=e= .returned r/\F w'/\w.grownBy w' v.ownBlock
theorem take_set {α:Type} {m:List α} {j:Nat} (y:α) (h:j<m.length):(m.set j y).take (j+1)=m.take j++[y]:=by
 refine Tq fun i=> ?_
 by_cases h1:i<j+1
 . rw[Tt h1];by_cases h2:i=j
   . subst h2;rw[Tu h,Tz (by simp;omega)];simp[List.length_take,Nat.min_eq_left (Nat.le_of_lt h)]
   . rw[Tv (by omega),List.getElem?_append_left (by simp;omega),Tt (by omega)]
 . rw[Tw (by simp;omega),Tw (by simp;omega)]
theorem str_inj {a b:ByteArray}:(a.toList=b.toList)↔(a=b):=by
 refine⟨fun h=> ?_,fun h=>by rw[h]⟩;rw[ByteArray.toList_eq,ByteArray.toList_eq]at h;exact Go.WideShapes.bytes_inj h
section
variable {α : Type} [DecidableEq α] {l m : List α} {k : Nat} {r : Bool}
omit [DecidableEq α] in
theorem JW (h:k<l.length) (h':k<m.length):(l.drop k=m.drop k)↔(l[k]=m[k]/\l.drop (k+1)=m.drop (k+1)):=by
 rw[Tn h,Tn h'];exact⟨fun e=>by injection e with a b;exact⟨a,b⟩,fun⟨a,b⟩=>by rw[a,b]⟩
theorem LW (H:Hid (decide (l.drop k=m.drop k)=r)) (h:k<l.length) (h':k<m.length) (e:l[k]=m[k]):Hid (decide (l.drop (k+1)=m.drop (k+1))=r):=by
 have:=H.out;rw[<-this];exact Tk (by rw[decide_eq_decide,JW h h'];exact⟨fun x=>⟨e,x⟩,fun x=>x.2⟩)
theorem LX (H:Hid (decide (l.drop k=m.drop k)=r)) (h:k<l.length) (h':k<m.length) (e:¬l[k]=m[k]):r=false:=by
 have:=H.out;rw[<-this,decide_eq_false_iff_not,JW h h'];exact fun x=>e x.1
theorem Ii (H:Hid (decide (l.drop k=m.drop k)=r)) (h:l.length<=k) (h':m.length<=k):r=true:=by
 have:=H.out;rw[List.drop_of_length_le h,List.drop_of_length_le h']at this;rw[<-this];simp
end
end Go.Proofs.YtjijonhkofhikaaGreatDoor
namespace Go.Proofs.YtjijonhkofhikaaGreatDoor
open Go.ChangeShapes Go.WideShapes Go.ChangeAt Go.RowKit
def jW (k a b:Int):Bool:=
 if k==1 then inB a 0 7&&inB b 0 7
 else if k==2 then inB a 0 31&&b==0
 else if k==3 then inB a 1 100&&b==0
 else(k==4||k==5)&&a==0&&b==0
theorem mR (k a b:Int) (w:World):
 Calls prog 44 #[.agg #[.int .i64 k,.int .i64 a,.int .i64 b]] w (Ret (.bool (jW k a b)) w):=by
 go_enter Tryz.func44,Tryz.ntmps44
 go_wp2_with (go_at_call 46;(with_reducible refine(dI _ _ _ _).mono ?_);rintro e w' ⟨rfl,rfl⟩)
 all_goals go_ret
 all_goals exact⟨by simp_all [jW],(Below.refl _ _).al _⟩
theorem Jk (a b:Int) (w:World):
 Calls prog 164 #[.agg #[.int .i64 a,.int .i64 b]] w (Ret (.bool (inB a 0 7&&inB b 0 7)) w):=by
 go_enter Tryz.func164,Tryz.ntmps164
 go_wp2_with (go_at_call 65;(with_reducible refine(iY _ _ _ _).mono ?_);rintro e w' ⟨rfl,rfl⟩)
 all_goals go_ret
 all_goals exact⟨by simp_all,(Below.refl _ _).al _⟩
theorem mU (k a b:Int) (w:World):
 Calls prog 111 #[.agg #[.int .i64 k,.int .i64 a,.int .i64 b]] w (Ret (.bool (jW k a b)) w):=by
 go_enter Tryz.func111,Tryz.ntmps111
 go_wp2_with (first|(go_at_call 65;(with_reducible refine(iY _ _ _ _).mono ?_);rintro e w' ⟨rfl,rfl⟩)|(go_at_call 164;(with_reducible refine(Jk _ _ _).mono ?_);rintro e w1 ⟨rfl,hb1⟩;obtain⟨hc1,a6,hz1⟩:=bk hb1;try simp at hz1))
 all_goals go_ret
 all_goals exact⟨by simp_all [jW],by first|exact(Below.refl _ _).al _|exact((Below.refl _ _).al _).tr hb1⟩
end Go.Proofs.YtjijonhkofhikaaGreatDoor
namespace Go.Proofs.YtjijonhkofhikaaGreatDoor
open Go.RowKit
theorem IM:∀x:Int×Int,(dM x).length=2:=fun _=>rfl
theorem Qo:Row prog 86 134 (.agg #[.int .i64 0,.int .i64 0]) 2 16:=⟨Tryz.underlying86,by kernel_rfl,rfl,by decide⟩
theorem aM:∀x:Int,(aW x).length=1:=fun _=>rfl
theorem jS:∀x:Int,∀u∈aW x,u.oneCell'=true:=by
 intro x u hu;simp[aW]at hu;rcases hu with rfl<;>rfl
theorem fP:Row prog 24 3 (.int .i64 0) 1 8:=⟨Tryz.underlying24,by kernel_rfl,rfl,by decide⟩
end Go.Proofs.YtjijonhkofhikaaGreatDoor
namespace Go.Proofs.YtjijonhkofhikaaGreatDoor
open Go.ChangeShapes Go.WideShapes Go.ChangeAt Go.RowKit
theorem JX (w:World) {E:TypeId} (x y:Int×Int):aD E 2 dM w.heap.size (w.alloc (.cells #[.int .i64 x.1,.int .i64 x.2,.int .i64 y.1,.int .i64 y.2] E)) (.slice (some ⟨w.heap.size,0,none⟩) 2 2) [x,y]:=
 World.ownsRow_lit w _ 2 (Nat.le_refl _) (by simp[maxLen]) rfl
theorem Jl (w:World):Calls prog 55 #[] w (fM 134 2 dM [(6,7),(10,11)] w):=by
 go_enter Tryz.func55,Tryz.ntmps55
 go_wp2;go_ret;exact⟨_,_,rfl,JX w (6,7) (10,11),(Below.refl _ _).al _⟩
theorem Jm (w:World):Calls prog 114 #[] w (fM 134 2 dM [(6,7),(10,11)] w):=by
 go_enter Tryz.func114,Tryz.ntmps114
 go_wp2;go_ret;exact⟨_,_,rfl,JX w (6,7) (10,11),(Below.refl _ _).al _⟩
def jJ (x:Int×Int):Prop:=1<=x.1/\x.1<=50/\1<=x.2/\x.2<=1000
theorem lD:∀(l:List (Int×Int)) (n:Int),dV l n=true->(∀x∈l,jJ x)/\1<=n/\n<=5:=by
 intro l;induction l with
 |nil=>intro n h;simp[dV,inB]at h;exact⟨fun x hx=>(by cases hx),h⟩
 |cons x r ih=>
  intro n h;unfold dV at h;by_cases hx:(!inB x.1 1 50|| !inB x.2 1 1000)=true
  . rw[if_pos hx]at h;cases h
  . rw[if_neg hx]at h;obtain⟨h1,h2⟩:=ih n h;refine⟨fun y hy=> ?_,h2⟩;rcases List.mem_cons.1 hy with rfl|hy
    . simp[inB]at hx;unfold jJ;omega
    . exact h1 y hy
end Go.Proofs.YtjijonhkofhikaaGreatDoor
namespace Go.Proofs.YtjijonhkofhikaaGreatDoor
open Go.RowKit
theorem eB:∀x:Int×Int,(dM x).length=2:=fun _=>rfl
theorem oneCell:∀x:Int×Int,∀u∈dM x,u.oneCell'=true:=by
 intro x u hu;simp[dM]at hu;rcases hu with rfl|rfl<;>rfl
theorem jK:Row prog 28 83 (.agg #[.int .i64 0,.int .i64 0]) 2 16:=⟨Tryz.underlying28,by kernel_rfl,rfl,by decide⟩
theorem aC:∀x:Int×Int×Bool,(aV x).length=3:=fun _=>rfl
theorem aL:∀x:Int×Int×Bool,∀u∈aV x,u.oneCell'=true:=by
 intro x u hu;simp[aV]at hu;rcases hu with rfl|rfl|rfl<;>rfl
theorem aJ:Row prog 27 99 (.agg #[.int .i64 0,.int .i64 0,.bool false]) 3 24:=⟨Tryz.underlying27,by kernel_rfl,rfl,by decide⟩
theorem eZ:∀x:ByteArray,(fJ x).length=1:=fun _=>rfl
theorem nM:∀x:ByteArray,∀u∈fJ x,u.oneCell'=true:=by
 intro x u hu;simp[fJ]at hu;rcases hu with rfl<;>rfl
theorem mW:Row prog 38 9 (.string ByteArray.empty) 1 16:=⟨Tryz.underlying38,by kernel_rfl,rfl,by decide⟩
theorem KT (u v:Value) (l m:List (ByteArray)) (w:World) (h:Rd 1 (RE fJ) w u l) (h':Rd 1 (RE fJ) w v m):Calls prog 15 #[u,v] w (Ret (.bool (decide (l=m))) w):=by
 obtain⟨A,c,rfl,hc,hm⟩:=h.form;obtain⟨A',c',rfl,hc',bC⟩:=h'.form;by_cases hlen:l.length=m.length
 . have hne : ((l.length : Int) != (m.length : Int)) = false := by simp [hlen]
   have a7:=Tk hlen;clear hlen;go_enter func15,ntmps15
   go_wp2;go_loopw [5] (fun i wr=>∃k:Nat,k<=l.length/\i= .int .i64 k/\Hid (decide (l.drop k=m.drop k)=decide (l=m))/\Below w.heap.size w wr) (fun i _=>l.length-(intOf i).toNat)
   case atStart=>exact⟨0,TB _,rfl,Tk rfl,Below.refl _ _⟩
   case round=>
    obtain⟨k,hk,rfl,Hg,a6⟩:=hrel;by_cases hlt:k<l.length
    . have a8 : k < m.length := by have := a7.out; omega
      obtain⟨b,off,rfl,hb,h1⟩:=(h.Tj a6).KS hlt;obtain⟨b',bA,rfl,hb',q1⟩:=(h'.Tj a6).KS a8;have bB:(k:Int)<(m.length:Int):=(by omega);go_wp2_with fail
      go_quiet (fail)
      go_wp2
      all_goals first
        | (go_roundw
           case rel=>exact⟨k+1,by omega,by go_num,LW Hg hlt a8 (by rename_i hx;simpa[str_inj]using hx),below_drewN a6 _⟩
           case measure=>simp[intOf];omega)
        | (go_ret
           exact⟨lJ (LX Hg hlt a8 (by rename_i hx;simpa[str_inj]using hx)).symm,below_drewN a6 _⟩)
    . go_wp2;go_ret;exact⟨lJ (Ii Hg (by omega) (by have:=a7.out;omega)).symm,a6⟩
 . have hne : ((l.length : Int) != (m.length : Int)) = true := by simp; omega
   go_enter func15,ntmps15
   go_wp2;go_ret;exact⟨lJ (by rw[eq_comm,decide_eq_false_iff_not];exact fun e=>hlen (by rw[e])),Below.refl _ _⟩
theorem xS:∀x:Int×Int×Int,(mM x).length=3:=fun _=>rfl
theorem CE:∀x:Int×Int×Int,∀u∈mM x,u.oneCell'=true:=by
 intro x u hu;simp[mM]at hu;rcases hu with rfl|rfl|rfl<;>rfl
theorem CG:Row prog 33 54 (.agg #[.int .i64 0,.int .i64 0,.int .i64 0]) 3 24:=⟨Tryz.underlying33,by kernel_rfl,rfl,by decide⟩
end Go.Proofs.YtjijonhkofhikaaGreatDoor
