/- The distances from a tiling, of the program: the walk. No conditions. The distances from a tiling, of the reference: the walk. No conditions. The flips of a list, of both sides; a number put into a list; the place of a list: the walks. No conditions. -/
import Derived.Test.YtljfoohaapckeaaGreatDoorCG27
import Derived.Test.YtljfoohaapckeaaGreatDoorCOwnLL
import Derived.Deep.LoopGhost
import Derived.Test.YtljfoohaapckeaaGreatDoorCK6
import Derived.Test.YtljfoohaapckeaaGreatDoorCG25
import Derived.Test.YtljfoohaapckeaaGreatDoorCK7
open _root_.List (map_append replicate length_replicate length_append getElem_mem mem_append map_cons map_nil)
open _root_.Nat (le_refl zero_le)
open _root_.Go.Proofs.Tryz (prog)
namespace Go.Proofs.YtljfoohaapckeaaGreatDoor
open Go.ChangeShapes Go.WideShapes Go.ChangeAt Go.RowKit
set_option linter.unusedVariables false
set_option linter.unusedSimpArgs false
set_option maxHeartbeats 4000000
set_option maxRecDepth 100000
theorem dR.NM {α:Type} {E0 E:TypeId} {size:Nat} {enc:α->List Value} {B:Nat} {w:World} {A:Option Addr} {n c:Nat} {ls:List (List α)} (h:dR E0 E size enc B w (.slice A n c) ls) {k:Nat} (hk:k<ls.length):∃g D d,A=some ⟨g,0,none⟩/\B<=g/\g<w.heap.size/\w.cell? ⟨g,k,none⟩=some (.slice D ls[k].length d)/\aC E size enc B w (.slice D ls[k].length d) ls[k]:=by
 obtain⟨us,h1,h2,h3⟩:=h;have hk':k<us.length:=(by omega);obtain⟨g,rfl,hg1,hg2⟩:=h1.split hk';have q:=h3 k us[k] ls[k] (List.getElem?_eq_getElem hk') (List.getElem?_eq_getElem hk);obtain⟨D,d,e,_,_⟩:=q.form;have z:=h1.slot BH (by decide) hk' 0 us[k] rfl;rw[Nat.mul_one,Nat.add_zero]at z;rw[e]at z q;exact⟨g,D,d,rfl,hg1,hg2,z,q⟩
def ints (l:List Nat):List Int:=l.map fun(i:Nat)=>(i:Int)
theorem Gi (l:List Nat) (i:Nat):ints l++[(i:Int)]=ints (l++[i]):=by unfold ints;rw[map_append];rfl
theorem Mj (n : Nat) : replicate n (-1 : Int) = uR n (fun _ => -1) := by
 unfold uR;rw[List.map_const',List.length_range]
theorem OI (j:Nat):replicate j (-1:Int)++[-1]=replicate (j+1) (-1):=List.replicate_succ'.symm
theorem kR {B g n c:Nat} {f:Nat->Int} {w:World} (h:aC 3 1 bT B w (.slice (some ⟨g,0,none⟩) n c) (uR n f)) {i:Nat} (hi:i<n):w.cell? ⟨g,i,none⟩=some (.int .i64 (f i)):=by
 have hl:i<(uR n f).length:=by rw[jN];exact hi
 have:=h.slot aN (by decide) hl 0 _ rfl;rw[Hw hl]at this;simpa using this
theorem wW {B g n c:Nat} {f:Nat->Int} {w:World} (h:aC 3 1 bT B w (.slice (some ⟨g,0,none⟩) n c) (uR n f)) {i:Nat} (hi:i<n) (v:Int):aC 3 1 bT B (w.setCell ⟨g,i,none⟩ (.int .i64 v)) (.slice (some ⟨g,0,none⟩) n c) (uR n (upd f i v)):=by
 have:=h.iU aN (k:=i) (y:=v) (by rw[jN];exact hi) rfl;rwa [<-Oq]at this
theorem PY {E:Nat->Nat->Prop} {s n:Nat} {f:Nat->Int} {q:List Nat} {p:Nat} (h:Bfs E s n f q p) {i:Nat} (hi:i∈q):0<=f i/\f i<=n:=by
 have h0:=(h.iff i).2 hi;obtain⟨a,ha,e⟩:=List.getElem_of_mem hi;have h1:=h.bd a ha;have h2:=h.len;rw[e]at h1;omega
theorem OJ {B : Nat} (v : Value) (T : List (List Dm)) (near : List (List Int)) (s : Nat) (w : World) (h : dR 24 3 1 bT B w v near) (hA : Adj T near) (hT : jR T) (hs : s < T.length) : Calls prog 133 #[v, .int .i64 s] w (fun e w' => jV 3 1 bT (uR T.length (nV T s)) w e w' /\ jL (Edge T) s T.length (nV T s)) := by
 obtain⟨A,c,rfl,hc,hm⟩:=h.form;have hsm:=hT.sm;have hnl:=hA.len;obtain⟨n,hn⟩:=SL T.length;rw[hnl,<-hn]at h⊢;rw[<-hn]at hs hsm hnl;have HA:=SQ hA;have HFS:=SQ hT;have HNL:=SQ hnl;have HN:=SQ hn;clear hA hT hnl hn hc hm;have own0:=iA w (E:=3) (size:=1) (enc:=bT) w.heap.size rfl w.heap.size (le_refl _);go_enter Tryz.func133,Tryz.ntmps133
 go_wp2;go_loopw [5,13] (fun s5 s13 wr=>∃(j:Nat) (D:Option Addr) (d:Nat),j<=n/\s13= .int .i64 j/\s5= .slice D j d/\aC 3 1 bT w.heap.size wr (.slice D j d) (replicate j (-1))/\Below w.heap.size w wr) (fun _ i _=>n-(intOf i).toNat)
 case atStart=>exact⟨0,_,_,zero_le _,rfl,rfl,own0,(Below.refl _ _).al _⟩
 case round=>
  obtain⟨j,D,d,hj,rfl,rfl,hown,hbel⟩:=hrel;clear own0;by_cases hlt:j<n
  . have hji : (j : Int) < (n : Int) := by omega
    have HL:Hid ((replicate j (-1:Int)).length=j):=SQ length_replicate;have H8:Hid (((replicate j (-1:Int)).length+1)*8<=140737488355328):=SQ (by rw[HL.out];omega);have HM:Hid ((replicate j (-1:Int)).length+1<=maxLen):=SQ (by rw[HL.out];unfold maxLen;omega);go_wp2_with (at_builtin;go_must (refine aH (enc:=bT) fU aN kU hbel hown (-1:Int) H8.out HM.out rfl _ _ rfl rfl rfl ?_);intro v4 w4 own4 hb4 hg4 hd4;rw[OI]at own4;obtain⟨A4,c4,rfl,hc4,hm4⟩:=own4.form)
    have own5:aC 3 1 bT w.heap.size w4 (.slice A4 (j+1) c4) (replicate (j+1) (-1)):=by
     have e:(replicate (j+1) (-1:Int)).length=j+1:=length_replicate;rw[e]at own4;exact own4
    go_roundw
    case rel=>exact⟨j+1,A4,c4,by omega,by go_num,by simp,own5,hb4⟩
    case measure=>simp[intOf];omega
  . have hjn : n = j := by omega
    subst hjn;rw[Mj]at hown;obtain⟨gO,rfl,hgO,hgO2⟩:=hown.split (k:=0) (by rw[jN];omega);have o0:=wW hown hs 0;have c0:=kR hown hs;have hfr:=hown.free;have hsi:(s:Int)<(n:Int):=(by omega);have B1:=hbel.setCell (p:=⟨gO,s,none⟩) hgO (.int .i64 0);have hsz:(wr.setCell ⟨gO,s,none⟩ (.int .i64 0)).heap.size=wr.heap.size:=(by simp);have q0:=(Qu.PX (Az (E:=3) (enc:=bT) (wr.setCell ⟨gO,s,none⟩ (.int .i64 0)) (s:Int) rfl) (by simp)).mono (by rw[hsz];exact hbel.size:w.heap.size<=_);rw[hsz]at q0;have o1:=o0.alloc (.cells #[.int .i64 (s:Int)] 3);have B2:=B1.al (.cells #[.int .i64 (s:Int)] 3);have hne:(Value.slice (some ⟨wr.heap.size,0,none⟩) 1 1).ownBlock≠some gO:=by simp[Value.ownBlock];omega
    have hbf:=SQ (Bl (Edge T) hs);have hf0:upd (fun _=> -1) s 0=f0 s:=rfl;rw[hf0]at o1;clear o0 B1 hsz hf0 hown;go_wp2;go_loopg [6,7,9] n (fun gk s6 s7 s9 wr=>∃(dn wt:List Nat) (f:Nat->Int) (z7 z9:Value),s7=z7/\s9=z9/\dn.length+gk=n/\Qu w.heap.size wr s6 (ints wt)/\s6.ownBlock≠some gO/\aC 3 1 bT w.heap.size wr (.slice (some ⟨gO,0,none⟩) n d) (uR n f)/\Hid (Bfs (Edge T) s n f (dn++wt) dn.length)/\Below w.heap.size w wr)
    case atStart=>exact⟨[],[s],f0 s,_,_,rfl,rfl,by simp,q0,hne,o1,hbf,B2⟩
    case round=>
     clear q0 hne o1 hbf B2 c0 hfr hbel;obtain⟨dn,wt,f,z7,z9,rfl,rfl,hgk,hq,hne,hown,Hb,hbel⟩:=hrel;obtain⟨g,off,cq,rfl,hg1,hg2,hqc,hqm⟩:=hq.form;rcases wt with _|⟨o,wt⟩
     . have HD : Hid (nV T s = f /\ jL (Edge T) s n (nV T s)) := SQ (by
        have:=Hb.out;rw[List.append_nil]at this;have h2:=Eb this;have h3:nV T s=f:=H5 (by rw[<-HN.out];exact h2);exact⟨h3,by rw[h3];exact h2⟩)
       have e0:(ints []).length=0:=rfl;rw[e0];go_wp2;go_ret;exact⟨⟨some ⟨gO,0,none⟩,d,by rw[jN];rfl,by rw[jN,HD.out.1];exact hown,hbel⟩,HD.out.2⟩
     . have hlt : o < n := Hb.out.lt o (by simp);have e1:(ints (o::wt)).length=wt.length+1:=(by simp[ints]);have e2:ints (o::wt)=(o:Int)::ints wt:=rfl;rw[e1]at hqc⊢;have hq':Qu w.heap.size wr (.slice (some ⟨g,off,none⟩) (wt.length+1) cq) ((o:Int)::ints wt):=by rw[<-e2,<-e1];exact hq
       have hc0:=hq'.head;have hko:o<near.length:=by rw[HNL.out];exact hlt
       obtain⟨gA,D1,d1,rfl,_,hgA,cA,oN⟩:=h.NM hko;obtain⟨N,hN⟩:=SL (near[o]);rw[<-hN]at cA oN;have cA2:=(hbel.cell (p:=⟨gA,o,none⟩) hgA).trans cA
       have hNm:N.length<=9223372036854775807:=by
        obtain⟨_,_,e,h1,h2⟩:=oN.form;unfold maxLen at h2;omega
       have hmem:∀x,x∈N↔∃i:Nat,x=i/\Edge T o i:=fun x=>by rw[hN];exact HA.out.mem o hko x
       have HMm:=SQ hmem;have hoi:(o:Int)<(n:Int):=(by omega);have hwl:(0:Int)<((wt.length+1:Nat):Int):=(by omega);have hj1:1<=wt.length+1:=(by omega);have hneg:(some g:Option Nat)≠some gO:=hne;have Hneg:=SQ hneg;clear hN hmem e1 e2 hq hneg cA;go_wp2_with ((with_reducible refine KR fU 1 hj1 hqc hqm rfl rfl _ _ rfl rfl rfl ?_);intro A' c' hsl)
       have hq2:Qu w.heap.size wr (.slice A' wt.length c') (ints wt):=by have:=hq'.tail hsl;simpa using this
       have hne2:(Value.slice A' wt.length c').ownBlock≠some gO:=by
        have:=QN hsl;simp only[Nat.add_sub_cancel]at this;rw[this];exact Hneg.out
       clear hsl hq' hne hc0;go_loopw [6,9,37] (fun s6 s9 s37 wr=>∃(t:Nat) (wt2:List Nat) (f:Nat->Int) (z9:Value),s9=z9/\t<=N.length/\s37= .int .i64 t/\Qu w.heap.size wr s6 (ints wt2)/\s6.ownBlock≠some gO/\aC 3 1 bT w.heap.size wr (.slice (some ⟨gO,0,none⟩) n d) (uR n f)/\Hid (Bfs (Edge T) s n f (dn++o::wt2) dn.length/\∀i:Nat,(i:Int)∈N.take t->0<=f i)/\Below w.heap.size w wr) (fun _ _ i _=>N.length-(intOf i).toNat)
       case atStart=>exact⟨0,wt,f,_,rfl,zero_le _,rfl,hq2,hne2,hown,SQ ⟨Hb.out,fun i hi=>by simp at hi⟩,hbel⟩
       case round=>
        clear hq2 hne2 hown Hb hbel cA2;obtain⟨t,wt2,f,z9,rfl,ht,rfl,hq,hne,hown,Hb,hbel⟩:=hrel;obtain⟨g,off,cq,rfl,hg1,hg2,hqc,hqm⟩:=hq.form;have hql:=Hb.out.1.len;rw[length_append,List.length_cons]at hql;by_cases hlt2:t<N.length
        . have oN2:=oN.below hbel;obtain⟨b,off2,rfl,hb,c1⟩:=(oN2.rd aN (by decide)).wL hlt2;obtain⟨i,hi,hE⟩:=(HMm.out N[t]).1 (getElem_mem hlt2);rw[hi]at c1;have hin:i<n:=by rw[HN.out];exact xN HFS.out hE
          have htk:N.take (t+1)=N.take t++[(i:Int)]:=(by rw[List.take_succ_eq_append_getElem hlt2,hi]);have HTK:=SQ htk;have HE:=SQ hE;have ci:=kR hown hin;have co:=kR hown hlt;have hfr:=hown.free;have hii:(i:Int)<(n:Int):=(by omega);have hti:(t:Int)<(N.length:Int):=(by omega);have hvb:=PY Hb.out.1 (i:=o) (by simp);obtain⟨vo,hvo⟩:=SL (f o);obtain⟨vi,hvi⟩:=SL (f i);rw[<-hvo]at co hvb;rw[<-hvi]at ci;have HVO:=SQ hvo;have HVI:=SQ hvi;clear hi hE htk hvo hvi oN2;have hvb2:vo<=300:=(by omega);by_cases hfi:vi<0
          . have o2:=wW hown hin (vo+1);have B2:=hbel.setCell (p:=⟨gO,i,none⟩) hgO (.int .i64 (vo+1));have gX:=eF (World.grownBy.refl wr (some gO)) i (.int .i64 (vo+1));have hq2:=hq.kept gX hne;have hsz:wr.heap.size=(wr.setCell ⟨gO,i,none⟩ (.int .i64 (vo+1))).heap.size:=(by simp);have hil:(ints wt2).length=wt2.length:=(by simp[ints]);have H8:Hid (((ints wt2).length+1)*8<=140737488355328):=SQ (by rw[hil];omega);have HM:Hid ((ints wt2).length+1<=maxLen):=SQ (by rw[hil];unfold maxLen;omega)
            have HG : Hid (Bfs (Edge T) s n (upd f i (vo + 1)) (dn ++ o :: (wt2 ++ [i])) dn.length /\ ∀ k : Nat, (k : Int) ∈ N.take (t + 1) -> 0 <= upd f i (vo + 1) k) := SQ (by
             have hp:dn.length<(dn++o::wt2).length:=(by simp);have hqp:(dn++o::wt2)[dn.length]=o:=(by simp);have hb0:=HV Hb.out.1 hp hin (by rw[hqp];exact HE.out) (by rw[<-HVI.out];exact hfi);rw[hqp,<-HVO.out,List.append_assoc,List.cons_append]at hb0;refine⟨hb0,fun k hk=> ?_⟩;by_cases e:k=i
             . subst e;rw[tF];omega
             . rw[upd_ne e];rw[HTK.out,mem_append]at hk;rcases hk with hk|hk
               . exact Hb.out.2 k hk
               . simp at hk;omega)
            have HSZ:=SQ hsz;clear hil hsz;go_wp2_with (at_builtin;go_must (refine Ja fU B2.size hq2 (i:Int) HSZ.out H8.out HM.out rfl _ _ rfl rfl rfl ?_);intro g4 c4 off4 w4 hor own4 hg4)
            rw[Gi]at own4
            have hne4:(Value.slice (some ⟨g4,off4,none⟩) ((ints wt2).length+1) c4).ownBlock≠some gO:=by
             rcases hor with q|q
             . show some g4≠some gO;rw[q];exact hne
             . have:=HSZ.out;have h3:=(hown.split (k:=i) (by rw[jN];exact hin));obtain⟨g',e',_,h5⟩:=h3;injection e' with e';injection e' with e';show some g4≠some gO;intro e;injection e with e;omega
            have o4:aC 3 1 bT w.heap.size w4 (.slice (some ⟨gO,0,none⟩) n d) (uR n (upd f i (vo+1))):=World.ownsRow.kept (o2.alloc _) hg4 (.inr (fun e=>hne e.symm))
            have B4 := (B2.al (.cells #[.int .i64 (i : Int)] 3)).grown hg4 (B2.al (.cells #[.int .i64 (i : Int)] 3)).size (fun k hk => by
             have h2:(some g:Option Nat)=some k:=hk;injection h2 with h2;omega)
            go_roundw
            case rel=>exact⟨t+1,wt2++[i],upd f i (vo+1),_,rfl,by omega,by go_num,own4,hne4,o4,HG,B4⟩
            case measure=>simp[intOf];omega
          . have HG : Hid (Bfs (Edge T) s n f (dn ++ o :: wt2) dn.length /\ ∀ k : Nat, (k : Int) ∈ N.take (t + 1) -> 0 <= f k) := SQ ⟨Hb.out.1, fun k hk => by
             rw[HTK.out,mem_append]at hk;rcases hk with hk|hk
             . exact Hb.out.2 k hk
             . simp at hk;obtain rfl:k=i:=by omega
               rw[<-HVI.out];omega⟩
            go_wp2;go_roundw
            case rel=>exact⟨t+1,wt2,f,_,rfl,by omega,by go_num,hq,hne,hown,HG,hbel⟩
            case measure=>simp[intOf];omega
        . obtain rfl : t = N.length := by omega
          have HG : Hid (Bfs (Edge T) s n f ((dn ++ [o]) ++ wt2) (dn ++ [o]).length) := SQ (by
           have hp:dn.length<(dn++o::wt2).length:=(by simp);have hqp:(dn++o::wt2)[dn.length]=o:=by simp
           have hb0 := ER Hb.out.1 hp (fun i hi => by
            rw[hqp]at hi;have:=(HMm.out (i:Int)).2 ⟨i,rfl,hi⟩;exact Hb.out.2 i (by rw[List.take_length];exact this))
           rw[List.append_assoc,length_append];exact hb0)
          go_wp2;go_roundg (gk-1)
          case measure=>omega
          case rel=>exact⟨dn++[o],wt2,f,_,_,rfl,rfl,by simp;omega,hq,hne,hown,HG,hbel⟩
theorem PZ {α:Type} {E:TypeId} {size:Nat} {enc:α->List Value} {B:Nat} {w w':World} {v:Value} {l:List α} {row:Option Nat} (h:aC E size enc B w v l) (hg:w.grownBy w' row) (hne:v.ownBlock≠row):aC E size enc B w' v l:=World.ownsRow.kept h hg (.inr hne)
theorem ints_at {q:List Nat} {p:Nat} (hp:p<q.length):(ints q)[p]'(by simp[ints];exact hp)=(q[p]:Int):=by simp[ints]
theorem oK (q:List Nat):(ints q).length=q.length:=by simp[ints]
theorem JM {B g n c:Nat} {l:List Int} {w:World} (h:aC 3 1 bT B w (.slice (some ⟨g,0,none⟩) n c) l) {i:Nat} (hi:i<l.length):w.cell? ⟨g,i,none⟩=some (.int .i64 l[i]):=by
 have:=h.slot aN (by decide) hi 0 _ rfl;simpa using this
theorem OL {B : Nat} (v : Value) (T : List (List Dm)) (near : List (List Int)) (s : Nat) (w : World) (h : dR 24 3 1 bT B w v near) (hA : Adj T near) (hT : jR T) (hs : s < T.length) : Calls prog 201 #[v, .int .i64 s] w (fun e w' => jV 3 1 bT (uR T.length (nV T s)) w e w' /\ jL (Edge T) s T.length (nV T s)) := by
 obtain⟨A,c,rfl,hc,hm⟩:=h.form;have hsm:=hT.sm;have hnl:=hA.len;obtain⟨n,hn⟩:=SL T.length;rw[hnl,<-hn]at h⊢;rw[<-hn]at hs hsm hnl;have HA:=SQ hA;have HFS:=SQ hT;have HNL:=SQ hnl;have HN:=SQ hn;clear hA hT hnl hn hc hm;have h8n:8*n<=281474976710656:=(by omega);have hmn:n<=maxLen:=by unfold maxLen;omega
 go_enter Tryz.func201,Tryz.ntmps201
 go_wp2_with (at_make;go_must (refine FE (enc:=bT) (z0:=(0:Int)) fU rfl (Below.refl _ w) n h8n hmn rfl _ _ rfl rfl rfl ?_);intro w1 hown1 hb1 hg1)
 obtain⟨gO,hgO'⟩:=SL w.heap.size;have hgO:w.heap.size<=gO:=(by omega);have hown1:aC 3 1 bT w.heap.size w1 (.slice (some ⟨gO,0,none⟩) n n) (replicate n 0):=by rw[hgO'];exact hown1
 rw[<-hgO'];have HGO:=SQ hgO';clear hgO' hg1;go_loopw [6] (fun s6 wr=>∃(k:Nat) (m:List Int),k<=n/\s6= .int .i64 k/\Db k m (replicate n (-1:Int))/\aC 3 1 bT w.heap.size wr (.slice (some ⟨gO,0,none⟩) n n) m/\Below w.heap.size w wr) (fun i _=>n-(intOf i).toNat)
 case atStart=>exact⟨0,replicate n (0:Int),zero_le _,rfl,Db.start _ _ (by simp),hown1,hb1⟩
 case round=>
  obtain⟨k,m,hk,rfl,hu,hown,hbel⟩:=hrel;clear hown1 hb1;have hml:m.length=n:=(by rw[hu.1,length_replicate]);by_cases hlt:k<n
  . have hki : (k : Int) < (n : Int) := by omega
    obtain⟨u0,s0⟩:=hown.Dc aN (k:=k) (by omega);have hsf:=hown.free;have hst:=hu.step (by rw[length_replicate];exact hlt);rw[List.getElem_replicate]at hst;have own2:=hown.iU aN (k:=k) (y:=(-1:Int)) (by omega) rfl;have B2:=hbel.setCell (p:=⟨gO,k,none⟩) hgO (.int .i64 (-1));go_wp2;go_roundw
    case rel=>exact⟨k+1,m.set k (-1),by omega,by go_num,hst,own2,B2⟩
    case measure=>simp[intOf];omega
  . have hkn : n = k := by omega
    subst hkn;have hmr:=hu.done (by rw[length_replicate];exact le_refl _);rw[hmr,Mj]at hown;have o0:=wW hown hs 0;have c0:=kR hown hs;have hfr:=hown.free;have hsi:(s:Int)<(n:Int):=by omega
    have hgO2:gO<wr.heap.size:=by
     obtain⟨g',e',_,h5⟩:=hown.split (k:=0) (by rw[jN];omega);injection e' with e';injection e' with e';omega
    have B1:=hbel.setCell (p:=⟨gO,s,none⟩) hgO (.int .i64 0);have hsz:(wr.setCell ⟨gO,s,none⟩ (.int .i64 0)).heap.size=wr.heap.size:=(by simp);have q0:=(Az (E:=3) (enc:=bT) (wr.setCell ⟨gO,s,none⟩ (.int .i64 0)) (s:Int) rfl).mono (by rw[hsz];exact hbel.size:w.heap.size<=_);rw[hsz]at q0;have o1:=o0.alloc (.cells #[.int .i64 (s:Int)] 3);have B2:=B1.al (.cells #[.int .i64 (s:Int)] 3);have hne:(Value.slice (some ⟨wr.heap.size,0,none⟩) 1 1).ownBlock≠some gO:=by simp[Value.ownBlock];omega
    have hbf:=SQ (Bl (Edge T) hs);have hf0:upd (fun _=> -1) s 0=f0 s:=rfl;rw[hf0]at o1;clear o0 B1 hsz hf0 hown hmr hu hml;go_wp2;go_loopw [7,8,9,10] (fun s7 s8 s9 s10 wr=>∃(q:List Nat) (p:Nat) (f:Nat->Int) (D:Option Addr) (d:Nat) (z9 z10:Value),s9=z9/\s10=z10/\p<=q.length/\s8= .int .i64 p/\s7= .slice D q.length d/\aC 3 1 bT w.heap.size wr (.slice D q.length d) (ints q)/\(Value.slice D q.length d).ownBlock≠some gO/\aC 3 1 bT w.heap.size wr (.slice (some ⟨gO,0,none⟩) n n) (uR n f)/\Hid (Bfs (Edge T) s n f q p)/\Below w.heap.size w wr) (fun _ i _ _ _=>n-(intOf i).toNat)
    case atStart=>exact⟨[s],0,f0 s,_,_,_,_,rfl,rfl,by simp,rfl,rfl,q0,hne,o1,hbf,B2⟩
    case round=>
     clear q0 hne o1 hbf B2 c0 hfr hbel;obtain⟨q,p,f,D,d,z9,z10,rfl,rfl,hp,rfl,rfl,hq,hne,hown,Hb,hbel⟩:=hrel;have hqn:=Hb.out.len;by_cases hlp:p<q.length
     . obtain⟨o,ho⟩:=SL (q[p]);have hlt:o<n:=by rw[ho];exact Hb.out.lt _ (getElem_mem hlp)
       obtain⟨gQ,rfl,hgQ,hgQ2⟩:=hq.split (k:=0) (by rw[oK];omega);have cq:=JM hq (i:=p) (by rw[oK];exact hlp);rw[ints_at hlp,<-ho]at cq;have hko:o<near.length:=by rw[HNL.out];exact hlt
       obtain⟨gA,D1,d1,rfl,_,hgA,cA,oN⟩:=h.NM hko;obtain⟨N,hN⟩:=SL (near[o]);rw[<-hN]at cA oN;have cA2:=(hbel.cell (p:=⟨gA,o,none⟩) hgA).trans cA
       have hNm:N.length<=9223372036854775807:=by
        obtain⟨_,_,e,h1,h2⟩:=oN.form;unfold maxLen at h2;omega
       have hmem:∀x,x∈N↔∃i:Nat,x=i/\Edge T o i:=fun x=>by rw[hN];exact HA.out.mem o hko x
       have HMm:=SQ hmem;have HO:=SQ ho;have hoi:(o:Int)<(n:Int):=(by omega);have hpi:(p:Int)<(q.length:Int):=(by omega);have hneg:(some gQ:Option Nat)≠some gO:=hne;clear hN hmem cA ho;go_wp2;go_loopw [7,10] (fun s7 s10 wr=>∃(t:Nat) (q2:List Nat) (f:Nat->Int) (D:Option Addr) (d:Nat),t<=N.length/\s10= .int .i64 t/\s7= .slice D q2.length d/\aC 3 1 bT w.heap.size wr (.slice D q2.length d) (ints q2)/\(Value.slice D q2.length d).ownBlock≠some gO/\aC 3 1 bT w.heap.size wr (.slice (some ⟨gO,0,none⟩) n n) (uR n f)/\Hid (Bfs (Edge T) s n f q2 p/\(∃h:p<q2.length,q2[p]=o)/\∀i:Nat,(i:Int)∈N.take t->0<=f i)/\Below w.heap.size w wr) (fun _ i _=>N.length-(intOf i).toNat)
       case atStart=>exact⟨0,q,f,_,_,zero_le _,rfl,rfl,hq,hne,hown,SQ ⟨Hb.out,⟨hlp,HO.out.symm⟩,fun i hi=>by simp at hi⟩,hbel⟩
       case round=>
        clear hq hne hown Hb hbel cA2 cq hneg hgQ hgQ2;obtain⟨t,q2,f,D,d,ht,rfl,rfl,hq,hne,hown,Hb,hbel⟩:=hrel;obtain⟨hlq,hqo⟩:=Hb.out.2.1;obtain⟨gQ,rfl,hgQ,hgQ2⟩:=hq.split (k:=0) (by rw[oK];omega);have hql:=Hb.out.1.len;by_cases hlt2:t<N.length
        . obtain ⟨b, off2, rfl, hb, c1w⟩ := (oN.rd aN (by decide)).wL hlt2;have hbg:b≠gO:=(by omega);have c1:=(hbel.cell (p:=⟨b,off2+t,none⟩) hb).trans c1w;obtain⟨i,hi,hE⟩:=(HMm.out N[t]).1 (getElem_mem hlt2);rw[hi]at c1 c1w;have hin:i<n:=by rw[HN.out];exact xN HFS.out hE
          have htk:N.take (t+1)=N.take t++[(i:Int)]:=(by rw[List.take_succ_eq_append_getElem hlt2,hi]);have HTK:=SQ htk;have HE:=SQ hE;have ci:=kR hown hin;have co:=kR hown hlt;have cq:=JM hq (i:=p) (by rw[oK];exact hlq);rw[ints_at hlq,hqo]at cq;have hfr:=hown.free;have hii:(i:Int)<(n:Int):=(by omega);have hti:(t:Int)<(N.length:Int):=(by omega);have hpq:(p:Int)<(q2.length:Int):=(by omega);have hvb:=PY Hb.out.1 (i:=o) (by rw[<-hqo];exact getElem_mem hlq);obtain⟨vo,hvo⟩:=SL (f o);obtain⟨vi,hvi⟩:=SL (f i);rw[<-hvo]at co hvb;rw[<-hvi]at ci;have HVO:=SQ hvo;have HVI:=SQ hvi;have HQO:=SQ hqo;clear hi hE htk hvo hvi hqo;have hvb2:vo<=300:=(by omega);by_cases hfi:vi<0
          . obtain⟨W,hW⟩:=SL wr;rw[<-hW]at hq hown hbel ci co cq c1 hfr hgQ2⊢;clear hW;have Bw:Below W.heap.size W W.drew:=(Below.refl _ _).drew;have hz:W.heap.size<=W.drew.heap.size:=by simp
            have hgO3:gO<W.heap.size:=by
             obtain⟨g',e',_,h5⟩:=hown.split (k:=0) (by rw[jN];omega);injection e' with e';injection e' with e';omega
            go_wp2_with fail
            go_still_tail 13,(by kernel_rfl)
            have hown':=hown.below Bw;have hq':=hq.below Bw;have B':=hbel.tr Bw;have o2:=wW hown' hin (vo+1);have B2:=B'.setCell (p:=⟨gO,i,none⟩) hgO (.int .i64 (vo+1));have gX:=eF (World.grownBy.refl W.drew (some gO)) i (.int .i64 (vo+1));have hq2:=PZ hq' gX hne;have c1s:=(B2.cell (p:=⟨b,off2+t,none⟩) hb).trans c1w;have hsz:W.heap.size=(W.drew.setCell ⟨gO,i,none⟩ (.int .i64 (vo+1))).heap.size:=(by simp);have H8:Hid (((ints q2).length+1)*8<=140737488355328):=SQ (by rw[oK];omega);have HM:Hid ((ints q2).length+1<=maxLen):=SQ (by rw[oK];unfold maxLen;omega)
            have HG : Hid (Bfs (Edge T) s n (upd f i (vo + 1)) (q2 ++ [i]) p /\ (∃ h : p < (q2 ++ [i]).length, (q2 ++ [i])[p] = o) /\ ∀ k : Nat, (k : Int) ∈ N.take (t + 1) -> 0 <= upd f i (vo + 1) k) := SQ (by
             have hb0:=HV Hb.out.1 hlq hin (by rw[HQO.out];exact HE.out) (by rw[<-HVI.out];exact hfi);rw[HQO.out,<-HVO.out]at hb0;refine⟨hb0,⟨by simp;omega,by rw[List.getElem_append_left hlq];exact HQO.out⟩,fun k hk=> ?_⟩;by_cases e:k=i
             . subst e;rw[tF];omega
             . rw[upd_ne e];rw[HTK.out,mem_append]at hk;rcases hk with hk|hk
               . exact Hb.out.2.2 k hk
               . simp at hk;omega)
            have HSZ:=SQ hsz;have HL:=SQ (oK q2);clear hsz hown' hq' B' hq hown hbel;go_wp2_with (at_builtin;go_must (refine aQ (enc:=bT) fU aN kU B2 hq2 (i:Int) H8.out HM.out HSZ.out rfl _ _ rfl rfl rfl ?_);intro v4 w4 own4 hb4 hg4 hd4;rw[Gi]at own4;obtain⟨A4,c4,rfl,hc4,hm4⟩:=own4.form)
            have hql2:(ints (q2++[i])).length=(q2++[i]).length:=oK _
            have hne4:(Value.slice A4 (q2++[i]).length c4).ownBlock≠some gO:=by
             rw[hql2]at hd4;rcases hd4 with q|q
             . rw[q];exact hne
             . rw[q,<-HSZ.out];intro e;injection e with e;omega
            have own5:aC 3 1 bT w.heap.size w4 (.slice A4 (q2++[i]).length c4) (ints (q2++[i])):=by rw[<-hql2];exact own4
            have o4:aC 3 1 bT w.heap.size w4 (.slice (some ⟨gO,0,none⟩) n n) (uR n (upd f i (vo+1))):=PZ (o2.alloc _) hg4 (fun e=>hne e.symm);go_roundw
            case rel=>exact⟨t+1,q2++[i],upd f i (vo+1),A4,c4,by omega,by go_num,by rw[hql2],own5,hne4,o4,HG,hb4⟩
            case measure=>simp[intOf];omega
          . have HG : Hid (Bfs (Edge T) s n f q2 p /\ (∃ h : p < q2.length, q2[p] = o) /\ ∀ k : Nat, (k : Int) ∈ N.take (t + 1) -> 0 <= f k) := SQ ⟨Hb.out.1, Hb.out.2.1, fun k hk => by
             rw[HTK.out,mem_append]at hk;rcases hk with hk|hk
             . exact Hb.out.2.2 k hk
             . simp at hk;obtain rfl:k=i:=by omega
               rw[<-HVI.out];omega⟩
            go_wp2;go_roundw
            case rel=>exact⟨t+1,q2,f,_,_,by omega,by go_num,rfl,hq,hne,hown,HG,hbel⟩
            case measure=>simp[intOf];omega
        . obtain rfl : t = N.length := by omega
          have HG : Hid (Bfs (Edge T) s n f q2 (p + 1)) := SQ (ER Hb.out.1 hlq (fun i hi => by
           rw[hqo]at hi;have:=(HMm.out (i:Int)).2 ⟨i,rfl,hi⟩;exact Hb.out.2.2 i (by rw[List.take_length];exact this)))
          go_wp2;go_roundw
          case rel=>exact⟨q2,p+1,f,_,_,_,_,rfl,rfl,by omega,by go_num,rfl,hq,hne,hown,HG,hbel⟩
          case measure=>simp[intOf];omega
     . obtain rfl : p = q.length := by omega
       have HD : Hid (nV T s = f /\ jL (Edge T) s n (nV T s)) := SQ (by
        have h2:=Eb Hb.out;have h3:nV T s=f:=H5 (by rw[<-HN.out];exact h2);exact⟨h3,by rw[h3];exact h2⟩)
       go_wp2;go_ret;exact⟨⟨some ⟨gO,0,none⟩,n,by rw[jN];rfl,by rw[jN,HD.out.1];exact hown,hbel⟩,HD.out.2⟩
def fA (l:List Dm) (k:Nat):List Cl:=((List.range k).map iE).filter fun c=>decide (kindOf l c≠0)
theorem Cc {l:List Dm} {k:Nat} (h:kindOf l (iE k)≠0):fA l k++[iE k]=fA l (k+1):=by
 unfold fA;rw[List.range_succ,map_append,List.filter_append,map_cons,map_nil,List.filter_cons_of_pos (by simpa using h)];rfl
theorem Em {l:List Dm} {k:Nat} (h:kindOf l (iE k)=0):fA l (k+1)=fA l k:=by
 unfold fA;rw[List.range_succ,map_append,List.filter_append,map_cons,map_nil,List.filter_cons_of_neg (by simpa using h)];simp
theorem Ce (l:List Dm) (k:Nat):(fA l k).length<=k:=by
 unfold fA;refine Nat.le_trans (List.length_filter_le _ _) ?_;simp
theorem En (v:Value) (l:List Dm) (w:World) (h:Rd 3 bG w v l):Calls prog 135 #[v] w (jV 70 2 dH (dP l) w):=by
 obtain⟨A,c,rfl,hc,hm⟩:=h.form;have own0:=iA w (E:=70) (size:=2) (enc:=dH) w.heap.size rfl w.heap.size (le_refl _);go_enter Tryz.func135,Tryz.ntmps135
 go_wp2;go_loopw [3,4,6] (fun s3 s4 s6 wr=>∃(k:Nat) (D:Option Addr) (d:Nat) (z:Value),s4=z/\k<=64/\s6= .int .i64 k/\s3= .slice D (fA l k).length d/\aC 70 2 dH w.heap.size wr (.slice D (fA l k).length d) (fA l k)/\Below w.heap.size w wr) (fun _ _ i _=>64-(intOf i).toNat)
 case atStart=>exact⟨0,_,_,_,rfl,by omega,rfl,rfl,own0,(Below.refl _ _).al _⟩
 case round=>
  obtain⟨k,D,d,z,rfl,hk,rfl,rfl,hown,hbel⟩:=hrel;clear own0;by_cases hlt:k<64
  . obtain⟨x,y,hxy⟩:∃x y,iE k=(x,y):=⟨_,_,rfl⟩
    have cA : ∀ W : World, Calls prog 188 #[.int .i64 k] W (Ret (.agg #[.int .i64 x, .int .i64 y]) W) := fun W => by
     have:=Bt k W (by omega);rw[hxy]at this;exact this
    have HC:=SQ cA;have HXY:=SQ hxy;clear cA hxy;have hki:(k:Int)<64:=(by omega);go_wp2_with fail
    refine(HC.out _).mono ?_;rintro e w1 ⟨rfl,hb1⟩;have B1:=hbel.tr hb1;go_wp2_with fail
    refine(tZ _ l x y _ (h.SN B1)).mono ?_;rintro e w2 ⟨rfl,hb2⟩;have B2:=B1.tr hb2;have own2:=(hown.below hb1).below hb2;by_cases hk0:kindOf l (x,y)=0
    . have hd : decide (kindOf l (x, y) ≠ 0) = false := by simpa using hk0
      rw[hd];have HN:Hid (fA l (k+1)=fA l k):=SQ (Em (by rw[HXY.out];exact hk0));clear hd hk0;go_wp2;go_roundw
      case rel=>exact⟨k+1,D,d,_,rfl,by omega,by go_num,by rw[HN.out],by rw[HN.out];exact own2,B2⟩
      case measure=>simp[intOf];omega
    . have hd : decide (kindOf l (x, y) ≠ 0) = true := by simpa using hk0
      rw[hd];have HY:Hid (fA l k++[(x,y)]=fA l (k+1)):=SQ (by have:=Cc (l:=l) (k:=k) (by rw[HXY.out];exact hk0);rw[HXY.out]at this;exact this);have hlen:=Ce l k;have H8:Hid (((fA l k).length+1)*16<=140737488355328):=SQ (by omega);have HM:Hid ((fA l k).length+1<=maxLen):=SQ (by unfold maxLen;omega);clear hd hk0 hlen;go_wp2_with fail
      refine(HC.out _).mono ?_;rintro e w3 ⟨rfl,hb3⟩;have B3:=B2.tr hb3;have own3:=own2.below hb3;go_wp2_with (at_builtin;go_must (refine aH (enc:=dH) iY dY oneCell B3 own3 ((x,y):Cl) H8.out HM.out rfl _ _ rfl rfl rfl ?_);intro v4 w4 own4 hb4 hg4 hd4;rw[HY.out]at own4;obtain⟨A4,c4,rfl,hc4,hm4⟩:=own4.form)
      go_roundw
      case rel=>exact⟨k+1,A4,c4,_,rfl,by omega,by go_num,rfl,own4,hb4⟩
      case measure=>simp[intOf];omega
  . obtain rfl : k = 64 := by omega
    go_wp2;go_ret;exact⟨_,_,rfl,hown,hbel⟩
theorem qM (v:Value) (l:List Dm) (w:World) (h:Rd 3 bG w v l):Calls prog 36 #[v] w (jV 70 2 dH (dP l) w):=by
 obtain⟨A,c,rfl,hc,hm⟩:=h.form;have own0:=iA w (E:=70) (size:=2) (enc:=dH) w.heap.size rfl w.heap.size (le_refl _);go_enter Tryz.func36,Tryz.ntmps36
 go_wp2;go_loopw [3,4,5,6] (fun s3 s4 s5 s6 wr=>∃(k:Nat) (D:Option Addr) (d:Nat) (z5 z6:Value),s5=z5/\s6=z6/\k<=64/\s4= .int .i64 k/\s3= .slice D (fA l k).length d/\aC 70 2 dH w.heap.size wr (.slice D (fA l k).length d) (fA l k)/\Below w.heap.size w wr) (fun _ i _ _ _=>64-(intOf i).toNat)
 case atStart=>exact⟨0,_,_,_,_,rfl,rfl,by omega,rfl,rfl,own0,(Below.refl _ _).al _⟩
 case round=>
  obtain⟨k,D,d,z5,z6,rfl,rfl,hk,rfl,rfl,hown,hbel⟩:=hrel;clear own0;by_cases hlt:k<64
  . obtain⟨x,y,hxy⟩:∃x y,iE k=(x,y):=⟨_,_,rfl⟩
    have cA : ∀ W : World, Calls prog 84 #[.int .i64 k] W (Ret (.tuple #[.agg #[.int .i64 x, .int .i64 y], .bool true]) W) := fun W => by
     have:=vI k W hlt;unfold iE at hxy;injection hxy with e1 e2;rw[e1,e2]at this;exact this
    have HC:=SQ cA;have HXY:=SQ hxy;clear cA hxy;have hki:(k:Int)<64:=(by omega);go_wp2_with fail
    refine(HC.out _).mono ?_;rintro e w1 ⟨rfl,hb1⟩;have B1:=(hbel.tr hb1).al (.cells #[.int .i64 x,.int .i64 y] 70);have own1:=(hown.below hb1).alloc (.cells #[.int .i64 x,.int .i64 y] 70);have b1:=Blk.aY w1 70 #[.int .i64 x,.int .i64 y];obtain⟨n,hn⟩:=SL (kindOf l (x,y));have cK:∀(W:World),Rd 3 bG W (.slice A l.length c) l->Calls prog 85 #[.slice A l.length c,.agg #[.int .i64 x,.int .i64 y]] W (Ret (.int .i64 (n:Nat)) W):=fun W hW=>by rw[hn];exact Ga _ l x y W hW
    have HK:=SQ cK;have HN:=SQ hn;clear cK hn;go_wp2_with fail
    refine(HK.out _ (h.SN B1)).mono ?_;rintro e w2 ⟨rfl,hb2⟩;have B2:=B1.tr hb2;have own2:=own1.below hb2;have b2:=b1.bl hb2;by_cases hk0:n=0
    . subst hk0;have HNo:Hid (fA l (k+1)=fA l k):=SQ (Em (by rw[HXY.out];exact HN.out.symm));go_wp2;go_roundw
      case rel=>exact⟨k+1,D,d,_,_,rfl,rfl,by omega,by go_num,by rw[HNo.out],by rw[HNo.out];exact own2,B2⟩
      case measure=>simp[intOf];omega
    . have hn0 : (0 : Int) < (n : Int) := by omega
      have HY:Hid (fA l k++[(x,y)]=fA l (k+1)):=SQ (by have:=Cc (l:=l) (k:=k) (by rw[HXY.out,<-HN.out];exact hk0);rw[HXY.out]at this;exact this);have hlen:=Ce l k;have H8:Hid (((fA l k).length+1)*16<=140737488355328):=SQ (by omega);have HM:Hid ((fA l k).length+1<=maxLen):=SQ (by unfold maxLen;omega);clear hk0 hlen;obtain⟨q_0,q_1⟩:=b2.n2;go_wp2_with (at_builtin;go_must (refine aH (enc:=dH) iY dY oneCell B2 own2 ((x,y):Cl) H8.out HM.out rfl _ _ rfl rfl rfl ?_);intro v4 w4 own4 hb4 hg4 hd4;rw[HY.out]at own4;obtain⟨A4,c4,rfl,hc4,hm4⟩:=own4.form)
      go_roundw
      case rel=>exact⟨k+1,A4,c4,_,_,rfl,rfl,by omega,by go_num,rfl,own4,hb4⟩
      case measure=>simp[intOf];omega
  . obtain rfl : k = 64 := by omega
    go_wp2;go_ret;exact⟨_,_,rfl,hown,hbel⟩
theorem QO {n x:Int} (h:n<=x) (r:List Int):uT n (x::r)=n::x::r:=if_pos h
theorem QP {n x:Int} (h:¬n<=x) (r:List Int):uT n (x::r)=x::uT n r:=if_neg h
theorem OM {n x:Int} {l:List Int} {k:Nat} (hk:k<l.length) (hx:l[k]=x):l.drop k=x::l.drop (k+1):=by rw[<-hx];exact List.drop_eq_getElem_cons hk
theorem OO (v:Value) (l:List Int) (n:Int) (w:World) (h:Rd 1 bV w v l) (hl:l.length<=1000):Calls prog 187 #[v,.int .i64 n] w (jV 3 1 bT (uT n l) w):=by
 obtain⟨A,c,rfl,hc,hm⟩:=h.form;have own0:=iA w (E:=3) (size:=1) (enc:=bT) w.heap.size rfl w.heap.size (le_refl _);go_enter Tryz.func187,Tryz.ntmps187
 go_wp2;go_loopw [5,6,8,12] (fun s5 s6 s8 s12 wr=>∃(k:Nat) (dn:Bool) (out:List Int) (D:Option Addr) (d:Nat) (z:Value),s8=z/\k<=l.length/\s12= .int .i64 k/\s6= .bool dn/\s5= .slice D out.length d/\(out.length=k∨(dn=true/\out.length<=k+1))/\aC 3 1 bT w.heap.size wr (.slice D out.length d) out/\Hid ((if dn=true then out++l.drop k else out++uT n (l.drop k))=uT n l)/\Below w.heap.size w wr) (fun _ _ _ i _=>l.length-(intOf i).toNat)
 case atStart=>exact⟨0,false,[],_,_,_,rfl,zero_le _,rfl,rfl,rfl,.inl rfl,own0,SQ (by simp),(Below.refl _ _).al _⟩
 case round=>
  obtain⟨k,dn,out,D,d,z,rfl,hk,rfl,rfl,rfl,hol,hown,Hg,hbel⟩:=hrel;clear own0;have hol2:out.length<=k+1:=by rcases hol with q|⟨_,q⟩<;>omega
  have hol3 : dn = false -> out.length = k := fun e => by
   rcases hol with q|⟨q,_⟩
   . exact q
   . rw[e]at q;cases q
  have Hol:=SQ hol3;clear hol hol3;have H8:Hid ((out.length+1)*8<=140737488355328):=SQ (by omega);have HM:Hid (out.length+1<=maxLen):=SQ (by unfold maxLen;omega);by_cases hlt:k<l.length
  . obtain⟨b,off,rfl,hb,c1⟩:=(h.SN hbel).wL hlt;obtain⟨x,hx⟩:=SL (l[k]);rw[<-hx]at c1;have hdr:=OM (n:=n) hlt hx.symm;have HD:=SQ hdr;clear hx hdr;have hki:(k:Int)<(l.length:Int):=(by omega);cases dn
    . by_cases hnx:n<=x
      . have HG : Hid ((out ++ [n]) ++ [x] ++ l.drop (k + 1) = uT n l) := SQ (by
         have:=Hg.out;rw[if_neg (by decide),HD.out]at this;rw[QO hnx]at this;rw[<-this];simp)
        have H8b:Hid (((out++[n]).length+1)*8<=140737488355328):=SQ (by rw[length_append];simp;omega);have HMb:Hid ((out++[n]).length+1<=maxLen):=SQ (by rw[length_append];unfold maxLen;simp;omega);have HL:Hid ((out++[n]).length=out.length+1):=SQ (by simp);go_wp2_with (first|(at_builtin;(refine aH (enc:=bT) fU aN kU hbel hown n H8.out HM.out rfl _ _ rfl rfl rfl ?_);intro v4 w4 own4 hb4 hg4 hd4;obtain⟨A4,c4,rfl,hc4,hm4⟩:=own4.form;rw[HL.out]at own4)|(at_builtin;go_must (refine aH (enc:=bT) fU aN kU hb4 own4 x H8b.out HMb.out rfl _ _ rfl rfl rfl ?_);intro v5 w5 own5 hb5 hg5 hd5;obtain⟨A5,c5,rfl,hc5,hm5⟩:=own5.form))
        go_roundw
        case rel=>exact⟨k+1,true,(out++[n])++[x],A5,c5,_,rfl,by omega,by go_num,rfl,by simp,.inr ⟨rfl,by have:=Hol.out rfl;simp;omega⟩,own5,SQ (by rw[if_pos rfl];exact HG.out),hb5⟩
        case measure=>simp[intOf];omega
      . have HG : Hid ((out ++ [x]) ++ uT n (l.drop (k + 1)) = uT n l) := SQ (by
         have:=Hg.out;rw[if_neg (by decide),HD.out]at this;rw[QP hnx]at this;rw[<-this];simp)
        go_wp2_with (at_builtin;go_must (refine aH (enc:=bT) fU aN kU hbel hown x H8.out HM.out rfl _ _ rfl rfl rfl ?_);intro v4 w4 own4 hb4 hg4 hd4;obtain⟨A4,c4,rfl,hc4,hm4⟩:=own4.form)
        go_roundw
        case rel=>exact⟨k+1,false,out++[x],A4,c4,_,rfl,by omega,by go_num,rfl,by simp,.inl (by rw[length_append,Hol.out rfl];rfl),own4,SQ (by rw[if_neg (by decide)];exact HG.out),hb4⟩
        case measure=>simp[intOf];omega
    . have HG : Hid ((out ++ [x]) ++ l.drop (k + 1) = uT n l) := SQ (by
       have:=Hg.out;rw[if_pos rfl,HD.out]at this;rw[<-this];simp)
      go_wp2_with (at_builtin;go_must (refine aH (enc:=bT) fU aN kU hbel hown x H8.out HM.out rfl _ _ rfl rfl rfl ?_);intro v4 w4 own4 hb4 hg4 hd4;obtain⟨A4,c4,rfl,hc4,hm4⟩:=own4.form)
      go_roundw
      case rel=>exact⟨k+1,true,out++[x],A4,c4,_,rfl,by omega,by go_num,rfl,by simp,.inr ⟨rfl,by simp;omega⟩,own4,SQ (by rw[if_pos rfl];exact HG.out),hb4⟩
      case measure=>simp[intOf];omega
  . obtain rfl : k = l.length := by omega
    cases dn
    . have HG : Hid (out ++ [n] = uT n l) := SQ (by
       have:=Hg.out;rw[if_neg (by decide),List.drop_length]at this;exact this)
      go_wp2_with (at_builtin;go_must (refine aH (enc:=bT) fU aN kU hbel hown n H8.out HM.out rfl _ _ rfl rfl rfl ?_);rw[HG.out];intro v4 w4 own4 hb4 hg4 hd4;obtain⟨A4,c4,rfl,hc4,hm4⟩:=own4.form)
      go_ret;exact⟨_,_,rfl,own4,hb4⟩
    . have HG : Hid (out = uT n l) := SQ (by
       have:=Hg.out;rw[if_pos rfl,List.drop_length,List.append_nil]at this;exact this)
      go_wp2;go_ret;exact⟨D,d,by rw[<-HG.out];rfl,by rw[<-HG.out];exact hown,hbel⟩
theorem yQ {B:Nat} (u v:Value) (T:List (List Dm)) (m:List Dm) (w:World) (h:dR 27 60 3 aV B w u T) (h':Rd 3 bG w v m):Calls prog 131 #[u,v] w (Ret (.int .i64 (nK T m)) w):=by
 obtain⟨A,c,rfl,hc,hm⟩:=h.form;have hTm:T.length<=9223372036854775807:=by unfold maxLen at hm;omega
 go_enter Tryz.func131,Tryz.ntmps131
 go_wp2;go_loopw [5,6,9] (fun s5 s6 s9 wr=>∃(k:Nat) (z5 z6:Value),s5=z5/\s6=z6/\k<=T.length/\s9= .int .i64 k/\Hid (∀j (hj:j<k) (h:j<T.length),T[j]≠m)/\Below w.heap.size w wr) (fun _ _ i _=>T.length-(intOf i).toNat)
 case atStart=>exact⟨0,_,_,rfl,rfl,zero_le _,rfl,SQ (fun j hj=>by omega),Below.refl _ _⟩
 case round=>
  obtain⟨k,z5,z6,rfl,rfl,hk,rfl,Hg,hbel⟩:=hrel;by_cases hlt:k<T.length
  . obtain⟨g,D,d,rfl,hg1,hg2,c1,ownk⟩:=(h.below hbel).pick hlt;have hki:(k:Int)<(T.length:Int):=(by omega);obtain⟨t,ht⟩:=SL (T[k]);rw[<-ht]at c1 ownk;have HT:=SQ ht;clear ht;go_wp2_with fail
    refine(zM _ _ t m _ (ownk.rd aB (by decide)) (h'.SN hbel)).mono ?_;rintro e w1 ⟨rfl,hb1⟩;by_cases he:t=m
    . rw[decide_eq_true he];have HI:Hid (nK T m=(k:Int)):=SQ (index_hit hlt (fun j hj=>Hg.out j hj (by omega)) (by rw[<-HT.out];exact he));clear he;go_wp2;go_ret;exact⟨by rw[HI.out];rfl,hbel.tr hb1⟩
    . rw[decide_eq_false he]
      have HN : Hid (∀ j (hj : j < k + 1) (h : j < T.length), T[j] ≠ m) := SQ (fun j hj h q => by
       rcases(by omega:j<k∨j=k)with h1|h1
       . exact Hg.out j h1 h q
       . subst h1;rw[<-HT.out]at q;exact he q)
      clear he;go_wp2;go_roundw
      case rel=>exact⟨k+1,_,_,rfl,rfl,by omega,by go_num,HN,hbel.tr hb1⟩
      case measure=>simp[intOf];omega
  . obtain rfl : k = T.length := by omega
    have HI:Hid (nK T m= -1):=SQ (Ed (fun j hj=>Hg.out j hj hj));go_wp2;go_ret;exact⟨by rw[HI.out];rfl,hbel⟩
end Go.Proofs.YtljfoohaapckeaaGreatDoor
