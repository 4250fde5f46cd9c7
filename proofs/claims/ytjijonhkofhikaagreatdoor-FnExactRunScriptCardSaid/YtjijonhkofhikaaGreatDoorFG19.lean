import Derived.Test.YtjijonhkofhikaaGreatDoorFG18
import Derived.Test.YtjijonhkofhikaaGreatDoorFK7
open _root_.List renaming map_append->Tm,replicate->Tn,length_replicate->Tp,length_append->Tq,length_cons->Tt,getElem_mem->Tu,mem_append->Tv,take_length->Tw,map_cons->Tx
open _root_.Nat renaming le_refl->Ty,zero_le->Tz
open _root_.Go.Lib renaming joinTail->TA
open _root_.ByteArray renaming data_append->TB
open _root_.Go.Value (slice ownBlock)
open _root_.Go.Proofs.Tryz (prog)
open _root_.Go.Proofs.Tryz renaming underlying9->TC
set_option linter.unusedVariables false
set_option linter.unusedSimpArgs false
set_option maxHeartbeats 4000000
set_option maxRecDepth 100000
namespace Go.Proofs.YtjijonhkofhikaaGreatDoor
open Go.ChangeShapes Go.WideShapes Go.ChangeAt Go.RowKit
theorem dY.OG {α:Type} {E0 E:TypeId} {size:Nat} {enc:α->List Value} {B:Nat} {w:World} {A:Option Addr} {n c:Nat} {ls:List (List α)} (h:dY E0 E size enc B w (.slice A n c) ls) {k:Nat} (hk:k<ls.length):∃g D d,A=some ⟨g,0,none⟩/\B<=g/\g<w.heap.size/\w.cell? ⟨g,k,none⟩=some (.slice D ls[k].length d)/\aD E size enc B w (.slice D ls[k].length d) ls[k]:=by
 obtain⟨us,h1,h2,h3⟩:=h;have a6:k<us.length:=(by omega);obtain⟨g,rfl,hg1,hg2⟩:=h1.split a6;have q:=h3 k us[k] ls[k] (List.getElem?_eq_getElem a6) (List.getElem?_eq_getElem hk);obtain⟨D,d,e,_,_⟩:=q.form;have z:=h1.slot Cb (by decide) a6 0 us[k] rfl;rw[Nat.mul_one,Nat.add_zero]at z;rw[e]at z q;exact⟨g,D,d,rfl,hg1,hg2,z,q⟩
def ints (l:List Nat):List Int:=l.map fun(i:Nat)=>(i:Int)
theorem GG (l:List Nat) (i:Nat):ints l++[(i:Int)]=ints (l++[i]):=by unfold ints;rw[Tm];rfl
theorem MO (n : Nat) : Tn n (-1 : Int) = vP n (fun _ => -1) := by
 unfold vP;rw[List.map_const',List.length_range]
theorem Pw (j:Nat):Tn j (-1:Int)++[-1]=Tn (j+1) (-1):=List.replicate_succ'.symm
theorem kY {B g n c:Nat} {f:Nat->Int} {w:World} (h:aD 3 1 aW B w (.slice (some ⟨g,0,none⟩) n c) (vP n f)) {i:Nat} (hi:i<n):w.cell? ⟨g,i,none⟩=some (.int .i64 (f i)):=by
 have hl:i<(vP n f).length:=by rw[jY];exact hi
 have:=h.slot aM (by decide) hl 0 _ rfl;rw[Iz hl]at this;simpa using this
theorem xN {B g n c:Nat} {f:Nat->Int} {w:World} (h:aD 3 1 aW B w (.slice (some ⟨g,0,none⟩) n c) (vP n f)) {i:Nat} (hi:i<n) (v:Int):aD 3 1 aW B (w.setCell ⟨g,i,none⟩ (.int .i64 v)) (.slice (some ⟨g,0,none⟩) n c) (vP n (upd f i v)):=by
 have:=h.kI aM (k:=i) (y:=v) (by rw[jY];exact hi) rfl;rwa [<-Pf]at this
theorem QC {E:Nat->Nat->Prop} {s n:Nat} {f:Nat->Int} {q:List Nat} {p:Nat} (h:Bfs E s n f q p) {i:Nat} (hi:i∈q):0<=f i/\f i<=n:=by
 have h0:=(h.iff i).2 hi;obtain⟨a,ha,e⟩:=List.getElem_of_mem hi;have h1:=h.bd a ha;have h2:=h.len;rw[e]at h1;omega
theorem Px {B : Nat} (v : Value) (T : List (List Dm)) (bA : List (List Int)) (s : Nat) (w : World) (h : dY 24 3 1 aW B w v bA) (hA : Adj T bA) (hT : qC T) (hs : s < T.length) : Calls prog 149 #[v, .int .i64 s] w (fun e w' => fM 3 1 aW (vP T.length (tY T s)) w e w' /\ kZ (Edge T) s T.length (tY T s)) := by
 obtain⟨A,c,rfl,hc,hm⟩:=h.form;have hsm:=hT.sm;have bJ:=hA.len;obtain⟨n,hn⟩:=Ti T.length;rw[bJ,<-hn]at h⊢;rw[<-hn]at hs hsm bJ;have HA:=Tk hA;have cJ:=Tk hT;have cK:=Tk bJ;have HN:=Tk hn;clear hA hT bJ hn hc hm;have bC:=eG w (E:=3) (size:=1) (enc:=aW) w.heap.size rfl w.heap.size (Ty _);go_enter Tryz.func149,Tryz.ntmps149
 go_wp2;go_loopw [5,13] (fun s5 cL wr=>∃(j:Nat) (D:Option Addr) (d:Nat),j<=n/\cL= .int .i64 j/\s5= .slice D j d/\aD 3 1 aW w.heap.size wr (.slice D j d) (Tn j (-1))/\Below w.heap.size w wr) (fun _ i _=>n-(intOf i).toNat)
 case atStart=>exact⟨0,_,_,Tz _,rfl,rfl,bC,(Below.refl _ _).al _⟩
 case round=>
  obtain⟨j,D,d,hj,rfl,rfl,hown,a6⟩:=hrel;clear bC;by_cases hlt:j<n
  . have dT : (j : Int) < (n : Int) := by omega
    have HL:Hid ((Tn j (-1:Int)).length=j):=Tk Tp;have H8:Hid (((Tn j (-1:Int)).length+1)*8<=140737488355328):=Tk (by rw[HL.out];omega);have HM:Hid ((Tn j (-1:Int)).length+1<=maxLen):=Tk (by rw[HL.out];unfold maxLen;omega);go_wp2_with (at_builtin;go_must (refine aF (enc:=aW) fP aM jS a6 hown (-1:Int) H8.out HM.out rfl _ _ rfl rfl rfl ?_);intro v4 w4 a8 hb4 hg4 eA;rw[Pw]at a8;obtain⟨A4,c4,rfl,eC,eE⟩:=a8.form)
    have bN:aD 3 1 aW w.heap.size w4 (.slice A4 (j+1) c4) (Tn (j+1) (-1)):=by
     have e:(Tn (j+1) (-1:Int)).length=j+1:=Tp;rw[e]at a8;exact a8
    go_roundw
    case rel=>exact⟨j+1,A4,c4,by omega,by go_num,by simp,bN,hb4⟩
    case measure=>simp[intOf];omega
  . have cM : n = j := by omega
    subst cM;rw[MO]at hown;obtain⟨gO,rfl,b6,cN⟩:=hown.split (k:=0) (by rw[jY];omega);have o0:=xN hown hs 0;have c0:=kY hown hs;have b7:=hown.free;have eI:(s:Int)<(n:Int):=(by omega);have B1:=a6.setCell (p:=⟨gO,s,none⟩) b6 (.int .i64 0);have hsz:(wr.setCell ⟨gO,s,none⟩ (.int .i64 0)).heap.size=wr.heap.size:=(by simp);have q0:=(Qu.QB (AJ (E:=3) (enc:=aW) (wr.setCell ⟨gO,s,none⟩ (.int .i64 0)) (s:Int) rfl) (by simp)).mono (by rw[hsz];exact a6.size:w.heap.size<=_);rw[hsz]at q0;have o1:=o0.alloc (.cells #[.int .i64 (s:Int)] 3);have B2:=B1.al (.cells #[.int .i64 (s:Int)] 3);have hne:(slice (some ⟨wr.heap.size,0,none⟩) 1 1).ownBlock≠some gO:=by simp[ownBlock];omega
    have b8:=Tk (Gq (Edge T) hs);have b9:upd (fun _=> -1) s 0=f0 s:=rfl;rw[b9]at o1;clear o0 B1 hsz b9 hown;go_wp2;go_loopg [6,7,9] n (fun gk s6 s7 s9 wr=>∃(dn wt:List Nat) (f:Nat->Int) (z7 z9:Value),s7=z7/\s9=z9/\dn.length+gk=n/\Qu w.heap.size wr s6 (ints wt)/\s6.ownBlock≠some gO/\aD 3 1 aW w.heap.size wr (.slice (some ⟨gO,0,none⟩) n d) (vP n f)/\Hid (Bfs (Edge T) s n f (dn++wt) dn.length)/\Below w.heap.size w wr)
    case atStart=>exact⟨[],[s],f0 s,_,_,rfl,rfl,by simp,q0,hne,o1,b8,B2⟩
    case round=>
     clear q0 hne o1 b8 B2 c0 b7 a6;obtain⟨dn,wt,f,z7,z9,rfl,rfl,eJ,hq,hne,hown,Hb,a6⟩:=hrel;obtain⟨g,off,cq,rfl,hg1,hg2,bO,cB⟩:=hq.form;rcases wt with _|⟨o,wt⟩
     . have HD : Hid (tY T s = f /\ kZ (Edge T) s n (tY T s)) := Tk (by
        have:=Hb.out;rw[List.append_nil]at this;have h2:=MB this;have h3:tY T s=f:=MK (by rw[<-HN.out];exact h2);exact⟨h3,by rw[h3];exact h2⟩)
       have e0:(ints []).length=0:=rfl;rw[e0];go_wp2;go_ret;exact⟨⟨some ⟨gO,0,none⟩,d,by rw[jY];rfl,by rw[jY,HD.out.1];exact hown,a6⟩,HD.out.2⟩
     . have hlt : o < n := Hb.out.lt o (by simp);have e1:(ints (o::wt)).length=wt.length+1:=(by simp[ints]);have e2:ints (o::wt)=(o:Int)::ints wt:=rfl;rw[e1]at bO⊢;have hq':Qu w.heap.size wr (.slice (some ⟨g,off,none⟩) (wt.length+1) cq) ((o:Int)::ints wt):=by rw[<-e2,<-e1];exact hq
       have hc0:=hq'.head;have cC:o<bA.length:=by rw[cK.out];exact hlt
       obtain⟨gA,D1,d1,rfl,_,cP,cA,oN⟩:=h.OG cC;obtain⟨N,hN⟩:=Ti (bA[o]);rw[<-hN]at cA oN;have cQ:=(a6.cell (p:=⟨gA,o,none⟩) cP).trans cA
       have eK:N.length<=9223372036854775807:=by
        obtain⟨_,_,e,h1,h2⟩:=oN.form;unfold maxLen at h2;omega
       have bD:∀x,x∈N↔∃i:Nat,x=i/\Edge T o i:=fun x=>by rw[hN];exact HA.out.mem o cC x
       have cD:=Tk bD;have hoi:(o:Int)<(n:Int):=(by omega);have eL:(0:Int)<((wt.length+1:Nat):Int):=(by omega);have cR:1<=wt.length+1:=(by omega);have bE:(some g:Option Nat)≠some gO:=hne;have bP:=Tk bE;clear hN bD e1 e2 hq bE cA;go_wp2_with ((with_reducible refine Lr fP 1 cR bO cB rfl rfl _ _ rfl rfl rfl ?_);intro A' c' bR)
       have bK:Qu w.heap.size wr (.slice A' wt.length c') (ints wt):=by have:=hq'.tail bR;simpa using this
       have bF:(slice A' wt.length c').ownBlock≠some gO:=by
        have:=Rx bR;simp only[Nat.add_sub_cancel]at this;rw[this];exact bP.out
       clear bR hq' hne hc0;go_loopw [6,9,37] (fun s6 s9 cS wr=>∃(t:Nat) (a7:List Nat) (f:Nat->Int) (z9:Value),s9=z9/\t<=N.length/\cS= .int .i64 t/\Qu w.heap.size wr s6 (ints a7)/\s6.ownBlock≠some gO/\aD 3 1 aW w.heap.size wr (.slice (some ⟨gO,0,none⟩) n d) (vP n f)/\Hid (Bfs (Edge T) s n f (dn++o::a7) dn.length/\∀i:Nat,(i:Int)∈N.take t->0<=f i)/\Below w.heap.size w wr) (fun _ _ i _=>N.length-(intOf i).toNat)
       case atStart=>exact⟨0,wt,f,_,rfl,Tz _,rfl,bK,bF,hown,Tk ⟨Hb.out,fun i hi=>by simp at hi⟩,a6⟩
       case round=>
        clear bK bF hown Hb a6 cQ;obtain⟨t,a7,f,z9,rfl,ht,rfl,hq,hne,hown,Hb,a6⟩:=hrel;obtain⟨g,off,cq,rfl,hg1,hg2,bO,cB⟩:=hq.form;have cT:=Hb.out.1.len;rw[Tq,Tt]at cT;by_cases bB:t<N.length
        . have cE:=oN.below a6;obtain⟨b,cU,rfl,hb,c1⟩:=(cE.rd aM (by decide)).uX bB;obtain⟨i,hi,hE⟩:=(cD.out N[t]).1 (Tu bB);rw[hi]at c1;have bL:i<n:=by rw[HN.out];exact AX cJ.out hE
          have cF:N.take (t+1)=N.take t++[(i:Int)]:=(by rw[List.take_succ_eq_append_getElem bB,hi]);have cG:=Tk cF;have HE:=Tk hE;have ci:=kY hown bL;have co:=kY hown hlt;have b7:=hown.free;have eM:(i:Int)<(n:Int):=(by omega);have eN:(t:Int)<(N.length:Int):=(by omega);have cV:=QC Hb.out.1 (i:=o) (by simp);obtain⟨vo,bS⟩:=Ti (f o);obtain⟨vi,bU⟩:=Ti (f i);rw[<-bS]at co cV;rw[<-bU]at ci;have cW:=Tk bS;have cH:=Tk bU;clear hi hE cF bS bU cE;have cX:vo<=300:=(by omega);by_cases cY:vi<0
          . have o2:=xN hown bL (vo+1);have B2:=a6.setCell (p:=⟨gO,i,none⟩) b6 (.int .i64 (vo+1));have gX:=dB (World.grownBy.refl wr (some gO)) i (.int .i64 (vo+1));have bK:=hq.kept gX hne;have hsz:wr.heap.size=(wr.setCell ⟨gO,i,none⟩ (.int .i64 (vo+1))).heap.size:=(by simp);have bX:(ints a7).length=a7.length:=(by simp[ints]);have H8:Hid (((ints a7).length+1)*8<=140737488355328):=Tk (by rw[bX];omega);have HM:Hid ((ints a7).length+1<=maxLen):=Tk (by rw[bX];unfold maxLen;omega)
            have HG : Hid (Bfs (Edge T) s n (upd f i (vo + 1)) (dn ++ o :: (a7 ++ [i])) dn.length /\ ∀ k : Nat, (k : Int) ∈ N.take (t + 1) -> 0 <= upd f i (vo + 1) k) := Tk (by
             have hp:dn.length<(dn++o::a7).length:=(by simp);have bM:(dn++o::a7)[dn.length]=o:=(by simp);have hb0:=Mx Hb.out.1 hp bL (by rw[bM];exact HE.out) (by rw[<-cH.out];exact cY);rw[bM,<-cW.out,List.append_assoc,List.cons_append]at hb0;refine⟨hb0,fun k hk=> ?_⟩;by_cases e:k=i
             . subst e;rw[uF];omega
             . rw[upd_ne e];rw[cG.out,Tv]at hk;rcases hk with hk|hk
               . exact Hb.out.2 k hk
               . simp at hk;omega)
            have cI:=Tk hsz;clear bX hsz;go_wp2_with (at_builtin;go_must (refine JD fP B2.size bK (i:Int) cI.out H8.out HM.out rfl _ _ rfl rfl rfl ?_);intro g4 c4 bY w4 dL a8 hg4)
            rw[GG]at a8
            have b5:(slice (some ⟨g4,bY,none⟩) ((ints a7).length+1) c4).ownBlock≠some gO:=by
             rcases dL with q|q
             . show some g4≠some gO;rw[q];exact hne
             . have:=cI.out;have h3:=(hown.split (k:=i) (by rw[jY];exact bL));obtain⟨g',e',_,h5⟩:=h3;injection e' with e';injection e' with e';show some g4≠some gO;intro e;injection e with e;omega
            have o4:aD 3 1 aW w.heap.size w4 (.slice (some ⟨gO,0,none⟩) n d) (vP n (upd f i (vo+1))):=World.ownsRow.kept (o2.alloc _) hg4 (.inr (fun e=>hne e.symm))
            have B4 := (B2.al (.cells #[.int .i64 (i : Int)] 3)).grown hg4 (B2.al (.cells #[.int .i64 (i : Int)] 3)).size (fun k hk => by
             have h2:(some g:Option Nat)=some k:=hk;injection h2 with h2;omega)
            go_roundw
            case rel=>exact⟨t+1,a7++[i],upd f i (vo+1),_,rfl,by omega,by go_num,a8,b5,o4,HG,B4⟩
            case measure=>simp[intOf];omega
          . have HG : Hid (Bfs (Edge T) s n f (dn ++ o :: a7) dn.length /\ ∀ k : Nat, (k : Int) ∈ N.take (t + 1) -> 0 <= f k) := Tk ⟨Hb.out.1, fun k hk => by
             rw[cG.out,Tv]at hk;rcases hk with hk|hk
             . exact Hb.out.2 k hk
             . simp at hk;obtain rfl:k=i:=by omega
               rw[<-cH.out];omega⟩
            go_wp2;go_roundw
            case rel=>exact⟨t+1,a7,f,_,rfl,by omega,by go_num,hq,hne,hown,HG,a6⟩
            case measure=>simp[intOf];omega
        . obtain rfl : t = N.length := by omega
          have HG : Hid (Bfs (Edge T) s n f ((dn ++ [o]) ++ a7) (dn ++ [o]).length) := Tk (by
           have hp:dn.length<(dn++o::a7).length:=(by simp);have bM:(dn++o::a7)[dn.length]=o:=by simp
           have hb0 := Ka Hb.out.1 hp (fun i hi => by
            rw[bM]at hi;have:=(cD.out (i:Int)).2 ⟨i,rfl,hi⟩;exact Hb.out.2 i (by rw[Tw];exact this))
           rw[List.append_assoc,Tq];exact hb0)
          go_wp2;go_roundg (gk-1)
          case measure=>omega
          case rel=>exact⟨dn++[o],a7,f,_,_,rfl,rfl,by simp;omega,hq,hne,hown,HG,a6⟩
theorem QD {α:Type} {E:TypeId} {size:Nat} {enc:α->List Value} {B:Nat} {w w':World} {v:Value} {l:List α} {row:Option Nat} (h:aD E size enc B w v l) (hg:w.grownBy w' row) (hne:v.ownBlock≠row):aD E size enc B w' v l:=World.ownsRow.kept h hg (.inr hne)
theorem ints_at {q:List Nat} {p:Nat} (hp:p<q.length):(ints q)[p]'(by simp[ints];exact hp)=(q[p]:Int):=by simp[ints]
theorem qD (q:List Nat):(ints q).length=q.length:=by simp[ints]
theorem Kt {B g n c:Nat} {l:List Int} {w:World} (h:aD 3 1 aW B w (.slice (some ⟨g,0,none⟩) n c) l) {i:Nat} (hi:i<l.length):w.cell? ⟨g,i,none⟩=some (.int .i64 l[i]):=by
 have:=h.slot aM (by decide) hi 0 _ rfl;simpa using this
theorem Py {B : Nat} (v : Value) (T : List (List Dm)) (a7 : List (List Int)) (s : Nat) (w : World) (h : dY 24 3 1 aW B w v a7) (hA : Adj T a7) (hT : qC T) (hs : s < T.length) : Calls prog 184 #[v, .int .i64 s] w (fun e w' => fM 3 1 aW (vP T.length (tY T s)) w e w' /\ kZ (Edge T) s T.length (tY T s)) := by
 obtain⟨A,c,rfl,hc,hm⟩:=h.form;have hsm:=hT.sm;have bL:=hA.len;obtain⟨n,hn⟩:=Ti T.length;rw[bL,<-hn]at h⊢;rw[<-hn]at hs hsm bL;have HA:=Tk hA;have cM:=Tk hT;have cN:=Tk bL;have HN:=Tk hn;clear hA hT bL hn hc hm;have cP:8*n<=281474976710656:=(by omega);have cQ:n<=maxLen:=by unfold maxLen;omega
 go_enter Tryz.func184,Tryz.ntmps184
 go_wp2_with (at_make;go_must (refine FR (enc:=aW) (z0:=(0:Int)) fP rfl (Below.refl _ w) n cP cQ rfl _ _ rfl rfl rfl ?_);intro w1 hown1 hb1 hg1)
 obtain⟨gO,a8⟩:=Ti w.heap.size;have bN:w.heap.size<=gO:=(by omega);have hown1:aD 3 1 aW w.heap.size w1 (.slice (some ⟨gO,0,none⟩) n n) (Tn n 0):=by rw[a8];exact hown1
 rw[<-a8];have eC:=Tk a8;clear a8 hg1;go_loopw [6] (fun s6 wr=>∃(k:Nat) (m:List Int),k<=n/\s6= .int .i64 k/\Dh k m (Tn n (-1:Int))/\aD 3 1 aW w.heap.size wr (.slice (some ⟨gO,0,none⟩) n n) m/\Below w.heap.size w wr) (fun i _=>n-(intOf i).toNat)
 case atStart=>exact⟨0,Tn n (0:Int),Tz _,rfl,Dh.start _ _ (by simp),hown1,hb1⟩
 case round=>
  obtain⟨k,m,hk,rfl,hu,hown,a6⟩:=hrel;clear hown1 hb1;have cR:m.length=n:=(by rw[hu.1,Tp]);by_cases hlt:k<n
  . have eE : (k : Int) < (n : Int) := by omega
    obtain⟨u0,s0⟩:=hown.Cv aM (k:=k) (by omega);have eI:=hown.free;have hst:=hu.step (by rw[Tp];exact hlt);rw[List.getElem_replicate]at hst;have bO:=hown.kI aM (k:=k) (y:=(-1:Int)) (by omega) rfl;have B2:=a6.setCell (p:=⟨gO,k,none⟩) bN (.int .i64 (-1));go_wp2;go_roundw
    case rel=>exact⟨k+1,m.set k (-1),by omega,by go_num,hst,bO,B2⟩
    case measure=>simp[intOf];omega
  . have cS : n = k := by omega
    subst cS;have b9:=hu.done (by rw[Tp];exact Ty _);rw[b9,MO]at hown;have o0:=xN hown hs 0;have c0:=kY hown hs;have bP:=hown.free;have eJ:(s:Int)<(n:Int):=by omega
    have cT:gO<wr.heap.size:=by
     obtain⟨g',e',_,h5⟩:=hown.split (k:=0) (by rw[jY];omega);injection e' with e';injection e' with e';omega
    have B1:=a6.setCell (p:=⟨gO,s,none⟩) bN (.int .i64 0);have hsz:(wr.setCell ⟨gO,s,none⟩ (.int .i64 0)).heap.size=wr.heap.size:=(by simp);have q0:=(AJ (E:=3) (enc:=aW) (wr.setCell ⟨gO,s,none⟩ (.int .i64 0)) (s:Int) rfl).mono (by rw[hsz];exact a6.size:w.heap.size<=_);rw[hsz]at q0;have o1:=o0.alloc (.cells #[.int .i64 (s:Int)] 3);have B2:=B1.al (.cells #[.int .i64 (s:Int)] 3);have hne:(slice (some ⟨wr.heap.size,0,none⟩) 1 1).ownBlock≠some gO:=by simp[ownBlock];omega
    have cB:=Tk (Gq (Edge T) hs);have cC:upd (fun _=> -1) s 0=f0 s:=rfl;rw[cC]at o1;clear o0 B1 hsz cC hown b9 hu cR;go_wp2;go_loopw [7,8,9,10] (fun s7 s8 s9 bR wr=>∃(q:List Nat) (p:Nat) (f:Nat->Int) (D:Option Addr) (d:Nat) (z9 cD:Value),s9=z9/\bR=cD/\p<=q.length/\s8= .int .i64 p/\s7= .slice D q.length d/\aD 3 1 aW w.heap.size wr (.slice D q.length d) (ints q)/\(slice D q.length d).ownBlock≠some gO/\aD 3 1 aW w.heap.size wr (.slice (some ⟨gO,0,none⟩) n n) (vP n f)/\Hid (Bfs (Edge T) s n f q p)/\Below w.heap.size w wr) (fun _ i _ _ _=>n-(intOf i).toNat)
    case atStart=>exact⟨[s],0,f0 s,_,_,_,_,rfl,rfl,by simp,rfl,rfl,q0,hne,o1,cB,B2⟩
    case round=>
     clear q0 hne o1 cB B2 c0 bP a6;obtain⟨q,p,f,D,d,z9,cD,rfl,rfl,hp,rfl,rfl,hq,hne,hown,Hb,a6⟩:=hrel;have eK:=Hb.out.len;by_cases bM:p<q.length
     . obtain⟨o,ho⟩:=Ti (q[p]);have hlt:o<n:=by rw[ho];exact Hb.out.lt _ (Tu bM)
       obtain⟨gQ,rfl,cE,bA⟩:=hq.split (k:=0) (by rw[qD];omega);have cq:=Kt hq (i:=p) (by rw[qD];exact bM);rw[ints_at bM,<-ho]at cq;have cF:o<a7.length:=by rw[cN.out];exact hlt
       obtain⟨gA,D1,d1,rfl,_,cU,cA,oN⟩:=h.OG cF;obtain⟨N,hN⟩:=Ti (a7[o]);rw[<-hN]at cA oN;have cV:=(a6.cell (p:=⟨gA,o,none⟩) cU).trans cA
       have eL:N.length<=9223372036854775807:=by
        obtain⟨_,_,e,h1,h2⟩:=oN.form;unfold maxLen at h2;omega
       have bF:∀x,x∈N↔∃i:Nat,x=i/\Edge T o i:=fun x=>by rw[hN];exact HA.out.mem o cF x
       have cG:=Tk bF;have HO:=Tk ho;have hoi:(o:Int)<(n:Int):=(by omega);have eM:(p:Int)<(q.length:Int):=(by omega);have bS:(some gQ:Option Nat)≠some gO:=hne;clear hN bF cA ho;go_wp2;go_loopw [7,10] (fun s7 bR wr=>∃(t:Nat) (q2:List Nat) (f:Nat->Int) (D:Option Addr) (d:Nat),t<=N.length/\bR= .int .i64 t/\s7= .slice D q2.length d/\aD 3 1 aW w.heap.size wr (.slice D q2.length d) (ints q2)/\(slice D q2.length d).ownBlock≠some gO/\aD 3 1 aW w.heap.size wr (.slice (some ⟨gO,0,none⟩) n n) (vP n f)/\Hid (Bfs (Edge T) s n f q2 p/\(∃h:p<q2.length,q2[p]=o)/\∀i:Nat,(i:Int)∈N.take t->0<=f i)/\Below w.heap.size w wr) (fun _ i _=>N.length-(intOf i).toNat)
       case atStart=>exact⟨0,q,f,_,_,Tz _,rfl,rfl,hq,hne,hown,Tk ⟨Hb.out,⟨bM,HO.out.symm⟩,fun i hi=>by simp at hi⟩,a6⟩
       case round=>
        clear hq hne hown Hb a6 cV cq bS cE bA;obtain⟨t,q2,f,D,d,ht,rfl,rfl,hq,hne,hown,Hb,a6⟩:=hrel;obtain⟨bE,bJ⟩:=Hb.out.2.1;obtain⟨gQ,rfl,cE,bA⟩:=hq.split (k:=0) (by rw[qD];omega);have eN:=Hb.out.1.len;by_cases bB:t<N.length
        . obtain ⟨b, bK, rfl, hb, bU⟩ := (oN.rd aM (by decide)).uX bB;have hbg:b≠gO:=(by omega);have c1:=(a6.cell (p:=⟨b,bK+t,none⟩) hb).trans bU;obtain⟨i,hi,hE⟩:=(cG.out N[t]).1 (Tu bB);rw[hi]at c1 bU;have bX:i<n:=by rw[HN.out];exact AX cM.out hE
          have cH:N.take (t+1)=N.take t++[(i:Int)]:=(by rw[List.take_succ_eq_append_getElem bB,hi]);have cI:=Tk cH;have HE:=Tk hE;have ci:=kY hown bX;have co:=kY hown hlt;have cq:=Kt hq (i:=p) (by rw[qD];exact bE);rw[ints_at bE,bJ]at cq;have bP:=hown.free;have eP:(i:Int)<(n:Int):=(by omega);have eR:(t:Int)<(N.length:Int):=(by omega);have eW:(p:Int)<(q2.length:Int):=(by omega);have cW:=QC Hb.out.1 (i:=o) (by rw[<-bJ];exact Tu bE);obtain⟨vo,bY⟩:=Ti (f o);obtain⟨vi,b5⟩:=Ti (f i);rw[<-bY]at co cW;rw[<-b5]at ci;have cX:=Tk bY;have cJ:=Tk b5;have b6:=Tk bJ;clear hi hE cH bY b5 bJ;have cY:vo<=300:=(by omega);by_cases dL:vi<0
          . obtain⟨W,hW⟩:=Ti wr;rw[<-hW]at hq hown a6 ci co cq c1 bP bA⊢;clear hW;have Bw:Below W.heap.size W W.drew:=(Below.refl _ _).drew;have hz:W.heap.size<=W.drew.heap.size:=by simp
            have dT:gO<W.heap.size:=by
             obtain⟨g',e',_,h5⟩:=hown.split (k:=0) (by rw[jY];omega);injection e' with e';injection e' with e';omega
            go_wp2_with fail
            go_still_tail 13,(by kernel_rfl)
            have hown':=hown.below Bw;have hq':=hq.below Bw;have B':=a6.tr Bw;have o2:=xN hown' bX (vo+1);have B2:=B'.setCell (p:=⟨gO,i,none⟩) bN (.int .i64 (vo+1));have gX:=dB (World.grownBy.refl W.drew (some gO)) i (.int .i64 (vo+1));have eA:=QD hq' gX hne;have e5:=(B2.cell (p:=⟨b,bK+t,none⟩) hb).trans bU;have hsz:W.heap.size=(W.drew.setCell ⟨gO,i,none⟩ (.int .i64 (vo+1))).heap.size:=(by simp);have H8:Hid (((ints q2).length+1)*8<=140737488355328):=Tk (by rw[qD];omega);have HM:Hid ((ints q2).length+1<=maxLen):=Tk (by rw[qD];unfold maxLen;omega)
            have HG : Hid (Bfs (Edge T) s n (upd f i (vo + 1)) (q2 ++ [i]) p /\ (∃ h : p < (q2 ++ [i]).length, (q2 ++ [i])[p] = o) /\ ∀ k : Nat, (k : Int) ∈ N.take (t + 1) -> 0 <= upd f i (vo + 1) k) := Tk (by
             have hb0:=Mx Hb.out.1 bE bX (by rw[b6.out];exact HE.out) (by rw[<-cJ.out];exact dL);rw[b6.out,<-cX.out]at hb0;refine⟨hb0,⟨by simp;omega,by rw[List.getElem_append_left bE];exact b6.out⟩,fun k hk=> ?_⟩;by_cases e:k=i
             . subst e;rw[uF];omega
             . rw[upd_ne e];rw[cI.out,Tv]at hk;rcases hk with hk|hk
               . exact Hb.out.2.2 k hk
               . simp at hk;omega)
            have cK:=Tk hsz;have HL:=Tk (qD q2);clear hsz hown' hq' B' hq hown a6;go_wp2_with (at_builtin;go_must (refine aP (enc:=aW) fP aM jS B2 eA (i:Int) H8.out HM.out cK.out rfl _ _ rfl rfl rfl ?_);intro v4 w4 bC hb4 hg4 cL;rw[GG]at bC;obtain⟨A4,c4,rfl,e6,e7⟩:=bC.form)
            have bD:(ints (q2++[i])).length=(q2++[i]).length:=qD _
            have b7:(slice A4 (q2++[i]).length c4).ownBlock≠some gO:=by
             rw[bD]at cL;rcases cL with q|q
             . rw[q];exact hne
             . rw[q,<-cK.out];intro e;injection e with e;omega
            have b8:aD 3 1 aW w.heap.size w4 (.slice A4 (q2++[i]).length c4) (ints (q2++[i])):=by rw[<-bD];exact bC
            have o4:aD 3 1 aW w.heap.size w4 (.slice (some ⟨gO,0,none⟩) n n) (vP n (upd f i (vo+1))):=QD (o2.alloc _) hg4 (fun e=>hne e.symm);go_roundw
            case rel=>exact⟨t+1,q2++[i],upd f i (vo+1),A4,c4,by omega,by go_num,by rw[bD],b8,b7,o4,HG,hb4⟩
            case measure=>simp[intOf];omega
          . have HG : Hid (Bfs (Edge T) s n f q2 p /\ (∃ h : p < q2.length, q2[p] = o) /\ ∀ k : Nat, (k : Int) ∈ N.take (t + 1) -> 0 <= f k) := Tk ⟨Hb.out.1, Hb.out.2.1, fun k hk => by
             rw[cI.out,Tv]at hk;rcases hk with hk|hk
             . exact Hb.out.2.2 k hk
             . simp at hk;obtain rfl:k=i:=by omega
               rw[<-cJ.out];omega⟩
            go_wp2;go_roundw
            case rel=>exact⟨t+1,q2,f,_,_,by omega,by go_num,rfl,hq,hne,hown,HG,a6⟩
            case measure=>simp[intOf];omega
        . obtain rfl : t = N.length := by omega
          have HG : Hid (Bfs (Edge T) s n f q2 (p + 1)) := Tk (Ka Hb.out.1 bE (fun i hi => by
           rw[bJ]at hi;have:=(cG.out (i:Int)).2 ⟨i,rfl,hi⟩;exact Hb.out.2.2 i (by rw[Tw];exact this)))
          go_wp2;go_roundw
          case rel=>exact⟨q2,p+1,f,_,_,_,_,rfl,rfl,by omega,by go_num,rfl,hq,hne,hown,HG,a6⟩
          case measure=>simp[intOf];omega
     . obtain rfl : p = q.length := by omega
       have HD : Hid (tY T s = f /\ kZ (Edge T) s n (tY T s)) := Tk (by
        have h2:=MB Hb.out;have h3:tY T s=f:=MK (by rw[<-HN.out];exact h2);exact⟨h3,by rw[h3];exact h2⟩)
       go_wp2;go_ret;exact⟨⟨some ⟨gO,0,none⟩,n,by rw[jY];rfl,by rw[jY,HD.out.1];exact hown,a6⟩,HD.out.2⟩
def fI (l:List Dm) (k:Nat):List Cl:=((List.range k).map iT).filter fun c=>decide (kindOf l c≠0)
theorem Cg {l:List Dm} {k:Nat} (h:kindOf l (iT k)≠0):fI l k++[iT k]=fI l (k+1):=by
 unfold fI;rw[List.range_succ,Tm,List.filter_append,Tx,List.map_nil,List.filter_cons_of_pos (by simpa using h)];rfl
theorem Et {l:List Dm} {k:Nat} (h:kindOf l (iT k)=0):fI l (k+1)=fI l k:=by
 unfold fI;rw[List.range_succ,Tm,List.filter_append,Tx,List.map_nil,List.filter_cons_of_neg (by simpa using h)];simp
theorem Ch (l:List Dm) (k:Nat):(fI l k).length<=k:=by
 unfold fI;refine Nat.le_trans (List.length_filter_le _ _) ?_;simp
theorem Eu (v:Value) (l:List Dm) (w:World) (h:Rd 3 aQ w v l):Calls prog 151 #[v] w (fM 83 2 dM (gG l) w):=by
 obtain⟨A,c,rfl,hc,hm⟩:=h.form;have a8:=eG w (E:=83) (size:=2) (enc:=dM) w.heap.size rfl w.heap.size (Ty _);go_enter Tryz.func151,Tryz.ntmps151
 go_wp2;go_loopw [3,4,6] (fun s3 s4 s6 wr=>∃(k:Nat) (D:Option Addr) (d:Nat) (z:Value),s4=z/\k<=64/\s6= .int .i64 k/\s3= .slice D (fI l k).length d/\aD 83 2 dM w.heap.size wr (.slice D (fI l k).length d) (fI l k)/\Below w.heap.size w wr) (fun _ _ i _=>64-(intOf i).toNat)
 case atStart=>exact⟨0,_,_,_,rfl,by omega,rfl,rfl,a8,(Below.refl _ _).al _⟩
 case round=>
  obtain⟨k,D,d,z,rfl,hk,rfl,rfl,hown,bA⟩:=hrel;clear a8;by_cases hlt:k<64
  . obtain⟨x,y,bC⟩:∃x y,iT k=(x,y):=⟨_,_,rfl⟩
    have cA : ∀ W : World, Calls prog 208 #[.int .i64 k] W (Ret (.agg #[.int .i64 x, .int .i64 y]) W) := fun W => by
     have:=BG k W (by omega);rw[bC]at this;exact this
    have HC:=Tk cA;have bD:=Tk bC;clear cA bC;have bF:(k:Int)<64:=(by omega);go_wp2_with fail
    refine(HC.out _).mono ?_;rintro e w1 ⟨rfl,hb1⟩;have B1:=bA.tr hb1;go_wp2_with fail
    refine(uR _ l x y _ (h.Tj B1)).mono ?_;rintro e w2 ⟨rfl,hb2⟩;have B2:=B1.tr hb2;have bB:=(hown.below hb1).below hb2;by_cases a7:kindOf l (x,y)=0
    . have hd : decide (kindOf l (x, y) ≠ 0) = false := by simpa using a7
      rw[hd];have HN:Hid (fI l (k+1)=fI l k):=Tk (Et (by rw[bD.out];exact a7));clear hd a7;go_wp2;go_roundw
      case rel=>exact⟨k+1,D,d,_,rfl,by omega,by go_num,by rw[HN.out],by rw[HN.out];exact bB,B2⟩
      case measure=>simp[intOf];omega
    . have hd : decide (kindOf l (x, y) ≠ 0) = true := by simpa using a7
      rw[hd];have HY:Hid (fI l k++[(x,y)]=fI l (k+1)):=Tk (by have:=Cg (l:=l) (k:=k) (by rw[bD.out];exact a7);rw[bD.out]at this;exact this);have hlen:=Ch l k;have H8:Hid (((fI l k).length+1)*16<=140737488355328):=Tk (by omega);have HM:Hid ((fI l k).length+1<=maxLen):=Tk (by unfold maxLen;omega);clear hd a7 hlen;go_wp2_with fail
      refine(HC.out _).mono ?_;rintro e w3 ⟨rfl,hb3⟩;have B3:=B2.tr hb3;have bE:=bB.below hb3;go_wp2_with (at_builtin;go_must (refine aF (enc:=dM) jK eB oneCell B3 bE ((x,y):Cl) H8.out HM.out rfl _ _ rfl rfl rfl ?_);intro v4 w4 a6 hb4 hg4 bJ;rw[HY.out]at a6;obtain⟨A4,c4,rfl,bK,bL⟩:=a6.form)
      go_roundw
      case rel=>exact⟨k+1,A4,c4,_,rfl,by omega,by go_num,rfl,a6,hb4⟩
      case measure=>simp[intOf];omega
  . obtain rfl : k = 64 := by omega
    go_wp2;go_ret;exact⟨_,_,rfl,hown,bA⟩
theorem Ev (v:Value) (l:List Dm) (w:World) (h:Rd 3 aQ w v l):Calls prog 79 #[v] w (fM 83 2 dM (gG l) w):=by
 obtain⟨A,c,rfl,hc,hm⟩:=h.form;have a7:=eG w (E:=83) (size:=2) (enc:=dM) w.heap.size rfl w.heap.size (Ty _);go_enter Tryz.func79,Tryz.ntmps79
 go_wp2;go_loopw [3,4,5,6] (fun s3 s4 s5 s6 wr=>∃(k:Nat) (D:Option Addr) (d:Nat) (z5 z6:Value),s5=z5/\s6=z6/\k<=64/\s4= .int .i64 k/\s3= .slice D (fI l k).length d/\aD 83 2 dM w.heap.size wr (.slice D (fI l k).length d) (fI l k)/\Below w.heap.size w wr) (fun _ i _ _ _=>64-(intOf i).toNat)
 case atStart=>exact⟨0,_,_,_,_,rfl,rfl,by omega,rfl,rfl,a7,(Below.refl _ _).al _⟩
 case round=>
  obtain⟨k,D,d,z5,z6,rfl,rfl,hk,rfl,rfl,hown,a8⟩:=hrel;clear a7;by_cases hlt:k<64
  . obtain⟨x,y,bB⟩:∃x y,iT k=(x,y):=⟨_,_,rfl⟩
    have cA : ∀ W : World, Calls prog 132 #[.int .i64 k] W (Ret (.tuple #[.agg #[.int .i64 x, .int .i64 y], .bool true]) W) := fun W => by
     have:=wF k W hlt;unfold iT at bB;injection bB with e1 e2;rw[e1,e2]at this;exact this
    have HC:=Tk cA;have bC:=Tk bB;clear cA bB;have bJ:(k:Int)<64:=(by omega);go_wp2_with fail
    refine(HC.out _).mono ?_;rintro e w1 ⟨rfl,hb1⟩;have B1:=(a8.tr hb1).al (.cells #[.int .i64 x,.int .i64 y] 83);have bD:=(hown.below hb1).alloc (.cells #[.int .i64 x,.int .i64 y] 83);have b1:=Blk.aX w1 83 #[.int .i64 x,.int .i64 y];obtain⟨n,hn⟩:=Ti (kindOf l (x,y));have cK:∀(W:World),Rd 3 aQ W (.slice A l.length c) l->Calls prog 133 #[.slice A l.length c,.agg #[.int .i64 x,.int .i64 y]] W (Ret (.int .i64 (n:Nat)) W):=fun W hW=>by rw[hn];exact Gj _ l x y W hW
    have HK:=Tk cK;have HN:=Tk hn;clear cK hn;go_wp2_with fail
    refine(HK.out _ (h.Tj B1)).mono ?_;rintro e w2 ⟨rfl,hb2⟩;have B2:=B1.tr hb2;have bA:=bD.below hb2;have b2:=b1.bl hb2;by_cases bE:n=0
    . subst bE;have bF:Hid (fI l (k+1)=fI l k):=Tk (Et (by rw[bC.out];exact HN.out.symm));go_wp2;go_roundw
      case rel=>exact⟨k+1,D,d,_,_,rfl,rfl,by omega,by go_num,by rw[bF.out],by rw[bF.out];exact bA,B2⟩
      case measure=>simp[intOf];omega
    . have bK : (0 : Int) < (n : Int) := by omega
      have HY:Hid (fI l k++[(x,y)]=fI l (k+1)):=Tk (by have:=Cg (l:=l) (k:=k) (by rw[bC.out,<-HN.out];exact bE);rw[bC.out]at this;exact this);have hlen:=Ch l k;have H8:Hid (((fI l k).length+1)*16<=140737488355328):=Tk (by omega);have HM:Hid ((fI l k).length+1<=maxLen):=Tk (by unfold maxLen;omega);clear bE hlen;obtain⟨bL,bM⟩:=b2.n2;go_wp2_with (at_builtin;go_must (refine aF (enc:=dM) jK eB oneCell B2 bA ((x,y):Cl) H8.out HM.out rfl _ _ rfl rfl rfl ?_);intro v4 w4 a6 hb4 hg4 bN;rw[HY.out]at a6;obtain⟨A4,c4,rfl,bO,bP⟩:=a6.form)
      go_roundw
      case rel=>exact⟨k+1,A4,c4,_,_,rfl,rfl,by omega,by go_num,rfl,a6,hb4⟩
      case measure=>simp[intOf];omega
  . obtain rfl : k = 64 := by omega
    go_wp2;go_ret;exact⟨_,_,rfl,hown,a8⟩
theorem Ry {n x:Int} (h:n<=x) (r:List Int):vQ n (x::r)=n::x::r:=if_pos h
theorem Rz {n x:Int} (h:¬n<=x) (r:List Int):vQ n (x::r)=x::vQ n r:=if_neg h
theorem Pz {n x:Int} {l:List Int} {k:Nat} (hk:k<l.length) (hx:l[k]=x):l.drop k=x::l.drop (k+1):=by rw[<-hx];exact List.drop_eq_getElem_cons hk
theorem PD (v:Value) (l:List Int) (n:Int) (w:World) (h:Rd 1 aZ w v l) (hl:l.length<=1000):Calls prog 207 #[v,.int .i64 n] w (fM 3 1 aW (vQ n l) w):=by
 obtain⟨A,c,rfl,hc,hm⟩:=h.form;have a8:=eG w (E:=3) (size:=1) (enc:=aW) w.heap.size rfl w.heap.size (Ty _);go_enter Tryz.func207,Tryz.ntmps207
 go_wp2;go_loopw [5,6,8,12] (fun s5 s6 s8 s12 wr=>∃(k:Nat) (dn:Bool) (out:List Int) (D:Option Addr) (d:Nat) (z:Value),s8=z/\k<=l.length/\s12= .int .i64 k/\s6= .bool dn/\s5= .slice D out.length d/\(out.length=k∨(dn=true/\out.length<=k+1))/\aD 3 1 aW w.heap.size wr (.slice D out.length d) out/\Hid ((if dn=true then out++l.drop k else out++vQ n (l.drop k))=vQ n l)/\Below w.heap.size w wr) (fun _ _ _ i _=>l.length-(intOf i).toNat)
 case atStart=>exact⟨0,false,[],_,_,_,rfl,Tz _,rfl,rfl,rfl,.inl rfl,a8,Tk (by simp),(Below.refl _ _).al _⟩
 case round=>
  obtain⟨k,dn,out,D,d,z,rfl,hk,rfl,rfl,rfl,bC,hown,Hg,a7⟩:=hrel;clear a8;have bL:out.length<=k+1:=by rcases bC with q|⟨_,q⟩<;>omega
  have bA : dn = false -> out.length = k := fun e => by
   rcases bC with q|⟨q,_⟩
   . exact q
   . rw[e]at q;cases q
  have bJ:=Tk bA;clear bC bA;have H8:Hid ((out.length+1)*8<=140737488355328):=Tk (by omega);have HM:Hid (out.length+1<=maxLen):=Tk (by unfold maxLen;omega);by_cases hlt:k<l.length
  . obtain⟨b,off,rfl,hb,c1⟩:=(h.Tj a7).uX hlt;obtain⟨x,hx⟩:=Ti (l[k]);rw[<-hx]at c1;have hdr:=Pz (n:=n) hlt hx.symm;have HD:=Tk hdr;clear hx hdr;have bP:(k:Int)<(l.length:Int):=(by omega);cases dn
    . by_cases bK:n<=x
      . have HG : Hid ((out ++ [n]) ++ [x] ++ l.drop (k + 1) = vQ n l) := Tk (by
         have:=Hg.out;rw[if_neg (by decide),HD.out]at this;rw[Ry bK]at this;rw[<-this];simp)
        have bM:Hid (((out++[n]).length+1)*8<=140737488355328):=Tk (by rw[Tq];simp;omega);have bN:Hid ((out++[n]).length+1<=maxLen):=Tk (by rw[Tq];unfold maxLen;simp;omega);have HL:Hid ((out++[n]).length=out.length+1):=Tk (by simp);go_wp2_with (first|(at_builtin;(refine aF (enc:=aW) fP aM jS a7 hown n H8.out HM.out rfl _ _ rfl rfl rfl ?_);intro v4 w4 a6 hb4 hg4 bD;obtain⟨A4,c4,rfl,bE,bF⟩:=a6.form;rw[HL.out]at a6)|(at_builtin;go_must (refine aF (enc:=aW) fP aM jS hb4 a6 x bM.out bN.out rfl _ _ rfl rfl rfl ?_);intro v5 w5 bB bO bR bS;obtain⟨A5,c5,rfl,bU,bX⟩:=bB.form))
        go_roundw
        case rel=>exact⟨k+1,true,(out++[n])++[x],A5,c5,_,rfl,by omega,by go_num,rfl,by simp,.inr ⟨rfl,by have:=bJ.out rfl;simp;omega⟩,bB,Tk (by rw[if_pos rfl];exact HG.out),bO⟩
        case measure=>simp[intOf];omega
      . have HG : Hid ((out ++ [x]) ++ vQ n (l.drop (k + 1)) = vQ n l) := Tk (by
         have:=Hg.out;rw[if_neg (by decide),HD.out]at this;rw[Rz bK]at this;rw[<-this];simp)
        go_wp2_with (at_builtin;go_must (refine aF (enc:=aW) fP aM jS a7 hown x H8.out HM.out rfl _ _ rfl rfl rfl ?_);intro v4 w4 a6 hb4 hg4 bD;obtain⟨A4,c4,rfl,bE,bF⟩:=a6.form)
        go_roundw
        case rel=>exact⟨k+1,false,out++[x],A4,c4,_,rfl,by omega,by go_num,rfl,by simp,.inl (by rw[Tq,bJ.out rfl];rfl),a6,Tk (by rw[if_neg (by decide)];exact HG.out),hb4⟩
        case measure=>simp[intOf];omega
    . have HG : Hid ((out ++ [x]) ++ l.drop (k + 1) = vQ n l) := Tk (by
       have:=Hg.out;rw[if_pos rfl,HD.out]at this;rw[<-this];simp)
      go_wp2_with (at_builtin;go_must (refine aF (enc:=aW) fP aM jS a7 hown x H8.out HM.out rfl _ _ rfl rfl rfl ?_);intro v4 w4 a6 hb4 hg4 bD;obtain⟨A4,c4,rfl,bE,bF⟩:=a6.form)
      go_roundw
      case rel=>exact⟨k+1,true,out++[x],A4,c4,_,rfl,by omega,by go_num,rfl,by simp,.inr ⟨rfl,by simp;omega⟩,a6,Tk (by rw[if_pos rfl];exact HG.out),hb4⟩
      case measure=>simp[intOf];omega
  . obtain rfl : k = l.length := by omega
    cases dn
    . have HG : Hid (out ++ [n] = vQ n l) := Tk (by
       have:=Hg.out;rw[if_neg (by decide),List.drop_length]at this;exact this)
      go_wp2_with (at_builtin;go_must (refine aF (enc:=aW) fP aM jS a7 hown n H8.out HM.out rfl _ _ rfl rfl rfl ?_);rw[HG.out];intro v4 w4 a6 hb4 hg4 bD;obtain⟨A4,c4,rfl,bE,bF⟩:=a6.form)
      go_ret;exact⟨_,_,rfl,a6,hb4⟩
    . have HG : Hid (out = vQ n l) := Tk (by
       have:=Hg.out;rw[if_pos rfl,List.drop_length,List.append_nil]at this;exact this)
      go_wp2;go_ret;exact⟨D,d,by rw[<-HG.out];rfl,by rw[<-HG.out];exact hown,a7⟩
theorem vJ {B:Nat} (u v:Value) (T:List (List Dm)) (m:List Dm) (w:World) (h:dY 27 99 3 aV B w u T) (h':Rd 3 aQ w v m):Calls prog 147 #[u,v] w (Ret (.int .i64 (oZ T m)) w):=by
 obtain⟨A,c,rfl,hc,hm⟩:=h.form;have a8:T.length<=9223372036854775807:=by unfold maxLen at hm;omega
 go_enter Tryz.func147,Tryz.ntmps147
 go_wp2;go_loopw [5,6,9] (fun s5 s6 s9 wr=>∃(k:Nat) (z5 z6:Value),s5=z5/\s6=z6/\k<=T.length/\s9= .int .i64 k/\Hid (∀j (hj:j<k) (h:j<T.length),T[j]≠m)/\Below w.heap.size w wr) (fun _ _ i _=>T.length-(intOf i).toNat)
 case atStart=>exact⟨0,_,_,rfl,rfl,Tz _,rfl,Tk (fun j hj=>by omega),Below.refl _ _⟩
 case round=>
  obtain⟨k,z5,z6,rfl,rfl,hk,rfl,Hg,a6⟩:=hrel;by_cases hlt:k<T.length
  . obtain⟨g,D,d,rfl,hg1,hg2,c1,a7⟩:=(h.below a6).pick hlt;have bA:(k:Int)<(T.length:Int):=(by omega);obtain⟨t,ht⟩:=Ti (T[k]);rw[<-ht]at c1 a7;have HT:=Tk ht;clear ht;go_wp2_with fail
    refine(uT _ _ t m _ (a7.rd aC (by decide)) (h'.Tj a6)).mono ?_;rintro e w1 ⟨rfl,hb1⟩;by_cases he:t=m
    . rw[decide_eq_true he];have HI:Hid (oZ T m=(k:Int)):=Tk (index_hit hlt (fun j hj=>Hg.out j hj (by omega)) (by rw[<-HT.out];exact he));clear he;go_wp2;go_ret;exact⟨by rw[HI.out];rfl,a6.tr hb1⟩
    . rw[decide_eq_false he]
      have HN : Hid (∀ j (hj : j < k + 1) (h : j < T.length), T[j] ≠ m) := Tk (fun j hj h q => by
       rcases(by omega:j<k∨j=k)with h1|h1
       . exact Hg.out j h1 h q
       . subst h1;rw[<-HT.out]at q;exact he q)
      clear he;go_wp2;go_roundw
      case rel=>exact⟨k+1,_,_,rfl,rfl,by omega,by go_num,HN,a6.tr hb1⟩
      case measure=>simp[intOf];omega
  . obtain rfl : k = T.length := by omega
    have HI:Hid (oZ T m= -1):=Tk (En (fun j hj=>Hg.out j hj hj));go_wp2;go_ret;exact⟨by rw[HI.out];rfl,a6⟩
theorem Sl (x y:Int):iJ x++(⟨#[44]⟩:ByteArray)++iJ y++(⟨#[114]⟩:ByteArray)=qY (x,y,false):=by
 apply ByteArray.ext;apply Array.toList_inj.1;unfold qY;rw[rD];simp[TB,iJ,FK]
theorem Sm (x y:Int):iJ x++(⟨#[44]⟩:ByteArray)++iJ y++(⟨#[100]⟩:ByteArray)=qY (x,y,true):=by
 apply ByteArray.ext;apply Array.toList_inj.1;unfold qY;rw[rD];simp[TB,iJ,FK]
theorem Ku {x:Int} (h0:0<=x) (h1:x<=7):(iJ x).size=1:=by
 unfold iJ;rw[Lib.decDigits_one (by omega)];rfl
theorem H6 (x y:Int) (d:Bool) (w:World) (hd:aI (x,y,d)=true) (ht:Tab w):Calls prog 232 #[.agg #[.int .i64 x,.int .i64 y,.bool d]] w (Ret (.string (qY (x,y,d))) w):=by
 have a7:=FL hd;have bA:0<=x:=a7.1.1;have bC:x<=9223372036854775807:=by have:=a7.1.2;simp only at this;omega
 have bB:0<=y:=a7.2.1;have bD:y<=9223372036854775807:=by have:=a7.2.2;simp only at this;omega
 have sX:=Ku bA a7.1.2;have sY:=Ku bB a7.2.2;have HT:=Tk ht;clear ht a7;have B0:=(Below.refl w.heap.size w).al (.cells #[.int .i64 x,.int .i64 y,.bool d] 99);have bP:=Blk.aX w 99 #[.int .i64 x,.int .i64 y,.bool d];go_enter Tryz.func232,Tryz.ntmps232
 go_wp2_with fail
 refine(Bf x y d _ hd).mono ?_;rintro e w1 ⟨rfl,hb1⟩;have B1:=B0.tr hb1;have bJ:=bP.bl hb1;have hg:=bJ.lt;obtain⟨bK,bL,bM⟩:=bJ.n3;have Bw:Below w1.heap.size w1 w1:=Below.refl _ _;have hz:w1.heap.size<=w1.heap.size:=Ty _;cases d
 . have HE:=Tk (Sl x y);go_wp2_with fail
   have Bw:Below w1.heap.size w1 w1.drew:=Bw.drew;have hz:w1.heap.size<=w1.drew.heap.size:=Bw.size;refine rB (fun w'=>w'.cell? ⟨w.heap.size,0,none⟩=some (.int .i64 x)/\w'.cell? ⟨w.heap.size,1,none⟩=some (.int .i64 y)) fun hHeld=>(tW 0)<|(tW 1)<|(tW 4)<|(tW 5)<|(tR [2])<|tL fun K hK=>?_
   go_simp
   (go_at_call 11;go_must (refine(uC _ _ (by first|exact bA|exact bB) (by first|exact bC|exact bD) (HT.out.below (B1.tr Bw))).mono ?_;rintro e wX ⟨rfl,a6⟩;obtain⟨bE,bF,a8⟩:=bkn a6 w1.heap.size hz;have hz:=a8;have Bw:=Bw.tr a6);(try go_wp2_with fail))
   refine tK hK fun hHeld=>?_
   clear hK K;refine(tW 3)<|(tR [6])<|tL fun K hK=>?_
   go_simp
   (go_at_call 11;go_must (refine(uC _ _ (by first|exact bA|exact bB) (by first|exact bC|exact bD) (HT.out.below (B1.tr Bw))).mono ?_;rintro e wX ⟨rfl,a6⟩;obtain⟨bE,bF,a8⟩:=bkn a6 w1.heap.size hz;have hz:=a8;have Bw:=Bw.tr a6);(try go_wp2_with fail))
   refine tK hK fun hHeld=>?_
   clear hK K;refine(tW 7)<|(tW 8)<|(tW 9)<|tD ?_
   all_goals
     go_wp2;go_ret;exact⟨congrArg _ (congrArg _ HE.out),B1.tr Bw⟩
 . have HE:=Tk (Sm x y);go_wp2_with fail
   have Bw:Below w1.heap.size w1 w1.drew:=Bw.drew;have hz:w1.heap.size<=w1.drew.heap.size:=Bw.size;refine rB (fun w'=>w'.cell? ⟨w.heap.size,0,none⟩=some (.int .i64 x)/\w'.cell? ⟨w.heap.size,1,none⟩=some (.int .i64 y)) fun hHeld=>(tW 0)<|(tW 1)<|(tW 4)<|(tW 5)<|(tR [2])<|tL fun K hK=>?_
   go_simp
   (go_at_call 11;go_must (refine(uC _ _ (by first|exact bA|exact bB) (by first|exact bC|exact bD) (HT.out.below (B1.tr Bw))).mono ?_;rintro e wX ⟨rfl,a6⟩;obtain⟨bE,bF,a8⟩:=bkn a6 w1.heap.size hz;have hz:=a8;have Bw:=Bw.tr a6);(try go_wp2_with fail))
   refine tK hK fun hHeld=>?_
   clear hK K;refine(tW 3)<|(tR [6])<|tL fun K hK=>?_
   go_simp
   (go_at_call 11;go_must (refine(uC _ _ (by first|exact bA|exact bB) (by first|exact bC|exact bD) (HT.out.below (B1.tr Bw))).mono ?_;rintro e wX ⟨rfl,a6⟩;obtain⟨bE,bF,a8⟩:=bkn a6 w1.heap.size hz;have hz:=a8;have Bw:=Bw.tr a6);(try go_wp2_with fail))
   refine tK hK fun hHeld=>?_
   clear hK K;refine(tW 7)<|(tW 8)<|(tW 9)<|tD ?_
   all_goals
     go_wp2;go_ret;exact⟨congrArg _ (congrArg _ HE.out),B1.tr Bw⟩
theorem GH (l : List Dm) : toB (Lib.join ((l.map qY).map fun x => x.data.toList) [32]) = Km l := by
 unfold Km;congr 2
 rw[List.map_map];exact List.map_congr_left fun d _=>rfl
theorem GI {l : List Dm} (hl : ∀ d ∈ l, aI d = true) (a6 : l.length <= 64) : (Lib.join ((l.map qY).map fun x => x.data.toList) [32]).length <= 1000 := by
 have key : ∀ m : List Dm, (∀ d ∈ m, aI d = true) -> (TA [32] ((m.map qY).map fun x => x.data.toList)).length = 5 * m.length := by
  intro m;induction m with
  |nil=>intro _;simp[TA]
  |cons d m ih=>
   intro hm;have e:∀(x:Bs) (zs:List Bs),TA [32] (x::zs)=32::(x++TA [32] zs):=fun x zs=>by simp[TA]
   rw[Tx,Tx,e,Tt,Tq,ih (fun d hd=>hm d (List.mem_cons_of_mem _ hd)),Tt]
   have:(qY d).data.toList.length=4:=by
    have:=GD (hm d List.mem_cons_self);have e2:(qY d).size=(qY d).data.toList.length:=by rw[Array.length_toList];rfl
    omega
   omega
 cases l with
 |nil=>exact Tz _
 |cons d l=>
  rw[Tx,Tx,Lib.join_cons,Tq,key l (fun d hd=>hl d (List.mem_cons_of_mem _ hd))]
  have:(qY d).data.toList.length=4:=by
   have:=GD (hl d List.mem_cons_self);have e2:(qY d).size=(qY d).data.toList.length:=by rw[Array.length_toList];rfl
   omega
  rw[Tt]at a6;omega
theorem JE {l:List Dm} {k:Nat} (h:k<l.length):(l.take k).map qY++[qY l[k]]=(l.take (k+1)).map qY:=by
 rw[List.take_succ_eq_append_getElem h,Tm];rfl
theorem Ls {l:List Dm} {k:Nat} (h:k<=l.length):((l.take k).map qY).length=k:=by rw[List.length_map,List.length_take];omega
theorem NV {B g c : Nat} {w : World} {F : List ByteArray} (h : aD 9 1 fJ B w (.slice (some ⟨g, 0, none⟩) F.length c) F) (hg : g < w.heap.size) (hF : F.length <= 100) (hs : (Lib.join (F.map fun x => x.data.toList) [32]).length <= 1000) :
 Calls prog 48 #[.slice (some ⟨g,0,none⟩) F.length c,.string ⟨#[32]⟩] w (Ret (.string (toB (Lib.join (F.map fun x=>x.data.toList) [32]))) w):=by
 obtain⟨A',c',e,h1,h2⟩:=h.form;injection e with e1 e2 e3;subst e3
 have a6 := Tryz.strings_Join g 0 c F (⟨#[32]⟩ : ByteArray) w (fun j x hj => by
  have a7:=(List.getElem?_eq_some_iff.1 hj).1;have:=h.slot eZ (by decide) a7 0 (.string F[j]) rfl;rw[(List.getElem?_eq_some_iff.1 hj).2]at this;simpa using this) hg (by omega) h1 (Nat.le_trans hs (by decide))
 refine a6.mono ?_;rintro e w' ⟨rfl,hb⟩;exact⟨rfl,hb⟩
theorem zS (v:Value) (l:List Dm) (w:World) (h:Rd 3 aQ w v l) (hl:∀d∈l,aI d=true) (bN:l.length<=64) (ht:Tab w):Calls prog 206 #[v] w (Ret (.string (Km l)) w):=by
 obtain⟨A,c,rfl,hc,hm⟩:=h.form;have a7:=eG w (E:=9) (size:=1) (enc:=fJ) w.heap.size rfl w.heap.size (Ty _);have HT:=Tk ht;have bK:=Tk hl;clear ht hl;go_enter Tryz.func206,Tryz.ntmps206
 go_wp2;go_loopw [3,5,9] (fun s3 s5 s9 wr=>∃(k:Nat) (D:Option Addr) (d:Nat) (z:Value),s5=z/\k<=l.length/\s9= .int .i64 k/\s3= .slice D k d/\aD 9 1 fJ w.heap.size wr (.slice D k d) ((l.take k).map qY)/\Below w.heap.size w wr) (fun _ _ i _=>l.length-(intOf i).toNat)
 case atStart=>exact⟨0,_,_,_,rfl,Tz _,rfl,rfl,a7,(Below.refl _ _).al _⟩
 case round=>
  obtain⟨k,D,d,z,rfl,hk,rfl,rfl,hown,a6⟩:=hrel;clear a7;by_cases hlt:k<l.length
  . obtain⟨b,off,rfl,hb,k0,k1,k2⟩:=(h.Tj a6).kE hlt;have bU:(k:Int)<(l.length:Int):=(by omega);have bB:=bK.out l[k] (Tu hlt);have bC:=JE hlt;obtain⟨x,hx⟩:=Ti (l[k]);rw[<-hx]at k0 k1 k2 bB bC;obtain⟨x,y,s⟩:=x;simp only at k0 k1 k2;have bO:=Tk bC;have bL:=Tk bB;have bA:=Tk (Ls (l:=l) (k:=k) hk);have H8:Hid ((((l.take k).map qY).length+1)*16<=140737488355328):=Tk (by rw[bA.out];omega);have HM:Hid (((l.take k).map qY).length+1<=maxLen):=Tk (by rw[bA.out];unfold maxLen;omega);clear hx bC bB;have B1:=a6.al (.cells #[.int .i64 x,.int .i64 y,.bool s] 99);have b1:=Blk.aX wr 99 #[.int .i64 x,.int .i64 y,.bool s];have bD:=hown.alloc (.cells #[.int .i64 x,.int .i64 y,.bool s] 99);go_wp2_with fail
    refine(Bf x y s _ bL.out).mono ?_;rintro e w2 ⟨rfl,hb2⟩;have B2:=B1.tr hb2;have b2:=b1.bl hb2;have bE:=bD.below hb2;obtain⟨bX,bY,b5⟩:=b2.n3;go_wp2_with fail
    refine(H6 x y s _ bL.out (HT.out.below B2)).mono ?_;rintro e w3 ⟨rfl,hb3⟩;have B3:=B2.tr hb3;have bF:=bE.below hb3;obtain⟨S,hS⟩:=Ti (qY (x,y,s));rw[<-hS];have HS:=Tk hS;clear hS;go_wp2_with (at_builtin;go_must (refine aF (enc:=fJ) mW eZ nM B3 bF S H8.out HM.out rfl _ _ rfl rfl rfl ?_);intro v4 w4 a8 hb4 hg4 b6;obtain⟨A4,c4,rfl,b7,b8⟩:=a8.form)
    have bJ:aD 9 1 fJ w.heap.size w4 (.slice A4 (k+1) c4) ((l.take (k+1)).map qY):=by
     have e:((l.take k).map qY++[S]).length=k+1:=by rw[Tq,bA.out];rfl
     rw[<-bO.out,<-HS.out,<-e];exact a8
    go_roundw
    case rel=>exact⟨k+1,A4,c4,_,rfl,by omega,by go_num,by simp[bA.out],bJ,hb4⟩
    case measure=>simp[intOf];omega
  . obtain rfl : k = l.length := by omega
    rcases Nat.eq_zero_or_pos l.length with h0|hp
    . have hl0:l=[]:=List.length_eq_zero_iff.1 h0;have bP:Hid (Km l=(⟨#[]⟩:ByteArray)):=Tk (by rw[hl0];rfl);have H0:=Tk h0;clear hl0;rw[h0];clear h0;go_wp2_with fail
      refine(Tryz.strings_Join_none D d (⟨#[32]⟩:ByteArray) _).mono ?_;rintro e w5 ⟨rfl,rfl⟩;go_wp2;go_ret;exact⟨by rw[bP.out];rfl,a6⟩
    . skip;rw[Tw]at hown;have e2:(l.map qY).length=l.length:=List.length_map ..;obtain⟨g,rfl,hB,bR⟩:=hown.split (k:=0) (by rw[e2];omega);have hown':aD 9 1 fJ w.heap.size wr (.slice (some ⟨g,0,none⟩) (l.map qY).length d) (l.map qY):=by rw[e2];exact hown
      have bM:=NV hown' bR (by rw[e2];omega) (GI bK.out bN);rw[e2,GH]at bM;clear hown';go_wp2_with fail
      refine bM.mono ?_;rintro e w5 ⟨rfl,bS⟩;go_wp2;go_ret;exact⟨rfl,a6.tr bS⟩
end Go.Proofs.YtjijonhkofhikaaGreatDoor
namespace Go.Proofs.YtjijonhkofhikaaGreatDoor
open Go.ChangeShapes Go.WideShapes Go.ChangeAt Go.RowKit Go.WideMaps Go.Maps
theorem MP:Row prog 163 24 (.slice none 0 0) 1 24:=⟨Tryz.underlying163,by kernel_rfl,rfl,by decide⟩
theorem Tc:Keyed prog 9:=string_keyed TC
theorem RA (w:World):(zeroValue 3).run prog w= .ok (.int .i64 0) w:=by kernel_rfl
theorem RB {T:List (List Dm)} (hT:qC T) (a6:∀t∈T,∀d∈t,aI d=true) {j:Nat} (hj:j<T.length) {c:Cl} (hc:c∈gG (til T j)) (z:DataW Unit):(Kr T T.length).atKey (IC (aU (til T j) c)) z= .lit (.int .i64 (vX T j c)):=by
 have hm:=hT.cl _ (Tu hj) c (by rw[<-jF hj];exact mI.1 hc);rw[jF hj];obtain⟨h1,h2⟩:=oV hm.1;have h3:=MN hT.nd a6 (i:=ix T (aU T[j] c)) z T.length (Ty _) h1;rw[jF h1,h2]at h3;unfold vX;rw[jF hj];exact h3
theorem MQ {l:List Dm} (hl:∀d∈l,aI d=true) (a6:l.length<=64):(Km l).size<=maxLen:=by
 have h1:=GI hl a6;rw[<-GH];have e:∀x:Bs,(toB x).size=x.length:=fun x=>rfl
 rw[e];unfold maxLen;omega
theorem Lt {w w':World} (hb:Below w.heap.size w w'):w.grownBy w' none:=⟨hb.os,hb.tape,hb.output,hb.size,fun k hk _=>hb.block k hk⟩
theorem NY {B:Nat} (v:Value) (T:List (List Dm)) (w:World) (h:dY 27 99 3 aV B w v T) (hT:qC T) (cJ:∀t∈T,(∀d∈t,aI d=true)/\t.length<=64) (ht:Tab w):
 Calls prog 150 #[v] w (fun e w'=>∃A c,e= .returned (.slice A T.length c)/\dY 24 3 1 aW w.heap.size w' (.slice A T.length c) (qO T T.length)/\Below w.heap.size w w'):=by
 obtain⟨A,c,rfl,hc,hm⟩:=h.form;have hsm:=hT.sm;have eE:= @run_makeMap prog;have HT:=Tk ht;have HF:=Tk hT;have HK:=Tk cJ;clear ht hT cJ hc hm;obtain⟨gM,a8⟩:=Ti w.heap.size;have b8:=World.ownsMap_made (H:=Unit) w prog 9 (plainElem (H:=Unit) prog 3);have bK:=Tk a8;rw[<-a8]at b8;go_enter Tryz.func150,Tryz.ntmps150
 rw[<-a8];clear a8;go_wp2;go_loopw [4,5,17] (fun s4 s5 cR wr=>∃(k:Nat) (z4 z5:Value),s4=z4/\s5=z5/\k<=T.length/\cR= .int .i64 k/\wr.ownsMap prog 9 (plainElem (H:=Unit) prog 3) gM k (Kr T k)/\Below w.heap.size w wr) (fun _ _ i _=>T.length-(intOf i).toNat)
 case atStart=>exact⟨0,_,_,rfl,rfl,Tz _,rfl,b8,(Below.refl _ _).al _⟩
 case round=>
  obtain⟨k,z4,z5,rfl,rfl,hk,rfl,hown,a6⟩:=hrel;clear b8;by_cases hlt:k<T.length
  . obtain⟨g,D,d,rfl,hg1,hg2,c1,tk⟩:=(h.below a6).pick hlt;have cS:(k:Int)<(T.length:Int):=(by omega);obtain⟨l,hl⟩:=Ti (T[k]);have bC:(∀d∈l,aI d=true)/\l.length<=64:=by rw[hl];exact HK.out _ (Tu hlt)
    have bL:(Kr T k).put (IC l) (.lit (.int .i64 (k:Int)))=Kr T (k+1):=(by rw[Br,jF hlt,hl]);rw[<-hl]at c1 tk;have HL:=Tk hl;have b9:=Tk bC;have cA:=Tk bL;have hkey:keyOf prog 9 (.string (Km l))=some (IC l):=keyOf_string_mk TC (MQ bC.1 bC.2);have bA:=Tk hkey;clear hl bC bL hkey;go_wp2_with fail
    refine(zS _ l _ (tk.rd aC (by decide)) b9.out.1 b9.out.2 (HT.out.below a6)).mono ?_;rintro e w1 ⟨rfl,hb1⟩;have B1:=a6.tr hb1;have a7:=hown.kept (Lt hb1) (by simp);have hmx:k<maxLen:=by unfold maxLen;omega
    go_wp2_with (at_mapUpdate;go_must (refine wpList_mapUpdate_own _ rfl _ _ _ 199 rfl 9 3 Tc Tryz.underlying199 _ w.heap.size k _ rfl (by rw[<-bK.out];exact a7) hmx _ _ _ rfl rfl bA.out _ [] (plainElem_int Tryz.underlying3 (WalkArith.wf_i64 (by omega))) ?_);intro w2 bB hg2)
    rw[cA.out,<-bK.out]at bB;have B2:=B1.grown hg2 B1.size (fun j hj=>by injection hj with hj;subst hj;exact Ty _);go_roundw
    case rel=>exact⟨k+1,_,_,rfl,rfl,by omega,by go_num,bB,B2⟩
    case measure=>simp[intOf];omega
  . obtain rfl : k = T.length := by omega
    have a8:gM+1<=wr.heap.size:=by have:=hown.lt;omega
    have oo:=eG wr (E:=24) (size:=1) (enc:=eV) wr.heap.size rfl (gM+1) a8;have bJ:dY 24 3 1 aW (gM+1) (wr.alloc (.cells #[] 24)) (.slice (some ⟨wr.heap.size,0,none⟩) 0 0) (qO T 0):=⟨[],oo,rfl,fun k u x hu=>by simp at hu⟩;have hown2:=hown.alloc (.cells #[] 24);have B2:=a6.al (.cells #[] 24);clear oo;go_wp2;go_loopw [6,8,9,11,12,13,30] (fun s6 s8 s9 cB s12 cC cT wr=>∃(k:Nat) (D:Option Addr) (d:Nat) (z8 z9 bM z12 bN:Value),s8=z8/\s9=z9/\cB=bM/\s12=z12/\cC=bN/\k<=T.length/\cT= .int .i64 k/\s6= .slice D k d/\dY 24 3 1 aW (gM+1) wr (.slice D k d) (qO T k)/\wr.ownsMap prog 9 (plainElem (H:=Unit) prog 3) gM T.length (Kr T T.length)/\Below w.heap.size w wr) (fun _ _ _ _ _ _ i _=>T.length-(intOf i).toNat)
    case atStart=>exact⟨0,_,_,_,_,_,_,_,rfl,rfl,rfl,rfl,rfl,Tz _,rfl,rfl,bJ,hown2,B2⟩
    case round=>
     clear bJ hown2 B2 a8 hown a6;obtain⟨k,D,d,z8,z9,bM,z12,bN,rfl,rfl,rfl,rfl,rfl,hk,rfl,rfl,bJ,hown,a6⟩:=hrel;by_cases hlt:k<T.length
     . obtain⟨g,D1,d1,rfl,hg1,hg2,c1,tk⟩:=(h.below a6).pick hlt;have cS:(k:Int)<(T.length:Int):=(by omega);obtain⟨l,hl⟩:=Ti (T[k]);have bC:(∀d∈l,aI d=true)/\l.length<=64:=by rw[hl];exact HK.out _ (Tu hlt)
       have bO:til T k=l:=(by rw[jF hlt,hl]);rw[<-hl]at c1 tk;have b9:=Tk bC;have bD:=Tk bO;have bY:=Tk hlt;have cU:Small l.length:=by have:=bC.2;unfold Small;omega
       clear hl bC bO;have a8:gM+1<=wr.heap.size:=by have:=hown.lt;omega
       have oi:=eG wr (E:=3) (size:=1) (enc:=aW) wr.heap.size rfl (gM+1) a8;have bP:=tk.alloc (.cells #[] 3);go_wp2_with fail
       refine(Eu _ l _ (bP.rd aC (by decide))).mono ?_;rintro e w1 ⟨A6,c6,rfl,oF,hb1⟩;have cK:=oi.below hb1;have cV:=bP.below hb1;have bR:=(bJ.alloc (.cells #[] 3)).below hb1;have a7:=(hown.alloc (.cells #[] 3)).kept (Lt hb1) (by simp);have B1:=(a6.al (.cells #[] 3)).tr hb1;have cW:=xM l;obtain⟨F,hF⟩:=Ti (gG l);rw[<-hF]at oF cW⊢;have bS:=Tk hF;clear hF oi bP bJ hown a6 hb1 tk c1;have eI:Hid (pE T k 0=[]):=Tk rfl;go_wp2;go_loopw [9,11,12,13,38] (fun s9 cB s12 cC cX wr=>∃(t:Nat) (D:Option Addr) (d:Nat) (bM z12 bN:Value),cB=bM/\s12=z12/\cC=bN/\t<=F.length/\cX= .int .i64 t/\s9= .slice D t d/\aD 3 1 aW (gM+1) wr (.slice D t d) (pE T k t)/\Below w1.heap.size w1 wr) (fun _ _ _ _ i _=>F.length-(intOf i).toNat)
       case atStart=>exact⟨0,_,_,_,_,_,rfl,rfl,rfl,Tz _,rfl,rfl,cK,Below.refl _ _⟩
       case round=>
        clear cK;obtain⟨t,D2,d2,bM,z12,bN,rfl,rfl,rfl,ht,rfl,rfl,hown,a6⟩:=hrel;by_cases bE:t<F.length
        . have cL:=oF.below a6;obtain⟨b,off,rfl,hb,q0,q1⟩:=(cL.rd eB (by decide)).iR bE;obtain⟨xy,b5⟩:=Ti (F[t]);have bF:xy∈gG l:=by rw[b5,<-bS.out];exact Tu bE
          rw[<-b5]at q0 q1;obtain⟨x,y⟩:=xy;simp only at q0 q1;have cD:¬kindOf l (x,y)=0:=mI.1 bF;have cE:=(HF.out.cl _ (Tu bY.out) (x,y) (by rw[<-jF bY.out,bD.out];exact cD)).1;rw[<-jF bY.out,bD.out]at cE;have hno:=HK.out _ cE;have hlk:=fun z=>RB HF.out (fun t ht=>(HK.out t ht).1) bY.out (c:=(x,y)) (by rw[bD.out];exact bF) z
          rw[bD.out]at hlk;have hkey:keyOf prog 9 (.string (Km (aU l (x,y))))=some (IC (aU l (x,y))):=keyOf_string_mk TC (MQ hno.1 hno.2)
          have bL:pE T k (t+1)=vQ (vX T k (x,y)) (pE T k t):=by
           have cF:t<(gG (til T k)).length:=by rw[bD.out,<-bS.out];exact bE
           rw[Cf cF];congr 1
           congr 1
           rw[b5];congr 1
           . rw[bS.out,bD.out]
          have bU:(pE T k t).length=t:=Es t (by rw[bD.out,<-bS.out];omega);have cA:=Tk bL;have b6:=Tk bU;have bA:=Tk hkey;have cM:=Tk hlk;have cG:=Tk hno;have cY:=Tk cD;clear bL bU hkey hlk hno cD bF b5 cE cL;have eJ:(t:Int)<(F.length:Int):=(by omega);have B2:=a6.al (.cells #[.int .i64 x,.int .i64 y] 83);have b2:=Blk.aX wr 83 #[.int .i64 x,.int .i64 y];have bB:=hown.alloc (.cells #[.int .i64 x,.int .i64 y] 83);have bP:=cV.below B2;go_wp2_with fail
          refine(wL _ l x y _ (bP.rd aC (by decide)) cU cY.out).mono ?_;rintro e w2 ⟨A7,c7,rfl,oN,hb2⟩;have B3:=B2.tr hb2;have cH:=bB.below hb2;have eK:=a7.kept (Lt B3) (by simp);obtain⟨N,hN⟩:=Ti (aU l (x,y));rw[<-hN]at oN bA cM cG⊢;have eL:=Tk hN;clear hN;go_wp2_with fail
          refine(zS _ N _ (oN.rd aC (by decide)) cG.out.1 cG.out.2 (HT.out.below (B1.tr B3))).mono ?_;rintro e w3 ⟨rfl,hb3⟩;have B4:=B3.tr hb3;have cI:=cH.below hb3;have cN:=a7.kept (Lt B4) (by simp);go_wp2_with (at_lookup;go_must (refine wpList_lookup_own_int _ rfl _ _ 199 rfl 9 3 .i64 Tc Tryz.underlying199 Tryz.underlying3 (RA _) w.heap.size T.length _ rfl (by rw[<-bK.out];exact cN) _ _ rfl bA.out ?_);intro cc hat hwc)
          have hcc:cc=vX T k (x,y):=by
           rw[cM.out]at hat;injection hat with hat;injection hat with _ hat;exact hat.symm
          subst hcc;refine(PD _ (pE T k t) _ _ (cI.rd aM (by decide)) (by rw[b6.out];omega)).mono ?_;rintro e w5 ⟨A8,c8,rfl,oP,dL⟩;have B5:=B4.tr dL;have hpl:(vQ (vX T k (x,y)) (pE T k t)).length=t+1:=(by rw[Fp,b6.out]);rw[hpl]at oP⊢;rw[<-cA.out]at oP;have dT:gM+1<=w3.heap.size:=by have:=cN.lt;omega
          go_wp2;go_roundw
          case rel=>exact⟨t+1,A8,c8,_,_,_,rfl,rfl,rfl,by omega,by go_num,rfl,oP.mono dT,B5⟩
          case measure=>simp[intOf];omega
        . obtain rfl : t = F.length := by omega
          have bU:pE T k F.length=Jb T k:=by unfold Jb;rw[bD.out,<-bS.out]
          rw[bU]at hown;obtain⟨us,h1,h2,h3⟩:=bR.below a6;have b7:us.length=k:=by rw[h2];exact qZ T k
          have cP:=a7.kept (Lt a6) (by simp);have B2:=B1.tr a6;have H8:Hid ((us.length+1)*24<=140737488355328):=Tk (by rw[b7];omega);have HM:Hid (us.length+1<=maxLen):=Tk (by rw[b7];unfold maxLen;omega);have hsz:gM+1<=wr.heap.size:=by have:=cP.lt;omega
          have hrow:∀j,(slice D k d).ownBlock=some j->gM+1<=j:=fun j hj=>(World.ownsRow.lt h1 j hj).1
          have eA:=Tk b7;have b6:=Tk (JB T k);have bX:=Tk hrow;clear b7 bU hrow bR a7 B1;go_wp2_with (at_builtin;go_must (refine pR (enc:=eV) MP Cb wr hsz h1 (.slice D2 F.length d2) (by simp[eV,Value.oneCell']) rfl H8.out HM.out rfl _ _ rfl rfl rfl ?_);intro A5 c5 w5 o5 g5 eM)
          have cQ:=dY.snoc (by decide) h1 h2 h3 hown o5 g5;rw[b6.out,eA.out]at cQ;have eC:=cP.kept g5 (fun e=>by have:=bX.out gM e.symm;omega);have B5:=B2.grown g5 B2.size (fun j hj=>by have:=bX.out j hj;rw[bK.out]at this;omega);go_roundw
          case rel=>exact⟨k+1,A5,c5,_,_,_,_,_,rfl,rfl,rfl,rfl,rfl,by omega,by go_num,by rw[qZ],cQ,eC,B5⟩
          case measure=>simp[intOf];omega
     . obtain rfl : k = T.length := by omega
       go_wp2;go_ret;exact⟨_,_,rfl,bJ.mono (by omega),by rw[bK.out];exact a6⟩
end Go.Proofs.YtjijonhkofhikaaGreatDoor
