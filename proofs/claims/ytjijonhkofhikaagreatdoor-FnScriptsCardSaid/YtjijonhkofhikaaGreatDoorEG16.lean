import Derived.Test.YtjijonhkofhikaaGreatDoorEG15
open _root_.List renaming map_append->TZ,replicate->T9,length_replicate->Ua,length_append->Ub,length_cons->Uc,getElem_mem->Ud,mem_append->Ue,take_length->Uf,map_cons->Ug
open _root_.Nat renaming le_refl->Uh,zero_le->Ui
open _root_.Go.Lib renaming joinTail->Uj
open _root_.ByteArray renaming data_append->Uk
open _root_.Go.Proofs.Tryz (prog)
open _root_.Go.Proofs.Tryz renaming underlying9->Ul
set_option linter.unusedVariables false
set_option linter.unusedSimpArgs false
set_option maxHeartbeats 4000000
set_option maxRecDepth 100000
namespace Go.Proofs.YtjijonhkofhikaaGreatDoor
open Go.ChangeShapes Go.WideShapes Go.ChangeAt Go.RowKit
theorem dU.OI {α:Type} {E0 E:TypeId} {size:Nat} {enc:α->List Value} {B:Nat} {w:World} {A:Option Addr} {n c:Nat} {ls:List (List α)} (h:dU E0 E size enc B w (.slice A n c) ls) {k:Nat} (hk:k<ls.length):∃g D d,A=some ⟨g,0,none⟩/\B<=g/\g<w.heap.size/\w.cell? ⟨g,k,none⟩=some (.slice D ls[k].length d)/\aD E size enc B w (.slice D ls[k].length d) ls[k]:=by
 obtain⟨us,h1,h2,h3⟩:=h;have a6:k<us.length:=(by omega);obtain⟨g,rfl,hg1,hg2⟩:=h1.split a6;have q:=h3 k us[k] ls[k] (List.getElem?_eq_getElem a6) (List.getElem?_eq_getElem hk);obtain⟨D,d,e,_,_⟩:=q.form;have z:=h1.slot Ck (by decide) a6 0 us[k] rfl;rw[Nat.mul_one,Nat.add_zero]at z;rw[e]at z q;exact⟨g,D,d,rfl,hg1,hg2,z,q⟩
def ints (l:List Nat):List Int:=l.map fun(i:Nat)=>(i:Int)
theorem GZ (l:List Nat) (i:Nat):ints l++[(i:Int)]=ints (l++[i]):=by unfold ints;rw[TZ];rfl
theorem M9 (n : Nat) : T9 n (-1 : Int) = vM n (fun _ => -1) := by
 unfold vM;rw[List.map_const',List.length_range]
theorem PE (j:Nat):T9 j (-1:Int)++[-1]=T9 (j+1) (-1):=List.replicate_succ'.symm
theorem kQ {B g n c:Nat} {f:Nat->Int} {w:World} (h:aD 3 1 bH B w (.slice (some ⟨g,0,none⟩) n c) (vM n f)) {i:Nat} (hi:i<n):w.cell? ⟨g,i,none⟩=some (.int .i64 (f i)):=by
 have hl:i<(vM n f).length:=by rw[jR];exact hi
 have:=h.slot aJ (by decide) hl 0 _ rfl;rw[IY hl]at this;simpa using this
theorem xO {B g n c:Nat} {f:Nat->Int} {w:World} (h:aD 3 1 bH B w (.slice (some ⟨g,0,none⟩) n c) (vM n f)) {i:Nat} (hi:i<n) (v:Int):aD 3 1 bH B (w.setCell ⟨g,i,none⟩ (.int .i64 v)) (.slice (some ⟨g,0,none⟩) n c) (vM n (upd f i v)):=by
 have:=h.iZ aJ (k:=i) (y:=v) (by rw[jR];exact hi) rfl;rwa [<-Pm]at this
theorem QQ {E:Nat->Nat->Prop} {s n:Nat} {f:Nat->Int} {q:List Nat} {p:Nat} (h:Bfs E s n f q p) {i:Nat} (hi:i∈q):0<=f i/\f i<=n:=by
 have h0:=(h.iff i).2 hi;obtain⟨a,ha,e⟩:=List.getElem_of_mem hi;have h1:=h.bd a ha;have h2:=h.len;rw[e]at h1;omega
theorem PG {B : Nat} (v : Value) (T : List (List Dm)) (bA : List (List Int)) (s : Nat) (w : World) (h : dU 24 3 1 bH B w v bA) (hA : Adj T bA) (hT : pY T) (hs : s < T.length) : Calls prog 149 #[v, .int .i64 s] w (fun e w' => iH 3 1 bH (vM T.length (tO T s)) w e w' /\ kU (Edge T) s T.length (tO T s)) := by
 obtain⟨A,c,rfl,hc,hm⟩:=h.form;have hsm:=hT.sm;have bJ:=hA.len;obtain⟨n,hn⟩:=TV T.length;rw[bJ,<-hn]at h⊢;rw[<-hn]at hs hsm bJ;have HA:=TY hA;have cL:=TY hT;have cM:=TY bJ;have HN:=TY hn;clear hA hT bJ hn hc hm;have bC:=fI w (E:=3) (size:=1) (enc:=bH) w.heap.size rfl w.heap.size (Uh _);go_enter Tryz.func149,Tryz.ntmps149
 go_wp2;go_loopw [5,13] (fun s5 cN wr=>∃(j:Nat) (D:Option Addr) (d:Nat),j<=n/\cN= .int .i64 j/\s5= .slice D j d/\aD 3 1 bH w.heap.size wr (.slice D j d) (T9 j (-1))/\Below w.heap.size w wr) (fun _ i _=>n-(intOf i).toNat)
 case atStart=>exact⟨0,_,_,Ui _,rfl,rfl,bC,(Below.refl _ _).al _⟩
 case round=>
  obtain⟨j,D,d,hj,rfl,rfl,hown,a6⟩:=hrel;clear bC;by_cases hlt:j<n
  . have eC : (j : Int) < (n : Int) := by omega
    have HL:Hid ((T9 j (-1:Int)).length=j):=TY Ua;have H8:Hid (((T9 j (-1:Int)).length+1)*8<=140737488355328):=TY (by rw[HL.out];omega);have HM:Hid ((T9 j (-1:Int)).length+1<=maxLen):=TY (by rw[HL.out];unfold maxLen;omega);go_wp2_with (at_builtin;go_must (refine aF (enc:=bH) fE aJ jN a6 hown (-1:Int) H8.out HM.out rfl _ _ rfl rfl rfl ?_);intro v4 w4 a8 hb4 hg4 eE;rw[PE]at a8;obtain⟨A4,c4,rfl,eI,eJ⟩:=a8.form)
    have bO:aD 3 1 bH w.heap.size w4 (.slice A4 (j+1) c4) (T9 (j+1) (-1)):=by
     have e:(T9 (j+1) (-1:Int)).length=j+1:=Ua;rw[e]at a8;exact a8
    go_roundw
    case rel=>exact⟨j+1,A4,c4,by omega,by go_num,by simp,bO,hb4⟩
    case measure=>simp[intOf];omega
  . have cP : n = j := by omega
    subst cP;rw[M9]at hown;obtain⟨gO,rfl,b8,cQ⟩:=hown.split (k:=0) (by rw[jR];omega);have o0:=xO hown hs 0;have c0:=kQ hown hs;have b9:=hown.free;have eK:(s:Int)<(n:Int):=(by omega);have B1:=a6.setCell (p:=⟨gO,s,none⟩) b8 (.int .i64 0);have hsz:(wr.setCell ⟨gO,s,none⟩ (.int .i64 0)).heap.size=wr.heap.size:=(by simp);have q0:=(Qu.QP (AQ (E:=3) (enc:=bH) (wr.setCell ⟨gO,s,none⟩ (.int .i64 0)) (s:Int) rfl) (by simp)).mono (by rw[hsz];exact a6.size:w.heap.size<=_);rw[hsz]at q0;have o1:=o0.alloc (.cells #[.int .i64 (s:Int)] 3);have B2:=B1.al (.cells #[.int .i64 (s:Int)] 3);have hne:(Value.slice (some ⟨wr.heap.size,0,none⟩) 1 1).ownBlock≠some gO:=by simp[Value.ownBlock];omega
    have cB:=TY (GI (Edge T) hs);have cC:upd (fun _=> -1) s 0=f0 s:=rfl;rw[cC]at o1;clear o0 B1 hsz cC hown;go_wp2;go_loopg [6,7,9] n (fun gk s6 s7 s9 wr=>∃(dn wt:List Nat) (f:Nat->Int) (z7 z9:Value),s7=z7/\s9=z9/\dn.length+gk=n/\Qu w.heap.size wr s6 (ints wt)/\s6.ownBlock≠some gO/\aD 3 1 bH w.heap.size wr (.slice (some ⟨gO,0,none⟩) n d) (vM n f)/\Hid (Bfs (Edge T) s n f (dn++wt) dn.length)/\Below w.heap.size w wr)
    case atStart=>exact⟨[],[s],f0 s,_,_,rfl,rfl,by simp,q0,hne,o1,cB,B2⟩
    case round=>
     clear q0 hne o1 cB B2 c0 b9 a6;obtain⟨dn,wt,f,z7,z9,rfl,rfl,eL,hq,hne,hown,Hb,a6⟩:=hrel;obtain⟨g,off,cq,rfl,hg1,hg2,bR,cD⟩:=hq.form;rcases wt with _|⟨o,wt⟩
     . have HD : Hid (tO T s = f /\ kU (Edge T) s n (tO T s)) := TY (by
        have:=Hb.out;rw[List.append_nil]at this;have h2:=MR this;have h3:tO T s=f:=M5 (by rw[<-HN.out];exact h2);exact⟨h3,by rw[h3];exact h2⟩)
       have e0:(ints []).length=0:=rfl;rw[e0];go_wp2;go_ret;exact⟨⟨some ⟨gO,0,none⟩,d,by rw[jR];rfl,by rw[jR,HD.out.1];exact hown,a6⟩,HD.out.2⟩
     . have hlt : o < n := Hb.out.lt o (by simp);have e1:(ints (o::wt)).length=wt.length+1:=(by simp[ints]);have e2:ints (o::wt)=(o:Int)::ints wt:=rfl;rw[e1]at bR⊢;have hq':Qu w.heap.size wr (.slice (some ⟨g,off,none⟩) (wt.length+1) cq) ((o:Int)::ints wt):=by rw[<-e2,<-e1];exact hq
       have hc0:=hq'.head;have cE:o<bA.length:=by rw[cM.out];exact hlt
       obtain⟨gA,D1,d1,rfl,_,cR,cA,oN⟩:=h.OI cE;obtain⟨N,hN⟩:=TV (bA[o]);rw[<-hN]at cA oN;have cS:=(a6.cell (p:=⟨gA,o,none⟩) cR).trans cA
       have eM:N.length<=9223372036854775807:=by
        obtain⟨_,_,e,h1,h2⟩:=oN.form;unfold maxLen at h2;omega
       have bD:∀x,x∈N↔∃i:Nat,x=i/\Edge T o i:=fun x=>by rw[hN];exact HA.out.mem o cE x
       have cF:=TY bD;have hoi:(o:Int)<(n:Int):=(by omega);have eN:(0:Int)<((wt.length+1:Nat):Int):=(by omega);have cT:1<=wt.length+1:=(by omega);have bE:(some g:Option Nat)≠some gO:=hne;have bU:=TY bE;clear hN bD e1 e2 hq bE cA;go_wp2_with ((with_reducible refine LG fE 1 cT bR cD rfl rfl _ _ rfl rfl rfl ?_);intro A' c' bW)
       have bK:Qu w.heap.size wr (.slice A' wt.length c') (ints wt):=by have:=hq'.tail bW;simpa using this
       have bF:(Value.slice A' wt.length c').ownBlock≠some gO:=by
        have:=RV bW;simp only[Nat.add_sub_cancel]at this;rw[this];exact bU.out
       clear bW hq' hne hc0;go_loopw [6,9,37] (fun s6 s9 cU wr=>∃(t:Nat) (a7:List Nat) (f:Nat->Int) (z9:Value),s9=z9/\t<=N.length/\cU= .int .i64 t/\Qu w.heap.size wr s6 (ints a7)/\s6.ownBlock≠some gO/\aD 3 1 bH w.heap.size wr (.slice (some ⟨gO,0,none⟩) n d) (vM n f)/\Hid (Bfs (Edge T) s n f (dn++o::a7) dn.length/\∀i:Nat,(i:Int)∈N.take t->0<=f i)/\Below w.heap.size w wr) (fun _ _ i _=>N.length-(intOf i).toNat)
       case atStart=>exact⟨0,wt,f,_,rfl,Ui _,rfl,bK,bF,hown,TY ⟨Hb.out,fun i hi=>by simp at hi⟩,a6⟩
       case round=>
        clear bK bF hown Hb a6 cS;obtain⟨t,a7,f,z9,rfl,ht,rfl,hq,hne,hown,Hb,a6⟩:=hrel;obtain⟨g,off,cq,rfl,hg1,hg2,bR,cD⟩:=hq.form;have cV:=Hb.out.1.len;rw[Ub,Uc]at cV;by_cases bB:t<N.length
        . have cG:=oN.below a6;obtain⟨b,cW,rfl,hb,c1⟩:=(cG.rd aJ (by decide)).sP bB;obtain⟨i,hi,hE⟩:=(cF.out N[t]).1 (Ud bB);rw[hi]at c1;have bL:i<n:=by rw[HN.out];exact Be cL.out hE
          have cH:N.take (t+1)=N.take t++[(i:Int)]:=(by rw[List.take_succ_eq_append_getElem bB,hi]);have cI:=TY cH;have HE:=TY hE;have ci:=kQ hown bL;have co:=kQ hown hlt;have b9:=hown.free;have eP:(i:Int)<(n:Int):=(by omega);have eR:(t:Int)<(N.length:Int):=(by omega);have cX:=QQ Hb.out.1 (i:=o) (by simp);obtain⟨vo,bX⟩:=TV (f o);obtain⟨vi,bY⟩:=TV (f i);rw[<-bX]at co cX;rw[<-bY]at ci;have cY:=TY bX;have cJ:=TY bY;clear hi hE cH bX bY cG;have dL:vo<=300:=(by omega);by_cases dT:vi<0
          . have o2:=xO hown bL (vo+1);have B2:=a6.setCell (p:=⟨gO,i,none⟩) b8 (.int .i64 (vo+1));have gX:=dA (World.grownBy.refl wr (some gO)) i (.int .i64 (vo+1));have bK:=hq.kept gX hne;have hsz:wr.heap.size=(wr.setCell ⟨gO,i,none⟩ (.int .i64 (vo+1))).heap.size:=(by simp);have b5:(ints a7).length=a7.length:=(by simp[ints]);have H8:Hid (((ints a7).length+1)*8<=140737488355328):=TY (by rw[b5];omega);have HM:Hid ((ints a7).length+1<=maxLen):=TY (by rw[b5];unfold maxLen;omega)
            have HG : Hid (Bfs (Edge T) s n (upd f i (vo + 1)) (dn ++ o :: (a7 ++ [i])) dn.length /\ ∀ k : Nat, (k : Int) ∈ N.take (t + 1) -> 0 <= upd f i (vo + 1) k) := TY (by
             have hp:dn.length<(dn++o::a7).length:=(by simp);have bN:(dn++o::a7)[dn.length]=o:=(by simp);have hb0:=MQ Hb.out.1 hp bL (by rw[bN];exact HE.out) (by rw[<-cJ.out];exact dT);rw[bN,<-cY.out,List.append_assoc,List.cons_append]at hb0;refine⟨hb0,fun k hk=> ?_⟩;by_cases e:k=i
             . subst e;rw[uC];omega
             . rw[upd_ne e];rw[cI.out,Ue]at hk;rcases hk with hk|hk
               . exact Hb.out.2 k hk
               . simp at hk;omega)
            have cK:=TY hsz;clear b5 hsz;go_wp2_with (at_builtin;go_must (refine JM fE B2.size bK (i:Int) cK.out H8.out HM.out rfl _ _ rfl rfl rfl ?_);intro g4 c4 b6 w4 eA a8 hg4)
            rw[GZ]at a8
            have b7:(Value.slice (some ⟨g4,b6,none⟩) ((ints a7).length+1) c4).ownBlock≠some gO:=by
             rcases eA with q|q
             . show some g4≠some gO;rw[q];exact hne
             . have:=cK.out;have h3:=(hown.split (k:=i) (by rw[jR];exact bL));obtain⟨g',e',_,h5⟩:=h3;injection e' with e';injection e' with e';show some g4≠some gO;intro e;injection e with e;omega
            have o4:aD 3 1 bH w.heap.size w4 (.slice (some ⟨gO,0,none⟩) n d) (vM n (upd f i (vo+1))):=World.ownsRow.kept (o2.alloc _) hg4 (.inr (fun e=>hne e.symm))
            have B4 := (B2.al (.cells #[.int .i64 (i : Int)] 3)).grown hg4 (B2.al (.cells #[.int .i64 (i : Int)] 3)).size (fun k hk => by
             have h2:(some g:Option Nat)=some k:=hk;injection h2 with h2;omega)
            go_roundw
            case rel=>exact⟨t+1,a7++[i],upd f i (vo+1),_,rfl,by omega,by go_num,a8,b7,o4,HG,B4⟩
            case measure=>simp[intOf];omega
          . have HG : Hid (Bfs (Edge T) s n f (dn ++ o :: a7) dn.length /\ ∀ k : Nat, (k : Int) ∈ N.take (t + 1) -> 0 <= f k) := TY ⟨Hb.out.1, fun k hk => by
             rw[cI.out,Ue]at hk;rcases hk with hk|hk
             . exact Hb.out.2 k hk
             . simp at hk;obtain rfl:k=i:=by omega
               rw[<-cJ.out];omega⟩
            go_wp2;go_roundw
            case rel=>exact⟨t+1,a7,f,_,rfl,by omega,by go_num,hq,hne,hown,HG,a6⟩
            case measure=>simp[intOf];omega
        . obtain rfl : t = N.length := by omega
          have HG : Hid (Bfs (Edge T) s n f ((dn ++ [o]) ++ a7) (dn ++ [o]).length) := TY (by
           have hp:dn.length<(dn++o::a7).length:=(by simp);have bN:(dn++o::a7)[dn.length]=o:=by simp
           have hb0 := Kn Hb.out.1 hp (fun i hi => by
            rw[bN]at hi;have:=(cF.out (i:Int)).2 ⟨i,rfl,hi⟩;exact Hb.out.2 i (by rw[Uf];exact this))
           rw[List.append_assoc,Ub];exact hb0)
          go_wp2;go_roundg (gk-1)
          case measure=>omega
          case rel=>exact⟨dn++[o],a7,f,_,_,rfl,rfl,by simp;omega,hq,hne,hown,HG,a6⟩
theorem QR {α:Type} {E:TypeId} {size:Nat} {enc:α->List Value} {B:Nat} {w w':World} {v:Value} {l:List α} {row:Option Nat} (h:aD E size enc B w v l) (hg:w.grownBy w' row) (hne:v.ownBlock≠row):aD E size enc B w' v l:=World.ownsRow.kept h hg (.inr hne)
theorem ints_at {q:List Nat} {p:Nat} (hp:p<q.length):(ints q)[p]'(by simp[ints];exact hp)=(q[p]:Int):=by simp[ints]
theorem qA (q:List Nat):(ints q).length=q.length:=by simp[ints]
theorem KG {B g n c:Nat} {l:List Int} {w:World} (h:aD 3 1 bH B w (.slice (some ⟨g,0,none⟩) n c) l) {i:Nat} (hi:i<l.length):w.cell? ⟨g,i,none⟩=some (.int .i64 l[i]):=by
 have:=h.slot aJ (by decide) hi 0 _ rfl;simpa using this
theorem PH {B : Nat} (v : Value) (T : List (List Dm)) (a7 : List (List Int)) (s : Nat) (w : World) (h : dU 24 3 1 bH B w v a7) (hA : Adj T a7) (hT : pY T) (hs : s < T.length) : Calls prog 184 #[v, .int .i64 s] w (fun e w' => iH 3 1 bH (vM T.length (tO T s)) w e w' /\ kU (Edge T) s T.length (tO T s)) := by
 obtain⟨A,c,rfl,hc,hm⟩:=h.form;have hsm:=hT.sm;have bL:=hA.len;obtain⟨n,hn⟩:=TV T.length;rw[bL,<-hn]at h⊢;rw[<-hn]at hs hsm bL;have HA:=TY hA;have cP:=TY hT;have cQ:=TY bL;have HN:=TY hn;clear hA hT bL hn hc hm;have cR:8*n<=281474976710656:=(by omega);have cS:n<=maxLen:=by unfold maxLen;omega
 go_enter Tryz.func184,Tryz.ntmps184
 go_wp2_with (at_make;go_must (refine F9 (enc:=bH) (z0:=(0:Int)) fE rfl (Below.refl _ w) n cR cS rfl _ _ rfl rfl rfl ?_);intro w1 hown1 hb1 hg1)
 obtain⟨gO,a8⟩:=TV w.heap.size;have bO:w.heap.size<=gO:=(by omega);have hown1:aD 3 1 bH w.heap.size w1 (.slice (some ⟨gO,0,none⟩) n n) (T9 n 0):=by rw[a8];exact hown1
 rw[<-a8];have eI:=TY a8;clear a8 hg1;go_loopw [6] (fun s6 wr=>∃(k:Nat) (m:List Int),k<=n/\s6= .int .i64 k/\DD k m (T9 n (-1:Int))/\aD 3 1 bH w.heap.size wr (.slice (some ⟨gO,0,none⟩) n n) m/\Below w.heap.size w wr) (fun i _=>n-(intOf i).toNat)
 case atStart=>exact⟨0,T9 n (0:Int),Ui _,rfl,DD.start _ _ (by simp),hown1,hb1⟩
 case round=>
  obtain⟨k,m,hk,rfl,hu,hown,a6⟩:=hrel;clear hown1 hb1;have cT:m.length=n:=(by rw[hu.1,Ua]);by_cases hlt:k<n
  . have eJ : (k : Int) < (n : Int) := by omega
    obtain⟨u0,s0⟩:=hown.DI aJ (k:=k) (by omega);have eK:=hown.free;have hst:=hu.step (by rw[Ua];exact hlt);rw[List.getElem_replicate]at hst;have bR:=hown.iZ aJ (k:=k) (y:=(-1:Int)) (by omega) rfl;have B2:=a6.setCell (p:=⟨gO,k,none⟩) bO (.int .i64 (-1));go_wp2;go_roundw
    case rel=>exact⟨k+1,m.set k (-1),by omega,by go_num,hst,bR,B2⟩
    case measure=>simp[intOf];omega
  . have cU : n = k := by omega
    subst cU;have cC:=hu.done (by rw[Ua];exact Uh _);rw[cC,M9]at hown;have o0:=xO hown hs 0;have c0:=kQ hown hs;have bU:=hown.free;have eL:(s:Int)<(n:Int):=by omega
    have cV:gO<wr.heap.size:=by
     obtain⟨g',e',_,h5⟩:=hown.split (k:=0) (by rw[jR];omega);injection e' with e';injection e' with e';omega
    have B1:=a6.setCell (p:=⟨gO,s,none⟩) bO (.int .i64 0);have hsz:(wr.setCell ⟨gO,s,none⟩ (.int .i64 0)).heap.size=wr.heap.size:=(by simp);have q0:=(AQ (E:=3) (enc:=bH) (wr.setCell ⟨gO,s,none⟩ (.int .i64 0)) (s:Int) rfl).mono (by rw[hsz];exact a6.size:w.heap.size<=_);rw[hsz]at q0;have o1:=o0.alloc (.cells #[.int .i64 (s:Int)] 3);have B2:=B1.al (.cells #[.int .i64 (s:Int)] 3);have hne:(Value.slice (some ⟨wr.heap.size,0,none⟩) 1 1).ownBlock≠some gO:=by simp[Value.ownBlock];omega
    have cD:=TY (GI (Edge T) hs);have cE:upd (fun _=> -1) s 0=f0 s:=rfl;rw[cE]at o1;clear o0 B1 hsz cE hown cC hu cT;go_wp2;go_loopw [7,8,9,10] (fun s7 s8 s9 bW wr=>∃(q:List Nat) (p:Nat) (f:Nat->Int) (D:Option Addr) (d:Nat) (z9 cF:Value),s9=z9/\bW=cF/\p<=q.length/\s8= .int .i64 p/\s7= .slice D q.length d/\aD 3 1 bH w.heap.size wr (.slice D q.length d) (ints q)/\(Value.slice D q.length d).ownBlock≠some gO/\aD 3 1 bH w.heap.size wr (.slice (some ⟨gO,0,none⟩) n n) (vM n f)/\Hid (Bfs (Edge T) s n f q p)/\Below w.heap.size w wr) (fun _ i _ _ _=>n-(intOf i).toNat)
    case atStart=>exact⟨[s],0,f0 s,_,_,_,_,rfl,rfl,by simp,rfl,rfl,q0,hne,o1,cD,B2⟩
    case round=>
     clear q0 hne o1 cD B2 c0 bU a6;obtain⟨q,p,f,D,d,z9,cF,rfl,rfl,hp,rfl,rfl,hq,hne,hown,Hb,a6⟩:=hrel;have eM:=Hb.out.len;by_cases bN:p<q.length
     . obtain⟨o,ho⟩:=TV (q[p]);have hlt:o<n:=by rw[ho];exact Hb.out.lt _ (Ud bN)
       obtain⟨gQ,rfl,cG,bA⟩:=hq.split (k:=0) (by rw[qA];omega);have cq:=KG hq (i:=p) (by rw[qA];exact bN);rw[ints_at bN,<-ho]at cq;have cH:o<a7.length:=by rw[cQ.out];exact hlt
       obtain⟨gA,D1,d1,rfl,_,cW,cA,oN⟩:=h.OI cH;obtain⟨N,hN⟩:=TV (a7[o]);rw[<-hN]at cA oN;have cX:=(a6.cell (p:=⟨gA,o,none⟩) cW).trans cA
       have eN:N.length<=9223372036854775807:=by
        obtain⟨_,_,e,h1,h2⟩:=oN.form;unfold maxLen at h2;omega
       have bF:∀x,x∈N↔∃i:Nat,x=i/\Edge T o i:=fun x=>by rw[hN];exact HA.out.mem o cH x
       have cI:=TY bF;have HO:=TY ho;have hoi:(o:Int)<(n:Int):=(by omega);have eP:(p:Int)<(q.length:Int):=(by omega);have bX:(some gQ:Option Nat)≠some gO:=hne;clear hN bF cA ho;go_wp2;go_loopw [7,10] (fun s7 bW wr=>∃(t:Nat) (q2:List Nat) (f:Nat->Int) (D:Option Addr) (d:Nat),t<=N.length/\bW= .int .i64 t/\s7= .slice D q2.length d/\aD 3 1 bH w.heap.size wr (.slice D q2.length d) (ints q2)/\(Value.slice D q2.length d).ownBlock≠some gO/\aD 3 1 bH w.heap.size wr (.slice (some ⟨gO,0,none⟩) n n) (vM n f)/\Hid (Bfs (Edge T) s n f q2 p/\(∃h:p<q2.length,q2[p]=o)/\∀i:Nat,(i:Int)∈N.take t->0<=f i)/\Below w.heap.size w wr) (fun _ i _=>N.length-(intOf i).toNat)
       case atStart=>exact⟨0,q,f,_,_,Ui _,rfl,rfl,hq,hne,hown,TY ⟨Hb.out,⟨bN,HO.out.symm⟩,fun i hi=>by simp at hi⟩,a6⟩
       case round=>
        clear hq hne hown Hb a6 cX cq bX cG bA;obtain⟨t,q2,f,D,d,ht,rfl,rfl,hq,hne,hown,Hb,a6⟩:=hrel;obtain⟨bE,bJ⟩:=Hb.out.2.1;obtain⟨gQ,rfl,cG,bA⟩:=hq.split (k:=0) (by rw[qA];omega);have eR:=Hb.out.1.len;by_cases bB:t<N.length
        . obtain ⟨b, bK, rfl, hb, bY⟩ := (oN.rd aJ (by decide)).sP bB;have hbg:b≠gO:=(by omega);have c1:=(a6.cell (p:=⟨b,bK+t,none⟩) hb).trans bY;obtain⟨i,hi,hE⟩:=(cI.out N[t]).1 (Ud bB);rw[hi]at c1 bY;have b5:i<n:=by rw[HN.out];exact Be cP.out hE
          have cJ:N.take (t+1)=N.take t++[(i:Int)]:=(by rw[List.take_succ_eq_append_getElem bB,hi]);have cK:=TY cJ;have HE:=TY hE;have ci:=kQ hown b5;have co:=kQ hown hlt;have cq:=KG hq (i:=p) (by rw[qA];exact bE);rw[ints_at bE,bJ]at cq;have bU:=hown.free;have eW:(i:Int)<(n:Int):=(by omega);have e5:(t:Int)<(N.length:Int):=(by omega);have e6:(p:Int)<(q2.length:Int):=(by omega);have cY:=QQ Hb.out.1 (i:=o) (by rw[<-bJ];exact Ud bE);obtain⟨vo,b6⟩:=TV (f o);obtain⟨vi,b7⟩:=TV (f i);rw[<-b6]at co cY;rw[<-b7]at ci;have dL:=TY b6;have cL:=TY b7;have b8:=TY bJ;clear hi hE cJ b6 b7 bJ;have dT:vo<=300:=(by omega);by_cases eA:vi<0
          . obtain⟨W,hW⟩:=TV wr;rw[<-hW]at hq hown a6 ci co cq c1 bU bA⊢;clear hW;have Bw:Below W.heap.size W W.drew:=(Below.refl _ _).drew;have hz:W.heap.size<=W.drew.heap.size:=by simp
            have eC:gO<W.heap.size:=by
             obtain⟨g',e',_,h5⟩:=hown.split (k:=0) (by rw[jR];omega);injection e' with e';injection e' with e';omega
            go_wp2_with fail
            go_still_tail 13,(by kernel_rfl)
            have hown':=hown.below Bw;have hq':=hq.below Bw;have B':=a6.tr Bw;have o2:=xO hown' b5 (vo+1);have B2:=B'.setCell (p:=⟨gO,i,none⟩) bO (.int .i64 (vo+1));have gX:=dA (World.grownBy.refl W.drew (some gO)) i (.int .i64 (vo+1));have eE:=QR hq' gX hne;have e7:=(B2.cell (p:=⟨b,bK+t,none⟩) hb).trans bY;have hsz:W.heap.size=(W.drew.setCell ⟨gO,i,none⟩ (.int .i64 (vo+1))).heap.size:=(by simp);have H8:Hid (((ints q2).length+1)*8<=140737488355328):=TY (by rw[qA];omega);have HM:Hid ((ints q2).length+1<=maxLen):=TY (by rw[qA];unfold maxLen;omega)
            have HG : Hid (Bfs (Edge T) s n (upd f i (vo + 1)) (q2 ++ [i]) p /\ (∃ h : p < (q2 ++ [i]).length, (q2 ++ [i])[p] = o) /\ ∀ k : Nat, (k : Int) ∈ N.take (t + 1) -> 0 <= upd f i (vo + 1) k) := TY (by
             have hb0:=MQ Hb.out.1 bE b5 (by rw[b8.out];exact HE.out) (by rw[<-cL.out];exact eA);rw[b8.out,<-dL.out]at hb0;refine⟨hb0,⟨by simp;omega,by rw[List.getElem_append_left bE];exact b8.out⟩,fun k hk=> ?_⟩;by_cases e:k=i
             . subst e;rw[uC];omega
             . rw[upd_ne e];rw[cK.out,Ue]at hk;rcases hk with hk|hk
               . exact Hb.out.2.2 k hk
               . simp at hk;omega)
            have cM:=TY hsz;have HL:=TY (qA q2);clear hsz hown' hq' B' hq hown a6;go_wp2_with (at_builtin;go_must (refine aS (enc:=bH) fE aJ jN B2 eE (i:Int) H8.out HM.out cM.out rfl _ _ rfl rfl rfl ?_);intro v4 w4 bC hb4 hg4 cN;rw[GZ]at bC;obtain⟨A4,c4,rfl,e8,e9⟩:=bC.form)
            have bD:(ints (q2++[i])).length=(q2++[i]).length:=qA _
            have b9:(Value.slice A4 (q2++[i]).length c4).ownBlock≠some gO:=by
             rw[bD]at cN;rcases cN with q|q
             . rw[q];exact hne
             . rw[q,<-cM.out];intro e;injection e with e;omega
            have cB:aD 3 1 bH w.heap.size w4 (.slice A4 (q2++[i]).length c4) (ints (q2++[i])):=by rw[<-bD];exact bC
            have o4:aD 3 1 bH w.heap.size w4 (.slice (some ⟨gO,0,none⟩) n n) (vM n (upd f i (vo+1))):=QR (o2.alloc _) hg4 (fun e=>hne e.symm);go_roundw
            case rel=>exact⟨t+1,q2++[i],upd f i (vo+1),A4,c4,by omega,by go_num,by rw[bD],cB,b9,o4,HG,hb4⟩
            case measure=>simp[intOf];omega
          . have HG : Hid (Bfs (Edge T) s n f q2 p /\ (∃ h : p < q2.length, q2[p] = o) /\ ∀ k : Nat, (k : Int) ∈ N.take (t + 1) -> 0 <= f k) := TY ⟨Hb.out.1, Hb.out.2.1, fun k hk => by
             rw[cK.out,Ue]at hk;rcases hk with hk|hk
             . exact Hb.out.2.2 k hk
             . simp at hk;obtain rfl:k=i:=by omega
               rw[<-cL.out];omega⟩
            go_wp2;go_roundw
            case rel=>exact⟨t+1,q2,f,_,_,by omega,by go_num,rfl,hq,hne,hown,HG,a6⟩
            case measure=>simp[intOf];omega
        . obtain rfl : t = N.length := by omega
          have HG : Hid (Bfs (Edge T) s n f q2 (p + 1)) := TY (Kn Hb.out.1 bE (fun i hi => by
           rw[bJ]at hi;have:=(cI.out (i:Int)).2 ⟨i,rfl,hi⟩;exact Hb.out.2.2 i (by rw[Uf];exact this)))
          go_wp2;go_roundw
          case rel=>exact⟨q2,p+1,f,_,_,_,_,rfl,rfl,by omega,by go_num,rfl,hq,hne,hown,HG,a6⟩
          case measure=>simp[intOf];omega
     . obtain rfl : p = q.length := by omega
       have HD : Hid (tO T s = f /\ kU (Edge T) s n (tO T s)) := TY (by
        have h2:=MR Hb.out;have h3:tO T s=f:=M5 (by rw[<-HN.out];exact h2);exact⟨h3,by rw[h3];exact h2⟩)
       go_wp2;go_ret;exact⟨⟨some ⟨gO,0,none⟩,n,by rw[jR];rfl,by rw[jR,HD.out.1];exact hown,a6⟩,HD.out.2⟩
def fB (l:List Dm) (k:Nat):List Cl:=((List.range k).map iI).filter fun c=>decide (kindOf l c≠0)
theorem Cq {l:List Dm} {k:Nat} (h:kindOf l (iI k)≠0):fB l k++[iI k]=fB l (k+1):=by
 unfold fB;rw[List.range_succ,TZ,List.filter_append,Ug,List.map_nil,List.filter_cons_of_pos (by simpa using h)];rfl
theorem EG {l:List Dm} {k:Nat} (h:kindOf l (iI k)=0):fB l (k+1)=fB l k:=by
 unfold fB;rw[List.range_succ,TZ,List.filter_append,Ug,List.map_nil,List.filter_cons_of_neg (by simpa using h)];simp
theorem Cr (l:List Dm) (k:Nat):(fB l k).length<=k:=by
 unfold fB;refine Nat.le_trans (List.length_filter_le _ _) ?_;simp
theorem EH (v:Value) (l:List Dm) (w:World) (h:Rd 3 aU w v l):Calls prog 151 #[v] w (iH 83 2 dH (fC l) w):=by
 obtain⟨A,c,rfl,hc,hm⟩:=h.form;have a8:=fI w (E:=83) (size:=2) (enc:=dH) w.heap.size rfl w.heap.size (Uh _);go_enter Tryz.func151,Tryz.ntmps151
 go_wp2;go_loopw [3,4,6] (fun s3 s4 s6 wr=>∃(k:Nat) (D:Option Addr) (d:Nat) (z:Value),s4=z/\k<=64/\s6= .int .i64 k/\s3= .slice D (fB l k).length d/\aD 83 2 dH w.heap.size wr (.slice D (fB l k).length d) (fB l k)/\Below w.heap.size w wr) (fun _ _ i _=>64-(intOf i).toNat)
 case atStart=>exact⟨0,_,_,_,rfl,by omega,rfl,rfl,a8,(Below.refl _ _).al _⟩
 case round=>
  obtain⟨k,D,d,z,rfl,hk,rfl,rfl,hown,bA⟩:=hrel;clear a8;by_cases hlt:k<64
  . obtain⟨x,y,bC⟩:∃x y,iI k=(x,y):=⟨_,_,rfl⟩
    have cA : ∀ W : World, Calls prog 208 #[.int .i64 k] W (Ret (.agg #[.int .i64 x, .int .i64 y]) W) := fun W => by
     have:=BR k W (by omega);rw[bC]at this;exact this
    have HC:=TY cA;have bD:=TY bC;clear cA bC;have bF:(k:Int)<64:=(by omega);go_wp2_with fail
    refine(HC.out _).mono ?_;rintro e w1 ⟨rfl,hb1⟩;have B1:=bA.tr hb1;go_wp2_with fail
    refine(uN _ l x y _ (h.TW B1)).mono ?_;rintro e w2 ⟨rfl,hb2⟩;have B2:=B1.tr hb2;have bB:=(hown.below hb1).below hb2;by_cases a7:kindOf l (x,y)=0
    . have hd : decide (kindOf l (x, y) ≠ 0) = false := by simpa using a7
      rw[hd];have HN:Hid (fB l (k+1)=fB l k):=TY (EG (by rw[bD.out];exact a7));clear hd a7;go_wp2;go_roundw
      case rel=>exact⟨k+1,D,d,_,rfl,by omega,by go_num,by rw[HN.out],by rw[HN.out];exact bB,B2⟩
      case measure=>simp[intOf];omega
    . have hd : decide (kindOf l (x, y) ≠ 0) = true := by simpa using a7
      rw[hd];have HY:Hid (fB l k++[(x,y)]=fB l (k+1)):=TY (by have:=Cq (l:=l) (k:=k) (by rw[bD.out];exact a7);rw[bD.out]at this;exact this);have hlen:=Cr l k;have H8:Hid (((fB l k).length+1)*16<=140737488355328):=TY (by omega);have HM:Hid ((fB l k).length+1<=maxLen):=TY (by unfold maxLen;omega);clear hd a7 hlen;go_wp2_with fail
      refine(HC.out _).mono ?_;rintro e w3 ⟨rfl,hb3⟩;have B3:=B2.tr hb3;have bE:=bB.below hb3;go_wp2_with (at_builtin;go_must (refine aF (enc:=dH) jE eG oneCell B3 bE ((x,y):Cl) H8.out HM.out rfl _ _ rfl rfl rfl ?_);intro v4 w4 a6 hb4 hg4 bJ;rw[HY.out]at a6;obtain⟨A4,c4,rfl,bK,bL⟩:=a6.form)
      go_roundw
      case rel=>exact⟨k+1,A4,c4,_,rfl,by omega,by go_num,rfl,a6,hb4⟩
      case measure=>simp[intOf];omega
  . obtain rfl : k = 64 := by omega
    go_wp2;go_ret;exact⟨_,_,rfl,hown,bA⟩
theorem zL (v:Value) (l:List Dm) (w:World) (h:Rd 3 aU w v l):Calls prog 79 #[v] w (iH 83 2 dH (fC l) w):=by
 obtain⟨A,c,rfl,hc,hm⟩:=h.form;have a7:=fI w (E:=83) (size:=2) (enc:=dH) w.heap.size rfl w.heap.size (Uh _);go_enter Tryz.func79,Tryz.ntmps79
 go_wp2;go_loopw [3,4,5,6] (fun s3 s4 s5 s6 wr=>∃(k:Nat) (D:Option Addr) (d:Nat) (z5 z6:Value),s5=z5/\s6=z6/\k<=64/\s4= .int .i64 k/\s3= .slice D (fB l k).length d/\aD 83 2 dH w.heap.size wr (.slice D (fB l k).length d) (fB l k)/\Below w.heap.size w wr) (fun _ i _ _ _=>64-(intOf i).toNat)
 case atStart=>exact⟨0,_,_,_,_,rfl,rfl,by omega,rfl,rfl,a7,(Below.refl _ _).al _⟩
 case round=>
  obtain⟨k,D,d,z5,z6,rfl,rfl,hk,rfl,rfl,hown,a8⟩:=hrel;clear a7;by_cases hlt:k<64
  . obtain⟨x,y,bB⟩:∃x y,iI k=(x,y):=⟨_,_,rfl⟩
    have cA : ∀ W : World, Calls prog 132 #[.int .i64 k] W (Ret (.tuple #[.agg #[.int .i64 x, .int .i64 y], .bool true]) W) := fun W => by
     have:=vY k W hlt;unfold iI at bB;injection bB with e1 e2;rw[e1,e2]at this;exact this
    have HC:=TY cA;have bC:=TY bB;clear cA bB;have bJ:(k:Int)<64:=(by omega);go_wp2_with fail
    refine(HC.out _).mono ?_;rintro e w1 ⟨rfl,hb1⟩;have B1:=(a8.tr hb1).al (.cells #[.int .i64 x,.int .i64 y] 83);have bD:=(hown.below hb1).alloc (.cells #[.int .i64 x,.int .i64 y] 83);have b1:=Blk.aZ w1 83 #[.int .i64 x,.int .i64 y];obtain⟨n,hn⟩:=TV (kindOf l (x,y));have cK:∀(W:World),Rd 3 aU W (.slice A l.length c) l->Calls prog 133 #[.slice A l.length c,.agg #[.int .i64 x,.int .i64 y]] W (Ret (.int .i64 (n:Nat)) W):=fun W hW=>by rw[hn];exact GD _ l x y W hW
    have HK:=TY cK;have HN:=TY hn;clear cK hn;go_wp2_with fail
    refine(HK.out _ (h.TW B1)).mono ?_;rintro e w2 ⟨rfl,hb2⟩;have B2:=B1.tr hb2;have bA:=bD.below hb2;have b2:=b1.bl hb2;by_cases bE:n=0
    . subst bE;have bF:Hid (fB l (k+1)=fB l k):=TY (EG (by rw[bC.out];exact HN.out.symm));go_wp2;go_roundw
      case rel=>exact⟨k+1,D,d,_,_,rfl,rfl,by omega,by go_num,by rw[bF.out],by rw[bF.out];exact bA,B2⟩
      case measure=>simp[intOf];omega
    . have bK : (0 : Int) < (n : Int) := by omega
      have HY:Hid (fB l k++[(x,y)]=fB l (k+1)):=TY (by have:=Cq (l:=l) (k:=k) (by rw[bC.out,<-HN.out];exact bE);rw[bC.out]at this;exact this);have hlen:=Cr l k;have H8:Hid (((fB l k).length+1)*16<=140737488355328):=TY (by omega);have HM:Hid ((fB l k).length+1<=maxLen):=TY (by unfold maxLen;omega);clear bE hlen;obtain⟨bL,bN⟩:=b2.n2;go_wp2_with (at_builtin;go_must (refine aF (enc:=dH) jE eG oneCell B2 bA ((x,y):Cl) H8.out HM.out rfl _ _ rfl rfl rfl ?_);intro v4 w4 a6 hb4 hg4 bO;rw[HY.out]at a6;obtain⟨A4,c4,rfl,bR,bU⟩:=a6.form)
      go_roundw
      case rel=>exact⟨k+1,A4,c4,_,_,rfl,rfl,by omega,by go_num,rfl,a6,hb4⟩
      case measure=>simp[intOf];omega
  . obtain rfl : k = 64 := by omega
    go_wp2;go_ret;exact⟨_,_,rfl,hown,a8⟩
theorem RX {n x:Int} (h:n<=x) (r:List Int):vN n (x::r)=n::x::r:=if_pos h
theorem RY {n x:Int} (h:¬n<=x) (r:List Int):vN n (x::r)=x::vN n r:=if_neg h
theorem PI {n x:Int} {l:List Int} {k:Nat} (hk:k<l.length) (hx:l[k]=x):l.drop k=x::l.drop (k+1):=by rw[<-hx];exact List.drop_eq_getElem_cons hk
theorem PK (v:Value) (l:List Int) (n:Int) (w:World) (h:Rd 1 bG w v l) (hl:l.length<=1000):Calls prog 207 #[v,.int .i64 n] w (iH 3 1 bH (vN n l) w):=by
 obtain⟨A,c,rfl,hc,hm⟩:=h.form;have a8:=fI w (E:=3) (size:=1) (enc:=bH) w.heap.size rfl w.heap.size (Uh _);go_enter Tryz.func207,Tryz.ntmps207
 go_wp2;go_loopw [5,6,8,12] (fun s5 s6 s8 s12 wr=>∃(k:Nat) (dn:Bool) (out:List Int) (D:Option Addr) (d:Nat) (z:Value),s8=z/\k<=l.length/\s12= .int .i64 k/\s6= .bool dn/\s5= .slice D out.length d/\(out.length=k∨(dn=true/\out.length<=k+1))/\aD 3 1 bH w.heap.size wr (.slice D out.length d) out/\Hid ((if dn=true then out++l.drop k else out++vN n (l.drop k))=vN n l)/\Below w.heap.size w wr) (fun _ _ _ i _=>l.length-(intOf i).toNat)
 case atStart=>exact⟨0,false,[],_,_,_,rfl,Ui _,rfl,rfl,rfl,.inl rfl,a8,TY (by simp),(Below.refl _ _).al _⟩
 case round=>
  obtain⟨k,dn,out,D,d,z,rfl,hk,rfl,rfl,rfl,bC,hown,Hg,a7⟩:=hrel;clear a8;have bL:out.length<=k+1:=by rcases bC with q|⟨_,q⟩<;>omega
  have bA : dn = false -> out.length = k := fun e => by
   rcases bC with q|⟨q,_⟩
   . exact q
   . rw[e]at q;cases q
  have bJ:=TY bA;clear bC bA;have H8:Hid ((out.length+1)*8<=140737488355328):=TY (by omega);have HM:Hid (out.length+1<=maxLen):=TY (by unfold maxLen;omega);by_cases hlt:k<l.length
  . obtain⟨b,off,rfl,hb,c1⟩:=(h.TW a7).sP hlt;obtain⟨x,hx⟩:=TV (l[k]);rw[<-hx]at c1;have hdr:=PI (n:=n) hlt hx.symm;have HD:=TY hdr;clear hx hdr;have bU:(k:Int)<(l.length:Int):=(by omega);cases dn
    . by_cases bK:n<=x
      . have HG : Hid ((out ++ [n]) ++ [x] ++ l.drop (k + 1) = vN n l) := TY (by
         have:=Hg.out;rw[if_neg (by decide),HD.out]at this;rw[RX bK]at this;rw[<-this];simp)
        have bN:Hid (((out++[n]).length+1)*8<=140737488355328):=TY (by rw[Ub];simp;omega);have bO:Hid ((out++[n]).length+1<=maxLen):=TY (by rw[Ub];unfold maxLen;simp;omega);have HL:Hid ((out++[n]).length=out.length+1):=TY (by simp);go_wp2_with (first|(at_builtin;(refine aF (enc:=bH) fE aJ jN a7 hown n H8.out HM.out rfl _ _ rfl rfl rfl ?_);intro v4 w4 a6 hb4 hg4 bD;obtain⟨A4,c4,rfl,bE,bF⟩:=a6.form;rw[HL.out]at a6)|(at_builtin;go_must (refine aF (enc:=bH) fE aJ jN hb4 a6 x bN.out bO.out rfl _ _ rfl rfl rfl ?_);intro v5 w5 bB bR bW bX;obtain⟨A5,c5,rfl,bY,b5⟩:=bB.form))
        go_roundw
        case rel=>exact⟨k+1,true,(out++[n])++[x],A5,c5,_,rfl,by omega,by go_num,rfl,by simp,.inr ⟨rfl,by have:=bJ.out rfl;simp;omega⟩,bB,TY (by rw[if_pos rfl];exact HG.out),bR⟩
        case measure=>simp[intOf];omega
      . have HG : Hid ((out ++ [x]) ++ vN n (l.drop (k + 1)) = vN n l) := TY (by
         have:=Hg.out;rw[if_neg (by decide),HD.out]at this;rw[RY bK]at this;rw[<-this];simp)
        go_wp2_with (at_builtin;go_must (refine aF (enc:=bH) fE aJ jN a7 hown x H8.out HM.out rfl _ _ rfl rfl rfl ?_);intro v4 w4 a6 hb4 hg4 bD;obtain⟨A4,c4,rfl,bE,bF⟩:=a6.form)
        go_roundw
        case rel=>exact⟨k+1,false,out++[x],A4,c4,_,rfl,by omega,by go_num,rfl,by simp,.inl (by rw[Ub,bJ.out rfl];rfl),a6,TY (by rw[if_neg (by decide)];exact HG.out),hb4⟩
        case measure=>simp[intOf];omega
    . have HG : Hid ((out ++ [x]) ++ l.drop (k + 1) = vN n l) := TY (by
       have:=Hg.out;rw[if_pos rfl,HD.out]at this;rw[<-this];simp)
      go_wp2_with (at_builtin;go_must (refine aF (enc:=bH) fE aJ jN a7 hown x H8.out HM.out rfl _ _ rfl rfl rfl ?_);intro v4 w4 a6 hb4 hg4 bD;obtain⟨A4,c4,rfl,bE,bF⟩:=a6.form)
      go_roundw
      case rel=>exact⟨k+1,true,out++[x],A4,c4,_,rfl,by omega,by go_num,rfl,by simp,.inr ⟨rfl,by simp;omega⟩,a6,TY (by rw[if_pos rfl];exact HG.out),hb4⟩
      case measure=>simp[intOf];omega
  . obtain rfl : k = l.length := by omega
    cases dn
    . have HG : Hid (out ++ [n] = vN n l) := TY (by
       have:=Hg.out;rw[if_neg (by decide),List.drop_length]at this;exact this)
      go_wp2_with (at_builtin;go_must (refine aF (enc:=bH) fE aJ jN a7 hown n H8.out HM.out rfl _ _ rfl rfl rfl ?_);rw[HG.out];intro v4 w4 a6 hb4 hg4 bD;obtain⟨A4,c4,rfl,bE,bF⟩:=a6.form)
      go_ret;exact⟨_,_,rfl,a6,hb4⟩
    . have HG : Hid (out = vN n l) := TY (by
       have:=Hg.out;rw[if_pos rfl,List.drop_length,List.append_nil]at this;exact this)
      go_wp2;go_ret;exact⟨D,d,by rw[<-HG.out];rfl,by rw[<-HG.out];exact hown,a7⟩
theorem vH {B:Nat} (u v:Value) (T:List (List Dm)) (m:List Dm) (w:World) (h:dU 27 99 3 aX B w u T) (h':Rd 3 aU w v m):Calls prog 147 #[u,v] w (Ret (.int .i64 (oJ T m)) w):=by
 obtain⟨A,c,rfl,hc,hm⟩:=h.form;have a8:T.length<=9223372036854775807:=by unfold maxLen at hm;omega
 go_enter Tryz.func147,Tryz.ntmps147
 go_wp2;go_loopw [5,6,9] (fun s5 s6 s9 wr=>∃(k:Nat) (z5 z6:Value),s5=z5/\s6=z6/\k<=T.length/\s9= .int .i64 k/\Hid (∀j (hj:j<k) (h:j<T.length),T[j]≠m)/\Below w.heap.size w wr) (fun _ _ i _=>T.length-(intOf i).toNat)
 case atStart=>exact⟨0,_,_,rfl,rfl,Ui _,rfl,TY (fun j hj=>by omega),Below.refl _ _⟩
 case round=>
  obtain⟨k,z5,z6,rfl,rfl,hk,rfl,Hg,a6⟩:=hrel;by_cases hlt:k<T.length
  . obtain⟨g,D,d,rfl,hg1,hg2,c1,a7⟩:=(h.below a6).pick hlt;have bA:(k:Int)<(T.length:Int):=(by omega);obtain⟨t,ht⟩:=TV (T[k]);rw[<-ht]at c1 a7;have HT:=TY ht;clear ht;go_wp2_with fail
    refine(uP _ _ t m _ (a7.rd aC (by decide)) (h'.TW a6)).mono ?_;rintro e w1 ⟨rfl,hb1⟩;by_cases he:t=m
    . rw[decide_eq_true he];have HI:Hid (oJ T m=(k:Int)):=TY (index_hit hlt (fun j hj=>Hg.out j hj (by omega)) (by rw[<-HT.out];exact he));clear he;go_wp2;go_ret;exact⟨by rw[HI.out];rfl,a6.tr hb1⟩
    . rw[decide_eq_false he]
      have HN : Hid (∀ j (hj : j < k + 1) (h : j < T.length), T[j] ≠ m) := TY (fun j hj h q => by
       rcases(by omega:j<k∨j=k)with h1|h1
       . exact Hg.out j h1 h q
       . subst h1;rw[<-HT.out]at q;exact he q)
      clear he;go_wp2;go_roundw
      case rel=>exact⟨k+1,_,_,rfl,rfl,by omega,by go_num,HN,a6.tr hb1⟩
      case measure=>simp[intOf];omega
  . obtain rfl : k = T.length := by omega
    have HI:Hid (oJ T m= -1):=TY (EB (fun j hj=>Hg.out j hj hj));go_wp2;go_ret;exact⟨by rw[HI.out];rfl,a6⟩
theorem Tf (x y:Int):kR x++(⟨#[44]⟩:ByteArray)++kR y++(⟨#[114]⟩:ByteArray)=qZ (x,y,false):=by
 apply ByteArray.ext;apply Array.toList_inj.1;unfold qZ;rw[wQ];simp[Uk,kR,FX]
theorem Tg (x y:Int):kR x++(⟨#[44]⟩:ByteArray)++kR y++(⟨#[100]⟩:ByteArray)=qZ (x,y,true):=by
 apply ByteArray.ext;apply Array.toList_inj.1;unfold qZ;rw[wQ];simp[Uk,kR,FX]
theorem KH {x:Int} (h0:0<=x) (h1:x<=7):(kR x).size=1:=by
 unfold kR;rw[Lib.decDigits_one (by omega)];rfl
theorem Ir (x y:Int) (d:Bool) (w:World) (hd:aI (x,y,d)=true) (ht:Tab w):Calls prog 232 #[.agg #[.int .i64 x,.int .i64 y,.bool d]] w (Ret (.string (qZ (x,y,d))) w):=by
 have a7:=FY hd;have bA:0<=x:=a7.1.1;have bC:x<=9223372036854775807:=by have:=a7.1.2;simp only at this;omega
 have bB:0<=y:=a7.2.1;have bD:y<=9223372036854775807:=by have:=a7.2.2;simp only at this;omega
 have sX:=KH bA a7.1.2;have sY:=KH bB a7.2.2;have HT:=TY ht;clear ht a7;have B0:=(Below.refl w.heap.size w).al (.cells #[.int .i64 x,.int .i64 y,.bool d] 99);have bP:=Blk.aZ w 99 #[.int .i64 x,.int .i64 y,.bool d];go_enter Tryz.func232,Tryz.ntmps232
 go_wp2_with fail
 refine(Br x y d _ hd).mono ?_;rintro e w1 ⟨rfl,hb1⟩;have B1:=B0.tr hb1;have bJ:=bP.bl hb1;have hg:=bJ.lt;obtain⟨bK,bL,bN⟩:=bJ.n3;have Bw:Below w1.heap.size w1 w1:=Below.refl _ _;have hz:w1.heap.size<=w1.heap.size:=Uh _;cases d
 . have HE:=TY (Tf x y);go_wp2_with fail
   have Bw:Below w1.heap.size w1 w1.drew:=Bw.drew;have hz:w1.heap.size<=w1.drew.heap.size:=Bw.size;refine rB (fun w'=>w'.cell? ⟨w.heap.size,0,none⟩=some (.int .i64 x)/\w'.cell? ⟨w.heap.size,1,none⟩=some (.int .i64 y)) fun hHeld=>(tW 0)<|(tW 1)<|(tW 4)<|(tW 5)<|(tR [2])<|tL fun K hK=>?_
   go_simp
   (go_at_call 11;go_must (refine(uA _ _ (by first|exact bA|exact bB) (by first|exact bC|exact bD) (HT.out.below (B1.tr Bw))).mono ?_;rintro e wX ⟨rfl,a6⟩;obtain⟨bE,bF,a8⟩:=bkn a6 w1.heap.size hz;have hz:=a8;have Bw:=Bw.tr a6);(try go_wp2_with fail))
   refine tK hK fun hHeld=>?_
   clear hK K;refine(tW 3)<|(tR [6])<|tL fun K hK=>?_
   go_simp
   (go_at_call 11;go_must (refine(uA _ _ (by first|exact bA|exact bB) (by first|exact bC|exact bD) (HT.out.below (B1.tr Bw))).mono ?_;rintro e wX ⟨rfl,a6⟩;obtain⟨bE,bF,a8⟩:=bkn a6 w1.heap.size hz;have hz:=a8;have Bw:=Bw.tr a6);(try go_wp2_with fail))
   refine tK hK fun hHeld=>?_
   clear hK K;refine(tW 7)<|(tW 8)<|(tW 9)<|tD ?_
   all_goals
     go_wp2;go_ret;exact⟨congrArg _ (congrArg _ HE.out),B1.tr Bw⟩
 . have HE:=TY (Tg x y);go_wp2_with fail
   have Bw:Below w1.heap.size w1 w1.drew:=Bw.drew;have hz:w1.heap.size<=w1.drew.heap.size:=Bw.size;refine rB (fun w'=>w'.cell? ⟨w.heap.size,0,none⟩=some (.int .i64 x)/\w'.cell? ⟨w.heap.size,1,none⟩=some (.int .i64 y)) fun hHeld=>(tW 0)<|(tW 1)<|(tW 4)<|(tW 5)<|(tR [2])<|tL fun K hK=>?_
   go_simp
   (go_at_call 11;go_must (refine(uA _ _ (by first|exact bA|exact bB) (by first|exact bC|exact bD) (HT.out.below (B1.tr Bw))).mono ?_;rintro e wX ⟨rfl,a6⟩;obtain⟨bE,bF,a8⟩:=bkn a6 w1.heap.size hz;have hz:=a8;have Bw:=Bw.tr a6);(try go_wp2_with fail))
   refine tK hK fun hHeld=>?_
   clear hK K;refine(tW 3)<|(tR [6])<|tL fun K hK=>?_
   go_simp
   (go_at_call 11;go_must (refine(uA _ _ (by first|exact bA|exact bB) (by first|exact bC|exact bD) (HT.out.below (B1.tr Bw))).mono ?_;rintro e wX ⟨rfl,a6⟩;obtain⟨bE,bF,a8⟩:=bkn a6 w1.heap.size hz;have hz:=a8;have Bw:=Bw.tr a6);(try go_wp2_with fail))
   refine tK hK fun hHeld=>?_
   clear hK K;refine(tW 7)<|(tW 8)<|(tW 9)<|tD ?_
   all_goals
     go_wp2;go_ret;exact⟨congrArg _ (congrArg _ HE.out),B1.tr Bw⟩
theorem G5 (l : List Dm) : toB (Lib.join ((l.map qZ).map fun x => x.data.toList) [32]) = KA l := by
 unfold KA;congr 2
 rw[List.map_map];exact List.map_congr_left fun d _=>rfl
theorem G6 {l : List Dm} (hl : ∀ d ∈ l, aI d = true) (a6 : l.length <= 64) : (Lib.join ((l.map qZ).map fun x => x.data.toList) [32]).length <= 1000 := by
 have key : ∀ m : List Dm, (∀ d ∈ m, aI d = true) -> (Uj [32] ((m.map qZ).map fun x => x.data.toList)).length = 5 * m.length := by
  intro m;induction m with
  |nil=>intro _;simp[Uj]
  |cons d m ih=>
   intro hm;have e:∀(x:Bs) (zs:List Bs),Uj [32] (x::zs)=32::(x++Uj [32] zs):=fun x zs=>by simp[Uj]
   rw[Ug,Ug,e,Uc,Ub,ih (fun d hd=>hm d (List.mem_cons_of_mem _ hd)),Uc]
   have:(qZ d).data.toList.length=4:=by
    have:=GY (hm d List.mem_cons_self);have e2:(qZ d).size=(qZ d).data.toList.length:=by rw[Array.length_toList];rfl
    omega
   omega
 cases l with
 |nil=>exact Ui _
 |cons d l=>
  rw[Ug,Ug,Lib.join_cons,Ub,key l (fun d hd=>hl d (List.mem_cons_of_mem _ hd))]
  have:(qZ d).data.toList.length=4:=by
   have:=GY (hl d List.mem_cons_self);have e2:(qZ d).size=(qZ d).data.toList.length:=by rw[Array.length_toList];rfl
   omega
  rw[Uc]at a6;omega
theorem JN {l:List Dm} {k:Nat} (h:k<l.length):(l.take k).map qZ++[qZ l[k]]=(l.take (k+1)).map qZ:=by
 rw[List.take_succ_eq_append_getElem h,TZ];rfl
theorem LH {l:List Dm} {k:Nat} (h:k<=l.length):((l.take k).map qZ).length=k:=by rw[List.length_map,List.length_take];omega
theorem Oc {B g c : Nat} {w : World} {F : List ByteArray} (h : aD 9 1 iX B w (.slice (some ⟨g, 0, none⟩) F.length c) F) (hg : g < w.heap.size) (hF : F.length <= 100) (hs : (Lib.join (F.map fun x => x.data.toList) [32]).length <= 1000) :
 Calls prog 48 #[.slice (some ⟨g,0,none⟩) F.length c,.string ⟨#[32]⟩] w (Ret (.string (toB (Lib.join (F.map fun x=>x.data.toList) [32]))) w):=by
 obtain⟨A',c',e,h1,h2⟩:=h.form;injection e with e1 e2 e3;subst e3
 have a6 := Tryz.strings_Join g 0 c F (⟨#[32]⟩ : ByteArray) w (fun j x hj => by
  have a7:=(List.getElem?_eq_some_iff.1 hj).1;have:=h.slot jA (by decide) a7 0 (.string F[j]) rfl;rw[(List.getElem?_eq_some_iff.1 hj).2]at this;simpa using this) hg (by omega) h1 (Nat.le_trans hs (by decide))
 refine a6.mono ?_;rintro e w' ⟨rfl,hb⟩;exact⟨rfl,hb⟩
theorem zZ (v:Value) (l:List Dm) (w:World) (h:Rd 3 aU w v l) (hl:∀d∈l,aI d=true) (bO:l.length<=64) (ht:Tab w):Calls prog 206 #[v] w (Ret (.string (KA l)) w):=by
 obtain⟨A,c,rfl,hc,hm⟩:=h.form;have a7:=fI w (E:=9) (size:=1) (enc:=iX) w.heap.size rfl w.heap.size (Uh _);have HT:=TY ht;have bK:=TY hl;clear ht hl;go_enter Tryz.func206,Tryz.ntmps206
 go_wp2;go_loopw [3,5,9] (fun s3 s5 s9 wr=>∃(k:Nat) (D:Option Addr) (d:Nat) (z:Value),s5=z/\k<=l.length/\s9= .int .i64 k/\s3= .slice D k d/\aD 9 1 iX w.heap.size wr (.slice D k d) ((l.take k).map qZ)/\Below w.heap.size w wr) (fun _ _ i _=>l.length-(intOf i).toNat)
 case atStart=>exact⟨0,_,_,_,rfl,Ui _,rfl,rfl,a7,(Below.refl _ _).al _⟩
 case round=>
  obtain⟨k,D,d,z,rfl,hk,rfl,rfl,hown,a6⟩:=hrel;clear a7;by_cases hlt:k<l.length
  . obtain⟨b,off,rfl,hb,k0,k1,k2⟩:=(h.TW a6).jT hlt;have bY:(k:Int)<(l.length:Int):=(by omega);have bB:=bK.out l[k] (Ud hlt);have bC:=JN hlt;obtain⟨x,hx⟩:=TV (l[k]);rw[<-hx]at k0 k1 k2 bB bC;obtain⟨x,y,s⟩:=x;simp only at k0 k1 k2;have bR:=TY bC;have bL:=TY bB;have bA:=TY (LH (l:=l) (k:=k) hk);have H8:Hid ((((l.take k).map qZ).length+1)*16<=140737488355328):=TY (by rw[bA.out];omega);have HM:Hid (((l.take k).map qZ).length+1<=maxLen):=TY (by rw[bA.out];unfold maxLen;omega);clear hx bC bB;have B1:=a6.al (.cells #[.int .i64 x,.int .i64 y,.bool s] 99);have b1:=Blk.aZ wr 99 #[.int .i64 x,.int .i64 y,.bool s];have bD:=hown.alloc (.cells #[.int .i64 x,.int .i64 y,.bool s] 99);go_wp2_with fail
    refine(Br x y s _ bL.out).mono ?_;rintro e w2 ⟨rfl,hb2⟩;have B2:=B1.tr hb2;have b2:=b1.bl hb2;have bE:=bD.below hb2;obtain⟨b5,b6,b7⟩:=b2.n3;go_wp2_with fail
    refine(Ir x y s _ bL.out (HT.out.below B2)).mono ?_;rintro e w3 ⟨rfl,hb3⟩;have B3:=B2.tr hb3;have bF:=bE.below hb3;obtain⟨S,hS⟩:=TV (qZ (x,y,s));rw[<-hS];have HS:=TY hS;clear hS;go_wp2_with (at_builtin;go_must (refine aF (enc:=iX) qG jA sF B3 bF S H8.out HM.out rfl _ _ rfl rfl rfl ?_);intro v4 w4 a8 hb4 hg4 b8;obtain⟨A4,c4,rfl,b9,cA⟩:=a8.form)
    have bJ:aD 9 1 iX w.heap.size w4 (.slice A4 (k+1) c4) ((l.take (k+1)).map qZ):=by
     have e:((l.take k).map qZ++[S]).length=k+1:=by rw[Ub,bA.out];rfl
     rw[<-bR.out,<-HS.out,<-e];exact a8
    go_roundw
    case rel=>exact⟨k+1,A4,c4,_,rfl,by omega,by go_num,by simp[bA.out],bJ,hb4⟩
    case measure=>simp[intOf];omega
  . obtain rfl : k = l.length := by omega
    rcases Nat.eq_zero_or_pos l.length with h0|hp
    . have hl0:l=[]:=List.length_eq_zero_iff.1 h0;have bU:Hid (KA l=(⟨#[]⟩:ByteArray)):=TY (by rw[hl0];rfl);have H0:=TY h0;clear hl0;rw[h0];clear h0;go_wp2_with fail
      refine(Tryz.strings_Join_none D d (⟨#[32]⟩:ByteArray) _).mono ?_;rintro e w5 ⟨rfl,rfl⟩;go_wp2;go_ret;exact⟨by rw[bU.out];rfl,a6⟩
    . skip;rw[Uf]at hown;have e2:(l.map qZ).length=l.length:=List.length_map ..;obtain⟨g,rfl,hB,bW⟩:=hown.split (k:=0) (by rw[e2];omega);have hown':aD 9 1 iX w.heap.size wr (.slice (some ⟨g,0,none⟩) (l.map qZ).length d) (l.map qZ):=by rw[e2];exact hown
      have bN:=Oc hown' bW (by rw[e2];omega) (G6 bK.out bO);rw[e2,G5]at bN;clear hown';go_wp2_with fail
      refine bN.mono ?_;rintro e w5 ⟨rfl,bX⟩;go_wp2;go_ret;exact⟨rfl,a6.tr bX⟩
end Go.Proofs.YtjijonhkofhikaaGreatDoor
namespace Go.Proofs.YtjijonhkofhikaaGreatDoor
open Go.ChangeShapes Go.WideShapes Go.ChangeAt Go.RowKit Go.WideMaps Go.Maps
theorem Na:Row prog 163 24 (.slice none 0 0) 1 24:=⟨Tryz.underlying163,by kernel_rfl,rfl,by decide⟩
theorem TQ:Keyed prog 9:=string_keyed Ul
theorem RZ (w:World):(zeroValue 3).run prog w= .ok (.int .i64 0) w:=by kernel_rfl
theorem R3 {T:List (List Dm)} (hT:pY T) (a6:∀t∈T,∀d∈t,aI d=true) {j:Nat} (hj:j<T.length) {c:Cl} (hc:c∈fC (til T j)) (z:DataW Unit):(KF T T.length).atKey (I4 (aW (til T j) c)) z= .lit (.int .i64 (vS T j c)):=by
 have hm:=hT.cl _ (Ud hj) c (by rw[<-iV hj];exact lZ.1 hc);rw[iV hj];obtain⟨h1,h2⟩:=oH hm.1;have h3:=M8 hT.nd a6 (i:=ix T (aW T[j] c)) z T.length (Uh _) h1;rw[iV h1,h2]at h3;unfold vS;rw[iV hj];exact h3
theorem Nb {l:List Dm} (hl:∀d∈l,aI d=true) (a6:l.length<=64):(KA l).size<=maxLen:=by
 have h1:=G6 hl a6;rw[<-G5];have e:∀x:Bs,(toB x).size=x.length:=fun x=>rfl
 rw[e];unfold maxLen;omega
theorem LJ {w w':World} (hb:Below w.heap.size w w'):w.grownBy w' none:=⟨hb.os,hb.tape,hb.output,hb.size,fun k hk _=>hb.block k hk⟩
theorem Od {B:Nat} (v:Value) (T:List (List Dm)) (w:World) (h:dU 27 99 3 aX B w v T) (hT:pY T) (cL:∀t∈T,(∀d∈t,aI d=true)/\t.length<=64) (ht:Tab w):
 Calls prog 150 #[v] w (fun e w'=>∃A c,e= .returned (.slice A T.length c)/\dU 24 3 1 bH w.heap.size w' (.slice A T.length c) (qO T T.length)/\Below w.heap.size w w'):=by
 obtain⟨A,c,rfl,hc,hm⟩:=h.form;have hsm:=hT.sm;have eJ:= @run_makeMap prog;have HT:=TY ht;have HF:=TY hT;have HK:=TY cL;clear ht hT cL hc hm;obtain⟨gM,a8⟩:=TV w.heap.size;have cA:=World.ownsMap_made (H:=Unit) w prog 9 (plainElem (H:=Unit) prog 3);have bK:=TY a8;rw[<-a8]at cA;go_enter Tryz.func150,Tryz.ntmps150
 rw[<-a8];clear a8;go_wp2;go_loopw [4,5,17] (fun s4 s5 cT wr=>∃(k:Nat) (z4 z5:Value),s4=z4/\s5=z5/\k<=T.length/\cT= .int .i64 k/\wr.ownsMap prog 9 (plainElem (H:=Unit) prog 3) gM k (KF T k)/\Below w.heap.size w wr) (fun _ _ i _=>T.length-(intOf i).toNat)
 case atStart=>exact⟨0,_,_,rfl,rfl,Ui _,rfl,cA,(Below.refl _ _).al _⟩
 case round=>
  obtain⟨k,z4,z5,rfl,rfl,hk,rfl,hown,a6⟩:=hrel;clear cA;by_cases hlt:k<T.length
  . obtain⟨g,D,d,rfl,hg1,hg2,c1,tk⟩:=(h.below a6).pick hlt;have cU:(k:Int)<(T.length:Int):=(by omega);obtain⟨l,hl⟩:=TV (T[k]);have bC:(∀d∈l,aI d=true)/\l.length<=64:=by rw[hl];exact HK.out _ (Ud hlt)
    have bL:(KF T k).put (I4 l) (.lit (.int .i64 (k:Int)))=KF T (k+1):=(by rw[BH,iV hlt,hl]);rw[<-hl]at c1 tk;have HL:=TY hl;have cB:=TY bC;have cC:=TY bL;have hkey:keyOf prog 9 (.string (KA l))=some (I4 l):=keyOf_string_mk Ul (Nb bC.1 bC.2);have bA:=TY hkey;clear hl bC bL hkey;go_wp2_with fail
    refine(zZ _ l _ (tk.rd aC (by decide)) cB.out.1 cB.out.2 (HT.out.below a6)).mono ?_;rintro e w1 ⟨rfl,hb1⟩;have B1:=a6.tr hb1;have a7:=hown.kept (LJ hb1) (by simp);have hmx:k<maxLen:=by unfold maxLen;omega
    go_wp2_with (at_mapUpdate;go_must (refine wpList_mapUpdate_own _ rfl _ _ _ 199 rfl 9 3 TQ Tryz.underlying199 _ w.heap.size k _ rfl (by rw[<-bK.out];exact a7) hmx _ _ _ rfl rfl bA.out _ [] (plainElem_int Tryz.underlying3 (WalkArith.wf_i64 (by omega))) ?_);intro w2 bB hg2)
    rw[cC.out,<-bK.out]at bB;have B2:=B1.grown hg2 B1.size (fun j hj=>by injection hj with hj;subst hj;exact Uh _);go_roundw
    case rel=>exact⟨k+1,_,_,rfl,rfl,by omega,by go_num,bB,B2⟩
    case measure=>simp[intOf];omega
  . obtain rfl : k = T.length := by omega
    have a8:gM+1<=wr.heap.size:=by have:=hown.lt;omega
    have oo:=fI wr (E:=24) (size:=1) (enc:=eV) wr.heap.size rfl (gM+1) a8;have bJ:dU 24 3 1 bH (gM+1) (wr.alloc (.cells #[] 24)) (.slice (some ⟨wr.heap.size,0,none⟩) 0 0) (qO T 0):=⟨[],oo,rfl,fun k u x hu=>by simp at hu⟩;have hown2:=hown.alloc (.cells #[] 24);have B2:=a6.al (.cells #[] 24);clear oo;go_wp2;go_loopw [6,8,9,11,12,13,30] (fun s6 s8 s9 cD s12 cE cV wr=>∃(k:Nat) (D:Option Addr) (d:Nat) (z8 z9 bN z12 bO:Value),s8=z8/\s9=z9/\cD=bN/\s12=z12/\cE=bO/\k<=T.length/\cV= .int .i64 k/\s6= .slice D k d/\dU 24 3 1 bH (gM+1) wr (.slice D k d) (qO T k)/\wr.ownsMap prog 9 (plainElem (H:=Unit) prog 3) gM T.length (KF T T.length)/\Below w.heap.size w wr) (fun _ _ _ _ _ _ i _=>T.length-(intOf i).toNat)
    case atStart=>exact⟨0,_,_,_,_,_,_,_,rfl,rfl,rfl,rfl,rfl,Ui _,rfl,rfl,bJ,hown2,B2⟩
    case round=>
     clear bJ hown2 B2 a8 hown a6;obtain⟨k,D,d,z8,z9,bN,z12,bO,rfl,rfl,rfl,rfl,rfl,hk,rfl,rfl,bJ,hown,a6⟩:=hrel;by_cases hlt:k<T.length
     . obtain⟨g,D1,d1,rfl,hg1,hg2,c1,tk⟩:=(h.below a6).pick hlt;have cU:(k:Int)<(T.length:Int):=(by omega);obtain⟨l,hl⟩:=TV (T[k]);have bC:(∀d∈l,aI d=true)/\l.length<=64:=by rw[hl];exact HK.out _ (Ud hlt)
       have bR:til T k=l:=(by rw[iV hlt,hl]);rw[<-hl]at c1 tk;have cB:=TY bC;have bD:=TY bR;have b6:=TY hlt;have cW:Small l.length:=by have:=bC.2;unfold Small;omega
       clear hl bC bR;have a8:gM+1<=wr.heap.size:=by have:=hown.lt;omega
       have oi:=fI wr (E:=3) (size:=1) (enc:=bH) wr.heap.size rfl (gM+1) a8;have bU:=tk.alloc (.cells #[] 3);go_wp2_with fail
       refine(EH _ l _ (bU.rd aC (by decide))).mono ?_;rintro e w1 ⟨A6,c6,rfl,oF,hb1⟩;have cM:=oi.below hb1;have cX:=bU.below hb1;have bW:=(bJ.alloc (.cells #[] 3)).below hb1;have a7:=(hown.alloc (.cells #[] 3)).kept (LJ hb1) (by simp);have B1:=(a6.al (.cells #[] 3)).tr hb1;have cY:=xN l;obtain⟨F,hF⟩:=TV (fC l);rw[<-hF]at oF cY⊢;have bX:=TY hF;clear hF oi bU bJ hown a6 hb1 tk c1;have eK:Hid (oK T k 0=[]):=TY rfl;go_wp2;go_loopw [9,11,12,13,38] (fun s9 cD s12 cE dL wr=>∃(t:Nat) (D:Option Addr) (d:Nat) (bN z12 bO:Value),cD=bN/\s12=z12/\cE=bO/\t<=F.length/\dL= .int .i64 t/\s9= .slice D t d/\aD 3 1 bH (gM+1) wr (.slice D t d) (oK T k t)/\Below w1.heap.size w1 wr) (fun _ _ _ _ i _=>F.length-(intOf i).toNat)
       case atStart=>exact⟨0,_,_,_,_,_,rfl,rfl,rfl,Ui _,rfl,rfl,cM,Below.refl _ _⟩
       case round=>
        clear cM;obtain⟨t,D2,d2,bN,z12,bO,rfl,rfl,rfl,ht,rfl,rfl,hown,a6⟩:=hrel;by_cases bE:t<F.length
        . have cN:=oF.below a6;obtain⟨b,off,rfl,hb,q0,q1⟩:=(cN.rd eG (by decide)).fQ bE;obtain⟨xy,b7⟩:=TV (F[t]);have bF:xy∈fC l:=by rw[b7,<-bX.out];exact Ud bE
          rw[<-b7]at q0 q1;obtain⟨x,y⟩:=xy;simp only at q0 q1;have cF:¬kindOf l (x,y)=0:=lZ.1 bF;have cG:=(HF.out.cl _ (Ud b6.out) (x,y) (by rw[<-iV b6.out,bD.out];exact cF)).1;rw[<-iV b6.out,bD.out]at cG;have hno:=HK.out _ cG;have hlk:=fun z=>R3 HF.out (fun t ht=>(HK.out t ht).1) b6.out (c:=(x,y)) (by rw[bD.out];exact bF) z
          rw[bD.out]at hlk;have hkey:keyOf prog 9 (.string (KA (aW l (x,y))))=some (I4 (aW l (x,y))):=keyOf_string_mk Ul (Nb hno.1 hno.2)
          have bL:oK T k (t+1)=vN (vS T k (x,y)) (oK T k t):=by
           have cH:t<(fC (til T k)).length:=by rw[bD.out,<-bX.out];exact bE
           rw[Co cH];congr 1
           congr 1
           rw[b7];congr 1
           . rw[bX.out,bD.out]
          have bY:(oK T k t).length=t:=EF t (by rw[bD.out,<-bX.out];omega);have cC:=TY bL;have b8:=TY bY;have bA:=TY hkey;have cP:=TY hlk;have cI:=TY hno;have dT:=TY cF;clear bL bY hkey hlk hno cF bF b7 cG cN;have eL:(t:Int)<(F.length:Int):=(by omega);have B2:=a6.al (.cells #[.int .i64 x,.int .i64 y] 83);have b2:=Blk.aZ wr 83 #[.int .i64 x,.int .i64 y];have bB:=hown.alloc (.cells #[.int .i64 x,.int .i64 y] 83);have bU:=cX.below B2;go_wp2_with fail
          refine(wH _ l x y _ (bU.rd aC (by decide)) cW dT.out).mono ?_;rintro e w2 ⟨A7,c7,rfl,oN,hb2⟩;have B3:=B2.tr hb2;have cJ:=bB.below hb2;have eM:=a7.kept (LJ B3) (by simp);obtain⟨N,hN⟩:=TV (aW l (x,y));rw[<-hN]at oN bA cP cI⊢;have eN:=TY hN;clear hN;go_wp2_with fail
          refine(zZ _ N _ (oN.rd aC (by decide)) cI.out.1 cI.out.2 (HT.out.below (B1.tr B3))).mono ?_;rintro e w3 ⟨rfl,hb3⟩;have B4:=B3.tr hb3;have cK:=cJ.below hb3;have cQ:=a7.kept (LJ B4) (by simp);go_wp2_with (at_lookup;go_must (refine wpList_lookup_own_int _ rfl _ _ 199 rfl 9 3 .i64 TQ Tryz.underlying199 Tryz.underlying3 (RZ _) w.heap.size T.length _ rfl (by rw[<-bK.out];exact cQ) _ _ rfl bA.out ?_);intro cc hat hwc)
          have hcc:cc=vS T k (x,y):=by
           rw[cP.out]at hat;injection hat with hat;injection hat with _ hat;exact hat.symm
          subst hcc;refine(PK _ (oK T k t) _ _ (cK.rd aJ (by decide)) (by rw[b8.out];omega)).mono ?_;rintro e w5 ⟨A8,c8,rfl,oP,eA⟩;have B5:=B4.tr eA;have hpl:(vN (vS T k (x,y)) (oK T k t)).length=t+1:=(by rw[FB,b8.out]);rw[hpl]at oP⊢;rw[<-cC.out]at oP;have eC:gM+1<=w3.heap.size:=by have:=cQ.lt;omega
          go_wp2;go_roundw
          case rel=>exact⟨t+1,A8,c8,_,_,_,rfl,rfl,rfl,by omega,by go_num,rfl,oP.mono eC,B5⟩
          case measure=>simp[intOf];omega
        . obtain rfl : t = F.length := by omega
          have bY:oK T k F.length=Jm T k:=by unfold Jm;rw[bD.out,<-bX.out]
          rw[bY]at hown;obtain⟨us,h1,h2,h3⟩:=bW.below a6;have b9:us.length=k:=by rw[h2];exact rA T k
          have cR:=a7.kept (LJ a6) (by simp);have B2:=B1.tr a6;have H8:Hid ((us.length+1)*24<=140737488355328):=TY (by rw[b9];omega);have HM:Hid (us.length+1<=maxLen):=TY (by rw[b9];unfold maxLen;omega);have hsz:gM+1<=wr.heap.size:=by have:=cR.lt;omega
          have hrow:∀j,(Value.slice D k d).ownBlock=some j->gM+1<=j:=fun j hj=>(World.ownsRow.lt h1 j hj).1
          have eE:=TY b9;have b8:=TY (JK T k);have b5:=TY hrow;clear b9 bY hrow bW a7 B1;go_wp2_with (at_builtin;go_must (refine pJ (enc:=eV) Na Ck wr hsz h1 (.slice D2 F.length d2) (by simp[eV,Value.oneCell']) rfl H8.out HM.out rfl _ _ rfl rfl rfl ?_);intro A5 c5 w5 o5 g5 eP)
          have cS:=dU.snoc (by decide) h1 h2 h3 hown o5 g5;rw[b8.out,eE.out]at cS;have eI:=cR.kept g5 (fun e=>by have:=b5.out gM e.symm;omega);have B5:=B2.grown g5 B2.size (fun j hj=>by have:=b5.out j hj;rw[bK.out]at this;omega);go_roundw
          case rel=>exact⟨k+1,A5,c5,_,_,_,_,_,rfl,rfl,rfl,rfl,rfl,by omega,by go_num,by rw[rA],cS,eI,B5⟩
          case measure=>simp[intOf];omega
     . obtain rfl : k = T.length := by omega
       go_wp2;go_ret;exact⟨_,_,rfl,bJ.mono (by omega),by rw[bK.out];exact a6⟩
end Go.Proofs.YtjijonhkofhikaaGreatDoor
