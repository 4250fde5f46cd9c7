/- The distances from a tiling, of the program: the walk. No conditions. The distances from a tiling, of the reference: the walk. No conditions. The flips of a list, of both sides; a number put into a list; the place of a list: the walks. No conditions. -/
import Derived.Test.YtfdbcihcdjjdhaaGreatDoorYG24
import Derived.Test.YtfdbcihcdjjdhaaGreatDoorYG22
import Derived.Deep.LoopGhost
import Derived.Test.YtfdbcihcdjjdhaaGreatDoorYK6
import Derived.Test.YtfdbcihcdjjdhaaGreatDoorYK7
namespace Go.Proofs.YtfdbcihcdjjdhaaGreatDoor
open Go.ChangeShapes Go.WideShapes Go.ChangeAt Go.RowKit
set_option linter.unusedVariables false
set_option linter.unusedSimpArgs false
set_option maxHeartbeats 4000000
set_option maxRecDepth 100000
theorem OwnLL.pickN {α:Type} {E0 E:TypeId} {size:Nat} {enc:α→List Value} {B:Nat} {w:World} {A:Option Addr} {n c:Nat} {ls:List (List α)} (h:OwnLL E0 E size enc B w (.slice A n c) ls) {k:Nat} (hk:k<ls.length):∃g D d,A=some ⟨g,0,none⟩∧B≤g∧g<w.heap.size∧w.cell? ⟨g,k,none⟩=some (.slice D ls[k].length d)∧OwnL E size enc B w (.slice D ls[k].length d) ls[k]:=by
 obtain⟨us,h1,h2,h3⟩:=h;have hk':k<us.length:=(by omega);obtain⟨g,rfl,hg1,hg2⟩:=h1.split hk';have q:=h3 k us[k] ls[k] (List.getElem?_eq_getElem hk') (List.getElem?_eq_getElem hk);obtain⟨D,d,e,_,_⟩:=q.form;have z:=h1.slot lenV (by decide) hk' 0 us[k] rfl;rw[Nat.mul_one,Nat.add_zero]at z;rw[e]at z q;exact⟨g,D,d,rfl,hg1,hg2,z,q⟩
def ints (l:List Nat):List Int:=l.map fun(i:Nat)=>(i:Int)
theorem ints_snoc (l:List Nat) (i:Nat):ints l++[(i:Int)]=ints (l++[i]):=by unfold ints;rw[List.map_append];rfl
theorem rep_dis (n : Nat) : List.replicate n (-1 : Int) = disL n (fun _ => -1) := by
 unfold disL;rw[List.map_const',List.length_range]
theorem rep_succ (j:Nat):List.replicate j (-1:Int)++[-1]=List.replicate (j+1) (-1):=List.replicate_succ'.symm
theorem dis_cell {B g n c:Nat} {f:Nat→Int} {w:World} (h:OwnL 3 1 eInt B w (.slice (some ⟨g,0,none⟩) n c) (disL n f)) {i:Nat} (hi:i<n):w.cell? ⟨g,i,none⟩=some (.int .i64 (f i)):=by
 have hl:i<(disL n f).length:=by rw[disL_len];exact hi
 have:=h.slot lenInt (by decide) hl 0 _ rfl;rw[disL_at hl]at this;simpa using this
theorem dis_store {B g n c:Nat} {f:Nat→Int} {w:World} (h:OwnL 3 1 eInt B w (.slice (some ⟨g,0,none⟩) n c) (disL n f)) {i:Nat} (hi:i<n) (v:Int):OwnL 3 1 eInt B (w.setCell ⟨g,i,none⟩ (.int .i64 v)) (.slice (some ⟨g,0,none⟩) n c) (disL n (upd f i v)):=by
 have:=h.store1 lenInt (k:=i) (y:=v) (by rw[disL_len];exact hi) rfl;rwa [←disL_upd]at this
theorem bfs_in {E:Nat→Nat→Prop} {s n:Nat} {f:Nat→Int} {q:List Nat} {p:Nat} (h:Bfs E s n f q p) {i:Nat} (hi:i∈q):0≤f i∧f i≤n:=by
 have h0:=(h.iff i).2 hi;obtain⟨a,ha,e⟩:=List.getElem_of_mem hi;have h1:=h.bd a ha;have h2:=h.len;rw[e]at h1;omega
theorem bfsI_any {B : Nat} (v : Value) (T : List (List Dm)) (near : List (List Int)) (s : Nat) (w : World) (h : OwnLL 22 3 1 eInt B w v near) (hA : Adj T near) (hT : FlipSet T) (hs : s < T.length) : Calls Tryz.prog 169 #[v, .int .i64 s] w (fun e w' => RetOwn 3 1 eInt (disL T.length (dist T s)) w e w' ∧ IsDist (Edge T) s T.length (dist T s)) := by
 obtain⟨A,c,rfl,hc,hm⟩:=h.form;have hsm:=hT.sm;have hnl:=hA.len;obtain⟨n,hn⟩:∃n,n=T.length:=⟨_,rfl⟩;rw[hnl,←hn]at h⊢;rw[←hn]at hs hsm hnl;have HA:=Lib.hid hA;have HFS:=Lib.hid hT;have HNL:=Lib.hid hnl;have HN:=Lib.hid hn;clear hA hT hnl hn hc hm;have own0:=own_mt w (E:=3) (size:=1) (enc:=eInt) w.heap.size rfl w.heap.size (Nat.le_refl _);go_enter Tryz.func169,Tryz.ntmps169
 go_wp2;go_loopw [5,13] (fun s5 s13 wr=>∃(j:Nat) (D:Option Addr) (d:Nat),j≤n∧s13= .int .i64 j∧s5= .slice D j d∧OwnL 3 1 eInt w.heap.size wr (.slice D j d) (List.replicate j (-1))∧Below w.heap.size w wr) (fun _ i _=>n-(intOf i).toNat)
 case atStart=>exact⟨0,_,_,Nat.zero_le _,rfl,rfl,own0,(Below.refl _ _).al _⟩
 case round=>
  obtain⟨j,D,d,hj,rfl,rfl,hown,hbel⟩:=hrel;clear own0;by_cases hlt:j<n
  · have hji : (j : Int) < (n : Int) := by omega
    have HL:Hid ((List.replicate j (-1:Int)).length=j):=Lib.hid List.length_replicate;have H8:Hid (((List.replicate j (-1:Int)).length+1)*8≤140737488355328):=Lib.hid (by rw[HL.out];omega);have HM:Hid ((List.replicate j (-1:Int)).length+1≤maxLen):=Lib.hid (by rw[HL.out];unfold maxLen;omega);go_wp2_with (at_builtin;go_must (refine wpList_app1 (enc:=eInt) rowInt lenInt oneInt hbel hown (-1:Int) H8.out HM.out rfl _ _ rfl rfl rfl ?_);intro v4 w4 own4 hb4 hg4 hd4;rw[rep_succ]at own4;obtain⟨A4,c4,rfl,hc4,hm4⟩:=own4.form)
    have own5:OwnL 3 1 eInt w.heap.size w4 (.slice A4 (j+1) c4) (List.replicate (j+1) (-1)):=by
     have e:(List.replicate (j+1) (-1:Int)).length=j+1:=List.length_replicate;rw[e]at own4;exact own4
    go_roundw
    case rel=>exact⟨j+1,A4,c4,by omega,by go_num,by simp,own5,hb4⟩
    case measure=>simp[intOf];omega
  · have hjn : n = j := by omega
    subst hjn;rw[rep_dis]at hown;obtain⟨gO,rfl,hgO,hgO2⟩:=hown.split (k:=0) (by rw[disL_len];omega);have o0:=dis_store hown hs 0;have c0:=dis_cell hown hs;have hfr:=hown.free;have hsi:(s:Int)<(n:Int):=(by omega);have B1:=hbel.setCell (p:=⟨gO,s,none⟩) hgO (.int .i64 0);have hsz:(wr.setCell ⟨gO,s,none⟩ (.int .i64 0)).heap.size=wr.heap.size:=(by simp);have q0:=(Qu.of_own (own_one (E:=3) (enc:=eInt) (wr.setCell ⟨gO,s,none⟩ (.int .i64 0)) (s:Int) rfl) (by simp)).mono (by rw[hsz];exact hbel.size:w.heap.size≤_);rw[hsz]at q0;have o1:=o0.alloc (.cells #[.int .i64 (s:Int)] 3);have B2:=B1.al (.cells #[.int .i64 (s:Int)] 3);have hne:(Value.slice (some ⟨wr.heap.size,0,none⟩) 1 1).ownBlock≠some gO:=by simp[Value.ownBlock];omega
    have hbf:=Lib.hid (bfs_start (Edge T) hs);have hf0:upd (fun _=> -1) s 0=f0 s:=rfl;rw[hf0]at o1;clear o0 B1 hsz hf0 hown;go_wp2;go_loopg [6,7,9] n (fun gk s6 s7 s9 wr=>∃(dn wt:List Nat) (f:Nat→Int) (z7 z9:Value),s7=z7∧s9=z9∧dn.length+gk=n∧Qu w.heap.size wr s6 (ints wt)∧s6.ownBlock≠some gO∧OwnL 3 1 eInt w.heap.size wr (.slice (some ⟨gO,0,none⟩) n d) (disL n f)∧Hid (Bfs (Edge T) s n f (dn++wt) dn.length)∧Below w.heap.size w wr)
    case atStart=>exact⟨[],[s],f0 s,_,_,rfl,rfl,by simp,q0,hne,o1,hbf,B2⟩
    case round=>
     clear q0 hne o1 hbf B2 c0 hfr hbel;obtain⟨dn,wt,f,z7,z9,rfl,rfl,hgk,hq,hne,hown,Hb,hbel⟩:=hrel;obtain⟨g,off,cq,rfl,hg1,hg2,hqc,hqm⟩:=hq.form;rcases wt with _|⟨o,wt⟩
     · have HD : Hid (dist T s = f ∧ IsDist (Edge T) s n (dist T s)) := Lib.hid (by
        have:=Hb.out;rw[List.append_nil]at this;have h2:=bfs_end this;have h3:dist T s=f:=dist_of (by rw[←HN.out];exact h2);exact⟨h3,by rw[h3];exact h2⟩)
       have e0:(ints []).length=0:=rfl;rw[e0];go_wp2;go_ret;exact⟨⟨some ⟨gO,0,none⟩,d,by rw[disL_len];rfl,by rw[disL_len,HD.out.1];exact hown,hbel⟩,HD.out.2⟩
     · have hlt : o < n := Hb.out.lt o (by simp);have e1:(ints (o::wt)).length=wt.length+1:=(by simp[ints]);have e2:ints (o::wt)=(o:Int)::ints wt:=rfl;rw[e1]at hqc⊢;have hq':Qu w.heap.size wr (.slice (some ⟨g,off,none⟩) (wt.length+1) cq) ((o:Int)::ints wt):=by rw[←e2,←e1];exact hq
       have hc0:=hq'.head;have hko:o<near.length:=by rw[HNL.out];exact hlt
       obtain⟨gA,D1,d1,rfl,_,hgA,cA,oN⟩:=h.pickN hko;obtain⟨N,hN⟩:∃N,N=near[o]:=⟨_,rfl⟩;rw[←hN]at cA oN;have cA2:=(hbel.cell (p:=⟨gA,o,none⟩) hgA).trans cA
       have hNm:N.length≤9223372036854775807:=by
        obtain⟨_,_,e,h1,h2⟩:=oN.form;unfold maxLen at h2;omega
       have hmem:∀x,x∈N↔∃i:Nat,x=i∧Edge T o i:=fun x=>by rw[hN];exact HA.out.mem o hko x
       have HMm:=Lib.hid hmem;have hoi:(o:Int)<(n:Int):=(by omega);have hwl:(0:Int)<((wt.length+1:Nat):Int):=(by omega);have hj1:1≤wt.length+1:=(by omega);have hneg:(some g:Option Nat)≠some gO:=hne;have Hneg:=Lib.hid hneg;clear hN hmem e1 e2 hq hneg cA;go_wp2_with ((with_reducible refine wpList_cut rowInt 1 hj1 hqc hqm rfl rfl _ _ rfl rfl rfl ?_);intro A' c' hsl)
       have hq2:Qu w.heap.size wr (.slice A' wt.length c') (ints wt):=by have:=hq'.tail hsl;simpa using this
       have hne2:(Value.slice A' wt.length c').ownBlock≠some gO:=by
        have:=cut_own hsl;simp only[Nat.add_sub_cancel]at this;rw[this];exact Hneg.out
       clear hsl hq' hne hc0;go_loopw [6,9,37] (fun s6 s9 s37 wr=>∃(t:Nat) (wt2:List Nat) (f:Nat→Int) (z9:Value),s9=z9∧t≤N.length∧s37= .int .i64 t∧Qu w.heap.size wr s6 (ints wt2)∧s6.ownBlock≠some gO∧OwnL 3 1 eInt w.heap.size wr (.slice (some ⟨gO,0,none⟩) n d) (disL n f)∧Hid (Bfs (Edge T) s n f (dn++o::wt2) dn.length∧∀i:Nat,(i:Int)∈N.take t→0≤f i)∧Below w.heap.size w wr) (fun _ _ i _=>N.length-(intOf i).toNat)
       case atStart=>exact⟨0,wt,f,_,rfl,Nat.zero_le _,rfl,hq2,hne2,hown,Lib.hid ⟨Hb.out,fun i hi=>by simp at hi⟩,hbel⟩
       case round=>
        clear hq2 hne2 hown Hb hbel cA2;obtain⟨t,wt2,f,z9,rfl,ht,rfl,hq,hne,hown,Hb,hbel⟩:=hrel;obtain⟨g,off,cq,rfl,hg1,hg2,hqc,hqm⟩:=hq.form;have hql:=Hb.out.1.len;rw[List.length_append,List.length_cons]at hql;by_cases hlt2:t<N.length
        · have oN2:=oN.below hbel;obtain⟨b,off2,rfl,hb,c1⟩:=(oN2.rd lenInt (by decide)).atInt hlt2;obtain⟨i,hi,hE⟩:=(HMm.out N[t]).1 (List.getElem_mem hlt2);rw[hi]at c1;have hin:i<n:=by rw[HN.out];exact link_lt HFS.out hE
          have htk:N.take (t+1)=N.take t++[(i:Int)]:=(by rw[List.take_succ_eq_append_getElem hlt2,hi]);have HTK:=Lib.hid htk;have HE:=Lib.hid hE;have ci:=dis_cell hown hin;have co:=dis_cell hown hlt;have hfr:=hown.free;have hii:(i:Int)<(n:Int):=(by omega);have hti:(t:Int)<(N.length:Int):=(by omega);have hvb:=bfs_in Hb.out.1 (i:=o) (by simp);obtain⟨vo,hvo⟩:∃v,v=f o:=⟨_,rfl⟩;obtain⟨vi,hvi⟩:∃v,v=f i:=⟨_,rfl⟩;rw[←hvo]at co hvb;rw[←hvi]at ci;have HVO:=Lib.hid hvo;have HVI:=Lib.hid hvi;clear hi hE htk hvo hvi oN2;have hvb2:vo≤300:=(by omega);by_cases hfi:vi<0
          · have o2:=dis_store hown hin (vo+1);have B2:=hbel.setCell (p:=⟨gO,i,none⟩) hgO (.int .i64 (vo+1));have gX:=gr_set (World.grownBy.refl wr (some gO)) i (.int .i64 (vo+1));have hq2:=hq.kept gX hne;have hsz:wr.heap.size=(wr.setCell ⟨gO,i,none⟩ (.int .i64 (vo+1))).heap.size:=(by simp);have hil:(ints wt2).length=wt2.length:=(by simp[ints]);have H8:Hid (((ints wt2).length+1)*8≤140737488355328):=Lib.hid (by rw[hil];omega);have HM:Hid ((ints wt2).length+1≤maxLen):=Lib.hid (by rw[hil];unfold maxLen;omega)
            have HG : Hid (Bfs (Edge T) s n (upd f i (vo + 1)) (dn ++ o :: (wt2 ++ [i])) dn.length ∧ ∀ k : Nat, (k : Int) ∈ N.take (t + 1) → 0 ≤ upd f i (vo + 1) k) := Lib.hid (by
             have hp:dn.length<(dn++o::wt2).length:=(by simp);have hqp:(dn++o::wt2)[dn.length]=o:=(by simp);have hb0:=bfs_add Hb.out.1 hp hin (by rw[hqp];exact HE.out) (by rw[←HVI.out];exact hfi);rw[hqp,←HVO.out,List.append_assoc,List.cons_append]at hb0;refine⟨hb0,fun k hk=> ?_⟩;by_cases e:k=i
             · subst e;rw[upd_at];omega
             · rw[upd_ne e];rw[HTK.out,List.mem_append]at hk;rcases hk with hk|hk
               · exact Hb.out.2 k hk
               · simp at hk;omega)
            have HSZ:=Lib.hid hsz;clear hil hsz;go_wp2_with (at_builtin;go_must (refine wpList_appQ rowInt B2.size hq2 (i:Int) HSZ.out H8.out HM.out rfl _ _ rfl rfl rfl ?_);intro g4 c4 off4 w4 hor own4 hg4)
            rw[ints_snoc]at own4
            have hne4:(Value.slice (some ⟨g4,off4,none⟩) ((ints wt2).length+1) c4).ownBlock≠some gO:=by
             rcases hor with q|q
             · show some g4≠some gO;rw[q];exact hne
             · have:=HSZ.out;have h3:=(hown.split (k:=i) (by rw[disL_len];exact hin));obtain⟨g',e',_,h5⟩:=h3;injection e' with e';injection e' with e';show some g4≠some gO;intro e;injection e with e;omega
            have o4:OwnL 3 1 eInt w.heap.size w4 (.slice (some ⟨gO,0,none⟩) n d) (disL n (upd f i (vo+1))):=World.ownsRow.kept (o2.alloc _) hg4 (.inr (fun e=>hne e.symm))
            have B4 := (B2.al (.cells #[.int .i64 (i : Int)] 3)).grown hg4 (B2.al (.cells #[.int .i64 (i : Int)] 3)).size (fun k hk => by
             have h2:(some g:Option Nat)=some k:=hk;injection h2 with h2;omega)
            go_roundw
            case rel=>exact⟨t+1,wt2++[i],upd f i (vo+1),_,rfl,by omega,by go_num,own4,hne4,o4,HG,B4⟩
            case measure=>simp[intOf];omega
          · have HG : Hid (Bfs (Edge T) s n f (dn ++ o :: wt2) dn.length ∧ ∀ k : Nat, (k : Int) ∈ N.take (t + 1) → 0 ≤ f k) := Lib.hid ⟨Hb.out.1, fun k hk => by
             rw[HTK.out,List.mem_append]at hk;rcases hk with hk|hk
             · exact Hb.out.2 k hk
             · simp at hk;obtain rfl:k=i:=by omega
               rw[←HVI.out];omega⟩
            go_wp2;go_roundw
            case rel=>exact⟨t+1,wt2,f,_,rfl,by omega,by go_num,hq,hne,hown,HG,hbel⟩
            case measure=>simp[intOf];omega
        · obtain rfl : t = N.length := by omega
          have HG : Hid (Bfs (Edge T) s n f ((dn ++ [o]) ++ wt2) (dn ++ [o]).length) := Lib.hid (by
           have hp:dn.length<(dn++o::wt2).length:=(by simp);have hqp:(dn++o::wt2)[dn.length]=o:=by simp
           have hb0 := bfs_next Hb.out.1 hp (fun i hi => by
            rw[hqp]at hi;have:=(HMm.out (i:Int)).2 ⟨i,rfl,hi⟩;exact Hb.out.2 i (by rw[List.take_length];exact this))
           rw[List.append_assoc,List.length_append];exact hb0)
          go_wp2;go_roundg (gk-1)
          case measure=>omega
          case rel=>exact⟨dn++[o],wt2,f,_,_,rfl,rfl,by simp;omega,hq,hne,hown,HG,hbel⟩
theorem own_gr {α:Type} {E:TypeId} {size:Nat} {enc:α→List Value} {B:Nat} {w w':World} {v:Value} {l:List α} {row:Option Nat} (h:OwnL E size enc B w v l) (hg:w.grownBy w' row) (hne:v.ownBlock≠row):OwnL E size enc B w' v l:=World.ownsRow.kept h hg (.inr hne)
theorem ints_at {q:List Nat} {p:Nat} (hp:p<q.length):(ints q)[p]'(by simp[ints];exact hp)=(q[p]:Int):=by simp[ints]
theorem ints_len (q:List Nat):(ints q).length=q.length:=by simp[ints]
theorem int_cell {B g n c:Nat} {l:List Int} {w:World} (h:OwnL 3 1 eInt B w (.slice (some ⟨g,0,none⟩) n c) l) {i:Nat} (hi:i<l.length):w.cell? ⟨g,i,none⟩=some (.int .i64 l[i]):=by
 have:=h.slot lenInt (by decide) hi 0 _ rfl;simpa using this
theorem bfsS_any {B : Nat} (v : Value) (T : List (List Dm)) (near : List (List Int)) (s : Nat) (w : World) (h : OwnLL 22 3 1 eInt B w v near) (hA : Adj T near) (hT : FlipSet T) (hs : s < T.length) : Calls Tryz.prog 162 #[v, .int .i64 s] w (fun e w' => RetOwn 3 1 eInt (disL T.length (dist T s)) w e w' ∧ IsDist (Edge T) s T.length (dist T s)) := by
 obtain⟨A,c,rfl,hc,hm⟩:=h.form;have hsm:=hT.sm;have hnl:=hA.len;obtain⟨n,hn⟩:∃n,n=T.length:=⟨_,rfl⟩;rw[hnl,←hn]at h⊢;rw[←hn]at hs hsm hnl;have HA:=Lib.hid hA;have HFS:=Lib.hid hT;have HNL:=Lib.hid hnl;have HN:=Lib.hid hn;clear hA hT hnl hn hc hm;have h8n:8*n≤281474976710656:=(by omega);have hmn:n≤maxLen:=by unfold maxLen;omega
 go_enter Tryz.func162,Tryz.ntmps162
 go_wp2_with (at_make;go_must (refine wpList_mk (enc:=eInt) (z0:=(0:Int)) rowInt rfl (Below.refl _ w) n h8n hmn rfl _ _ rfl rfl rfl ?_);intro w1 hown1 hb1 hg1)
 obtain⟨gO,hgO'⟩:∃g,g=w.heap.size:=⟨_,rfl⟩;have hgO:w.heap.size≤gO:=(by omega);have hown1:OwnL 3 1 eInt w.heap.size w1 (.slice (some ⟨gO,0,none⟩) n n) (List.replicate n 0):=by rw[hgO'];exact hown1
 rw[←hgO'];have HGO:=Lib.hid hgO';clear hgO' hg1;go_loopw [6] (fun s6 wr=>∃(k:Nat) (m:List Int),k≤n∧s6= .int .i64 k∧UpTo k m (List.replicate n (-1:Int))∧OwnL 3 1 eInt w.heap.size wr (.slice (some ⟨gO,0,none⟩) n n) m∧Below w.heap.size w wr) (fun i _=>n-(intOf i).toNat)
 case atStart=>exact⟨0,List.replicate n (0:Int),Nat.zero_le _,rfl,UpTo.start _ _ (by simp),hown1,hb1⟩
 case round=>
  obtain⟨k,m,hk,rfl,hu,hown,hbel⟩:=hrel;clear hown1 hb1;have hml:m.length=n:=(by rw[hu.1,List.length_replicate]);by_cases hlt:k<n
  · have hki : (k : Int) < (n : Int) := by omega
    obtain⟨u0,s0⟩:=hown.slot1 lenInt (k:=k) (by omega);have hsf:=hown.free;have hst:=hu.step (by rw[List.length_replicate];exact hlt);rw[List.getElem_replicate]at hst;have own2:=hown.store1 lenInt (k:=k) (y:=(-1:Int)) (by omega) rfl;have B2:=hbel.setCell (p:=⟨gO,k,none⟩) hgO (.int .i64 (-1));go_wp2;go_roundw
    case rel=>exact⟨k+1,m.set k (-1),by omega,by go_num,hst,own2,B2⟩
    case measure=>simp[intOf];omega
  · have hkn : n = k := by omega
    subst hkn;have hmr:=hu.done (by rw[List.length_replicate];exact Nat.le_refl _);rw[hmr,rep_dis]at hown;have o0:=dis_store hown hs 0;have c0:=dis_cell hown hs;have hfr:=hown.free;have hsi:(s:Int)<(n:Int):=by omega
    have hgO2:gO<wr.heap.size:=by
     obtain⟨g',e',_,h5⟩:=hown.split (k:=0) (by rw[disL_len];omega);injection e' with e';injection e' with e';omega
    have B1:=hbel.setCell (p:=⟨gO,s,none⟩) hgO (.int .i64 0);have hsz:(wr.setCell ⟨gO,s,none⟩ (.int .i64 0)).heap.size=wr.heap.size:=(by simp);have q0:=(own_one (E:=3) (enc:=eInt) (wr.setCell ⟨gO,s,none⟩ (.int .i64 0)) (s:Int) rfl).mono (by rw[hsz];exact hbel.size:w.heap.size≤_);rw[hsz]at q0;have o1:=o0.alloc (.cells #[.int .i64 (s:Int)] 3);have B2:=B1.al (.cells #[.int .i64 (s:Int)] 3);have hne:(Value.slice (some ⟨wr.heap.size,0,none⟩) 1 1).ownBlock≠some gO:=by simp[Value.ownBlock];omega
    have hbf:=Lib.hid (bfs_start (Edge T) hs);have hf0:upd (fun _=> -1) s 0=f0 s:=rfl;rw[hf0]at o1;clear o0 B1 hsz hf0 hown hmr hu hml;go_wp2;go_loopw [7,8,9,10] (fun s7 s8 s9 s10 wr=>∃(q:List Nat) (p:Nat) (f:Nat→Int) (D:Option Addr) (d:Nat) (z9 z10:Value),s9=z9∧s10=z10∧p≤q.length∧s8= .int .i64 p∧s7= .slice D q.length d∧OwnL 3 1 eInt w.heap.size wr (.slice D q.length d) (ints q)∧(Value.slice D q.length d).ownBlock≠some gO∧OwnL 3 1 eInt w.heap.size wr (.slice (some ⟨gO,0,none⟩) n n) (disL n f)∧Hid (Bfs (Edge T) s n f q p)∧Below w.heap.size w wr) (fun _ i _ _ _=>n-(intOf i).toNat)
    case atStart=>exact⟨[s],0,f0 s,_,_,_,_,rfl,rfl,by simp,rfl,rfl,q0,hne,o1,hbf,B2⟩
    case round=>
     clear q0 hne o1 hbf B2 c0 hfr hbel;obtain⟨q,p,f,D,d,z9,z10,rfl,rfl,hp,rfl,rfl,hq,hne,hown,Hb,hbel⟩:=hrel;have hqn:=Hb.out.len;by_cases hlp:p<q.length
     · obtain⟨o,ho⟩:∃o,o=q[p]:=⟨_,rfl⟩;have hlt:o<n:=by rw[ho];exact Hb.out.lt _ (List.getElem_mem hlp)
       obtain⟨gQ,rfl,hgQ,hgQ2⟩:=hq.split (k:=0) (by rw[ints_len];omega);have cq:=int_cell hq (i:=p) (by rw[ints_len];exact hlp);rw[ints_at hlp,←ho]at cq;have hko:o<near.length:=by rw[HNL.out];exact hlt
       obtain⟨gA,D1,d1,rfl,_,hgA,cA,oN⟩:=h.pickN hko;obtain⟨N,hN⟩:∃N,N=near[o]:=⟨_,rfl⟩;rw[←hN]at cA oN;have cA2:=(hbel.cell (p:=⟨gA,o,none⟩) hgA).trans cA
       have hNm:N.length≤9223372036854775807:=by
        obtain⟨_,_,e,h1,h2⟩:=oN.form;unfold maxLen at h2;omega
       have hmem:∀x,x∈N↔∃i:Nat,x=i∧Edge T o i:=fun x=>by rw[hN];exact HA.out.mem o hko x
       have HMm:=Lib.hid hmem;have HO:=Lib.hid ho;have hoi:(o:Int)<(n:Int):=(by omega);have hpi:(p:Int)<(q.length:Int):=(by omega);have hneg:(some gQ:Option Nat)≠some gO:=hne;clear hN hmem cA ho;go_wp2;go_loopw [7,10] (fun s7 s10 wr=>∃(t:Nat) (q2:List Nat) (f:Nat→Int) (D:Option Addr) (d:Nat),t≤N.length∧s10= .int .i64 t∧s7= .slice D q2.length d∧OwnL 3 1 eInt w.heap.size wr (.slice D q2.length d) (ints q2)∧(Value.slice D q2.length d).ownBlock≠some gO∧OwnL 3 1 eInt w.heap.size wr (.slice (some ⟨gO,0,none⟩) n n) (disL n f)∧Hid (Bfs (Edge T) s n f q2 p∧(∃h:p<q2.length,q2[p]=o)∧∀i:Nat,(i:Int)∈N.take t→0≤f i)∧Below w.heap.size w wr) (fun _ i _=>N.length-(intOf i).toNat)
       case atStart=>exact⟨0,q,f,_,_,Nat.zero_le _,rfl,rfl,hq,hne,hown,Lib.hid ⟨Hb.out,⟨hlp,HO.out.symm⟩,fun i hi=>by simp at hi⟩,hbel⟩
       case round=>
        clear hq hne hown Hb hbel cA2 cq hneg hgQ hgQ2;obtain⟨t,q2,f,D,d,ht,rfl,rfl,hq,hne,hown,Hb,hbel⟩:=hrel;obtain⟨hlq,hqo⟩:=Hb.out.2.1;obtain⟨gQ,rfl,hgQ,hgQ2⟩:=hq.split (k:=0) (by rw[ints_len];omega);have hql:=Hb.out.1.len;by_cases hlt2:t<N.length
        · obtain ⟨b, off2, rfl, hb, c1w⟩ := (oN.rd lenInt (by decide)).atInt hlt2;have hbg:b≠gO:=(by omega);have c1:=(hbel.cell (p:=⟨b,off2+t,none⟩) hb).trans c1w;obtain⟨i,hi,hE⟩:=(HMm.out N[t]).1 (List.getElem_mem hlt2);rw[hi]at c1 c1w;have hin:i<n:=by rw[HN.out];exact link_lt HFS.out hE
          have htk:N.take (t+1)=N.take t++[(i:Int)]:=(by rw[List.take_succ_eq_append_getElem hlt2,hi]);have HTK:=Lib.hid htk;have HE:=Lib.hid hE;have ci:=dis_cell hown hin;have co:=dis_cell hown hlt;have cq:=int_cell hq (i:=p) (by rw[ints_len];exact hlq);rw[ints_at hlq,hqo]at cq;have hfr:=hown.free;have hii:(i:Int)<(n:Int):=(by omega);have hti:(t:Int)<(N.length:Int):=(by omega);have hpq:(p:Int)<(q2.length:Int):=(by omega);have hvb:=bfs_in Hb.out.1 (i:=o) (by rw[←hqo];exact List.getElem_mem hlq);obtain⟨vo,hvo⟩:∃v,v=f o:=⟨_,rfl⟩;obtain⟨vi,hvi⟩:∃v,v=f i:=⟨_,rfl⟩;rw[←hvo]at co hvb;rw[←hvi]at ci;have HVO:=Lib.hid hvo;have HVI:=Lib.hid hvi;have HQO:=Lib.hid hqo;clear hi hE htk hvo hvi hqo;have hvb2:vo≤300:=(by omega);by_cases hfi:vi<0
          · obtain⟨W,hW⟩:∃W,W=wr:=⟨_,rfl⟩;rw[←hW]at hq hown hbel ci co cq c1 hfr hgQ2⊢;clear hW;have Bw:Below W.heap.size W W.drew:=(Below.refl _ _).drew;have hz:W.heap.size≤W.drew.heap.size:=by simp
            have hgO3:gO<W.heap.size:=by
             obtain⟨g',e',_,h5⟩:=hown.split (k:=0) (by rw[disL_len];omega);injection e' with e';injection e' with e';omega
            go_wp2_with fail
            go_still_tail 13,(by kernel_rfl)
            have hown':=hown.below Bw;have hq':=hq.below Bw;have B':=hbel.tr Bw;have o2:=dis_store hown' hin (vo+1);have B2:=B'.setCell (p:=⟨gO,i,none⟩) hgO (.int .i64 (vo+1));have gX:=gr_set (World.grownBy.refl W.drew (some gO)) i (.int .i64 (vo+1));have hq2:=own_gr hq' gX hne;have c1s:=(B2.cell (p:=⟨b,off2+t,none⟩) hb).trans c1w;have hsz:W.heap.size=(W.drew.setCell ⟨gO,i,none⟩ (.int .i64 (vo+1))).heap.size:=(by simp);have H8:Hid (((ints q2).length+1)*8≤140737488355328):=Lib.hid (by rw[ints_len];omega);have HM:Hid ((ints q2).length+1≤maxLen):=Lib.hid (by rw[ints_len];unfold maxLen;omega)
            have HG : Hid (Bfs (Edge T) s n (upd f i (vo + 1)) (q2 ++ [i]) p ∧ (∃ h : p < (q2 ++ [i]).length, (q2 ++ [i])[p] = o) ∧ ∀ k : Nat, (k : Int) ∈ N.take (t + 1) → 0 ≤ upd f i (vo + 1) k) := Lib.hid (by
             have hb0:=bfs_add Hb.out.1 hlq hin (by rw[HQO.out];exact HE.out) (by rw[←HVI.out];exact hfi);rw[HQO.out,←HVO.out]at hb0;refine⟨hb0,⟨by simp;omega,by rw[List.getElem_append_left hlq];exact HQO.out⟩,fun k hk=> ?_⟩;by_cases e:k=i
             · subst e;rw[upd_at];omega
             · rw[upd_ne e];rw[HTK.out,List.mem_append]at hk;rcases hk with hk|hk
               · exact Hb.out.2.2 k hk
               · simp at hk;omega)
            have HSZ:=Lib.hid hsz;have HL:=Lib.hid (ints_len q2);clear hsz hown' hq' B' hq hown hbel;go_wp2_with (at_builtin;go_must (refine wpList_app1b (enc:=eInt) rowInt lenInt oneInt B2 hq2 (i:Int) H8.out HM.out HSZ.out rfl _ _ rfl rfl rfl ?_);intro v4 w4 own4 hb4 hg4 hd4;rw[ints_snoc]at own4;obtain⟨A4,c4,rfl,hc4,hm4⟩:=own4.form)
            have hql2:(ints (q2++[i])).length=(q2++[i]).length:=ints_len _
            have hne4:(Value.slice A4 (q2++[i]).length c4).ownBlock≠some gO:=by
             rw[hql2]at hd4;rcases hd4 with q|q
             · rw[q];exact hne
             · rw[q,←HSZ.out];intro e;injection e with e;omega
            have own5:OwnL 3 1 eInt w.heap.size w4 (.slice A4 (q2++[i]).length c4) (ints (q2++[i])):=by rw[←hql2];exact own4
            have o4:OwnL 3 1 eInt w.heap.size w4 (.slice (some ⟨gO,0,none⟩) n n) (disL n (upd f i (vo+1))):=own_gr (o2.alloc _) hg4 (fun e=>hne e.symm);go_roundw
            case rel=>exact⟨t+1,q2++[i],upd f i (vo+1),A4,c4,by omega,by go_num,by rw[hql2],own5,hne4,o4,HG,hb4⟩
            case measure=>simp[intOf];omega
          · have HG : Hid (Bfs (Edge T) s n f q2 p ∧ (∃ h : p < q2.length, q2[p] = o) ∧ ∀ k : Nat, (k : Int) ∈ N.take (t + 1) → 0 ≤ f k) := Lib.hid ⟨Hb.out.1, Hb.out.2.1, fun k hk => by
             rw[HTK.out,List.mem_append]at hk;rcases hk with hk|hk
             · exact Hb.out.2.2 k hk
             · simp at hk;obtain rfl:k=i:=by omega
               rw[←HVI.out];omega⟩
            go_wp2;go_roundw
            case rel=>exact⟨t+1,q2,f,_,_,by omega,by go_num,rfl,hq,hne,hown,HG,hbel⟩
            case measure=>simp[intOf];omega
        · obtain rfl : t = N.length := by omega
          have HG : Hid (Bfs (Edge T) s n f q2 (p + 1)) := Lib.hid (bfs_next Hb.out.1 hlq (fun i hi => by
           rw[hqo]at hi;have:=(HMm.out (i:Int)).2 ⟨i,rfl,hi⟩;exact Hb.out.2.2 i (by rw[List.take_length];exact this)))
          go_wp2;go_roundw
          case rel=>exact⟨q2,p+1,f,_,_,_,_,rfl,rfl,by omega,by go_num,rfl,hq,hne,hown,HG,hbel⟩
          case measure=>simp[intOf];omega
     · obtain rfl : p = q.length := by omega
       have HD : Hid (dist T s = f ∧ IsDist (Edge T) s n (dist T s)) := Lib.hid (by
        have h2:=bfs_end Hb.out;have h3:dist T s=f:=dist_of (by rw[←HN.out];exact h2);exact⟨h3,by rw[h3];exact h2⟩)
       go_wp2;go_ret;exact⟨⟨some ⟨gO,0,none⟩,n,by rw[disL_len];rfl,by rw[disL_len,HD.out.1];exact hown,hbel⟩,HD.out.2⟩
def flipsTo (l:List Dm) (k:Nat):List Cl:=((List.range k).map ixCell).filter fun c=>decide (kindOf l c≠0)
theorem flipsTo_yes {l:List Dm} {k:Nat} (h:kindOf l (ixCell k)≠0):flipsTo l k++[ixCell k]=flipsTo l (k+1):=by
 unfold flipsTo;rw[List.range_succ,List.map_append,List.filter_append,List.map_cons,List.map_nil,List.filter_cons_of_pos (by simpa using h)];rfl
theorem flipsTo_no {l:List Dm} {k:Nat} (h:kindOf l (ixCell k)=0):flipsTo l (k+1)=flipsTo l k:=by
 unfold flipsTo;rw[List.range_succ,List.map_append,List.filter_append,List.map_cons,List.map_nil,List.filter_cons_of_neg (by simpa using h)];simp
theorem flipsTo_len (l:List Dm) (k:Nat):(flipsTo l k).length≤k:=by
 unfold flipsTo;refine Nat.le_trans (List.length_filter_le _ _) ?_;simp
theorem flipsI_any (v:Value) (l:List Dm) (w:World) (h:Rd 3 RDom w v l):Calls Tryz.prog 171 #[v] w (RetOwn 77 2 ePair (flips l) w):=by
 obtain⟨A,c,rfl,hc,hm⟩:=h.form;have own0:=own_mt w (E:=77) (size:=2) (enc:=ePair) w.heap.size rfl w.heap.size (Nat.le_refl _);go_enter Tryz.func171,Tryz.ntmps171
 go_wp2;go_loopw [3,4,6] (fun s3 s4 s6 wr=>∃(k:Nat) (D:Option Addr) (d:Nat) (z:Value),s4=z∧k≤64∧s6= .int .i64 k∧s3= .slice D (flipsTo l k).length d∧OwnL 77 2 ePair w.heap.size wr (.slice D (flipsTo l k).length d) (flipsTo l k)∧Below w.heap.size w wr) (fun _ _ i _=>64-(intOf i).toNat)
 case atStart=>exact⟨0,_,_,_,rfl,by omega,rfl,rfl,own0,(Below.refl _ _).al _⟩
 case round=>
  obtain⟨k,D,d,z,rfl,hk,rfl,rfl,hown,hbel⟩:=hrel;clear own0;by_cases hlt:k<64
  · obtain⟨x,y,hxy⟩:∃x y,ixCell k=(x,y):=⟨_,_,rfl⟩
    have cA : ∀ W : World, Calls Tryz.prog 238 #[.int .i64 k] W (Ret (.agg #[.int .i64 x, .int .i64 y]) W) := fun W => by
     have:=cellAtI_any k W (by omega);rw[hxy]at this;exact this
    have HC:=Lib.hid cA;have HXY:=Lib.hid hxy;clear cA hxy;have hki:(k:Int)<64:=(by omega);go_wp2_with fail
    refine(HC.out _).mono ?_;rintro e w1 ⟨rfl,hb1⟩;have B1:=hbel.tr hb1;go_wp2_with fail
    refine(canFlipI_any _ l x y _ (h.below RE.stays B1)).mono ?_;rintro e w2 ⟨rfl,hb2⟩;have B2:=B1.tr hb2;have own2:=(hown.below hb1).below hb2;by_cases hk0:kindOf l (x,y)=0
    · have hd : decide (kindOf l (x, y) ≠ 0) = false := by simpa using hk0
      rw[hd];have HN:Hid (flipsTo l (k+1)=flipsTo l k):=Lib.hid (flipsTo_no (by rw[HXY.out];exact hk0));clear hd hk0;go_wp2;go_roundw
      case rel=>exact⟨k+1,D,d,_,rfl,by omega,by go_num,by rw[HN.out],by rw[HN.out];exact own2,B2⟩
      case measure=>simp[intOf];omega
    · have hd : decide (kindOf l (x, y) ≠ 0) = true := by simpa using hk0
      rw[hd];have HY:Hid (flipsTo l k++[(x,y)]=flipsTo l (k+1)):=Lib.hid (by have:=flipsTo_yes (l:=l) (k:=k) (by rw[HXY.out];exact hk0);rw[HXY.out]at this;exact this);have hlen:=flipsTo_len l k;have H8:Hid (((flipsTo l k).length+1)*16≤140737488355328):=Lib.hid (by omega);have HM:Hid ((flipsTo l k).length+1≤maxLen):=Lib.hid (by unfold maxLen;omega);clear hd hk0 hlen;go_wp2_with fail
      refine(HC.out _).mono ?_;rintro e w3 ⟨rfl,hb3⟩;have B3:=B2.tr hb3;have own3:=own2.below hb3;go_wp2_with (at_builtin;go_must (refine wpList_app1 (enc:=ePair) rowCell lenCell oneCell B3 own3 ((x,y):Cl) H8.out HM.out rfl _ _ rfl rfl rfl ?_);intro v4 w4 own4 hb4 hg4 hd4;rw[HY.out]at own4;obtain⟨A4,c4,rfl,hc4,hm4⟩:=own4.form)
      go_roundw
      case rel=>exact⟨k+1,A4,c4,_,rfl,by omega,by go_num,rfl,own4,hb4⟩
      case measure=>simp[intOf];omega
  · obtain rfl : k = 64 := by omega
    go_wp2;go_ret;exact⟨_,_,rfl,hown,hbel⟩
theorem flipsS_any (v:Value) (l:List Dm) (w:World) (h:Rd 3 RDom w v l):Calls Tryz.prog 43 #[v] w (RetOwn 77 2 ePair (flips l) w):=by
 obtain⟨A,c,rfl,hc,hm⟩:=h.form;have own0:=own_mt w (E:=77) (size:=2) (enc:=ePair) w.heap.size rfl w.heap.size (Nat.le_refl _);go_enter Tryz.func43,Tryz.ntmps43
 go_wp2;go_loopw [3,4,5,6] (fun s3 s4 s5 s6 wr=>∃(k:Nat) (D:Option Addr) (d:Nat) (z5 z6:Value),s5=z5∧s6=z6∧k≤64∧s4= .int .i64 k∧s3= .slice D (flipsTo l k).length d∧OwnL 77 2 ePair w.heap.size wr (.slice D (flipsTo l k).length d) (flipsTo l k)∧Below w.heap.size w wr) (fun _ i _ _ _=>64-(intOf i).toNat)
 case atStart=>exact⟨0,_,_,_,_,rfl,rfl,by omega,rfl,rfl,own0,(Below.refl _ _).al _⟩
 case round=>
  obtain⟨k,D,d,z5,z6,rfl,rfl,hk,rfl,rfl,hown,hbel⟩:=hrel;clear own0;by_cases hlt:k<64
  · obtain⟨x,y,hxy⟩:∃x y,ixCell k=(x,y):=⟨_,_,rfl⟩
    have cA : ∀ W : World, Calls Tryz.prog 110 #[.int .i64 k] W (Ret (.tuple #[.agg #[.int .i64 x, .int .i64 y], .bool true]) W) := fun W => by
     have:=cellAtS_yes k W hlt;unfold ixCell at hxy;injection hxy with e1 e2;rw[e1,e2]at this;exact this
    have HC:=Lib.hid cA;have HXY:=Lib.hid hxy;clear cA hxy;have hki:(k:Int)<64:=(by omega);go_wp2_with fail
    refine(HC.out _).mono ?_;rintro e w1 ⟨rfl,hb1⟩;have B1:=(hbel.tr hb1).al (.cells #[.int .i64 x,.int .i64 y] 77);have own1:=(hown.below hb1).alloc (.cells #[.int .i64 x,.int .i64 y] 77);have b1:=Blk.new_ w1 77 #[.int .i64 x,.int .i64 y];obtain⟨n,hn⟩:∃n,n=kindOf l (x,y):=⟨_,rfl⟩;have cK:∀(W:World),Rd 3 RDom W (.slice A l.length c) l→Calls Tryz.prog 111 #[.slice A l.length c,.agg #[.int .i64 x,.int .i64 y]] W (Ret (.int .i64 (n:Nat)) W):=fun W hW=>by rw[hn];exact kindS_any _ l x y W hW
    have HK:=Lib.hid cK;have HN:=Lib.hid hn;clear cK hn;go_wp2_with fail
    refine(HK.out _ (h.below RE.stays B1)).mono ?_;rintro e w2 ⟨rfl,hb2⟩;have B2:=B1.tr hb2;have own2:=own1.below hb2;have b2:=b1.bl hb2;by_cases hk0:n=0
    · subst hk0;have HNo:Hid (flipsTo l (k+1)=flipsTo l k):=Lib.hid (flipsTo_no (by rw[HXY.out];exact HN.out.symm));go_wp2;go_roundw
      case rel=>exact⟨k+1,D,d,_,_,rfl,rfl,by omega,by go_num,by rw[HNo.out],by rw[HNo.out];exact own2,B2⟩
      case measure=>simp[intOf];omega
    · have hn0 : (0 : Int) < (n : Int) := by omega
      have HY:Hid (flipsTo l k++[(x,y)]=flipsTo l (k+1)):=Lib.hid (by have:=flipsTo_yes (l:=l) (k:=k) (by rw[HXY.out,←HN.out];exact hk0);rw[HXY.out]at this;exact this);have hlen:=flipsTo_len l k;have H8:Hid (((flipsTo l k).length+1)*16≤140737488355328):=Lib.hid (by omega);have HM:Hid ((flipsTo l k).length+1≤maxLen):=Lib.hid (by unfold maxLen;omega);clear hk0 hlen;obtain⟨q_0,q_1⟩:=b2.n2;go_wp2_with (at_builtin;go_must (refine wpList_app1 (enc:=ePair) rowCell lenCell oneCell B2 own2 ((x,y):Cl) H8.out HM.out rfl _ _ rfl rfl rfl ?_);intro v4 w4 own4 hb4 hg4 hd4;rw[HY.out]at own4;obtain⟨A4,c4,rfl,hc4,hm4⟩:=own4.form)
      go_roundw
      case rel=>exact⟨k+1,A4,c4,_,_,rfl,rfl,by omega,by go_num,rfl,own4,hb4⟩
      case measure=>simp[intOf];omega
  · obtain rfl : k = 64 := by omega
    go_wp2;go_ret;exact⟨_,_,rfl,hown,hbel⟩
theorem putI_le {n x:Int} (h:n≤x) (r:List Int):putI n (x::r)=n::x::r:=if_pos h
theorem putI_gt {n x:Int} (h:¬n≤x) (r:List Int):putI n (x::r)=x::putI n r:=if_neg h
theorem put_drop {n x:Int} {l:List Int} {k:Nat} (hk:k<l.length) (hx:l[k]=x):l.drop k=x::l.drop (k+1):=by rw[←hx];exact List.drop_eq_getElem_cons hk
theorem putI_any (v:Value) (l:List Int) (n:Int) (w:World) (h:Rd 1 RInt w v l) (hl:l.length≤1000):Calls Tryz.prog 237 #[v,.int .i64 n] w (RetOwn 3 1 eInt (putI n l) w):=by
 obtain⟨A,c,rfl,hc,hm⟩:=h.form;have own0:=own_mt w (E:=3) (size:=1) (enc:=eInt) w.heap.size rfl w.heap.size (Nat.le_refl _);go_enter Tryz.func237,Tryz.ntmps237
 go_wp2;go_loopw [5,6,8,12] (fun s5 s6 s8 s12 wr=>∃(k:Nat) (dn:Bool) (out:List Int) (D:Option Addr) (d:Nat) (z:Value),s8=z∧k≤l.length∧s12= .int .i64 k∧s6= .bool dn∧s5= .slice D out.length d∧(out.length=k∨(dn=true∧out.length≤k+1))∧OwnL 3 1 eInt w.heap.size wr (.slice D out.length d) out∧Hid ((if dn=true then out++l.drop k else out++putI n (l.drop k))=putI n l)∧Below w.heap.size w wr) (fun _ _ _ i _=>l.length-(intOf i).toNat)
 case atStart=>exact⟨0,false,[],_,_,_,rfl,Nat.zero_le _,rfl,rfl,rfl,.inl rfl,own0,Lib.hid (by simp),(Below.refl _ _).al _⟩
 case round=>
  obtain⟨k,dn,out,D,d,z,rfl,hk,rfl,rfl,rfl,hol,hown,Hg,hbel⟩:=hrel;clear own0;have hol2:out.length≤k+1:=by rcases hol with q|⟨_,q⟩<;>omega
  have hol3 : dn = false → out.length = k := fun e => by
   rcases hol with q|⟨q,_⟩
   · exact q
   · rw[e]at q;cases q
  have Hol:=Lib.hid hol3;clear hol hol3;have H8:Hid ((out.length+1)*8≤140737488355328):=Lib.hid (by omega);have HM:Hid (out.length+1≤maxLen):=Lib.hid (by unfold maxLen;omega);by_cases hlt:k<l.length
  · obtain⟨b,off,rfl,hb,c1⟩:=(h.below RE.stays hbel).atInt hlt;obtain⟨x,hx⟩:∃x,x=l[k]:=⟨_,rfl⟩;rw[←hx]at c1;have hdr:=put_drop (n:=n) hlt hx.symm;have HD:=Lib.hid hdr;clear hx hdr;have hki:(k:Int)<(l.length:Int):=(by omega);cases dn
    · by_cases hnx:n≤x
      · have HG : Hid ((out ++ [n]) ++ [x] ++ l.drop (k + 1) = putI n l) := Lib.hid (by
         have:=Hg.out;rw[if_neg (by decide),HD.out]at this;rw[putI_le hnx]at this;rw[←this];simp)
        have H8b:Hid (((out++[n]).length+1)*8≤140737488355328):=Lib.hid (by rw[List.length_append];simp;omega);have HMb:Hid ((out++[n]).length+1≤maxLen):=Lib.hid (by rw[List.length_append];unfold maxLen;simp;omega);have HL:Hid ((out++[n]).length=out.length+1):=Lib.hid (by simp);go_wp2_with (first|(at_builtin;(refine wpList_app1 (enc:=eInt) rowInt lenInt oneInt hbel hown n H8.out HM.out rfl _ _ rfl rfl rfl ?_);intro v4 w4 own4 hb4 hg4 hd4;obtain⟨A4,c4,rfl,hc4,hm4⟩:=own4.form;rw[HL.out]at own4)|(at_builtin;go_must (refine wpList_app1 (enc:=eInt) rowInt lenInt oneInt hb4 own4 x H8b.out HMb.out rfl _ _ rfl rfl rfl ?_);intro v5 w5 own5 hb5 hg5 hd5;obtain⟨A5,c5,rfl,hc5,hm5⟩:=own5.form))
        go_roundw
        case rel=>exact⟨k+1,true,(out++[n])++[x],A5,c5,_,rfl,by omega,by go_num,rfl,by simp,.inr ⟨rfl,by have:=Hol.out rfl;simp;omega⟩,own5,Lib.hid (by rw[if_pos rfl];exact HG.out),hb5⟩
        case measure=>simp[intOf];omega
      · have HG : Hid ((out ++ [x]) ++ putI n (l.drop (k + 1)) = putI n l) := Lib.hid (by
         have:=Hg.out;rw[if_neg (by decide),HD.out]at this;rw[putI_gt hnx]at this;rw[←this];simp)
        go_wp2_with (at_builtin;go_must (refine wpList_app1 (enc:=eInt) rowInt lenInt oneInt hbel hown x H8.out HM.out rfl _ _ rfl rfl rfl ?_);intro v4 w4 own4 hb4 hg4 hd4;obtain⟨A4,c4,rfl,hc4,hm4⟩:=own4.form)
        go_roundw
        case rel=>exact⟨k+1,false,out++[x],A4,c4,_,rfl,by omega,by go_num,rfl,by simp,.inl (by rw[List.length_append,Hol.out rfl];rfl),own4,Lib.hid (by rw[if_neg (by decide)];exact HG.out),hb4⟩
        case measure=>simp[intOf];omega
    · have HG : Hid ((out ++ [x]) ++ l.drop (k + 1) = putI n l) := Lib.hid (by
       have:=Hg.out;rw[if_pos rfl,HD.out]at this;rw[←this];simp)
      go_wp2_with (at_builtin;go_must (refine wpList_app1 (enc:=eInt) rowInt lenInt oneInt hbel hown x H8.out HM.out rfl _ _ rfl rfl rfl ?_);intro v4 w4 own4 hb4 hg4 hd4;obtain⟨A4,c4,rfl,hc4,hm4⟩:=own4.form)
      go_roundw
      case rel=>exact⟨k+1,true,out++[x],A4,c4,_,rfl,by omega,by go_num,rfl,by simp,.inr ⟨rfl,by simp;omega⟩,own4,Lib.hid (by rw[if_pos rfl];exact HG.out),hb4⟩
      case measure=>simp[intOf];omega
  · obtain rfl : k = l.length := by omega
    cases dn
    · have HG : Hid (out ++ [n] = putI n l) := Lib.hid (by
       have:=Hg.out;rw[if_neg (by decide),List.drop_length]at this;exact this)
      go_wp2_with (at_builtin;go_must (refine wpList_app1 (enc:=eInt) rowInt lenInt oneInt hbel hown n H8.out HM.out rfl _ _ rfl rfl rfl ?_);rw[HG.out];intro v4 w4 own4 hb4 hg4 hd4;obtain⟨A4,c4,rfl,hc4,hm4⟩:=own4.form)
      go_ret;exact⟨_,_,rfl,own4,hb4⟩
    · have HG : Hid (out = putI n l) := Lib.hid (by
       have:=Hg.out;rw[if_pos rfl,List.drop_length,List.append_nil]at this;exact this)
      go_wp2;go_ret;exact⟨D,d,by rw[←HG.out];rfl,by rw[←HG.out];exact hown,hbel⟩
theorem indexI_any {B:Nat} (u v:Value) (T:List (List Dm)) (m:List Dm) (w:World) (h:OwnLL 33 90 3 eDom B w u T) (h':Rd 3 RDom w v m):Calls Tryz.prog 167 #[u,v] w (Ret (.int .i64 (indexI T m)) w):=by
 obtain⟨A,c,rfl,hc,hm⟩:=h.form;have hTm:T.length≤9223372036854775807:=by unfold maxLen at hm;omega
 go_enter Tryz.func167,Tryz.ntmps167
 go_wp2;go_loopw [5,6,9] (fun s5 s6 s9 wr=>∃(k:Nat) (z5 z6:Value),s5=z5∧s6=z6∧k≤T.length∧s9= .int .i64 k∧Hid (∀j (hj:j<k) (h:j<T.length),T[j]≠m)∧Below w.heap.size w wr) (fun _ _ i _=>T.length-(intOf i).toNat)
 case atStart=>exact⟨0,_,_,rfl,rfl,Nat.zero_le _,rfl,Lib.hid (fun j hj=>by omega),Below.refl _ _⟩
 case round=>
  obtain⟨k,z5,z6,rfl,rfl,hk,rfl,Hg,hbel⟩:=hrel;by_cases hlt:k<T.length
  · obtain⟨g,D,d,rfl,hg1,hg2,c1,ownk⟩:=(h.below hbel).pick hlt;have hki:(k:Int)<(T.length:Int):=(by omega);obtain⟨t,ht⟩:∃t,t=T[k]:=⟨_,rfl⟩;rw[←ht]at c1 ownk;have HT:=Lib.hid ht;clear ht;go_wp2_with fail
    refine(sameDomI_any _ _ t m _ (ownk.rd lenDom (by decide)) (h'.below RE.stays hbel)).mono ?_;rintro e w1 ⟨rfl,hb1⟩;by_cases he:t=m
    · rw[decide_eq_true he];have HI:Hid (indexI T m=(k:Int)):=Lib.hid (index_hit hlt (fun j hj=>Hg.out j hj (by omega)) (by rw[←HT.out];exact he));clear he;go_wp2;go_ret;exact⟨by rw[HI.out];rfl,hbel.tr hb1⟩
    · rw[decide_eq_false he]
      have HN : Hid (∀ j (hj : j < k + 1) (h : j < T.length), T[j] ≠ m) := Lib.hid (fun j hj h q => by
       rcases(by omega:j<k∨j=k)with h1|h1
       · exact Hg.out j h1 h q
       · subst h1;rw[←HT.out]at q;exact he q)
      clear he;go_wp2;go_roundw
      case rel=>exact⟨k+1,_,_,rfl,rfl,by omega,by go_num,HN,hbel.tr hb1⟩
      case measure=>simp[intOf];omega
  · obtain rfl : k = T.length := by omega
    have HI:Hid (indexI T m= -1):=Lib.hid (index_miss (fun j hj=>Hg.out j hj hj));go_wp2;go_ret;exact⟨by rw[HI.out];rfl,hbel⟩
end Go.Proofs.YtfdbcihcdjjdhaaGreatDoor
