/- The distances from a tiling, of the program: the walk. No conditions. -/
import Derived.Test.YtfdbcihcdjjdhaaGreatDoorZNearPl
import Derived.Test.YtfdbcihcdjjdhaaGreatDoorZQueueW
import Derived.Test.YtfdbcihcdjjdhaaGreatDoorZOwnLL
import Derived.Test.YtfdbcihcdjjdhaaGreatDoorZFmtW
import Derived.Deep.LoopGhost
namespace Go.Proofs.YtfdbcihcdjjdhaaGreatDoor
open Go.ChangeShapes Go.WideShapes Go.ChangeAt Go.RowKit
set_option linter.unusedVariables false
set_option linter.unusedSimpArgs false
theorem OwnLL.pickN {α:Type} {E0 E:TypeId} {size:Nat} {enc:α→List Value} {B:Nat} {w:World} {A:Option Addr} {n c:Nat} {ls:List (List α)} (h:OwnLL E0 E size enc B w (.slice A n c) ls) {k:Nat} (hk:k<ls.length):∃g D d,A=some ⟨g,0,none⟩∧B≤g∧g<w.heap.size∧w.cell? ⟨g,k,none⟩=some (.slice D ls[k].length d)∧OwnL E size enc B w (.slice D ls[k].length d) ls[k]:=by
 obtain⟨us,h1,h2,h3⟩:=h
 have hk':k<us.length:=by omega
 obtain⟨g,rfl,hg1,hg2⟩:=h1.split hk'
 have q:=h3 k us[k] ls[k] (List.getElem?_eq_getElem hk') (List.getElem?_eq_getElem hk)
 obtain⟨D,d,e,_,_⟩:=q.form
 have z:=h1.slot lenV (by decide) hk' 0 us[k] rfl
 rw[Nat.mul_one,Nat.add_zero]at z
 rw[e]at z q
 exact⟨g,D,d,rfl,hg1,hg2,z,q⟩
def ints (l:List Nat):List Int:=l.map fun(i:Nat)=>(i:Int)
theorem ints_snoc (l:List Nat) (i:Nat):ints l++[(i:Int)]=ints (l++[i]):=by unfold ints;rw[List.map_append];rfl
theorem rep_dis (n : Nat) : List.replicate n (-1 : Int) = disL n (fun _ => -1) := by
 unfold disL
 rw[List.map_const',List.length_range]
theorem rep_succ (j:Nat):List.replicate j (-1:Int)++[-1]=List.replicate (j+1) (-1):=List.replicate_succ'.symm
theorem dis_cell {B g n c:Nat} {f:Nat→Int} {w:World} (h:OwnL 3 1 eInt B w (.slice (some ⟨g,0,none⟩) n c) (disL n f)) {i:Nat} (hi:i<n):w.cell? ⟨g,i,none⟩=some (.int .i64 (f i)):=by
 have hl:i<(disL n f).length:=by rw[disL_len];exact hi
 have:=h.slot lenInt (by decide) hl 0 _ rfl
 rw[disL_at hl]at this
 simpa using this
theorem dis_store {B g n c:Nat} {f:Nat→Int} {w:World} (h:OwnL 3 1 eInt B w (.slice (some ⟨g,0,none⟩) n c) (disL n f)) {i:Nat} (hi:i<n) (v:Int):OwnL 3 1 eInt B (w.setCell ⟨g,i,none⟩ (.int .i64 v)) (.slice (some ⟨g,0,none⟩) n c) (disL n (upd f i v)):=by
 have:=h.store1 lenInt (k:=i) (y:=v) (by rw[disL_len];exact hi) rfl
 rwa [←disL_upd]at this
theorem bfs_in {E:Nat→Nat→Prop} {s n:Nat} {f:Nat→Int} {q:List Nat} {p:Nat} (h:Bfs E s n f q p) {i:Nat} (hi:i∈q):0≤f i∧f i≤n:=by
 have h0:=(h.iff i).2 hi
 obtain⟨a,ha,e⟩:=List.getElem_of_mem hi
 have h1:=h.bd a ha
 have h2:=h.len
 rw[e]at h1
 omega
set_option maxHeartbeats 4000000 in
set_option maxRecDepth 100000 in
theorem bfsI_any {B : Nat} (v : Value) (T : List (List Dm)) (near : List (List Int)) (s : Nat) (w : World) (h : OwnLL 22 3 1 eInt B w v near) (hA : Adj T near) (hT : FlipSet T) (hs : s < T.length) : Calls Tryz.prog 169 #[v, .int .i64 s] w (fun e w' => RetOwn 3 1 eInt (disL T.length (dist T s)) w e w' ∧ IsDist (Edge T) s T.length (dist T s)) := by
 obtain⟨A,c,rfl,hc,hm⟩:=h.form
 have hsm:=hT.sm
 have hnl:=hA.len
 obtain⟨n,hn⟩:∃n,n=T.length:=⟨_,rfl⟩
 rw[hnl,←hn]at h⊢
 rw[←hn]at hs hsm hnl
 have HA:=Lib.hid hA;have HFS:=Lib.hid hT;have HNL:=Lib.hid hnl;have HN:=Lib.hid hn
 clear hA hT hnl hn hc hm
 have own0:=own_mt w (E:=3) (size:=1) (enc:=eInt) w.heap.size rfl w.heap.size (Nat.le_refl _)
 go_enter Tryz.func169,Tryz.ntmps169
 go_wp2
 go_loopw [5,13] (fun s5 s13 wr=>∃(j:Nat) (D:Option Addr) (d:Nat),j≤n∧s13= .int .i64 j∧s5= .slice D j d∧OwnL 3 1 eInt w.heap.size wr (.slice D j d) (List.replicate j (-1))∧Below w.heap.size w wr) (fun _ i _=>n-(intOf i).toNat)
 case atStart=>exact⟨0,_,_,Nat.zero_le _,rfl,rfl,own0,(Below.refl _ _).al _⟩
 case round=>
  obtain⟨j,D,d,hj,rfl,rfl,hown,hbel⟩:=hrel
  clear own0
  by_cases hlt:j<n
  · have hji : (j : Int) < (n : Int) := by omega
    have HL:Hid ((List.replicate j (-1:Int)).length=j):=Lib.hid List.length_replicate
    have H8:Hid (((List.replicate j (-1:Int)).length+1)*8≤140737488355328):=Lib.hid (by rw[HL.out];omega)
    have HM:Hid ((List.replicate j (-1:Int)).length+1≤maxLen):=Lib.hid (by rw[HL.out];unfold maxLen;omega)
    go_wp2_with (at_builtin;go_must (refine wpList_app1 (enc:=eInt) rowInt lenInt oneInt hbel hown (-1:Int) H8.out HM.out rfl _ _ rfl rfl rfl ?_);intro v4 w4 own4 hb4 hg4 hd4;rw[rep_succ]at own4;obtain⟨A4,c4,rfl,hc4,hm4⟩:=own4.form)
    have own5:OwnL 3 1 eInt w.heap.size w4 (.slice A4 (j+1) c4) (List.replicate (j+1) (-1)):=by
     have e:(List.replicate (j+1) (-1:Int)).length=j+1:=List.length_replicate
     rw[e]at own4;exact own4
    go_roundw
    case rel=>exact⟨j+1,A4,c4,by omega,by go_num,by simp,own5,hb4⟩
    case measure=>simp[intOf];omega
  · have hjn : n = j := by omega
    subst hjn
    rw[rep_dis]at hown
    obtain⟨gO,rfl,hgO,hgO2⟩:=hown.split (k:=0) (by rw[disL_len];omega)
    have o0:=dis_store hown hs 0
    have c0:=dis_cell hown hs
    have hfr:=hown.free
    have hsi:(s:Int)<(n:Int):=by omega
    have B1:=hbel.setCell (p:=⟨gO,s,none⟩) hgO (.int .i64 0)
    have hsz:(wr.setCell ⟨gO,s,none⟩ (.int .i64 0)).heap.size=wr.heap.size:=by simp
    have q0:=(Qu.of_own (own_one (E:=3) (enc:=eInt) (wr.setCell ⟨gO,s,none⟩ (.int .i64 0)) (s:Int) rfl) (by simp)).mono (by rw[hsz];exact hbel.size:w.heap.size≤_)
    rw[hsz]at q0
    have o1:=o0.alloc (.cells #[.int .i64 (s:Int)] 3)
    have B2:=B1.al (.cells #[.int .i64 (s:Int)] 3)
    have hne:(Value.slice (some ⟨wr.heap.size,0,none⟩) 1 1).ownBlock≠some gO:=by simp[Value.ownBlock];omega
    have hbf:=Lib.hid (bfs_start (Edge T) hs)
    have hf0:upd (fun _=> -1) s 0=f0 s:=rfl
    rw[hf0]at o1
    clear o0 B1 hsz hf0 hown
    go_wp2
    go_loopg [6,7,9] n (fun gk s6 s7 s9 wr=>∃(dn wt:List Nat) (f:Nat→Int) (z7 z9:Value),s7=z7∧s9=z9∧dn.length+gk=n∧Qu w.heap.size wr s6 (ints wt)∧s6.ownBlock≠some gO∧OwnL 3 1 eInt w.heap.size wr (.slice (some ⟨gO,0,none⟩) n d) (disL n f)∧Hid (Bfs (Edge T) s n f (dn++wt) dn.length)∧Below w.heap.size w wr)
    case atStart=>exact⟨[],[s],f0 s,_,_,rfl,rfl,by simp,q0,hne,o1,hbf,B2⟩
    case round=>
     clear q0 hne o1 hbf B2 c0 hfr hbel
     obtain⟨dn,wt,f,z7,z9,rfl,rfl,hgk,hq,hne,hown,Hb,hbel⟩:=hrel
     obtain⟨g,off,cq,rfl,hg1,hg2,hqc,hqm⟩:=hq.form
     rcases wt with _|⟨o,wt⟩
     · have HD : Hid (dist T s = f ∧ IsDist (Edge T) s n (dist T s)) := Lib.hid (by
        have:=Hb.out
        rw[List.append_nil]at this
        have h2:=bfs_end this
        have h3:dist T s=f:=dist_of (by rw[←HN.out];exact h2)
        exact⟨h3,by rw[h3];exact h2⟩)
       have e0:(ints []).length=0:=rfl
       rw[e0]
       go_wp2
       go_ret
       exact⟨⟨some ⟨gO,0,none⟩,d,by rw[disL_len];rfl,by rw[disL_len,HD.out.1];exact hown,hbel⟩,HD.out.2⟩
     · have hlt : o < n := Hb.out.lt o (by simp)
       have e1:(ints (o::wt)).length=wt.length+1:=by simp[ints]
       have e2:ints (o::wt)=(o:Int)::ints wt:=rfl
       rw[e1]at hqc⊢
       have hq':Qu w.heap.size wr (.slice (some ⟨g,off,none⟩) (wt.length+1) cq) ((o:Int)::ints wt):=by rw[←e2,←e1];exact hq
       have hc0:=hq'.head
       have hko:o<near.length:=by rw[HNL.out];exact hlt
       obtain⟨gA,D1,d1,rfl,_,hgA,cA,oN⟩:=h.pickN hko
       obtain⟨N,hN⟩:∃N,N=near[o]:=⟨_,rfl⟩
       rw[←hN]at cA oN
       have cA2:=(hbel.cell (p:=⟨gA,o,none⟩) hgA).trans cA
       have hNm:N.length≤9223372036854775807:=by
        obtain⟨_,_,e,h1,h2⟩:=oN.form
        unfold maxLen at h2;omega
       have hmem:∀x,x∈N↔∃i:Nat,x=i∧Edge T o i:=fun x=>by rw[hN];exact HA.out.mem o hko x
       have HMm:=Lib.hid hmem
       have hoi:(o:Int)<(n:Int):=by omega
       have hwl:(0:Int)<((wt.length+1:Nat):Int):=by omega
       have hj1:1≤wt.length+1:=by omega
       have hneg:(some g:Option Nat)≠some gO:=hne
       have Hneg:=Lib.hid hneg
       clear hN hmem e1 e2 hq hneg cA
       go_wp2_with ((with_reducible refine wpList_cut rowInt 1 hj1 hqc hqm rfl rfl _ _ rfl rfl rfl ?_);intro A' c' hsl)
       have hq2:Qu w.heap.size wr (.slice A' wt.length c') (ints wt):=by have:=hq'.tail hsl;simpa using this
       have hne2:(Value.slice A' wt.length c').ownBlock≠some gO:=by
        have:=cut_own hsl
        simp only[Nat.add_sub_cancel]at this
        rw[this];exact Hneg.out
       clear hsl hq' hne hc0
       go_loopw [6,9,37] (fun s6 s9 s37 wr=>∃(t:Nat) (wt2:List Nat) (f:Nat→Int) (z9:Value),s9=z9∧t≤N.length∧s37= .int .i64 t∧Qu w.heap.size wr s6 (ints wt2)∧s6.ownBlock≠some gO∧OwnL 3 1 eInt w.heap.size wr (.slice (some ⟨gO,0,none⟩) n d) (disL n f)∧Hid (Bfs (Edge T) s n f (dn++o::wt2) dn.length∧∀i:Nat,(i:Int)∈N.take t→0≤f i)∧Below w.heap.size w wr) (fun _ _ i _=>N.length-(intOf i).toNat)
       case atStart=>exact⟨0,wt,f,_,rfl,Nat.zero_le _,rfl,hq2,hne2,hown,Lib.hid ⟨Hb.out,fun i hi=>by simp at hi⟩,hbel⟩
       case round=>
        clear hq2 hne2 hown Hb hbel cA2
        obtain⟨t,wt2,f,z9,rfl,ht,rfl,hq,hne,hown,Hb,hbel⟩:=hrel
        obtain⟨g,off,cq,rfl,hg1,hg2,hqc,hqm⟩:=hq.form
        have hql:=Hb.out.1.len
        rw[List.length_append,List.length_cons]at hql
        by_cases hlt2:t<N.length
        · have oN2:=oN.below hbel
          obtain⟨b,off2,rfl,hb,c1⟩:=(oN2.rd lenInt (by decide)).atInt hlt2
          obtain⟨i,hi,hE⟩:=(HMm.out N[t]).1 (List.getElem_mem hlt2)
          rw[hi]at c1
          have hin:i<n:=by rw[HN.out];exact link_lt HFS.out hE
          have htk:N.take (t+1)=N.take t++[(i:Int)]:=by rw[List.take_succ_eq_append_getElem hlt2,hi]
          have HTK:=Lib.hid htk;have HE:=Lib.hid hE
          have ci:=dis_cell hown hin
          have co:=dis_cell hown hlt
          have hfr:=hown.free
          have hii:(i:Int)<(n:Int):=by omega
          have hti:(t:Int)<(N.length:Int):=by omega
          have hvb:=bfs_in Hb.out.1 (i:=o) (by simp)
          obtain⟨vo,hvo⟩:∃v,v=f o:=⟨_,rfl⟩
          obtain⟨vi,hvi⟩:∃v,v=f i:=⟨_,rfl⟩
          rw[←hvo]at co hvb
          rw[←hvi]at ci
          have HVO:=Lib.hid hvo;have HVI:=Lib.hid hvi
          clear hi hE htk hvo hvi oN2
          have hvb2:vo≤300:=by omega
          by_cases hfi:vi<0
          · have o2:=dis_store hown hin (vo+1)
            have B2:=hbel.setCell (p:=⟨gO,i,none⟩) hgO (.int .i64 (vo+1))
            have gX:=gr_set (World.grownBy.refl wr (some gO)) i (.int .i64 (vo+1))
            have hq2:=hq.kept gX hne
            have hsz:wr.heap.size=(wr.setCell ⟨gO,i,none⟩ (.int .i64 (vo+1))).heap.size:=by simp
            have hil:(ints wt2).length=wt2.length:=by simp[ints]
            have H8:Hid (((ints wt2).length+1)*8≤140737488355328):=Lib.hid (by rw[hil];omega)
            have HM:Hid ((ints wt2).length+1≤maxLen):=Lib.hid (by rw[hil];unfold maxLen;omega)
            have HG : Hid (Bfs (Edge T) s n (upd f i (vo + 1)) (dn ++ o :: (wt2 ++ [i])) dn.length ∧ ∀ k : Nat, (k : Int) ∈ N.take (t + 1) → 0 ≤ upd f i (vo + 1) k) := Lib.hid (by
             have hp:dn.length<(dn++o::wt2).length:=by simp
             have hqp:(dn++o::wt2)[dn.length]=o:=by simp
             have hb0:=bfs_add Hb.out.1 hp hin (by rw[hqp];exact HE.out) (by rw[←HVI.out];exact hfi)
             rw[hqp,←HVO.out,List.append_assoc,List.cons_append]at hb0
             refine⟨hb0,fun k hk=> ?_⟩
             by_cases e:k=i
             · subst e;rw[upd_at];omega
             · rw[upd_ne e]
               rw[HTK.out,List.mem_append]at hk
               rcases hk with hk|hk
               · exact Hb.out.2 k hk
               · simp at hk;omega)
            have HSZ:=Lib.hid hsz
            clear hil hsz
            go_wp2_with (at_builtin;go_must (refine wpList_appQ rowInt B2.size hq2 (i:Int) HSZ.out H8.out HM.out rfl _ _ rfl rfl rfl ?_);intro g4 c4 off4 w4 hor own4 hg4)
            rw[ints_snoc]at own4
            have hne4:(Value.slice (some ⟨g4,off4,none⟩) ((ints wt2).length+1) c4).ownBlock≠some gO:=by
             rcases hor with q|q
             · show some g4≠some gO;rw[q];exact hne
             · have:=HSZ.out
               have h3:=(hown.split (k:=i) (by rw[disL_len];exact hin))
               obtain⟨g',e',_,h5⟩:=h3
               injection e' with e';injection e' with e'
               show some g4≠some gO
               intro e;injection e with e;omega
            have o4:OwnL 3 1 eInt w.heap.size w4 (.slice (some ⟨gO,0,none⟩) n d) (disL n (upd f i (vo+1))):=World.ownsRow.kept (o2.alloc _) hg4 (.inr (fun e=>hne e.symm))
            have B4 := (B2.al (.cells #[.int .i64 (i : Int)] 3)).grown hg4 (B2.al (.cells #[.int .i64 (i : Int)] 3)).size (fun k hk => by
             have h2:(some g:Option Nat)=some k:=hk
             injection h2 with h2
             omega)
            go_roundw
            case rel=>exact⟨t+1,wt2++[i],upd f i (vo+1),_,rfl,by omega,by go_num,own4,hne4,o4,HG,B4⟩
            case measure=>simp[intOf];omega
          · have HG : Hid (Bfs (Edge T) s n f (dn ++ o :: wt2) dn.length ∧ ∀ k : Nat, (k : Int) ∈ N.take (t + 1) → 0 ≤ f k) := Lib.hid ⟨Hb.out.1, fun k hk => by
             rw[HTK.out,List.mem_append]at hk
             rcases hk with hk|hk
             · exact Hb.out.2 k hk
             · simp at hk
               obtain rfl:k=i:=by omega
               rw[←HVI.out];omega⟩
            go_wp2
            go_roundw
            case rel=>exact⟨t+1,wt2,f,_,rfl,by omega,by go_num,hq,hne,hown,HG,hbel⟩
            case measure=>simp[intOf];omega
        · obtain rfl : t = N.length := by omega
          have HG : Hid (Bfs (Edge T) s n f ((dn ++ [o]) ++ wt2) (dn ++ [o]).length) := Lib.hid (by
           have hp:dn.length<(dn++o::wt2).length:=by simp
           have hqp:(dn++o::wt2)[dn.length]=o:=by simp
           have hb0 := bfs_next Hb.out.1 hp (fun i hi => by
            rw[hqp]at hi
            have:=(HMm.out (i:Int)).2 ⟨i,rfl,hi⟩
            exact Hb.out.2 i (by rw[List.take_length];exact this))
           rw[List.append_assoc,List.length_append]
           exact hb0)
          go_wp2
          go_roundg (gk-1)
          case measure=>omega
          case rel=>exact⟨dn++[o],wt2,f,_,_,rfl,rfl,by simp;omega,hq,hne,hown,HG,hbel⟩
end Go.Proofs.YtfdbcihcdjjdhaaGreatDoor
