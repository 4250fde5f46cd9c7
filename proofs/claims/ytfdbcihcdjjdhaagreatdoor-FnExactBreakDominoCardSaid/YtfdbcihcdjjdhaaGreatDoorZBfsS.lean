/- The distances from a tiling, of the reference: the walk. No conditions. -/
import Derived.Test.YtfdbcihcdjjdhaaGreatDoorZBfsI
import Derived.Test.YtfdbcihcdjjdhaaGreatDoorZK6
namespace Go.Proofs.YtfdbcihcdjjdhaaGreatDoor
open Go.ChangeShapes Go.WideShapes Go.ChangeAt Go.RowKit
set_option linter.unusedVariables false
set_option linter.unusedSimpArgs false
theorem own_gr {α:Type} {E:TypeId} {size:Nat} {enc:α→List Value} {B:Nat} {w w':World} {v:Value} {l:List α} {row:Option Nat} (h:OwnL E size enc B w v l) (hg:w.grownBy w' row) (hne:v.ownBlock≠row):OwnL E size enc B w' v l:=World.ownsRow.kept h hg (.inr hne)
theorem ints_at {q:List Nat} {p:Nat} (hp:p<q.length):(ints q)[p]'(by simp[ints];exact hp)=(q[p]:Int):=by simp[ints]
theorem ints_len (q:List Nat):(ints q).length=q.length:=by simp[ints]
theorem int_cell {B g n c:Nat} {l:List Int} {w:World} (h:OwnL 3 1 eInt B w (.slice (some ⟨g,0,none⟩) n c) l) {i:Nat} (hi:i<l.length):w.cell? ⟨g,i,none⟩=some (.int .i64 l[i]):=by
 have:=h.slot lenInt (by decide) hi 0 _ rfl
 simpa using this
set_option maxHeartbeats 4000000 in
set_option maxRecDepth 100000 in
theorem bfsS_any {B : Nat} (v : Value) (T : List (List Dm)) (near : List (List Int)) (s : Nat) (w : World) (h : OwnLL 22 3 1 eInt B w v near) (hA : Adj T near) (hT : FlipSet T) (hs : s < T.length) : Calls Tryz.prog 162 #[v, .int .i64 s] w (fun e w' => RetOwn 3 1 eInt (disL T.length (dist T s)) w e w' ∧ IsDist (Edge T) s T.length (dist T s)) := by
 obtain⟨A,c,rfl,hc,hm⟩:=h.form
 have hsm:=hT.sm
 have hnl:=hA.len
 obtain⟨n,hn⟩:∃n,n=T.length:=⟨_,rfl⟩
 rw[hnl,←hn]at h⊢
 rw[←hn]at hs hsm hnl
 have HA:=Lib.hid hA;have HFS:=Lib.hid hT;have HNL:=Lib.hid hnl;have HN:=Lib.hid hn
 clear hA hT hnl hn hc hm
 have h8n:8*n≤281474976710656:=by omega
 have hmn:n≤maxLen:=by unfold maxLen;omega
 go_enter Tryz.func162,Tryz.ntmps162
 go_wp2_with (at_make;go_must (refine wpList_mk (enc:=eInt) (z0:=(0:Int)) rowInt rfl (Below.refl _ w) n h8n hmn rfl _ _ rfl rfl rfl ?_);intro w1 hown1 hb1 hg1)
 obtain⟨gO,hgO'⟩:∃g,g=w.heap.size:=⟨_,rfl⟩
 have hgO:w.heap.size≤gO:=by omega
 have hown1:OwnL 3 1 eInt w.heap.size w1 (.slice (some ⟨gO,0,none⟩) n n) (List.replicate n 0):=by rw[hgO'];exact hown1
 rw[←hgO']
 have HGO:=Lib.hid hgO';clear hgO' hg1
 go_loopw [6] (fun s6 wr=>∃(k:Nat) (m:List Int),k≤n∧s6= .int .i64 k∧UpTo k m (List.replicate n (-1:Int))∧OwnL 3 1 eInt w.heap.size wr (.slice (some ⟨gO,0,none⟩) n n) m∧Below w.heap.size w wr) (fun i _=>n-(intOf i).toNat)
 case atStart=>exact⟨0,List.replicate n (0:Int),Nat.zero_le _,rfl,UpTo.start _ _ (by simp),hown1,hb1⟩
 case round=>
  obtain⟨k,m,hk,rfl,hu,hown,hbel⟩:=hrel
  clear hown1 hb1
  have hml:m.length=n:=by rw[hu.1,List.length_replicate]
  by_cases hlt:k<n
  · have hki : (k : Int) < (n : Int) := by omega
    obtain⟨u0,s0⟩:=hown.slot1 lenInt (k:=k) (by omega)
    have hsf:=hown.free
    have hst:=hu.step (by rw[List.length_replicate];exact hlt)
    rw[List.getElem_replicate]at hst
    have own2:=hown.store1 lenInt (k:=k) (y:=(-1:Int)) (by omega) rfl
    have B2:=hbel.setCell (p:=⟨gO,k,none⟩) hgO (.int .i64 (-1))
    go_wp2
    go_roundw
    case rel=>exact⟨k+1,m.set k (-1),by omega,by go_num,hst,own2,B2⟩
    case measure=>simp[intOf];omega
  · have hkn : n = k := by omega
    subst hkn
    have hmr:=hu.done (by rw[List.length_replicate];exact Nat.le_refl _)
    rw[hmr,rep_dis]at hown
    have o0:=dis_store hown hs 0
    have c0:=dis_cell hown hs
    have hfr:=hown.free
    have hsi:(s:Int)<(n:Int):=by omega
    have hgO2:gO<wr.heap.size:=by
     obtain⟨g',e',_,h5⟩:=hown.split (k:=0) (by rw[disL_len];omega)
     injection e' with e';injection e' with e';omega
    have B1:=hbel.setCell (p:=⟨gO,s,none⟩) hgO (.int .i64 0)
    have hsz:(wr.setCell ⟨gO,s,none⟩ (.int .i64 0)).heap.size=wr.heap.size:=by simp
    have q0:=(own_one (E:=3) (enc:=eInt) (wr.setCell ⟨gO,s,none⟩ (.int .i64 0)) (s:Int) rfl).mono (by rw[hsz];exact hbel.size:w.heap.size≤_)
    rw[hsz]at q0
    have o1:=o0.alloc (.cells #[.int .i64 (s:Int)] 3)
    have B2:=B1.al (.cells #[.int .i64 (s:Int)] 3)
    have hne:(Value.slice (some ⟨wr.heap.size,0,none⟩) 1 1).ownBlock≠some gO:=by simp[Value.ownBlock];omega
    have hbf:=Lib.hid (bfs_start (Edge T) hs)
    have hf0:upd (fun _=> -1) s 0=f0 s:=rfl
    rw[hf0]at o1
    clear o0 B1 hsz hf0 hown hmr hu hml
    go_wp2
    go_loopw [7,8,9,10] (fun s7 s8 s9 s10 wr=>∃(q:List Nat) (p:Nat) (f:Nat→Int) (D:Option Addr) (d:Nat) (z9 z10:Value),s9=z9∧s10=z10∧p≤q.length∧s8= .int .i64 p∧s7= .slice D q.length d∧OwnL 3 1 eInt w.heap.size wr (.slice D q.length d) (ints q)∧(Value.slice D q.length d).ownBlock≠some gO∧OwnL 3 1 eInt w.heap.size wr (.slice (some ⟨gO,0,none⟩) n n) (disL n f)∧Hid (Bfs (Edge T) s n f q p)∧Below w.heap.size w wr) (fun _ i _ _ _=>n-(intOf i).toNat)
    case atStart=>exact⟨[s],0,f0 s,_,_,_,_,rfl,rfl,by simp,rfl,rfl,q0,hne,o1,hbf,B2⟩
    case round=>
     clear q0 hne o1 hbf B2 c0 hfr hbel
     obtain⟨q,p,f,D,d,z9,z10,rfl,rfl,hp,rfl,rfl,hq,hne,hown,Hb,hbel⟩:=hrel
     have hqn:=Hb.out.len
     by_cases hlp:p<q.length
     · obtain⟨o,ho⟩:∃o,o=q[p]:=⟨_,rfl⟩
       have hlt:o<n:=by rw[ho];exact Hb.out.lt _ (List.getElem_mem hlp)
       obtain⟨gQ,rfl,hgQ,hgQ2⟩:=hq.split (k:=0) (by rw[ints_len];omega)
       have cq:=int_cell hq (i:=p) (by rw[ints_len];exact hlp)
       rw[ints_at hlp,←ho]at cq
       have hko:o<near.length:=by rw[HNL.out];exact hlt
       obtain⟨gA,D1,d1,rfl,_,hgA,cA,oN⟩:=h.pickN hko
       obtain⟨N,hN⟩:∃N,N=near[o]:=⟨_,rfl⟩
       rw[←hN]at cA oN
       have cA2:=(hbel.cell (p:=⟨gA,o,none⟩) hgA).trans cA
       have hNm:N.length≤9223372036854775807:=by
        obtain⟨_,_,e,h1,h2⟩:=oN.form
        unfold maxLen at h2;omega
       have hmem:∀x,x∈N↔∃i:Nat,x=i∧Edge T o i:=fun x=>by rw[hN];exact HA.out.mem o hko x
       have HMm:=Lib.hid hmem;have HO:=Lib.hid ho
       have hoi:(o:Int)<(n:Int):=by omega
       have hpi:(p:Int)<(q.length:Int):=by omega
       have hneg:(some gQ:Option Nat)≠some gO:=hne
       clear hN hmem cA ho
       go_wp2
       go_loopw [7,10] (fun s7 s10 wr=>∃(t:Nat) (q2:List Nat) (f:Nat→Int) (D:Option Addr) (d:Nat),t≤N.length∧s10= .int .i64 t∧s7= .slice D q2.length d∧OwnL 3 1 eInt w.heap.size wr (.slice D q2.length d) (ints q2)∧(Value.slice D q2.length d).ownBlock≠some gO∧OwnL 3 1 eInt w.heap.size wr (.slice (some ⟨gO,0,none⟩) n n) (disL n f)∧Hid (Bfs (Edge T) s n f q2 p∧(∃h:p<q2.length,q2[p]=o)∧∀i:Nat,(i:Int)∈N.take t→0≤f i)∧Below w.heap.size w wr) (fun _ i _=>N.length-(intOf i).toNat)
       case atStart=>exact⟨0,q,f,_,_,Nat.zero_le _,rfl,rfl,hq,hne,hown,Lib.hid ⟨Hb.out,⟨hlp,HO.out.symm⟩,fun i hi=>by simp at hi⟩,hbel⟩
       case round=>
        clear hq hne hown Hb hbel cA2 cq hneg hgQ hgQ2
        obtain⟨t,q2,f,D,d,ht,rfl,rfl,hq,hne,hown,Hb,hbel⟩:=hrel
        obtain⟨hlq,hqo⟩:=Hb.out.2.1
        obtain⟨gQ,rfl,hgQ,hgQ2⟩:=hq.split (k:=0) (by rw[ints_len];omega)
        have hql:=Hb.out.1.len
        by_cases hlt2:t<N.length
        · obtain ⟨b, off2, rfl, hb, c1w⟩ := (oN.rd lenInt (by decide)).atInt hlt2
          have hbg:b≠gO:=by omega
          have c1:=(hbel.cell (p:=⟨b,off2+t,none⟩) hb).trans c1w
          obtain⟨i,hi,hE⟩:=(HMm.out N[t]).1 (List.getElem_mem hlt2)
          rw[hi]at c1 c1w
          have hin:i<n:=by rw[HN.out];exact link_lt HFS.out hE
          have htk:N.take (t+1)=N.take t++[(i:Int)]:=by rw[List.take_succ_eq_append_getElem hlt2,hi]
          have HTK:=Lib.hid htk;have HE:=Lib.hid hE
          have ci:=dis_cell hown hin
          have co:=dis_cell hown hlt
          have cq:=int_cell hq (i:=p) (by rw[ints_len];exact hlq)
          rw[ints_at hlq,hqo]at cq
          have hfr:=hown.free
          have hii:(i:Int)<(n:Int):=by omega
          have hti:(t:Int)<(N.length:Int):=by omega
          have hpq:(p:Int)<(q2.length:Int):=by omega
          have hvb:=bfs_in Hb.out.1 (i:=o) (by rw[←hqo];exact List.getElem_mem hlq)
          obtain⟨vo,hvo⟩:∃v,v=f o:=⟨_,rfl⟩
          obtain⟨vi,hvi⟩:∃v,v=f i:=⟨_,rfl⟩
          rw[←hvo]at co hvb
          rw[←hvi]at ci
          have HVO:=Lib.hid hvo;have HVI:=Lib.hid hvi;have HQO:=Lib.hid hqo
          clear hi hE htk hvo hvi hqo
          have hvb2:vo≤300:=by omega
          by_cases hfi:vi<0
          · obtain⟨W,hW⟩:∃W,W=wr:=⟨_,rfl⟩
            rw[←hW]at hq hown hbel ci co cq c1 hfr hgQ2⊢
            clear hW
            have Bw:Below W.heap.size W W.drew:=(Below.refl _ _).drew
            have hz:W.heap.size≤W.drew.heap.size:=by simp
            have hgO3:gO<W.heap.size:=by
             obtain⟨g',e',_,h5⟩:=hown.split (k:=0) (by rw[disL_len];omega)
             injection e' with e';injection e' with e';omega
            go_wp2_with fail
            go_still_tail 13,(by kernel_rfl)
            have hown':=hown.below Bw
            have hq':=hq.below Bw
            have B':=hbel.tr Bw
            have o2:=dis_store hown' hin (vo+1)
            have B2:=B'.setCell (p:=⟨gO,i,none⟩) hgO (.int .i64 (vo+1))
            have gX:=gr_set (World.grownBy.refl W.drew (some gO)) i (.int .i64 (vo+1))
            have hq2:=own_gr hq' gX hne
            have c1s:=(B2.cell (p:=⟨b,off2+t,none⟩) hb).trans c1w
            have hsz:W.heap.size=(W.drew.setCell ⟨gO,i,none⟩ (.int .i64 (vo+1))).heap.size:=by simp
            have H8:Hid (((ints q2).length+1)*8≤140737488355328):=Lib.hid (by rw[ints_len];omega)
            have HM:Hid ((ints q2).length+1≤maxLen):=Lib.hid (by rw[ints_len];unfold maxLen;omega)
            have HG : Hid (Bfs (Edge T) s n (upd f i (vo + 1)) (q2 ++ [i]) p ∧ (∃ h : p < (q2 ++ [i]).length, (q2 ++ [i])[p] = o) ∧ ∀ k : Nat, (k : Int) ∈ N.take (t + 1) → 0 ≤ upd f i (vo + 1) k) := Lib.hid (by
             have hb0:=bfs_add Hb.out.1 hlq hin (by rw[HQO.out];exact HE.out) (by rw[←HVI.out];exact hfi)
             rw[HQO.out,←HVO.out]at hb0
             refine⟨hb0,⟨by simp;omega,by rw[List.getElem_append_left hlq];exact HQO.out⟩,fun k hk=> ?_⟩
             by_cases e:k=i
             · subst e;rw[upd_at];omega
             · rw[upd_ne e]
               rw[HTK.out,List.mem_append]at hk
               rcases hk with hk|hk
               · exact Hb.out.2.2 k hk
               · simp at hk;omega)
            have HSZ:=Lib.hid hsz;have HL:=Lib.hid (ints_len q2)
            clear hsz hown' hq' B' hq hown hbel
            go_wp2_with (at_builtin;go_must (refine wpList_app1b (enc:=eInt) rowInt lenInt oneInt B2 hq2 (i:Int) H8.out HM.out HSZ.out rfl _ _ rfl rfl rfl ?_);intro v4 w4 own4 hb4 hg4 hd4;rw[ints_snoc]at own4;obtain⟨A4,c4,rfl,hc4,hm4⟩:=own4.form)
            have hql2:(ints (q2++[i])).length=(q2++[i]).length:=ints_len _
            have hne4:(Value.slice A4 (q2++[i]).length c4).ownBlock≠some gO:=by
             rw[hql2]at hd4
             rcases hd4 with q|q
             · rw[q];exact hne
             · rw[q,←HSZ.out];intro e;injection e with e;omega
            have own5:OwnL 3 1 eInt w.heap.size w4 (.slice A4 (q2++[i]).length c4) (ints (q2++[i])):=by rw[←hql2];exact own4
            have o4:OwnL 3 1 eInt w.heap.size w4 (.slice (some ⟨gO,0,none⟩) n n) (disL n (upd f i (vo+1))):=own_gr (o2.alloc _) hg4 (fun e=>hne e.symm)
            go_roundw
            case rel=>exact⟨t+1,q2++[i],upd f i (vo+1),A4,c4,by omega,by go_num,by rw[hql2],own5,hne4,o4,HG,hb4⟩
            case measure=>simp[intOf];omega
          · have HG : Hid (Bfs (Edge T) s n f q2 p ∧ (∃ h : p < q2.length, q2[p] = o) ∧ ∀ k : Nat, (k : Int) ∈ N.take (t + 1) → 0 ≤ f k) := Lib.hid ⟨Hb.out.1, Hb.out.2.1, fun k hk => by
             rw[HTK.out,List.mem_append]at hk
             rcases hk with hk|hk
             · exact Hb.out.2.2 k hk
             · simp at hk
               obtain rfl:k=i:=by omega
               rw[←HVI.out];omega⟩
            go_wp2
            go_roundw
            case rel=>exact⟨t+1,q2,f,_,_,by omega,by go_num,rfl,hq,hne,hown,HG,hbel⟩
            case measure=>simp[intOf];omega
        · obtain rfl : t = N.length := by omega
          have HG : Hid (Bfs (Edge T) s n f q2 (p + 1)) := Lib.hid (bfs_next Hb.out.1 hlq (fun i hi => by
           rw[hqo]at hi
           have:=(HMm.out (i:Int)).2 ⟨i,rfl,hi⟩
           exact Hb.out.2.2 i (by rw[List.take_length];exact this)))
          go_wp2
          go_roundw
          case rel=>exact⟨q2,p+1,f,_,_,_,_,rfl,rfl,by omega,by go_num,rfl,hq,hne,hown,HG,hbel⟩
          case measure=>simp[intOf];omega
     · obtain rfl : p = q.length := by omega
       have HD : Hid (dist T s = f ∧ IsDist (Edge T) s n (dist T s)) := Lib.hid (by
        have h2:=bfs_end Hb.out
        have h3:dist T s=f:=dist_of (by rw[←HN.out];exact h2)
        exact⟨h3,by rw[h3];exact h2⟩)
       go_wp2
       go_ret
       exact⟨⟨some ⟨gO,0,none⟩,n,by rw[disL_len];rfl,by rw[disL_len,HD.out.1];exact hown,hbel⟩,HD.out.2⟩
end Go.Proofs.YtfdbcihcdjjdhaaGreatDoor
