/- The shortest way of flips, of the reference: the walk. No conditions. -/
import Derived.Test.YtfdbcihcdjjdhaaGreatDoorYG31
import Derived.Test.YtfdbcihcdjjdhaaGreatDoorYWayI
namespace Go.Proofs.YtfdbcihcdjjdhaaGreatDoor
open Go.ChangeShapes Go.WideShapes Go.ChangeAt Go.RowKit
set_option linter.unusedVariables false
set_option linter.unusedSimpArgs false
set_option maxHeartbeats 4000000
set_option maxRecDepth 100000
theorem OwnLL.keptF {α β:Type} {E0 E E2:TypeId} {size s2:Nat} {enc:α→List Value} {e2:β→List Value} {B B2:Nat} {w w':World} {v v2:Value} {ls:List (List α)} {l2:List β} (a:OwnLL E0 E size enc B w v ls) (b:OwnL E2 s2 e2 B2 w v2 l2) (hne0:E0≠E2) (hne:E≠E2) (hg:w.grownBy w' v2.ownBlock):OwnLL E0 E size enc B w' v ls:=by
 obtain⟨us,h1,h2,h3⟩:=a;exact⟨us,h1.keptF b hne0 hg,h2,fun k u x hu hx=>(h3 k u x hu hx).keptF b hne hg⟩
theorem linkLL_at {T:List (List Dm)} {i:Nat} (h:i<T.length):∃h':i<(linkLL T T.length).length,(linkLL T T.length)[i]=linkL T i:=⟨by rw[linkLL_len];exact h,by simp[linkLL]⟩
theorem linkL_at {T:List (List Dm)} {i t:Nat} (h:t<(flips (til T i)).length):∃h':t<(linkL T i).length,(linkL T i)[t]=linkI T i (flips (til T i))[t]:=⟨by unfold linkL;rw[List.length_map];exact h,by simp[linkL]⟩
theorem wayS_any (v va vb:Value) (rows:List Int) (a b:List Dm) (w:World) (h:Rd 1 RInt w v rows) (ha:Rd 3 RDom w va a) (hb:Rd 3 RDom w vb b):Calls Tryz.prog 85 #[.agg #[v],va,vb] w (RetOwnB 77 2 ePair (wayL rows a b) (wayB rows a b) w):=by
 obtain⟨Aa,ca,rfl,_,_⟩:=ha.form;obtain⟨Ab,cb,rfl,_,_⟩:=hb.form;have bX:=(Blk.new_ w 32 #[v]).alloc (.cells #[] 77);have B0:=((Below.refl w.heap.size w).al (.cells #[v] 32)).al (.cells #[] 77);have ow0:=own_mt (w.alloc (.cells #[v] 32)) (E:=77) (size:=2) (enc:=ePair) (w.heap.size+1) (by simp) w.heap.size (by simp);have hFS:=set_list rows;obtain⟨T,hT⟩:∃T,T=listRows rows:=⟨_,rfl⟩;have hTo:∀t∈T,t.length≤64:=fun t ht=>by rw[hT]at ht;exact list_mem_len ht
 have cL:∀(W:World),Rd 1 RInt W v rows→Calls Tryz.prog 159 #[.agg #[v]] W (RetLL T W):=fun W hW=>by rw[hT];exact listTilS_any v rows W hW
 have cI:∀(u:Value) (m:List Dm) (W:World),Rd 1 RInt W v rows→Rd 3 RDom W u m→Calls Tryz.prog 158 #[.agg #[v],u] W (Ret (.int .i64 (indexI T m)) W):=fun u m W h1 h2=>by rw[hT];exact indexS_any v u rows m W h1 h2
 rw[←hT]at hFS;have HT:=Lib.hid hT;have HFS:=Lib.hid hFS;have HTo:=Lib.hid hTo;have HCL:=Lib.hid cL;have HCI:=Lib.hid cI;have hsm:=hFS.sm;clear hT hFS hTo cL cI;go_enter Tryz.func85,Tryz.ntmps85
 have z0:=bX.c1;go_wp2_with fail
 refine(HCI.out _ a _ (h.below RE.stays B0) (ha.below RE.stays B0)).mono ?_;rintro e w1 ⟨rfl,hb1⟩;have B1:=B0.tr hb1;have bX1:=bX.bl hb1;have ow1:=ow0.below hb1;clear z0;have z0:=bX1.c1;go_wp2_with fail
 refine(HCI.out _ b _ (h.below RE.stays B1) (hb.below RE.stays B1)).mono ?_;rintro e w2 ⟨rfl,hb2⟩;have B2:=B1.tr hb2;have bX2:=bX1.bl hb2;have ow2:=ow1.below hb2;clear z0 ow0 ow1 bX bX1 B0 B1;by_cases hma:a∈T
 · rw[index_yes hma];obtain⟨hia,hia2⟩:=ix_mem hma;obtain⟨i,hi⟩:∃i,i=ix T a:=⟨_,rfl⟩;rw[←hi]at hia⊢;by_cases hmb:b∈T
   · rw[index_yes hmb];obtain⟨hkb,hkb2⟩:=ix_mem hmb;obtain⟨k,hk⟩:∃k,k=ix T b:=⟨_,rfl⟩;rw[←hk]at hkb⊢;have Hma:=Lib.hid hma;have Hmb:=Lib.hid hmb;have Hi:=Lib.hid hi;have Hk:=Lib.hid hk;clear hma hmb hi hk hia2 hkb2;have z0:=bX2.c1;go_wp2_with fail
     refine(HCL.out _ (h.below RE.stays B2)).mono ?_;rintro e w3 ⟨A,c,rfl,oT,hb3⟩;have B3:=B2.tr hb3;have ow3:=ow2.below hb3;go_wp2_with fail
     refine(linksS_any _ T _ oT HFS.out HTo.out).mono ?_;rintro e w4 ⟨A4,c4,rfl,oL,hb4⟩;have B4:=B3.tr hb4;have oT4:=oT.below hb4;have ow4:=ow3.below hb4;go_wp2_with fail
     refine(bfsS_any _ T (linkLL T T.length) k _ oL (adj_link T) HFS.out hkb).mono ?_;rintro e w5 ⟨⟨A5,c5,rfl,oD,hb5⟩,hD⟩;have B5:=B4.tr hb5;have oT5:=oT4.below hb5;have oL5:=oL.below hb5;have ow5:=ow4.below hb5;obtain⟨f,hf⟩:∃f,f=dist T k:=⟨_,rfl⟩;rw[←hf]at oD hD;rw[disL_len]at oD⊢;have hTp:0<T.length:=(by omega);obtain⟨gD,rfl,hgD,hgD2⟩:=oD.split (k:=0) (by rw[disL_len];exact hTp);have cI:=dis_cell oD hia;have hii:(i:Int)<(T.length:Int):=(by omega);obtain⟨vi,hvi⟩:∃z,z=f i:=⟨_,rfl⟩;rw[←hvi]at cI;have Hf:=Lib.hid hf;have HD:=Lib.hid hD;have HVI:=Lib.hid hvi;clear hf hD hvi bX2 z0 ow2 ow3 ow4 oT oT4 oL B2 B3 B4 hb3 hb4 hb5;by_cases hneg:vi<0
     · have HN := Lib.hid (way_no (rows := rows) (a := a) (b := b) (fun q => by
        have:=q.2.2;rw[←HT.out,←Hi.out,←Hk.out,←Hf.out,←HVI.out]at this;omega))
       go_wp2;refine bodyPost_ret (v:= .tuple #[.slice (some ⟨w.heap.size+1,0,none⟩) 0 0,.bool false]) (by simp[results,Tryz.results85,go_sem]) rfl ⟨some ⟨w.heap.size+1,0,none⟩,0,by rw[HN.out.1,HN.out.2];rfl,by rw[HN.out.2];exact ow5,B5⟩
     · have hwy := way_yes (rows := rows) (a := a) (b := b) (by rw [← HT.out]; exact Hma.out) (by rw [← HT.out]; exact Hmb.out) (by rw [← HT.out, ← Hi.out, ← Hk.out, ← Hf.out, ← HVI.out]; omega);rw[←HT.out,←Hi.out,←Hk.out,←Hf.out,←HVI.out]at hwy;obtain⟨W,hW⟩:∃W,W=wayL rows a b:=⟨_,rfl⟩;rw[←hW]at hwy;have hvm:=HD.out.top i;rw[←HVI.out]at hvm;obtain⟨m,rfl⟩:∃m:Nat,vi=m:=⟨vi.toNat,by omega⟩;have hm3:m≤300:=(by omega);have hwm:=hwy.2;rw[Int.toNat_natCast]at hwm;have HW:=Lib.hid hwy.1;have HWM:=Lib.hid hwm;have HWL:=Lib.hid hW;clear hwy hwm hW hneg hvm;go_wp2;clear cI;go_loopg [8,9] m (fun gk s8 s9 wr=>∃(i:Nat) (D:Option Addr) (d:Nat) (out:List Cl),i<T.length∧s9= .int .i64 i∧s8= .slice D out.length d∧OwnL 77 2 ePair w.heap.size wr (.slice D out.length d) out∧OwnLL 33 90 3 eDom 0 wr (.slice A T.length c) T∧OwnLL 22 3 1 eInt 0 wr (.slice A4 T.length c4) (linkLL T T.length)∧OwnL 3 1 eInt 0 wr (.slice (some ⟨gD,0,none⟩) T.length c5) (disL T.length f)∧Hid (f i=gk∧out++wayGo T f gk i=W)∧out.length+gk≤300∧Below w.heap.size w wr)
       case atStart=>exact⟨i,_,_,[],hia,rfl,rfl,ow5,oT5.mono (Nat.zero_le _),oL5.mono (Nat.zero_le _),oD.mono (Nat.zero_le _),Lib.hid ⟨HVI.out.symm,HWM.out.symm⟩,by simpa using hm3,B5⟩
       case round=>
        clear ow5 oT5 oL5 oD B5 hgD hgD2;obtain⟨i,D,d,out,hi,rfl,rfl,hown,oT,oL,oD,Hg,hol,hbel⟩:=hrel;by_cases hg0:gk=0
        · subst hg0;have hik:i=k:=HD.out.zero i (by have:=Hg.out.1;simpa using this);have hee:((i:Int) !=(k:Int))=false:=by rw[hik];exact bne_self_eq_false _
          have HO:Hid (out=W):=Lib.hid (by have:=Hg.out.2;rw[wayGo,List.append_nil]at this;exact this);clear hik;go_wp2;refine bodyPost_ret (v:= .tuple #[.slice D out.length d,.bool true]) (by simp[results,Tryz.results85,go_sem]) rfl ⟨D,d,by rw[HW.out,←HWL.out,HO.out],by rw[←HWL.out];have:=hown;rw[HO.out]at this;exact this,hbel⟩
        · obtain ⟨m', rfl⟩ : ∃ m', gk = m' + 1 := ⟨gk - 1, by omega⟩;have hstep:=step_some HFS.out HD.out (i:=i) (m:=m') (by have:=Hg.out.1;omega)
          have hne:((i:Int) !=(k:Int))=true:=by
           rw[bne_iff_ne];intro e;have e2:i=k:=(by omega);have:=Hg.out.1;rw[e2,HD.out.st]at this;omega
          have HS:=Lib.hid hstep;have hFi:f i=((m'+1:Nat):Int):=Hg.out.1;have HFi:=Lib.hid hFi;clear hstep hg0 hFi;have hiI:(i:Int)<(T.length:Int):=(by omega);obtain⟨gT,D1,d1,hAe,_,hgT,cT,tk⟩:=oT.pick hi;subst hAe;obtain⟨l,hl⟩:∃l,l=til T i:=⟨_,rfl⟩;rw[←til_at hi,←hl]at cT tk;have HL:=Lib.hid hl;clear hl;go_wp2_with fail
          refine(flipsS_any _ l _ (tk.rd lenDom (by decide))).mono ?_;rintro e w7 ⟨A8,c8,rfl,oF,hb7⟩;have hfl:=flips_len l;obtain⟨F,hF⟩:∃F,F=flips l:=⟨_,rfl⟩;rw[←hF]at oF hfl⊢;have HF2:=Lib.hid hF;have own7:=hown.below hb7;have oT7:=oT.below hb7;have oL7:=oL.below hb7;have oD7:=oD.below hb7;have B7:=hbel.tr hb7;obtain⟨hil,hil2⟩:=linkLL_at hi;obtain⟨gL,DL,dL,hAL,_,hgL,cL,oN⟩:=oL7.pickN hil;subst hAL;rw[hil2]at cL oN;have hNl:(linkL T i).length=F.length:=by unfold linkL;rw[List.length_map,←HL.out,←HF2.out]
          rw[hNl]at cL oN;have HNl:=Lib.hid hNl;have HIL:=Lib.hid hil;have HIL2:=Lib.hid hil2;clear hF hown oT oL oD hbel hb7 tk cT hil2 hNl;go_wp2;go_loopw [8,9,15] (fun s8 s9 s15 wr=>∃(t:Nat),t≤F.length∧s9= .int .i64 i∧s8= .slice D out.length d∧s15= .int .i64 t∧Hid (∀j (hj:j<t) (h':j<F.length),¬f (nextI T i F[j])=f i-1)∧Below w7.heap.size w7 wr) (fun _ _ x _=>F.length-(intOf x).toNat)
          case atStart=>exact⟨0,Nat.zero_le _,rfl,rfl,rfl,Lib.hid (fun j hj=>by omega),Below.refl _ _⟩
          case round=>
           obtain⟨t,ht,rfl,rfl,rfl,Hn,hbel⟩:=hrel;by_cases hlt:t<F.length
           · have oF2:=oF.below hbel;obtain⟨bk,off,rfl,hbk,q0,q1⟩:=(oF2.rd lenCell (by decide)).atPair hlt;obtain⟨xy,hxy⟩:∃xy,xy=F[t]:=⟨_,rfl⟩;have hmem:xy∈flips l:=by rw[hxy,←HF2.out];exact List.getElem_mem hlt
             have hlt':t<(flips (til T i)).length:=by rw[←HL.out,←HF2.out];exact hlt
             have hFt:(flips (til T i))[t]=xy:=by
              have:∀(G:List Cl),G=F→∀h:t<G.length,G[t]=xy:=fun G e h=>by subst e;exact hxy.symm
              exact this _ (by rw[←HL.out,←HF2.out]) hlt'
             rw[←hxy]at q0 q1;obtain⟨x,y⟩:=xy;simp only at q0 q1;have hkd:¬kindOf l (x,y)=0:=mem_flips.1 hmem
             have hnT:flipTo l (x,y)∈T:=by
              have:=(HFS.out.cl _ (List.getElem_mem hi) (x,y) (by rw[←til_at hi,←HL.out];exact hkd)).1;rw[←til_at hi,←HL.out]at this;exact this
             obtain⟨hat,hat2⟩:=ix_mem hnT;obtain⟨at_,hat3⟩:∃z,z=ix T (flipTo l (x,y)):=⟨_,rfl⟩;have hnx:nextI T i (x,y)=at_:=by unfold nextI;rw[←HL.out,hat3]
             rw[←hat3]at hat;obtain⟨hlk,hlk2⟩:=linkL_at hlt';have hlv:(linkL T i)[t]=(at_:Int):=by rw[hlk2,hFt];unfold linkI;rw[←HL.out,←hat3]
             have oN2:=oN.below hbel;obtain⟨bL,offL,hDe,hbL,cN⟩:=(oN2.rd lenInt (by decide)).atInt hlk;rw[hlv]at cN;have cL2:=(hbel.cell (p:=⟨gL,i,none⟩) hgL).trans cL;rw[hDe]at cL2;have oD2:=oD7.below hbel;have cT:=dis_cell oD2 hat;have cI:=dis_cell oD2 hi;have hti:(t:Int)<(F.length:Int):=(by omega);have hatI:(at_:Int)<(T.length:Int):=(by omega);obtain⟨va,hva⟩:∃z,z=f at_:=⟨_,rfl⟩;rw[←hva]at cT;rw[HFi.out]at cI;have HVA:=Lib.hid hva;have HXY:=Lib.hid hxy;have HNX:=Lib.hid hnx;have HFT:=Lib.hid hFt;have HLT:=Lib.hid hlt';have HLK:=Lib.hid hlk;have HLV:=Lib.hid hlv;have hvb: -1≤va:=by rw[hva];exact HD.out.low _
             have BO:=B7.tr hbel;have ownA:=own7.below hbel;clear hva hxy hnx hFt hmem hkd hnT hat2 hat3 hlk2 hlv oN2 oF2;by_cases hve:va=(m':Int)
             · subst hve;have H8:Hid ((out.length+1)*16≤140737488355328):=Lib.hid (by omega);have HM:Hid (out.length+1≤maxLen):=Lib.hid (by unfold maxLen;omega)
               have HG : Hid (f at_ = (m' : Int) ∧ (out ++ [(x, y)]) ++ wayGo T f m' at_ = W) := Lib.hid (by
                have hs := stepC_first (f := f) HLT.out (fun j hj h' => by
                 have hj2:j<F.length:=(by omega);have:=Hn.out j hj hj2
                 have e:(flips (til T i))[j]=F[j]:=by
                  have:∀(G:List Cl),G=F→∀h:j<G.length,G[j]=F[j]:=fun G e h=>by subst e;rfl
                  exact this _ (by rw[←HL.out,←HF2.out]) h'
                 rw[e];exact this) (by rw[HFT.out,HNX.out,←HVA.out,HFi.out];omega)
                rw[HFT.out]at hs;refine⟨HVA.out.symm,?_⟩;have h2:=Hg.out.2;rw[way_succ hs,HNX.out]at h2;rw[←h2];simp)
               go_wp2_with fail
               go_quiet (fail)
               have hkeep : ∀ wB, ((wr.drewN nq).alloc (.cells (ePair (x, y)).toArray 77)).grownBy wB (Value.slice D out.length d).ownBlock → ∃ (dL2 bL2 offL2 : Nat), wB.cell? ⟨gL, i, none⟩ = some (.slice (some ⟨bL2, offL2, none⟩) F.length dL2) ∧ wB.cell? ⟨bL2, offL2 + t, none⟩ = some (.int .i64 at_) := fun wB hgB => by
                have oXB:=((ownA.below (below_drewN (Below.refl _ _) nq)).alloc (.cells (ePair (x,y)).toArray 77));have oLB:=OwnLL.keptF ((oL7.below (below_drewN hbel nq)).alloc (.cells (ePair (x,y)).toArray 77)) oXB (by decide) (by decide) hgB;obtain⟨gL2,DL2,dL2,hA2,_,_,cLB,oNB⟩:=oLB.pickN HIL.out;have hg2:gL=gL2:=by injection hA2 with hA2;injection hA2
                subst hg2;rw[HIL2.out,HNl.out]at cLB oNB;obtain⟨bL2,offL2,hDe2,hbL2,cNB⟩:=(oNB.rd lenInt (by decide)).atInt HLK.out;rw[HLV.out]at cNB;rw[hDe2]at cLB;exact⟨dL2,bL2,offL2,cLB,cNB⟩
               have HKeep:=Lib.hid hkeep;clear hkeep;go_wp2_with (at_builtin;go_must (refine wpList_app1b (enc:=ePair) rowCell lenCell oneCell (below_drewN BO _) (ownA.below (below_drewN (Below.refl _ _) _)) ((x,y):Cl) H8.out HM.out (by simp) rfl _ _ rfl rfl rfl ?_);intro vB wB ownB hbB hgB hdB;obtain⟨AB,cB,rfl,hcB,hmB⟩:=ownB.form;obtain⟨dL2,bL2,offL2,cLB,cNB⟩:=HKeep.out _ hgB)
               have oXB:=((ownA.below (below_drewN (Below.refl _ _) nq)).alloc (.cells (ePair (x,y)).toArray 77));have oLB:=OwnLL.keptF ((oL7.below (below_drewN hbel nq)).alloc (.cells (ePair (x,y)).toArray 77)) oXB (by decide) (by decide) hgB;have oTB:=OwnLL.keptF ((oT7.below (below_drewN hbel nq)).alloc (.cells (ePair (x,y)).toArray 77)) oXB (by decide) (by decide) hgB;have oDB:=OwnL.keptF ((oD7.below (below_drewN hbel nq)).alloc (.cells (ePair (x,y)).toArray 77)) oXB (by decide) hgB;go_roundg m'
               case measure=>omega
               case rel=>exact⟨at_,AB,cB,out++[(x,y)],hat,rfl,by simp,ownB,oTB,oLB,oDB,HG,by simp;omega,hbB⟩
             · go_wp2_with fail
               go_quiet (fail)
               go_wp2;go_roundw
               case rel => exact ⟨t + 1, by omega, rfl, rfl, by go_num, Lib.hid (fun j hj h' => by
                rcases(by omega:j<t∨j=t)with h1|h1
                · exact Hn.out j h1 h'
                · subst h1;rw[←HXY.out,HNX.out,←HVA.out,HFi.out];omega),below_drewN hbel _⟩
               case measure=>simp[intOf];omega
           · obtain rfl : t = F.length := by omega
             exfalso;obtain⟨c,h1,h2,h3,_,_⟩:=HS.out;have h4:=List.mem_of_find?_eq_some h1;rw[←HL.out,←HF2.out]at h4;obtain⟨j,hj,e⟩:=List.getElem_of_mem h4;refine Hn.out j hj hj ?_;rw[e,h3,HFi.out];omega
   · rw[index_no hmb];have HN:=Lib.hid (way_no (rows:=rows) (a:=a) (b:=b) (fun q=>hmb (by rw[HT.out];exact q.2.1)));go_wp2;refine bodyPost_ret (v:= .tuple #[.slice (some ⟨w.heap.size+1,0,none⟩) 0 0,.bool false]) (by simp[results,Tryz.results85,go_sem]) rfl ⟨some ⟨w.heap.size+1,0,none⟩,0,by rw[HN.out.1,HN.out.2];rfl,by rw[HN.out.2];exact ow2,B2⟩
 · rw[index_no hma];have HN:=Lib.hid (way_no (rows:=rows) (a:=a) (b:=b) (fun q=>hma (by rw[HT.out];exact q.1)));go_wp2;refine bodyPost_ret (v:= .tuple #[.slice (some ⟨w.heap.size+1,0,none⟩) 0 0,.bool false]) (by simp[results,Tryz.results85,go_sem]) rfl ⟨some ⟨w.heap.size+1,0,none⟩,0,by rw[HN.out.1,HN.out.2];rfl,by rw[HN.out.2];exact ow2,B2⟩
end Go.Proofs.YtfdbcihcdjjdhaaGreatDoor
