/- The shortest way of flips, of the program: the walk. Conditions: the library's table of powers, as its text lays it. -/
import Derived.Test.YtfdbcihcdjjdhaaGreatDoorYG26
import Derived.Test.YtfdbcihcdjjdhaaGreatDoorYListI
import Derived.Test.YtfdbcihcdjjdhaaGreatDoorYCopyDm
import Derived.Test.YtfdbcihcdjjdhaaGreatDoorYG24
namespace Go.Proofs.YtfdbcihcdjjdhaaGreatDoor
open Go.ChangeShapes Go.WideShapes Go.ChangeAt Go.RowKit
set_option linter.unusedVariables false
set_option linter.unusedSimpArgs false
set_option maxHeartbeats 4000000
set_option maxRecDepth 100000
theorem find_first {α : Type} {p : α → Bool} : ∀ {l : List α} {t : Nat} (h : t < l.length), (∀ j (hj : j < t), p (l[j]'(by omega)) = false) → p l[t] = true → l.find? p = some l[t]
  |[],t,h,_,_=>by simp at h
  | a :: l, 0, h, _, e => by
   have e':p a=true:=e;rw[List.find?_cons_of_pos e'];rfl
  | a :: l, t + 1, h, hn, e => by
   have e1:p a=false:=hn 0 (Nat.succ_pos _);rw[List.find?_cons_of_neg (by rw[e1];decide)];exact find_first (by simpa using h) (fun j hj=>hn (j+1) (by omega)) e
theorem index_yes {T:List (List Dm)} {m:List Dm} (h:m∈T):indexI T m=((ix T m:Nat):Int):=if_pos h
theorem index_no {T:List (List Dm)} {m:List Dm} (h:¬m∈T):indexI T m= -1:=if_neg h
theorem way_no {rows:List Int} {a b:List Dm} (h:¬(a∈listRows rows∧b∈listRows rows∧0≤dist (listRows rows) (ix (listRows rows) b) (ix (listRows rows) a))):wayB rows a b=false∧wayL rows a b=[]:=by
 have e:wayB rows a b=false:=by
  rw[Bool.eq_false_iff];intro q;unfold wayB at q;simp only[Bool.and_eq_true,decide_eq_true_eq]at q;exact h ⟨q.1.1,q.1.2,q.2⟩
 exact⟨e,by unfold wayL;rw[e];rfl⟩
theorem way_yes {rows:List Int} {a b:List Dm} (h1:a∈listRows rows) (h2:b∈listRows rows) (h3:0≤dist (listRows rows) (ix (listRows rows) b) (ix (listRows rows) a)):wayB rows a b=true∧wayL rows a b=wayGo (listRows rows) (dist (listRows rows) (ix (listRows rows) b)) (dist (listRows rows) (ix (listRows rows) b) (ix (listRows rows) a)).toNat (ix (listRows rows) a):=by
 have e:wayB rows a b=true:=by
  unfold wayB;simp only[Bool.and_eq_true,decide_eq_true_eq];exact⟨⟨h1,h2⟩,h3⟩
 exact⟨e,by unfold wayL;rw[if_pos e]⟩
theorem stepC_first {T:List (List Dm)} {f:Nat→Int} {i t:Nat} (h:t<(flips (til T i)).length) (hn:∀j (hj:j<t) (h':j<(flips (til T i)).length),¬f (nextI T i (flips (til T i))[j])=f i-1) (he:f (nextI T i (flips (til T i))[t])=f i-1):stepC T f i=some (flips (til T i))[t]:=by
 unfold stepC;exact find_first h (fun j hj=>by rw[decide_eq_false_iff_not];exact hn j hj (by omega)) (decide_eq_true he)
theorem wayI_any (v va vb:Value) (rows:List Int) (a b:List Dm) (w:World) (h:Rd 1 RInt w v rows) (ha:Rd 3 RDom w va a) (hb:Rd 3 RDom w vb b) (ht:Tab w):Calls Tryz.prog 90 #[.agg #[v],va,vb] w (RetOwnB 77 2 ePair (wayL rows a b) (wayB rows a b) w):=by
 have B0:=(Below.refl w.heap.size w).al (.cells #[v] 32);obtain⟨Aa,ca,rfl,_,_⟩:=ha.form;obtain⟨Ab,cb,rfl,_,_⟩:=hb.form;have hFS:=set_list rows;obtain⟨T,hT⟩:∃T,T=listRows rows:=⟨_,rfl⟩;have hTo:∀t∈T,(∀d∈t,domOk d=true)∧t.length≤64:=fun t ht=>by rw[hT]at ht;exact⟨list_ok ht,list_mem_len ht⟩
 have cL:∀(W:World),Rd 1 RInt W v rows→Calls Tryz.prog 166 #[.agg #[v]] W (RetLL T W):=fun W hW=>by rw[hT];exact listI_any v rows W hW
 rw[←hT]at hFS;have HTt:=Lib.hid ht;have HT:=Lib.hid hT;have HFS:=Lib.hid hFS;have HTo:=Lib.hid hTo;have HCL:=Lib.hid cL;have hsm:=hFS.sm;clear ht hT hFS hTo cL;go_enter Tryz.func90,Tryz.ntmps90
 go_wp2_with fail
 refine(HCL.out _ (h.below RE.stays B0)).mono ?_;rintro e w1 ⟨A,c,rfl,oT,hb1⟩;have B1:=B0.tr hb1;have oT:=oT.mono B0.size;go_wp2_with fail
 refine(indexI_any _ _ T a _ oT (ha.below RE.stays B1)).mono ?_;rintro e w2 ⟨rfl,hb2⟩;have B2:=B1.tr hb2;have oT:=oT.below hb2;go_wp2_with fail
 refine(indexI_any _ _ T b _ oT (hb.below RE.stays B2)).mono ?_;rintro e w3 ⟨rfl,hb3⟩;have B3:=B2.tr hb3;have oT:=oT.below hb3;by_cases hma:a∈T
 · rw[index_yes hma];obtain⟨hia,hia2⟩:=ix_mem hma;obtain⟨i,hi⟩:∃i,i=ix T a:=⟨_,rfl⟩;rw[←hi]at hia⊢;have hti:til T i=a:=by rw[til_at hia];have:=hia2;simp only[←hi]at this;exact this
   by_cases hmb:b∈T
   · rw[index_yes hmb];obtain⟨hkb,hkb2⟩:=ix_mem hmb;obtain⟨k,hk⟩:∃k,k=ix T b:=⟨_,rfl⟩;rw[←hk]at hkb⊢;have Hma:=Lib.hid hma;have Hmb:=Lib.hid hmb;have Hi:=Lib.hid hi;have Hk:=Lib.hid hk;have HTI:=Lib.hid hti;have hsa:Small a.length:=by have:=(HTo.out a hma).2;unfold Small;omega
     clear hma hmb hi hk hti hia2 hkb2;go_wp2_with fail
     refine(nearI_any _ T _ oT HFS.out HTo.out (HTt.out.below B3)).mono ?_;rintro e w4 ⟨A4,c4,rfl,oN,hb4⟩;have B4:=B3.tr hb4;have oT4:=oT.below hb4;go_wp2_with fail
     refine(bfsI_any _ T (nearLL T T.length) k _ oN (adj_near T) HFS.out hkb).mono ?_;rintro e w5 ⟨⟨A5,c5,rfl,oD,hb5⟩,hD⟩;have B5:=B4.tr hb5;have oT5:=oT4.below hb5;obtain⟨f,hf⟩:∃f,f=dist T k:=⟨_,rfl⟩;rw[←hf]at oD hD;rw[disL_len]at oD⊢;have hTp:0<T.length:=(by omega);obtain⟨gD,rfl,hgD,hgD2⟩:=oD.split (k:=0) (by rw[disL_len];exact hTp);have cI:=dis_cell oD hia;have hii:(i:Int)<(T.length:Int):=(by omega);obtain⟨vi,hvi⟩:∃z,z=f i:=⟨_,rfl⟩;rw[←hvi]at cI;have Hf:=Lib.hid hf;have HD:=Lib.hid hD;have HVI:=Lib.hid hvi;clear hf hD hvi;by_cases hneg:vi<0
     · have HN := Lib.hid (way_no (rows := rows) (a := a) (b := b) (fun q => by
        have:=q.2.2;rw[←HT.out,←Hi.out,←Hk.out,←Hf.out,←HVI.out]at this;omega))
       go_wp2;refine bodyPost_ret (v:= .tuple #[.slice none 0 0,.bool false]) (by simp[results,Tryz.results90,go_sem]) rfl ⟨none,0,by rw[HN.out.1,HN.out.2];rfl,by rw[HN.out.2];exact OwnL.nil_,B5⟩
     · have hwy := way_yes (rows := rows) (a := a) (b := b) (by rw [← HT.out]; exact Hma.out) (by rw [← HT.out]; exact Hmb.out) (by rw [← HT.out, ← Hi.out, ← Hk.out, ← Hf.out, ← HVI.out]; omega);rw[←HT.out,←Hi.out,←Hk.out,←Hf.out,←HVI.out]at hwy;obtain⟨W,hW⟩:∃W,W=wayL rows a b:=⟨_,rfl⟩;rw[←hW]at hwy⊢;have hvm:=HD.out.top i;rw[←HVI.out]at hvm;obtain⟨m,rfl⟩:∃m:Nat,vi=m:=⟨vi.toNat,by omega⟩;have hm3:m≤300:=(by omega);have hwm:=hwy.2;rw[Int.toNat_natCast]at hwm;have HW:=Lib.hid hwy.1;have HWM:=Lib.hid hwm;have HWL:=Lib.hid hW;have ow0:=own_mt w5 (E:=77) (size:=2) (enc:=ePair) w5.heap.size rfl w5.heap.size (Nat.le_refl _);have BM:=(Below.refl w5.heap.size w5).al (.cells #[] 77);clear hwy hwm hW hneg hvm;go_wp2_with fail
       refine(copyDomsI_any _ a _ (ha.below RE.stays (B5.tr BM)) hsa).mono ?_;rintro e w6 ⟨A6,c6,rfl,oA,hb6⟩;have B6:=BM.tr hb6;have ow1:=ow0.below hb6;have oA1:=oA.mono BM.size;rw[←HTI.out]at oA1;go_wp2;clear cI;go_loopg [9,12,13] m (fun gk s9 s12 s13 wr=>∃(i:Nat) (D:Option Addr) (d:Nat) (A7:Option Addr) (c7:Nat) (out:List Cl),i<T.length∧s9= .int .i64 i∧s12= .slice D out.length d∧OwnL 77 2 ePair w5.heap.size wr (.slice D out.length d) out∧s13= .slice A7 (til T i).length c7∧OwnL 90 3 eDom w5.heap.size wr (.slice A7 (til T i).length c7) (til T i)∧Hid (f i=gk∧out++wayGo T f gk i=W)∧out.length+gk≤300∧Below w5.heap.size w5 wr)
       case atStart=>exact⟨i,_,_,_,_,[],hia,rfl,rfl,ow1,by rw[HTI.out],oA1,Lib.hid ⟨HVI.out.symm,HWM.out.symm⟩,by simpa using hm3,B6⟩
       case round=>
        clear ow0 BM B6 ow1 oA1 oA hb6;obtain⟨i,D,d,A7,c7,out,hi,rfl,rfl,hown,rfl,hnow,Hg,hol,hbel⟩:=hrel;by_cases hg0:gk=0
        · subst hg0;have hik:i=k:=HD.out.zero i (by have:=Hg.out.1;simpa using this);have hee:((i:Int) !=(k:Int))=false:=by rw[hik];exact bne_self_eq_false _
          have HO:Hid (out=W):=Lib.hid (by have:=Hg.out.2;rw[wayGo,List.append_nil]at this;exact this);clear hik;go_wp2;refine bodyPost_ret (v:= .tuple #[.slice D out.length d,.bool true]) (by simp[results,Tryz.results90,go_sem]) rfl ⟨D,d,by rw[HW.out,←HWL.out,HO.out],by rw[←HWL.out];have:=hown.mono B5.size;rw[HO.out]at this;exact this,B5.tr hbel⟩
        · obtain ⟨m', rfl⟩ : ∃ m', gk = m' + 1 := ⟨gk - 1, by omega⟩;have hstep:=step_some HFS.out HD.out (i:=i) (m:=m') (by have:=Hg.out.1;omega)
          have hne:((i:Int) !=(k:Int))=true:=by
           rw[bne_iff_ne];intro e;have e2:i=k:=(by omega);have:=Hg.out.1;rw[e2,HD.out.st]at this;omega
          have HS:=Lib.hid hstep;have hFi:f i=((m'+1:Nat):Int):=Hg.out.1;have HFi:=Lib.hid hFi;clear hstep hg0 hFi;have hlen64:(til T i).length≤64:=by rw[til_at hi];exact(HTo.out _ (List.getElem_mem hi)).2
          have hsl:Small (til T i).length:=by unfold Small;omega
          obtain⟨l,hl⟩:∃l,l=til T i:=⟨_,rfl⟩;rw[←hl]at hnow hsl hlen64⊢;have HL:=Lib.hid hl;clear hl;go_wp2_with fail
          refine(flipsI_any _ l _ (hnow.rd lenDom (by decide))).mono ?_;rintro e w7 ⟨A8,c8,rfl,oF,hb7⟩;have hfl:=flips_len l;obtain⟨F,hF⟩:∃F,F=flips l:=⟨_,rfl⟩;rw[←hF]at oF hfl⊢;have HF2:=Lib.hid hF;have own7:=hown.below hb7;have now7:=hnow.below hb7;have B7:=hbel.tr hb7;clear hF hown hnow hbel hb7;go_wp2;go_loopw [9,12,13,51] (fun s9 s12 s13 s51 wr=>∃(t:Nat),t≤F.length∧s9= .int .i64 i∧s12= .slice D out.length d∧s13= .slice A7 l.length c7∧s51= .int .i64 t∧Hid (∀j (hj:j<t) (h':j<F.length),¬f (nextI T i F[j])=f i-1)∧Below w7.heap.size w7 wr) (fun _ _ _ x _=>F.length-(intOf x).toNat)
          case atStart=>exact⟨0,Nat.zero_le _,rfl,rfl,rfl,rfl,Lib.hid (fun j hj=>by omega),Below.refl _ _⟩
          case round=>
           obtain⟨t,ht,rfl,rfl,rfl,rfl,Hn,hbel⟩:=hrel;by_cases hlt:t<F.length
           · have oF2:=oF.below hbel;obtain⟨bk,off,rfl,hbk,q0,q1⟩:=(oF2.rd lenCell (by decide)).atPair hlt;obtain⟨xy,hxy⟩:∃xy,xy=F[t]:=⟨_,rfl⟩;have hmem:xy∈flips l:=by rw[hxy,←HF2.out];exact List.getElem_mem hlt
             rw[←hxy]at q0 q1;obtain⟨x,y⟩:=xy;simp only at q0 q1;have hkd:¬kindOf l (x,y)=0:=mem_flips.1 hmem
             have hnT:flipTo l (x,y)∈T:=by
              have:=(HFS.out.cl _ (List.getElem_mem hi) (x,y) (by rw[←til_at hi,←HL.out];exact hkd)).1;rw[←til_at hi,←HL.out]at this;exact this
             obtain⟨hat,hat2⟩:=ix_mem hnT;obtain⟨at_,hat3⟩:∃z,z=ix T (flipTo l (x,y)):=⟨_,rfl⟩;have hnx:nextI T i (x,y)=at_:=by unfold nextI;rw[←HL.out,hat3]
             have hti:(t:Int)<(F.length:Int):=(by omega);have B8:=hbel.al (.cells #[.int .i64 x,.int .i64 y] 77);have b8:=Blk.new_ wr 77 #[.int .i64 x,.int .i64 y];have now8:=now7.below B8;have HNT:=Lib.hid hnT;have HKD:=Lib.hid hkd;have HXY:=Lib.hid hxy;have HMem:=Lib.hid hmem;have HNX:=Lib.hid hnx;rw[←hat3]at hat;have hat2':til T at_=flipTo l (x,y):=by rw[til_at hat];have:=hat2;simp only[←hat3]at this;exact this
             have HA2:=Lib.hid hat2';have HA3:=Lib.hid hat3;clear hnT hkd hxy hmem hnx hat2 hat2' hat3 oF2;go_wp2_with fail
             refine(flipAtI_yes _ l x y _ (now8.rd lenDom (by decide)) hsl HKD.out).mono ?_;rintro e w9 ⟨A9,c9,rfl,oN,hb9⟩;have B9:=B8.tr hb9;have b9:=b8.bl hb9;have oT9:=(oT5.below B7).below B9;obtain⟨N,hN⟩:∃N,N=flipTo l (x,y):=⟨_,rfl⟩;rw[←hN]at oN HNT HA2 HA3⊢;clear hN;go_wp2_with fail
             refine(indexI_any _ _ T N _ oT9 (oN.rd lenDom (by decide))).mono ?_;rintro e wA ⟨rfl,hbA⟩;rw[index_yes HNT.out,←HA3.out];have BA:=B9.tr hbA;have bA:=b9.bl hbA;have oDA:=(oD.below B7).below BA;have cT:=dis_cell oDA hat;have cI:=dis_cell oDA hi;have hatI:(at_:Int)<(T.length:Int):=(by omega);have hiI:(i:Int)<(T.length:Int):=(by omega);obtain⟨va,hva⟩:∃z,z=f at_:=⟨_,rfl⟩;rw[←hva]at cT;rw[HFi.out]at cI;have HVA:=Lib.hid hva;clear hva;have hvb: -1≤va:=by rw[HVA.out];exact HD.out.low _
             have BO:=B7.tr BA;have ownA:=own7.below BA;obtain⟨k_0,k_1⟩:=bA.n2;by_cases hve:va=(m':Int)
             · subst hve;have H8:Hid ((out.length+1)*16≤140737488355328):=Lib.hid (by omega);have HM:Hid (out.length+1≤maxLen):=Lib.hid (by unfold maxLen;omega)
               have HG : Hid (f at_ = (m' : Int) ∧ (out ++ [(x, y)]) ++ wayGo T f m' at_ = W) := Lib.hid (by
                have hlt':t<(flips (til T i)).length:=by rw[←HL.out,←HF2.out];exact hlt
                have hFt:(flips (til T i))[t]=(x,y):=by
                 have:∀(G:List Cl),G=F→∀h:t<G.length,G[t]=(x,y):=fun G e h=>by subst e;exact HXY.out.symm
                 exact this _ (by rw[←HL.out,←HF2.out]) hlt'
                have hs := stepC_first (f := f) hlt' (fun j hj h' => by
                 have hj2:j<F.length:=(by omega);have:=Hn.out j hj hj2
                 have e:(flips (til T i))[j]=F[j]:=by
                  have:∀(G:List Cl),G=F→∀h:j<G.length,G[j]=F[j]:=fun G e h=>by subst e;rfl
                  exact this _ (by rw[←HL.out,←HF2.out]) h'
                 rw[e];exact this) (by rw[hFt,HNX.out,←HVA.out,HFi.out];omega)
                rw[hFt]at hs;refine⟨HVA.out.symm,?_⟩;have h2:=Hg.out.2;rw[way_succ hs,HNX.out]at h2;rw[←h2];simp)
               go_wp2_with fail
               go_quiet (fail)
               go_wp2_with (at_builtin;go_must (refine wpList_app1b (enc:=ePair) rowCell lenCell oneCell (below_drewN BO _) (ownA.below (below_drewN (Below.refl _ _) _)) ((x,y):Cl) H8.out HM.out (by simp) rfl _ _ rfl rfl rfl ?_);intro vB wB ownB hbB hgB hdB;obtain⟨AB,cB,rfl,hcB,hmB⟩:=ownB.form)
               go_roundg m'
               case measure=>omega
               case rel=>
                have oNA:=(oN.below hbA).below (below_drewN (Below.refl _ _) nq);have oNB:=OwnL.keptF (oNA.alloc (.cells (ePair (x,y)).toArray 77)) ((ownA.below (below_drewN (Below.refl _ _) nq)).alloc (.cells (ePair (x,y)).toArray 77)) (by decide) hgB;have hsB:w5.heap.size≤(wr.alloc (.cells #[.int .i64 x,.int .i64 y] 77)).heap.size:=(B7.tr B8).size;have oNC:=oNB.mono hsB;rw[←HA2.out]at oNC⊢;exact⟨at_,AB,cB,A9,c9,out++[(x,y)],hat,rfl,by simp,ownB,rfl,oNC,HG,by simp;omega,hbB⟩
             · go_wp2_with fail
               go_quiet (fail)
               go_wp2;go_roundw
               case rel => exact ⟨t + 1, by omega, rfl, rfl, rfl, by go_num, Lib.hid (fun j hj h' => by
                rcases(by omega:j<t∨j=t)with h1|h1
                · exact Hn.out j h1 h'
                · subst h1;rw[←HXY.out,HNX.out,←HVA.out,HFi.out];omega),below_drewN BA _⟩
               case measure=>simp[intOf];omega
           · obtain rfl : t = F.length := by omega
             exfalso;obtain⟨c,h1,h2,h3,_,_⟩:=HS.out;have h4:=List.mem_of_find?_eq_some h1;rw[←HL.out,←HF2.out]at h4;obtain⟨j,hj,e⟩:=List.getElem_of_mem h4;refine Hn.out j hj hj ?_;rw[e,h3,HFi.out];omega
   · rw[index_no hmb];have HN:=Lib.hid (way_no (rows:=rows) (a:=a) (b:=b) (fun q=>hmb (by rw[HT.out];exact q.2.1)));go_wp2;refine bodyPost_ret (v:= .tuple #[.slice none 0 0,.bool false]) (by simp[results,Tryz.results90,go_sem]) rfl ⟨none,0,by rw[HN.out.1,HN.out.2];rfl,by rw[HN.out.2];exact OwnL.nil_,B3⟩
 · rw[index_no hma];have HN:=Lib.hid (way_no (rows:=rows) (a:=a) (b:=b) (fun q=>hma (by rw[HT.out];exact q.1)));go_wp2;refine bodyPost_ret (v:= .tuple #[.slice none 0 0,.bool false]) (by simp[results,Tryz.results90,go_sem]) rfl ⟨none,0,by rw[HN.out.1,HN.out.2];rfl,by rw[HN.out.2];exact OwnL.nil_,B3⟩
end Go.Proofs.YtfdbcihcdjjdhaaGreatDoor
