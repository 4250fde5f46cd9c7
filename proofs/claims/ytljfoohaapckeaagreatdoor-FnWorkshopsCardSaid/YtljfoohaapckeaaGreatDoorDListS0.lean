/- Appends in drawn regions; the cells that a head leaves, by the reference. No conditions but sizes. -/
import Derived.Test.YtljfoohaapckeaaGreatDoorDListSt
import Derived.Test.YtljfoohaapckeaaGreatDoorDFreeS
import Derived.Test.YtljfoohaapckeaaGreatDoorDG6
import Derived.Test.YtljfoohaapckeaaGreatDoorDK4
namespace Go.Proofs.YtljfoohaapckeaaGreatDoor
open Go.ChangeShapes Go.WideShapes Go.ChangeAt Go.RowKit
set_option linter.unusedVariables false
set_option linter.unusedSimpArgs false
set_option maxHeartbeats 4000000
set_option maxRecDepth 100000
section
variable {P : Program} {ops : Array Oper} {o : Oper} {a : Act} {w : World} {K : Act -> World -> Prop} {Q : Exit -> Act -> World -> Prop} {E' : Prop} {t E : TypeId} {z : Value} {size bytes : Nat} {α : Type} {enc : α -> List Value} {B : Nat} {v : Value} {l : List α}
theorem jK (R:Row P t E z size bytes) (henc:∀x,(enc x).length=size) (hB:B<=w.heap.size) (hown:aC E size enc B w v l) (y:α) (h1:∀u∈enc y,u.oneCell'=true) {g:Nat} (hb:Blk w g E (enc y).toArray)
    (hlen:(l.length+1)*bytes<=140737488355328) (hlen2:l.length+1<=maxLen) (hgd:o.guard=none)
    (s x:Operand) (ho:o.op= .call {callee:= .builtin .append,args:= #[s,x],argTypes:= #[t,t]})
    (hs:a.eval s=v) (hx:a.eval x= .slice (some ⟨g,0,none⟩) 1 1)
    (h:∀A c w',aC E size enc B w' (.slice A (l.length+1) c) (l++[y])->w.grownBy w' v.ownBlock->K (a.put o.dst (.slice A (l.length+1) c)) w'):
    if Region.wanted o (yielded ops a.tmps)=true then Oper.wp P o a w K Q else E':=by
 have hw:Region.wanted o (yielded ops a.tmps)=true:=(by simp[Region.wanted,hgd]);rw[if_pos hw];obtain⟨ht,hinfo,hzs,hsz⟩:=R;obtain⟨i0,hi,hz0,hz1,hz2⟩:=info_parts hinfo
 obtain⟨v',w',hrun,h2,h3,_,h5⟩:=run_append_own_at (P:=P) w B t o.type E i0 z size bytes ht hi hz0 hz1 hz2 hzs hsz v l.length (l.flatMap enc) hown
   ⟨g, 0, none⟩ 1 1 (enc y) (by rw [henc]; omega) (fun j u hj => by
    have:=hb.cell j;rw[List.getElem?_toArray,hj]at this
    have e:(Addr.mk g 0 none).add j=⟨g,j,none⟩:=by
     unfold Addr.add;split
     . simp_all
     . simp
    rw[e];exact this) h1 hlen2 hlen hB
 unfold Oper.wp execOp;simp only[ho,resolve,invoke,builtin,Sem.run_bind,Sem.run_pure,Result.andThen_ok,List.map_toArray,List.map_cons,List.map_nil,hs,hx,hrun]
 have hO:aC E size enc B w' v' (l++[y]):=by
  unfold aC;rw[List.length_append,List.flatMap_append,List.length_singleton];simpa using h2
 obtain⟨A,c,e,_⟩:=hO.form;rw[List.length_append,List.length_singleton]at e;subst e;exact h A c w' hO h3
theorem nK (R:Row P t E z 1 bytes) {us us2:List Value} (hB:B<=w.heap.size) (hown:aC E 1 eV B w v us) {A:Option Addr} {c:Nat} (hm:Rd 1 (RE eV) w (.slice A us2.length c) us2) (h1:∀u∈us2,u.oneCell'=true)
    (hlen:(us.length+us2.length)*bytes<=140737488355328) (hlen2:us.length+us2.length<=maxLen) (hgd:o.guard=none)
    (s x:Operand) (ho:o.op= .call {callee:= .builtin .append,args:= #[s,x],argTypes:= #[t,t]})
    (hs:a.eval s=v) (hx:a.eval x= .slice A us2.length c)
    (h:∀A' c' w',aC E 1 eV B w' (.slice A' (us.length+us2.length) c') (us++us2)->w.grownBy w' v.ownBlock->K (a.put o.dst (.slice A' (us.length+us2.length) c')) w'):
    if Region.wanted o (yielded ops a.tmps)=true then Oper.wp P o a w K Q else E':=by
 have hw:Region.wanted o (yielded ops a.tmps)=true:=(by simp[Region.wanted,hgd]);rw[if_pos hw];obtain⟨ht,hinfo,hzs,hsz⟩:=R;obtain⟨i0,hi,hz0,hz1,hz2⟩:=info_parts hinfo
 have key:∃v' w',(Builtin.append_ #[t,t] o.type #[v,.slice A us2.length c]).run P w= .ok v' w'/\aC E 1 eV B w' v' (us++us2)/\w.grownBy w' v.ownBlock:=by
  by_cases hA:A=none
  . subst hA
    have hm0:us2=[]:=by
     obtain⟨A',c',e,_,_,h3⟩:=hm;injection e with e1 e2 e3;rcases Nat.eq_zero_or_pos us2.length with h0|h0
     . exact List.eq_nil_of_length_eq_zero h0
     . obtain⟨b,off,e4,_⟩:=h3 h0;rw[e4]at e1;cases e1
    subst hm0;refine⟨v,w,?_,by simpa using hown,World.grownBy.refl _ _⟩;rcases hown.2 with⟨rfl,hn⟩|⟨g,cap,cur,rfl,_,_,hnc,_⟩
    . simp[Builtin.append_,run_underlying ht,sizeOf,typeInfo,hi,Builtin.lenOf,Builtin.firstCells]
    . simp[Builtin.append_,run_underlying ht,sizeOf,typeInfo,hi,Builtin.lenOf,Builtin.firstCells,hnc,storeCells]
  . obtain ⟨ad, rfl⟩ : ∃ ad, A = some ad := by cases A with
     |none=>exact absurd rfl hA
     |some ad=>exact⟨ad,rfl⟩
    have hcells:∀j u,(us2.flatMap eV)[j]? =some u->w.cell? (ad.add j)=some u:=by
     intro j u hj;obtain⟨i,x,r,k1,k2,k3⟩:=Ci zG us2 j u hj;have hi':i<us2.length:=(List.getElem?_eq_some_iff.1 k1).1;obtain⟨b,off,e,_,hc⟩:=hm.at_ hi';injection e with e;subst e;have hx:us2[i]=x:=by rw[List.getElem?_eq_getElem hi']at k1;injection k1
     have:=hc r u (by rw[hx];exact k2)
     have e:(Addr.mk b off none).add j=⟨b,off+i*1+r,none⟩:=by
      unfold Addr.add;split
      . simp_all
      . simp[k3,Nat.add_assoc]
     rw[e];exact this
    obtain⟨v',w',hrun,h2,h3,_,h5⟩:=run_append_own_at (P:=P) w B t o.type E i0 z 1 bytes ht hi hz0 hz1 hz2 hzs hsz v us.length (us.flatMap eV) hown
      ad us2.length c (us2.flatMap eV) (gW zG us2) hcells (fun u hu => by
       obtain⟨x,hx,hxu⟩:=List.mem_flatMap.1 hu;rw[show u=x by simpa[eV]using hxu];exact h1 x hx) hlen2 hlen hB
    refine⟨v',w',hrun,?_,h3⟩;unfold aC;rw[List.length_append,List.flatMap_append];exact h2
 obtain⟨v',w',hrun,hO,hb⟩:=key;unfold Oper.wp execOp;simp only[ho,resolve,invoke,builtin,Sem.run_bind,Sem.run_pure,Result.andThen_ok,List.map_toArray,List.map_cons,List.map_nil,hs,hx,hrun];obtain⟨A',c',e,_⟩:=hO.form;rw[List.length_append]at e;subst e;exact h A' c' w' hO hb
end
theorem Fw {n:Nat} {W cur:World} (hb:Below n W cur) (T:TypeId) (cs:Array Value):∃w' g,w'=cur.alloc (.cells cs T)/\g=cur.heap.size/\Blk w' g T cs/\Below cur.heap.size cur w':=
 ⟨_,_,rfl,rfl,Blk.bK cur T cs,(Below.refl _ _).al _⟩
theorem Ki (v u:Value) (rows:List Int) (l:List Dm) (w:World) (h:Rd 1 bH w v rows) (h2:Rd 3 aU w u l):Calls Tryz.prog 238 #[.agg #[v],u] w (jA 70 2 dE (MQ rows l) w):=by
 obtain⟨A,c,rfl,hc,hm⟩:=h.form;obtain⟨A2,c2,rfl,hc2,hm2⟩:=h2.form;have hA:=((Below.refl w.heap.size w).al (.cells #[.slice A rows.length c] 26)).al (.cells #[] 70);have bX:=(Blk.bK w 26 #[.slice A rows.length c]).alloc (.cells #[] 70);have ho:=iK (w.alloc (.cells #[.slice A rows.length c] 26)) (E:=70) (size:=2) (enc:=dE) (w.heap.size+1) (by simp) w.heap.size (by simp);have hle:=yT rows;obtain⟨cs,hcs⟩:=Oy (fF rows);have hun:MQ rows l=cs.filter fun c=>decide (pO l c<0):=by rw[hcs];rfl
 rw[<-hcs]at hle;obtain⟨R,hR⟩:=Oy (MQ rows l);rw[<-hR]at hun⊢;have Hcs:=OA hcs;have Hun:=OA hun;clear hcs hun hR;go_enter Tryz.func238,Tryz.ntmps238
 go_wp2_with fail
 refine(qR _ rows _ (h.Oz hA)).mono ?_;rintro e w1 ⟨A6,c6,rfl,own6,hb1⟩;rw[<-Hcs.out]at own6⊢;have B1:=hA.tr hb1;have own5:=ho.below hb1;have own6':=own6.mono hA.size
 have hne:(Value.slice A6 cs.length c6).ownBlock≠(Value.slice (some ⟨w.heap.size+1,0,none⟩) 0 0).ownBlock:=by
  intro e;have:=World.ownsRow.lt own6 (w.heap.size+1) (by rw[e];rfl);simp at this;omega
 clear ho own6 bX hA hb1;go_wp2;go_loopw [5,7] (fun s5 s7 wr=>∃(k:Nat) (out:List Cl) (A5:Option Addr) (c5:Nat),k<=cs.length/\out.length<=k/\s7= .int .i64 k/\s5= .slice A5 out.length c5/\Hid (out++(cs.drop k).filter (fun c=>decide (pO l c<0))=R)/\aC 70 2 dE w.heap.size wr (.slice A5 out.length c5) out/\aC 70 2 dE w.heap.size wr (.slice A6 cs.length c6) cs/\Hid ((Value.slice A6 cs.length c6).ownBlock≠(Value.slice A5 out.length c5).ownBlock)/\Below w.heap.size w wr) (fun _ i _=>cs.length-(intOf i).toNat)
 case atStart=>exact⟨0,[],_,_,Nat.zero_le _,Nat.le_refl _,rfl,rfl,OA Hun.out.symm,own5,own6',OA hne,B1⟩
 case round=>
  obtain⟨k,out,A5,c5,hk,hol,rfl,rfl,Hg,hown,hcl,Hne,hbel⟩:=hrel;clear own5 own6' hne B1;by_cases hlt:k<cs.length
  . have hltI : (k : Int) < (cs.length : Int) := by omega
    obtain⟨b,off,rfl,hb,q1,q2⟩:=(hcl.rd dS (by decide)).eZ hlt;have hg:=Hg.out;rw[List.drop_eq_getElem_cons hlt,List.filter_cons]at hg;obtain⟨d,hd⟩:=Oy (cs[k]);rw[<-hd]at q1 q2 hg;obtain⟨x,y⟩:=d;simp only at q1 q2;obtain⟨D,hD⟩:=Oy (pO l (x,y));rw[<-hD]at hg;have HD:=OA hD;have Hd:=OA hd;clear hD hd;have H8:Hid ((out.length+1)*16<=140737488355328):=OA (by omega);have HM:Hid (out.length+1<=maxLen):=OA (by unfold maxLen;omega);go_wp2_with fail
    refine(vM _ l x y _ (h2.Oz hbel)).mono ?_;rintro e w2 ⟨rfl,hb2⟩;rw[<-HD.out];have own2:=hown.below hb2;have cl2:=hcl.below hb2;have B2:=hbel.tr hb2;by_cases hneg:D<0
    . rw [if_pos (by simpa using hneg), <- List.singleton_append, <- List.append_assoc] at hg;have Hg2:=OA hg;clear hg;obtain⟨b9,off9,e9,r0,r1,r2⟩:=(cl2.rd dS (by decide)).eZ hlt;injection e9 with e9;injection e9 with e91 e92 _;subst e91;subst e92;rw[<-Hd.out]at r1 r2;simp only at r1 r2;go_wp2_with (at_builtin;go_must (refine aG (enc:=dE) iY dS oneCell B2 own2 ((x,y):Cl) H8.out HM.out rfl _ _ rfl rfl rfl ?_);intro v4 w4 own4 hb4 hg4 hd4;obtain⟨A4,c4,rfl,hc4,hm4⟩:=own4.form)
      have ha:aC 70 2 dE w.heap.size w4 (.slice (some ⟨b,off,none⟩) cs.length c6) cs/\(Value.slice (some ⟨b,off,none⟩) cs.length c6).ownBlock≠(Value.slice A4 (out++[((x,y):Cl)]).length c4).ownBlock:=by
       refine⟨World.ownsRow.kept (cl2.alloc _) hg4 (.inr Hne.out),?_⟩;rcases hd4 with e|e
       . rw[e];exact Hne.out
       . rw[e];intro q;have:=World.ownsRow.lt cl2 _ q;omega
      go_roundw
      case rel=>exact⟨k+1,out++[(x,y)],A4,c4,by omega,by simp;omega,by go_num,by simp,Hg2,own4,ha.1,OA ha.2,hb4⟩
      case measure=>simp[intOf];omega
    . rw [if_neg (by simpa using hneg)] at hg;have Hg2:=OA hg;clear hg;go_wp2;go_roundw
      case rel=>exact⟨k+1,out,A5,c5,by omega,by omega,by go_num,rfl,Hg2,own2,cl2,Hne,B2⟩
      case measure=>simp[intOf];omega
  . obtain rfl : k = cs.length := by omega
    have hg:=Hg.out;rw[List.drop_of_length_le (Nat.le_refl _),List.filter_nil,List.append_nil]at hg;subst hg;go_wp2;go_ret;exact⟨A5,c5,rfl,hown,hbel⟩
end Go.Proofs.YtljfoohaapckeaaGreatDoor
