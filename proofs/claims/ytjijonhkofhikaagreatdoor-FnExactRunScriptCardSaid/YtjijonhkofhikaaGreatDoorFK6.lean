import Derived.Test.YtjijonhkofhikaaGreatDoorFG10
import Derived.Laws.CopyOwn
open _root_.List renaming getElem?_toArray->Tm,getElem?_cons_zero->Tn,getElem?_cons_succ->Tp,drop_eq_getElem_cons->Tq,contains_cons->Tt,drop_of_length_le->Tu,flatMap_cons->Tv,length_append->Tw,append_assoc->Tx,length_singleton->Ty,filter_cons->Tz,filter_nil->TA,append_nil->TB
open _root_.Nat renaming zero_le->TC,le_refl->TD,add_mul->TE
open _root_.Go.IntWalk renaming i64_in->TF
open _root_.Go.Value renaming oneCell'->TG,ownBlock->TH
open _root_.Go.Proofs.Tryz (prog func145 ntmps145 func92 ntmps92 func93 ntmps93 func50)
open _root_.Go.Proofs.Tryz renaming func199->TI,ntmps199->TJ,ntmps50->TL
set_option linter.unusedVariables false
set_option linter.unusedSimpArgs false
set_option maxHeartbeats 4000000
set_option maxRecDepth 100000
namespace Go.Proofs.YtjijonhkofhikaaGreatDoor
open Go.ChangeShapes Go.WideShapes Go.ChangeAt Go.RowKit
theorem iL (v:Value) (l:List Dm) (x y:Int) (d:Bool) (w:World) (h:Rd 3 aQ w v l):Calls prog 201 #[v,.agg #[.int .i64 x,.int .i64 y,.bool d]] w (Ret (.bool (l.contains (x,y,d))) w):=by
 obtain⟨A,c,rfl,hc,hm⟩:=h.form;have hA:=((Below.refl w.heap.size w).al (.cells #[.int .i64 x,.int .i64 y,.bool d] 99));have hx:=Blk.aX w 99 #[.int .i64 x,.int .i64 y,.bool d];obtain⟨R,hR⟩:=Ti (l.contains (x,y,d));rw[<-hR];have HR:=Tk hR;clear hR;go_enter Tryz.func201,Tryz.ntmps201
 go_wp2;go_loopw [9] (fun s9 wr=>∃k:Nat,k<=l.length/\s9= .int .i64 k/\Hid ((l.drop k).contains (x,y,d)=R)/\Below (w.alloc (.cells #[.int .i64 x,.int .i64 y,.bool d] 99)).heap.size (w.alloc (.cells #[.int .i64 x,.int .i64 y,.bool d] 99)) wr) (fun i _=>l.length-(intOf i).toNat)
 case atStart=>exact⟨0,TC _,rfl,Tk HR.out.symm,Below.refl _ _⟩
 case round=>
  obtain⟨k,hk,rfl,Hg,a6⟩:=hrel;have z:=hx.bl a6;have z0:=z.cell 0;have z1:=z.cell 1;have z2:=z.cell 2;simp only[Tm,Tn,Tp]at z0 z1 z2;have a8:=z.lt;have hne:w.heap.size≠wr.heap.size:=(by omega);by_cases hlt:k<l.length
  . obtain⟨b,off,rfl,hb,q1,q2,q3⟩:=((h.Tj hA).Tj a6).kE hlt;have hg:=Hg.out;rw[Tq hlt]at hg;obtain⟨e,he⟩:=Ti (l[k]);rw[<-he]at q1 q2 q3 hg;obtain⟨ex,ey,ed⟩:=e;simp only at q1 q2 q3;have a7:=Tk hg;clear hg he;by_cases h1:x=ex
    . obtain rfl:x=ex:=h1;by_cases h2:y=ey
      . obtain rfl:y=ey:=h2;by_cases h3:d=ed
        . obtain rfl:d=ed:=h3;go_wp2;go_ret;refine⟨lJ ?_,(hA.tr a6).al _⟩;have hg:=a7.out;rw[Tt]at hg;rw[<-hg];simp
        . skip;have hg:=a7.out;rw[Tt,show((x,y,d)==(x,y,ed))=false by simp[*],Bool.false_or]at hg;have HG:=Tk hg;clear hg;go_wp2;go_roundw
          case rel=>exact⟨k+1,by omega,by go_num,HG,a6.al _⟩
          case measure=>simp[intOf];omega
      . skip;have hg:=a7.out;rw[Tt,show((x,y,d)==(x,ey,ed))=false by simp[*],Bool.false_or]at hg;have HG:=Tk hg;clear hg;go_wp2;go_roundw
        case rel=>exact⟨k+1,by omega,by go_num,HG,a6.al _⟩
        case measure=>simp[intOf];omega
    . skip;have hg:=a7.out;rw[Tt,show((x,y,d)==(ex,ey,ed))=false by simp[*],Bool.false_or]at hg;have HG:=Tk hg;clear hg;go_wp2;go_roundw
      case rel=>exact⟨k+1,by omega,by go_num,HG,a6.al _⟩
      case measure=>simp[intOf];omega
  . obtain rfl : k = l.length := by omega
    have hg:=Hg.out;rw[Tu (TD _)]at hg;have hg2:false=R:=by rw[<-hg];rfl
    have HG:=Tk hg2;clear hg hg2;go_wp2;go_ret;exact⟨lJ HG.out,hA.tr a6⟩
theorem Eb (x y:Int) (w:World) (h:kU (x,y)=true):Calls prog 200 #[.agg #[.int .i64 x,.int .i64 y]] w (Ret (.tuple #[.agg #[.int .i64 x,.int .i64 y,.bool false,.int .i64 x,.int .i64 (y+1),.bool false],.agg #[.int .i64 x,.int .i64 y,.bool true,.int .i64 (x+1),.int .i64 y,.bool true]]) w):=by
 unfold kU at h;rw[Bool.and_eq_true,decide_eq_true_eq,decide_eq_true_eq]at h;simp only at h;obtain⟨⟨x0,x1⟩,y0,y1⟩:=h;have hA:=(Below.refl w.heap.size w).al (.cells #[.int .i64 x,.int .i64 y] 83);go_enter Tryz.func200,Tryz.ntmps200
 have e1:IntKind.i64.wrap (x+1)=x+1:=TF _ (by omega);have e2:IntKind.i64.wrap (y+1)=y+1:=TF _ (by omega);go_wp2_with fail
 obtain⟨W3,hW⟩:=Ti (((w.alloc (.cells #[.int .i64 x,.int .i64 y] 83)).alloc (.cells #[.int .i64 0,.int .i64 0,.bool false,.int .i64 0,.int .i64 0,.bool false] 193)).alloc (.cells #[.int .i64 0,.int .i64 0,.bool false,.int .i64 0,.int .i64 0,.bool false] 193));have bC:Blk W3 w.heap.size 83 #[.int .i64 x,.int .i64 y]:=by rw[hW];exact((Blk.aX w _ _).alloc _).alloc _
 have b1:Blk W3 (w.heap.size+1) 193 #[.int .i64 0,.int .i64 0,.bool false,.int .i64 0,.int .i64 0,.bool false]:=by rw[hW];exact(Blk.gI _ _ _ _ (by simp)).alloc _
 have b2:Blk W3 (w.heap.size+1+1) 193 #[.int .i64 0,.int .i64 0,.bool false,.int .i64 0,.int .i64 0,.bool false]:=by rw[hW];exact Blk.gI _ _ _ _ (by simp)
 have B3:Below w.heap.size w W3:=by rw[hW];exact(hA.al _).al _
 have hs3:W3.heap.size=w.heap.size+1+1+1:=by rw[hW];simp
 rw[<-hW];obtain⟨g0,hg0⟩:=Ti w.heap.size;obtain⟨g1,hg1⟩:=Ti (w.heap.size+1);obtain⟨g2,hg2⟩:=Ti (w.heap.size+1+1);rw[<-hg2]at b2⊢;rw[<-hg1]at b1⊢;rw[<-hg0]at bC⊢;have bD:g0≠g1:=(by omega);have bE:g0≠g2:=(by omega);have bF:g1≠g2:=(by omega);have b8:w.heap.size<=g1:=(by omega);have hl2:w.heap.size<=g2:=(by omega);clear hW hs3 hg0 hg1 hg2 hA;have c0:=bC.cell 0;have c1:=bC.cell 1;simp only[Tm,Tn,Tp]at c0 c1;have bJ:=bD.symm;have bK:=bE.symm;have bL:=bF.symm;have B4:Below w.heap.size w W3.drew:=B3.drew;have a8:Blk W3.drew g1 193 #[.int .i64 0,.int .i64 0,.bool false,.int .i64 0,.int .i64 0,.bool false]:=b1;have bA:Blk W3.drew g2 193 #[.int .i64 0,.int .i64 0,.bool false,.int .i64 0,.int .i64 0,.bool false]:=b2;have a6:Blk W3.drew g0 83 #[.int .i64 x,.int .i64 y]:=bC;clear b1 b2 bC B3;refine rB (fun w'=>w'.cell? ⟨g0,0,none⟩=some (.int .i64 x)/\w'.cell? ⟨g0,1,none⟩=some (.int .i64 y)) fun hHeld=>(tW 0)<|(tW 1)<|(tW 2)<|(tW 3)<|(tW 4)<|(tW 5)<|(tW 6)<|(tW 7)<|(tW 8)<|(tW 9)<|(tW 10)<|(tW 11)<|(tW 12)<|(tW 13)<|(tW 14)<|(tW 15)<|(tW 16)<|(tW 17)<|(tW 18)<|(tW 19)<|(tW 20)<|(tW 21)<|(tW 22)<|(tW 23)<|(tR [24])<|tL fun K hK=>?_
 (first|(refine aK rfl 193 _ _ rfl g1 #[.int .i64 x,.int .i64 y,.bool false,.int .i64 x,.int .i64 (y+1),.bool false] rfl rfl _ _ a8 (by kernel_rfl) rfl (by simp[TG]) ?_;intro wS bB a7;have a8:=bB;have bA:=bA.grown a7 (by simp;omega);have a6:=a6.grown a7 (by simp;omega);have B4:=B4.grown a7 B4.size (fun k hk=>by injection hk with hk;omega);have c0:=a6.cell 0;have c1:=a6.cell 1;simp only[Tm,Tn,Tp]at c0 c1)|(refine aK rfl 193 _ _ rfl g2 #[.int .i64 x,.int .i64 y,.bool true,.int .i64 (x+1),.int .i64 y,.bool true] rfl rfl _ _ bA (by kernel_rfl) rfl (by simp[TG]) ?_;intro wS bB a7;have bA:=bB;have a8:=a8.grown a7 (by simp;omega);have a6:=a6.grown a7 (by simp;omega);have B4:=B4.grown a7 B4.size (fun k hk=>by injection hk with hk;omega);have c0:=a6.cell 0;have c1:=a6.cell 1;simp only[Tm,Tn,Tp]at c0 c1))
 refine tK hK fun hHeld=>?_
 clear hK K;refine(tR [25])<|tL fun K hK=>?_
 (first|(refine aK rfl 193 _ _ rfl g1 #[.int .i64 x,.int .i64 y,.bool false,.int .i64 x,.int .i64 (y+1),.bool false] rfl rfl _ _ a8 (by kernel_rfl) rfl (by simp[TG]) ?_;intro wS bB a7;have a8:=bB;have bA:=bA.grown a7 (by simp;omega);have a6:=a6.grown a7 (by simp;omega);have B4:=B4.grown a7 B4.size (fun k hk=>by injection hk with hk;omega);have c0:=a6.cell 0;have c1:=a6.cell 1;simp only[Tm,Tn,Tp]at c0 c1)|(refine aK rfl 193 _ _ rfl g2 #[.int .i64 x,.int .i64 y,.bool true,.int .i64 (x+1),.int .i64 y,.bool true] rfl rfl _ _ bA (by kernel_rfl) rfl (by simp[TG]) ?_;intro wS bB a7;have bA:=bB;have a8:=a8.grown a7 (by simp;omega);have a6:=a6.grown a7 (by simp;omega);have B4:=B4.grown a7 B4.size (fun k hk=>by injection hk with hk;omega);have c0:=a6.cell 0;have c1:=a6.cell 1;simp only[Tm,Tn,Tp]at c0 c1))
 refine tK hK fun hHeld=>?_
 clear hK K;refine tD ?_;obtain⟨bM,bN,bO,bP,bR,bS⟩:=a8.n6;obtain⟨bU,bX,bY,b5,b6,b7⟩:=bA.n6;go_wp2_with fail
 refine bodyPost_ret (v:= .tuple #[.agg #[.int .i64 x,.int .i64 y,.bool false,.int .i64 x,.int .i64 (y+1),.bool false],.agg #[.int .i64 x,.int .i64 y,.bool true,.int .i64 (x+1),.int .i64 y,.bool true]]) (by simp[results,Tryz.results200,go_sem,bM,bN,bO,bP,bR,bS,bU,bX,bY,b5,b6,b7]) rfl ⟨rfl,B4⟩
end Go.Proofs.YtjijonhkofhikaaGreatDoor
namespace Go.Proofs.YtjijonhkofhikaaGreatDoor
open Go.RowKit
theorem Bh {α:Type} {enc:α->List Value} {size:Nat} (a6:∀x,(enc x).length=size):∀(l:List α) (j:Nat),(l.flatMap enc).take (j*size)=(l.take j).flatMap enc
  |[],j=>by simp
  |x::r,0=>by simp
  | x :: r, j + 1 => by
   rw[Tv,List.take_succ_cons,Tv,List.take_append,a6,List.take_of_length_le (by rw[a6,TE];omega),show(j+1)*size-size=j*size by rw[TE];omega,Bh a6 r j]
theorem Gg {α:Type} {enc:α->List Value} {size:Nat} (a6:∀x,(enc x).length=size):∀(l:List α) (j:Nat),(l.flatMap enc).drop (j*size)=(l.drop j).flatMap enc
  |[],j=>by simp
  |x::r,0=>by simp
  | x :: r, j + 1 => by
   rw[Tv,List.drop_succ_cons,List.drop_append,a6,Tu (by rw[a6,TE];omega),show(j+1)*size-size=j*size by rw[TE];omega,Gg a6 r j,List.nil_append]
theorem addr_add (g o j:Nat):(⟨g,o,none⟩:Addr).add j=⟨g,o+j,none⟩:=by unfold Addr.add;split<;>simp_all
section
variable (P : Program)
theorem FD (w:World) (dT sT ty elem:TypeId) (g o a6 a8:Nat) (a:Addr) (a7 bA:Nat) (cur:Array Value) (t:TypeId) (cs:List Value) (s n:Nat)
    (hu:P.underlying dT=some (.slice elem)) (hs:(P.info? elem).map (·.size)=some s)
    (hg:w.heap[g]? =some (.cells cur t (0,0))) (hn:n=Nat.min a7 a6) (hc:cs.length=n*s)
    (bB:∀j v,cs[j]? =some v->w.cell? (a.add j)=some v) (bC:o+cs.length<=cur.size) (h1:∀v∈cs,v.oneCell'=true):
    (Builtin.copy_ #[dT,sT] ty #[.slice (some ⟨g,o,none⟩) a6 a8,.slice (some a) a7 bA]).run P w=
      .ok (goInt n) (w.setRow g (cur.toList.take o++cs++cur.toList.drop (o+cs.length)).toArray):=by
 have hl:=run_loadCells_list (P:=P) w a cs bB;rw[hc]at hl;have hst:=run_storeCells_at P g o t cs 0 cur w hg (by simpa using bC) h1;cases hq:P.info? elem with
 |none=>simp[hq]at hs
 |some i=>
  have hi:i.size=s:=(by simpa[hq]using hs);simp[Builtin.copy_,run_underlying hu,Builtin.lenOf,Builtin.firstCells,sizeOf,typeInfo,hq,hi,<-hn,hl,hst]
theorem K6 (w:World) (dT sT ty elem:TypeId) (dp sp:Option Addr) (a6 a8 a7 bA:Nat) (hu:P.underlying dT=some (.slice elem)) (hs:((P.info? elem).map (·.size)).isSome=true) (hn:Nat.min a7 a6=0):
 (Builtin.copy_ #[dT,sT] ty #[.slice dp a6 a8,.slice sp a7 bA]).run P w= .ok (goInt 0) w:=by
 cases hq:P.info? elem with
 |none=>simp[hq]at hs
 |some i=>
  cases dp<;>cases sp<;>simp[Builtin.copy_,run_underlying hu,Builtin.lenOf,Builtin.firstCells,sizeOf,typeInfo,hq,hn,loadCells,loadCellsFrom,storeCells]
end
theorem lN {P:Program} {ops:Array Oper} {o:Oper} {a:Act} {w:World} {K:Act->World->Prop} {Q:Exit->Act->World->Prop} {E':Prop} {α:Type} {t E:TypeId} {z:Value} {size bytes:Nat} (R:Row P t E z size bytes)
    {enc:α->List Value} (a6:∀x,(enc x).length=size) (h1:∀x,∀u∈enc x,u.oneCell'=true) {B g c:Nat} {l:List α} {zz:α} (hown:aD E size enc B w (.slice (some ⟨g,0,none⟩) (l.length+1) c) (l++[zz]))
    (k:Nat) (hk:k<=l.length) (hgd:o.guard=none) (d s:Operand) (ho:o.op= .call {callee:= .builtin .copy,args:= #[d,s],argTypes:= #[t,t]}) (dp sp:Option Addr) (bC bA bD bB:Nat)
    (hd:a.eval d= .slice dp bC bA) (hs:a.eval s= .slice sp bD bB) (bM:bC=l.length-k) (bN:bD=l.length+1-k) (bO:k<l.length->dp=some ⟨g,(k+1)*size,none⟩) (hsp:k<l.length->sp=some ⟨g,k*size,none⟩)
    (h:∀w',aD E size enc B w' (.slice (some ⟨g,0,none⟩) (l.length+1) c) ((l++[zz]).take (k+1)++l.drop k)->w.grownBy w' (some g)->K (a.put o.dst (goInt ((l.length-k:Nat):Int))) w'):
    if Region.wanted o (yielded ops a.tmps)=true then Oper.wp P o a w K Q else E':=by
 have hw:Region.wanted o (yielded ops a.tmps)=true:=(by simp[Region.wanted,hgd]);rw[if_pos hw];obtain⟨ht,bE,hzs,hsz⟩:=R;obtain⟨i0,hi,hz0,hz1,hz2⟩:=info_parts bE;have hsome:((P.info? E).map (·.size))=some size:=by rw[hi];simp[hz1]
 subst bM;subst bN;by_cases bK:k<l.length
 . obtain rfl:=bO bK;obtain rfl:=hsp bK;rcases hown.2 with⟨e,_⟩|⟨g',cap,cur,e,hB,hg,a8,bJ,hsize,a7⟩
   . injection e with e1;cases e1
   . injection e with e1 e2 e3;injection e1 with e1;injection e1 with e1 _ _;subst e1 e3;have hlen:((l++[zz]).flatMap enc).length=(l.length+1)*size:=by rw[iB a6];simp
     have hcs:((l.drop k).flatMap enc).length=(l.length-k)*size:=by rw[iB a6];simp
     have bP:(l++[zz]).length=l.length+1:=(by simp);rw[bP]at a7 a8;have bR:(k+1)*size+(l.length-k)*size=(l.length+1)*size:=by rw[<-TE];congr 1;omega
     have bF:(k+1)*size+((l.drop k).flatMap enc).length<=cur.size:=by
      rw[hcs,bR,hsize];exact Nat.mul_le_mul_right _ a8
     have hcell:∀j v,((l.drop k).flatMap enc)[j]? =some v->w.cell? ((⟨g,k*size,none⟩:Addr).add j)=some v:=by
      intro j v hv;rw[addr_add,cell_of_row w g _ cur E (0,0) hg];rw[<-Gg a6,List.getElem?_drop]at hv;have hj:k*size+j<(l.flatMap enc).length:=(List.getElem?_eq_some_iff.1 hv).1;rw[iB a6]at hj;have h2:((l++[zz]).flatMap enc)[k*size+j]? =some v:=by rw[List.flatMap_append,List.getElem?_append_left (by rw[iB a6];exact hj)];exact hv
      rw[<-a7,List.getElem?_take_of_lt (by rw[TE];omega)]at h2;simpa using h2
     have bL:=IL h1 (l.drop k);have e5:((l++[zz]).take (k+1)++l.drop k).flatMap enc=((l++[zz]).take (k+1)).flatMap enc++(l.drop k).flatMap enc:=List.flatMap_append;obtain⟨CS,bS⟩:=Ti ((l.drop k).flatMap enc);rw[<-bS]at hcs bF hcell bL e5;have hrun:=FD P w t t o.type E g ((k+1)*size) (l.length-k) bA ⟨g,k*size,none⟩ (l.length+1-k) bB cur E CS size (l.length-k) ht hsome hg (by show _=min _ _;omega) hcs hcell bF bL;unfold Oper.wp;simp[execOp,ho,resolve,invoke,builtin,hd,hs,hrun,Result.andThen];have hm:(goInt ((l.length-k:Nat):Int))=goInt (l.length-k:Nat):=rfl;have e3:((l++[zz]).take (k+1)++l.drop k).length=l.length+1:=by simp;omega
     refine h _ ⟨by rw[iB a6],.inr ⟨g,c,_,by rw[e3],hB,setRow_heap w g cur _ E (0,0) hg,by rw[e3];exact a8,bJ,?_,?_⟩⟩ (by exact⟨rfl,rfl,rfl,by simp[World.setRow],fun k hk hne=>setRow_other w g k _ (fun e=>hne (by rw[e]))⟩)
     . have hle:(l.length+1)*size<=c*size:=Nat.mul_le_mul_right _ a8;simp only[List.size_toArray,Tw,List.length_take,List.length_drop,Array.length_toList];rw[hcs,hsize];omega
     . have hA:cur.toList.take ((k+1)*size)=((l++[zz]).take (k+1)).flatMap enc:=by
        rw[<-Bh a6,<-a7,List.take_take,Nat.min_eq_left (Nat.mul_le_mul_right _ (by omega))]
       have e4:(((l++[zz]).take (k+1)).flatMap enc++CS).length=(l.length+1)*size:=(by rw[<-e5,iB a6,e3]);rw[hA,e3,e5,<-Tx];rw[List.take_append_of_le_length (by rw[e4];exact TD _)];exact List.take_of_length_le (by rw[e4];exact TD _)
 . obtain rfl : k = l.length := by omega
   have hrun:=K6 P w t t o.type E dp sp 0 bA 1 bB ht (by rw[hsome];rfl) (by show min _ _=_;omega);unfold Oper.wp;simp[execOp,ho,resolve,invoke,builtin,hd,hs,hrun,Result.andThen];have e1:(l++[zz]).take (l.length+1)++l.drop l.length=l++[zz]:=(by simp[List.take_of_length_le]);have h':=h w (by rw[e1];exact hown) (World.grownBy.refl _ _);show K (a.put o.dst (goInt 0)) w;simpa using h'
end Go.Proofs.YtjijonhkofhikaaGreatDoor
namespace Go.Proofs.YtjijonhkofhikaaGreatDoor
open Go.ChangeShapes Go.WideShapes Go.ChangeAt Go.RowKit
theorem nE {α:Type} (out:List α) (z d:α) {P:Nat} (h:P<=out.length):((out++[z]).take (P+1)++out.drop P).set P d=out.take P++d::out.drop P:=by
 have hP:P<(out++[z]).length:=by simp;omega
 rw[List.take_succ_eq_append_getElem hP,List.take_append_of_le_length h,Tx,List.set_append_right _ _ (by simp;omega)];congr 1
 rw[List.length_take,Nat.min_eq_left h,Nat.sub_self];rfl
theorem BR (out:List Dm) (d:Dm) (r:List Dm):kT out (d::r)=kT (kX out d) r:=rfl
theorem zM (out:List Dm) {d:Dm} (h:aI d=true):kX out d=if out[nT d out]? =some d then out else out.take (nT d out)++d::out.drop (nT d out):=by
 unfold kX;rw[if_pos h,J6]
theorem xJ (x y:Int) (d:Bool) (r:Int) (w:World) (hd:aI (x,y,d)=true) (hr:r=aS (x,y,d)):Calls prog 163 #[.agg #[.int .i64 x,.int .i64 y,.bool d]] w (Ret (.int .i64 r) w):=by
 rw[hr];exact DJ x y d w hd
theorem Bi (v:Value) (l:List Dm) (w:World) (h:Rd 3 aQ w v l):Calls prog 202 #[v] w (fM 99 3 aV (jI l) w):=by
 obtain⟨A,c,rfl,hc,hm⟩:=h.form;go_enter Tryz.func202,Tryz.ntmps202
 go_wp2;go_loopw [3,10] (fun s3 gM wr=>∃(k:Nat) (out:List Dm) (A3:Option Addr) (c3:Nat),k<=l.length/\gM= .int .i64 k/\s3= .slice A3 out.length c3/\Hid (kT out (l.drop k)=jI l)/\Hid (Sorted out)/\aD 99 3 aV w.heap.size wr (.slice A3 out.length c3) out/\Below w.heap.size w wr) (fun _ i _=>l.length-(intOf i).toNat)
 case atStart=>exact⟨0,[],_,_,TC _,rfl,rfl,Tk rfl,Tk yT,eG w _ rfl _ (TD _),(Below.refl _ _).al _⟩
 case round=>
  obtain⟨k,out,A3,c3,hk,rfl,rfl,Hg,cP,hown,cH⟩:=hrel;have gT:=yU cP.out;obtain⟨wo,rfl⟩:∃wo:World,wo=wr:=⟨_,rfl⟩;by_cases hlt:k<l.length
  . obtain⟨b,off,rfl,hb,q1,q2,q3⟩:=(h.Tj cH).kE hlt;have hg:=Hg.out;rw[Tq hlt,BR]at hg;obtain⟨d,hd⟩:=Ti (l[k]);rw[<-hd]at q1 q2 q3 hg;obtain⟨x,y,dn⟩:=d;simp only at q1 q2 q3;have bD:=Blk.aX wo 99 #[.int .i64 x,.int .i64 y,.bool dn];rcases eI:aI (x,y,dn)with _|_
    . have e : kX out (x, y, dn) = out := by unfold kX; rw [eI]; rfl
      rw[e]at hg;have cV:=Tk hg;have cS:=Tk eI;clear hg eI hd e;go_wp2_with fail
      refine(aO x y dn _).mono ?_;rintro e w1 ⟨rfl,hb1⟩;rw[cS.out];go_wp2;go_roundw
      case rel=>exact⟨k+1,out,A3,c3,by omega,by go_num,rfl,cV,cP,(hown.alloc _).below hb1,(cH.al _).tr hb1⟩
      case measure=>simp[intOf];omega
    . have hst:=zM out eI;have cN:=Tk hst;have cV:=Tk hg;have cS:=Tk eI;clear hst hg eI hd;go_wp2_with fail
      refine(aO x y dn _).mono ?_;rintro e w1 ⟨rfl,hb1⟩;rw[cS.out];have eJ:=(hown.alloc (.cells #[.int .i64 x,.int .i64 y,.bool dn] 99)).below hb1;have e6:=bD.bl hb1;have B1:=(cH.al (.cells #[.int .i64 x,.int .i64 y,.bool dn] 99)).tr hb1;obtain⟨gd,hgd⟩:=Ti wo.heap.size;rw[<-hgd]at e6⊢;obtain⟨P,hP⟩:=Ti (nT (x,y,dn) out);have e7:P<=out.length:=by rw[hP];exact Ir _ _
      obtain⟨E,hE⟩:∃E,E=if out[P]? =some (x,y,dn)then P+1 else P:=⟨_,rfl⟩
      have e8:E<=out.length:=by
       rw[hE];split
       . rename_i q;have:=(List.getElem?_eq_some_iff.1 q).1;omega
       . exact e7
      have hback:∀j,(hj:j<out.length)->(aS out[j]>aS (x,y,dn)↔E<=j):=fun j hj=>by rw[hE,hP];exact Ju cP.out cS.out hj
      rw[<-hP]at cN
      have bP:TH (.slice A3 out.length c3)≠some gd:=by
       intro e;have:=World.ownsRow.lt hown _ e;omega
      have cQ:=Tk bP;clear bP;have eK:=Tk hback;have HE:=Tk hE;have HP:=Tk hP;clear hback hE hP hgd;go_wp2;go_loopw [6] (fun s6 wi=>∃j:Nat,E<=j/\j<=out.length/\s6= .int .i64 j/\aD 99 3 aV w.heap.size wi (.slice A3 out.length c3) out/\Blk wi gd 99 #[.int .i64 x,.int .i64 y,.bool dn]/\Below w.heap.size w wi) (fun i _=>(intOf i).toNat)
      case atStart=>exact⟨out.length,e8,TD _,rfl,eJ,e6,B1⟩
      case round=>
       obtain⟨j,gN,hj,rfl,hown2,cT,b6⟩:=hrel;clear eJ e6 B1 hown cH bD q1 q2 q3 hb1;obtain⟨bC,bE,bF⟩:=cT.n3;rcases Nat.eq_zero_or_pos j with eL|gW
       . have hno:¬out[P]? =some (x,y,dn):=by
          intro q;have:=HE.out;rw[if_pos q]at this;omega
         have eM:P=j:=by have:=HE.out;rw[if_neg hno]at this;omega
         have cR:=Tk hno;clear hno;subst eM;have gX:(P:Int)<=0:=(by omega);have gO:P<=0:=(by omega);have gP:decide (0<P)=false:=by simp;omega
         have gQ:decide ((0:Int)<(P:Int))=false:=by simp;omega
         have Hj:=Tk eL;clear eL gN;go_wp2_with fail
         refine rB (fun _=>True) fun hHeld=>(tW 0)<|(tW 1)<|(tW 2)<|(tU 3)<|(tU 4)<|(tU 5)<|(tU 6)<|(tU 7)<|(tU 8)<|(tU 9)<|(tU 10)<|(tU 11)<|(tW 12)<|tD ?_
         have Bw:Below wr.heap.size wr wr.drew.drew:=(Below.refl _ _).drew.drew;go_wp2_with fail
         refine rB (fun _=>True) fun hHeld=>(tW 0)<|(tW 1)<|(tW 2)<|(tU 3)<|(tU 4)<|(tU 5)<|(tU 6)<|(tU 7)<|(tU 8)<|(tU 9)<|(tW 10)<|tD ?_
         have bU:=hown2.below Bw;have cI:=cT.bl Bw;have B3:=b6.tr Bw;clear hHeld bC bE bF hown2 cT b6 Bw;obtain⟨W5,cJ⟩:=Ti wr.drew.drew;rw[<-cJ]at bU cI B3⊢;clear cJ;have bJ:Hid (kT (out.take P++(x,y,dn)::out.drop P) (l.drop (k+1))=jI l):=Tk (by rw[<-cV.out,cN.out,if_neg cR.out]);have b7:Hid (Sorted (out.take P++(x,y,dn)::out.drop P)):=Tk (by have:=jO cP.out (x,y,dn);rw[cN.out,if_neg cR.out]at this;exact this);have H8:Hid ((out.length+1)*24<=140737488355328):=Tk (by omega);have HM:Hid (out.length+1<=maxLen):=Tk (by unfold maxLen;omega);have bP:=cQ.out;go_wp2_with (at_builtin;go_must (refine aF (enc:=aV) aJ aC aL B3 bU ((0,0,false):Dm) H8.out HM.out rfl _ _ rfl rfl rfl ?_);intro v4 w4 bB hb4 hg4 cK;obtain⟨A4,c4,rfl,cW,e9⟩:=bB.form)
         have cB:=(cI.alloc _).grown hg4 (fun e=>bP e.symm);obtain⟨g4,cX,bA,cY⟩:=bB.split (k:=0) (by simp);subst cX
         have dL:g4≠gd:=by
          have bR:=cI.lt;rcases cK with q|q
          . intro e;apply bP;rw[<-q,e];rfl
          . simp[TH]at q;omega
         clear cK;simp only[Tw,Ty]at cW bB⊢;obtain⟨bC,bE,bF⟩:=cB.n3;have fD:¬c4=P:=(by omega);have fL:IntKind.i64.wrap (((P:Nat):Int)+1)=((P:Nat):Int)+1:=TF _ (by omega);have eM:(0:Int)<=((P:Nat):Int)+1:=(by omega);have fN:((P:Nat):Int)+1<=(out.length:Int)+1:=(by omega);have fO:(((P:Nat):Int)+1).toNat=P+1:=(by omega);have fR:P+1<=c4:=(by omega);have cF:((P:Nat):Int)<=(out.length:Int)+1:=(by omega);have b8:P<=out.length:=(by omega);have a8:aD 99 3 aV w.heap.size w4.drew (.slice (some ⟨g4,0,none⟩) (out.length+1) c4) (out++[(0,0,false)]):=bB.below (Below.refl _ _).drew;have bK:Blk w4.drew gd 99 #[.int .i64 x,.int .i64 y,.bool dn]:=cB;have bS:=hb4.drew;clear bB cB hb4 bC bE bF;by_cases dT:c4=P+1
         . go_wp2_with fail
           refine rB (fun _=>True) fun hHeld=>(tW 0)<|(tW 1)<|(tW 2)<|(tW 3)<|(tW 4)<|(tW 5)<|(tW 6)<|(tR [7])<|tL fun K hK=>?_
           (refine lN aJ aC aL a8 P b8 rfl _ _ rfl _ _ _ _ _ _ rfl rfl (by omega) (by omega) (fun h=>by exfalso;omega) (fun h=>by simp) ?_;intro w5 a6 bL)
           refine tK hK fun hHeld=>?_
           clear hK K;refine tD ?_;clear hHeld;have cC:=bK.grown bL (by simp;omega);have B5:=bS.grown bL bS.size (fun k hk=>by injection hk with hk;omega);have bR:((out++[((0,0,false):Dm)]).take (P+1)++out.drop P).length=out.length+1:=by simp;omega
           have a7:=nE out ((0,0,false):Dm) (x,y,dn) b8;obtain⟨NW,bM⟩:=Ti (out.take P++(x,y,dn)::out.drop P);have bX:NW.length=out.length+1:=by rw[bM];simp;omega
           rw[<-bM]at bJ b7 a7;obtain⟨L5,bY⟩:=Ti ((out++[((0,0,false):Dm)]).take (P+1)++out.drop P);rw[<-bY]at a6 a7 bR;have bN:P<L5.length:=(by omega);obtain⟨u0,u1,u2,s0,s1,s2⟩:=a6.Dl aC (k:=P) bN;have eA:=a6.free;have bO:=Tk a7;have b5:=Tk bX;have cD:=Tk bN;clear a7 bX bM bY bR a8 bK bS bL bN;have eC:((P:Nat):Int)<(out.length:Int)+1:=(by omega);obtain⟨bC,bE,bF⟩:=cC.n3;go_wp2;go_roundw
           case rel=>exact⟨k+1,NW,_,c4,by omega,by go_num,by rw[b5.out],bJ,b7,by rw[b5.out,<-bO.out];exact a6.xR aC cD.out rfl,((B5.st _ _ (by first|exact bA|simp)).st _ _ (by first|exact bA|simp)).st _ _ (by first|exact bA|simp)⟩
           case measure=>simp[intOf];omega
         . go_wp2_with fail
           refine rB (fun _=>True) fun hHeld=>(tW 0)<|(tW 1)<|(tW 2)<|(tW 3)<|(tW 4)<|(tW 5)<|(tW 6)<|(tR [7])<|tL fun K hK=>?_
           (refine lN aJ aC aL a8 P b8 rfl _ _ rfl _ _ _ _ _ _ rfl rfl (by omega) (by omega) (fun h=>by simp) (fun h=>by simp) ?_;intro w5 a6 bL)
           refine tK hK fun hHeld=>?_
           clear hK K;refine tD ?_;clear hHeld;have cC:=bK.grown bL (by simp;omega);have B5:=bS.grown bL bS.size (fun k hk=>by injection hk with hk;omega);have bR:((out++[((0,0,false):Dm)]).take (P+1)++out.drop P).length=out.length+1:=by simp;omega
           have a7:=nE out ((0,0,false):Dm) (x,y,dn) b8;obtain⟨NW,bM⟩:=Ti (out.take P++(x,y,dn)::out.drop P);have bX:NW.length=out.length+1:=by rw[bM];simp;omega
           rw[<-bM]at bJ b7 a7;obtain⟨L5,bY⟩:=Ti ((out++[((0,0,false):Dm)]).take (P+1)++out.drop P);rw[<-bY]at a6 a7 bR;have bN:P<L5.length:=(by omega);obtain⟨u0,u1,u2,s0,s1,s2⟩:=a6.Dl aC (k:=P) bN;have eA:=a6.free;have bO:=Tk a7;have b5:=Tk bX;have cD:=Tk bN;clear a7 bX bM bY bR a8 bK bS bL bN;have eC:((P:Nat):Int)<(out.length:Int)+1:=(by omega);obtain⟨bC,bE,bF⟩:=cC.n3;go_wp2;go_roundw
           case rel=>exact⟨k+1,NW,_,c4,by omega,by go_num,by rw[b5.out],bJ,b7,by rw[b5.out,<-bO.out];exact a6.xR aC cD.out rfl,((B5.st _ _ (by first|exact bA|simp)).st _ _ (by first|exact bA|simp)).st _ _ (by first|exact bA|simp)⟩
           case measure=>simp[intOf];omega
       . obtain ⟨i, rfl⟩ : ∃ i, j = i + 1 := ⟨j - 1, by omega⟩;have eE:i<out.length:=(by omega);obtain⟨g,hA,hg0,hg1⟩:=hown2.split eE;subst hA;obtain⟨e,he⟩:=Ti (out[i]);have cL:=hown2.slot aC (by decide) eE;rw[<-he]at cL;have gD:aI e=true:=by rw[he];exact cP.out.1 _ (List.getElem_mem eE)
         have cE:=eK.out i eE;rw[<-he]at cE;obtain⟨ex,ey,ed⟩:=e;have z0:=cL 0 _ rfl;have z1:=cL 1 _ rfl;have z2:=cL 2 _ rfl;simp only[Nat.add_zero]at z0;obtain⟨o1,fS⟩:=Ti (aS (ex,ey,ed));obtain⟨o2,fW⟩:=Ti (aS (x,y,dn));rw[<-fS,<-fW]at cE;have eN:=Tk gD;have eP:=Tk fS;have eR:=Tk fW;have He:=Tk he;clear cL gD fS fW he;have fX:IntKind.i64.wrap (i:Int)=(i:Int):=TF _ (by omega);have fY:(0:Int)<=(i:Int):=(by omega);have gA:(i:Int)<(out.length:Int):=(by omega);have gY:=cT.lt;have gB:=b6.drew;have Bw:Below wr.heap.size wr wr.drew:=(Below.refl _ _).drew;have hz:wr.heap.size<=wr.drew.heap.size:=(by simp);by_cases gC:E<=i
         . have hZ:o2<o1:=cE.2 gC;clear cE;go_wp2_with fail
           refine rB (fun w'=>w'.cell? ⟨g,i*3,none⟩=some (.int .i64 ex)/\w'.cell? ⟨g,i*3+1,none⟩=some (.int .i64 ey)/\w'.cell? ⟨g,i*3+2,none⟩=some (.bool ed)/\w'.cell? ⟨gd,0,none⟩=some (.int .i64 x)/\w'.cell? ⟨gd,1,none⟩=some (.int .i64 y)/\w'.cell? ⟨gd,2,none⟩=some (.bool dn)) fun hHeld=>(tW 0)<|(tW 1)<|(tW 2)<|(tW 3)<|(tW 4)<|(tW 5)<|(tW 6)<|(tW 7)<|(tW 9)<|(tR [8])<|tL fun K hK=>?_
           go_simp
           (first|(go_at_call 163;go_must (refine(xJ _ _ _ _ _ (by first|exact eN.out|exact cS.out) (by first|exact eP.out|exact eR.out)).mono ?_;rintro e wX ⟨rfl,cG⟩;obtain⟨eW,e5,cU⟩:=bkn cG wr.heap.size hz;have hz:=cU;have Bw:=Bw.tr cG);(try go_wp2_with fail)))
           refine tK hK fun hHeld=>?_
           clear hK K;refine(tR [10])<|tL fun K hK=>?_
           go_simp
           (first|(go_at_call 163;go_must (refine(xJ _ _ _ _ _ (by first|exact eN.out|exact cS.out) (by first|exact eP.out|exact eR.out)).mono ?_;rintro e wX ⟨rfl,cG⟩;obtain⟨eW,e5,cU⟩:=bkn cG wr.heap.size hz;have hz:=cU;have Bw:=Bw.tr cG);(try go_wp2_with fail)))
           refine tK hK fun hHeld=>?_
           clear hK K;refine(tW 11)<|(tW 12)<|tD ?_
           all_goals
             go_wp2;go_roundw
             case rel=>exact⟨i,gC,by omega,by go_num,hown2.below Bw,cT.bl Bw,b6.tr Bw⟩
             case measure=>simp[intOf]
         . have hle:o1<=o2:=by
            have:=mt cE.1 gC;omega
           have h9:E=i+1:=(by omega);clear cE;go_wp2_with fail
           refine rB (fun w'=>w'.cell? ⟨g,i*3,none⟩=some (.int .i64 ex)/\w'.cell? ⟨g,i*3+1,none⟩=some (.int .i64 ey)/\w'.cell? ⟨g,i*3+2,none⟩=some (.bool ed)/\w'.cell? ⟨gd,0,none⟩=some (.int .i64 x)/\w'.cell? ⟨gd,1,none⟩=some (.int .i64 y)/\w'.cell? ⟨gd,2,none⟩=some (.bool dn)) fun hHeld=>(tW 0)<|(tW 1)<|(tW 2)<|(tW 3)<|(tW 4)<|(tW 5)<|(tW 6)<|(tW 7)<|(tW 9)<|(tR [8])<|tL fun K hK=>?_
           go_simp
           (first|(go_at_call 163;go_must (refine(xJ _ _ _ _ _ (by first|exact eN.out|exact cS.out) (by first|exact eP.out|exact eR.out)).mono ?_;rintro e wX ⟨rfl,cG⟩;obtain⟨eW,e5,cU⟩:=bkn cG wr.heap.size hz;have hz:=cU;have Bw:=Bw.tr cG);(try go_wp2_with fail)))
           refine tK hK fun hHeld=>?_
           clear hK K;refine(tR [10])<|tL fun K hK=>?_
           go_simp
           (first|(go_at_call 163;go_must (refine(xJ _ _ _ _ _ (by first|exact eN.out|exact cS.out) (by first|exact eP.out|exact eR.out)).mono ?_;rintro e wX ⟨rfl,cG⟩;obtain⟨eW,e5,cU⟩:=bkn cG wr.heap.size hz;have hz:=cU;have Bw:=Bw.tr cG);(try go_wp2_with fail)))
           refine tK hK fun hHeld=>?_
           clear hK K;refine(tW 11)<|(tW 12)<|tD ?_
           all_goals
             have bU:=hown2.below Bw;have cI:=cT.bl Bw;have B3:=b6.tr Bw;have gR:=cT.lt;clear hHeld z0 z1 z2 bC bE bF hown2 cT b6 Bw hz eW e5 cU cG gB;obtain⟨W4,gS⟩:=Ti wX;subst gS;have cL:=bU.slot aC (by decide) eE;rw[<-He.out]at cL;have z0:=cL 0 _ rfl;have z1:=cL 1 _ rfl;have z2:=cL 2 _ rfl;simp only[Nat.add_zero]at z0;clear cL;obtain⟨bC,bE,bF⟩:=cI.n3;by_cases b9:out[P]? =some (x,y,dn)
             . have cF : P = i := by have := HE.out; rw [if_pos b9] at this; omega
               subst cF
               have gF:(ex,ey,ed)=(x,y,dn):=by
                rw[List.getElem?_eq_getElem eE,Option.some.injEq]at b9;rw[He.out,b9]
               simp only[Prod.mk.injEq]at gF;obtain⟨rfl,rfl,rfl⟩:=gF;have HG:Hid (kT out (l.drop (k+1))=jI l):=Tk (by rw[<-cV.out,cN.out,if_pos b9]);clear b9;go_wp2_with fail
               refine rB (fun w'=>w'.cell? ⟨g,P*3,none⟩=some (.int .i64 ex)/\w'.cell? ⟨g,P*3+1,none⟩=some (.int .i64 ey)/\w'.cell? ⟨g,P*3+2,none⟩=some (.bool ed)/\w'.cell? ⟨gd,0,none⟩=some (.int .i64 ex)/\w'.cell? ⟨gd,1,none⟩=some (.int .i64 ey)/\w'.cell? ⟨gd,2,none⟩=some (.bool ed)) fun hHeld=>(tW 0)<|(tW 1)<|(tW 2)<|(tW 3)<|(tW 4)<|(tW 5)<|(tW 6)<|(tW 7)<|(tW 8)<|(tW 9)<|(tW 10)<|tD ?_
               go_wp2;go_roundw
               case rel=>exact⟨k+1,out,_,c3,by omega,by go_num,rfl,HG,cP,bU.below ((Below.refl _ _).drew),B3.drew⟩
               case measure=>simp[intOf];omega
             . have cF : P = i + 1 := by have := HE.out; rw [if_neg b9] at this; omega
               have hne : ¬ (ex, ey, ed) = (x, y, dn) := fun q => by
                have h1:=AP (x,y,dn) out i eE (by rw[<-HP.out];omega);rw[<-He.out,q]at h1;omega
               have cR:=Tk b9;clear b9;by_cases h1:ex=x
               . obtain rfl:x=ex:=h1.symm;by_cases h2:ey=y
                 . obtain rfl:y=ey:=h2.symm;by_cases h3:ed=dn
                   . exfalso;apply hne;rw[h3]
                   . have gK:=Tk hne;clear hne;go_wp2_with fail
                     refine rB (fun w'=>w'.cell? ⟨g,i*3,none⟩=some (.int .i64 x)/\w'.cell? ⟨g,i*3+1,none⟩=some (.int .i64 y)/\w'.cell? ⟨g,i*3+2,none⟩=some (.bool ed)/\w'.cell? ⟨gd,0,none⟩=some (.int .i64 x)/\w'.cell? ⟨gd,1,none⟩=some (.int .i64 y)/\w'.cell? ⟨gd,2,none⟩=some (.bool dn)) fun hHeld=>(tW 0)<|(tW 1)<|(tW 2)<|(tW 3)<|(tW 4)<|(tW 5)<|(tW 6)<|(tW 7)<|(tW 8)<|(tW 9)<|(tW 10)<|tD ?_
                     have cA:=bU.below ((Below.refl _ _).drew);have cM:=cI.bl ((Below.refl _ _).drew);have B6:=B3.drew;clear hHeld z0 z1 z2 bC bE bF bU cI B3;obtain⟨W5,cJ⟩:=Ti W4.drew;rw[<-cJ]at cA cM B6⊢;clear cJ fX fY gA;first|rw[show((i:Int)+1)=(P:Int) by omega]|rw[show(((i+1:Nat)):Int)=(P:Int) by omega]
                     have gL:=Tk cF;clear cF;have bJ:Hid (kT (out.take P++(x,y,dn)::out.drop P) (l.drop (k+1))=jI l):=Tk (by rw[<-cV.out,cN.out,if_neg cR.out]);have b7:Hid (Sorted (out.take P++(x,y,dn)::out.drop P)):=Tk (by have:=jO cP.out (x,y,dn);rw[cN.out,if_neg cR.out]at this;exact this);have H8:Hid ((out.length+1)*24<=140737488355328):=Tk (by omega);have HM:Hid (out.length+1<=maxLen):=Tk (by unfold maxLen;omega);have bP:=cQ.out;go_wp2_with (at_builtin;go_must (refine aF (enc:=aV) aJ aC aL B6 cA ((0,0,false):Dm) H8.out HM.out rfl _ _ rfl rfl rfl ?_);intro v4 w4 bB hb4 hg4 cK;obtain⟨A4,c4,rfl,cW,e9⟩:=bB.form)
                     have cB:=(cM.alloc _).grown hg4 (fun e=>bP e.symm);obtain⟨g4,cX,bA,cY⟩:=bB.split (k:=0) (by simp);subst cX
                     have dL:g4≠gd:=by
                      have bR:=cM.lt;rcases cK with q|q
                      . intro e;apply bP;rw[<-q,e];rfl
                      . simp[TH]at q;omega
                     clear cK;simp only[Tw,Ty]at cW bB⊢;obtain⟨bC,bE,bF⟩:=cB.n3;have fD:¬c4=P:=(by omega);have fL:IntKind.i64.wrap (((P:Nat):Int)+1)=((P:Nat):Int)+1:=TF _ (by omega);have eM:(0:Int)<=((P:Nat):Int)+1:=(by omega);have fN:((P:Nat):Int)+1<=(out.length:Int)+1:=(by omega);have fO:(((P:Nat):Int)+1).toNat=P+1:=(by omega);have fR:P+1<=c4:=(by omega);have cF:((P:Nat):Int)<=(out.length:Int)+1:=(by omega);have b8:P<=out.length:=(by omega);have a8:aD 99 3 aV w.heap.size w4.drew (.slice (some ⟨g4,0,none⟩) (out.length+1) c4) (out++[(0,0,false)]):=bB.below (Below.refl _ _).drew;have bK:Blk w4.drew gd 99 #[.int .i64 x,.int .i64 y,.bool dn]:=cB;have bS:=hb4.drew;clear bB cB hb4 bC bE bF;by_cases dT:c4=P+1
                     . go_wp2_with fail
                       refine rB (fun _=>True) fun hHeld=>(tW 0)<|(tW 1)<|(tW 2)<|(tW 3)<|(tW 4)<|(tW 5)<|(tW 6)<|(tR [7])<|tL fun K hK=>?_
                       (refine lN aJ aC aL a8 P b8 rfl _ _ rfl _ _ _ _ _ _ rfl rfl (by omega) (by omega) (fun h=>by exfalso;omega) (fun h=>by simp) ?_;intro w5 a6 bL)
                       refine tK hK fun hHeld=>?_
                       clear hK K;refine tD ?_;clear hHeld;have cC:=bK.grown bL (by simp;omega);have B5:=bS.grown bL bS.size (fun k hk=>by injection hk with hk;omega);have bR:((out++[((0,0,false):Dm)]).take (P+1)++out.drop P).length=out.length+1:=by simp;omega
                       have a7:=nE out ((0,0,false):Dm) (x,y,dn) b8;obtain⟨NW,bM⟩:=Ti (out.take P++(x,y,dn)::out.drop P);have bX:NW.length=out.length+1:=by rw[bM];simp;omega
                       rw[<-bM]at bJ b7 a7;obtain⟨L5,bY⟩:=Ti ((out++[((0,0,false):Dm)]).take (P+1)++out.drop P);rw[<-bY]at a6 a7 bR;have bN:P<L5.length:=(by omega);obtain⟨u0,u1,u2,s0,s1,s2⟩:=a6.Dl aC (k:=P) bN;have eA:=a6.free;have bO:=Tk a7;have b5:=Tk bX;have cD:=Tk bN;clear a7 bX bM bY bR a8 bK bS bL bN;have eC:((P:Nat):Int)<(out.length:Int)+1:=(by omega);obtain⟨bC,bE,bF⟩:=cC.n3;go_wp2;go_roundw
                       case rel=>exact⟨k+1,NW,_,c4,by omega,by go_num,by rw[b5.out],bJ,b7,by rw[b5.out,<-bO.out];exact a6.xR aC cD.out rfl,((B5.st _ _ (by first|exact bA|simp)).st _ _ (by first|exact bA|simp)).st _ _ (by first|exact bA|simp)⟩
                       case measure=>simp[intOf];omega
                     . go_wp2_with fail
                       refine rB (fun _=>True) fun hHeld=>(tW 0)<|(tW 1)<|(tW 2)<|(tW 3)<|(tW 4)<|(tW 5)<|(tW 6)<|(tR [7])<|tL fun K hK=>?_
                       (refine lN aJ aC aL a8 P b8 rfl _ _ rfl _ _ _ _ _ _ rfl rfl (by omega) (by omega) (fun h=>by simp) (fun h=>by simp) ?_;intro w5 a6 bL)
                       refine tK hK fun hHeld=>?_
                       clear hK K;refine tD ?_;clear hHeld;have cC:=bK.grown bL (by simp;omega);have B5:=bS.grown bL bS.size (fun k hk=>by injection hk with hk;omega);have bR:((out++[((0,0,false):Dm)]).take (P+1)++out.drop P).length=out.length+1:=by simp;omega
                       have a7:=nE out ((0,0,false):Dm) (x,y,dn) b8;obtain⟨NW,bM⟩:=Ti (out.take P++(x,y,dn)::out.drop P);have bX:NW.length=out.length+1:=by rw[bM];simp;omega
                       rw[<-bM]at bJ b7 a7;obtain⟨L5,bY⟩:=Ti ((out++[((0,0,false):Dm)]).take (P+1)++out.drop P);rw[<-bY]at a6 a7 bR;have bN:P<L5.length:=(by omega);obtain⟨u0,u1,u2,s0,s1,s2⟩:=a6.Dl aC (k:=P) bN;have eA:=a6.free;have bO:=Tk a7;have b5:=Tk bX;have cD:=Tk bN;clear a7 bX bM bY bR a8 bK bS bL bN;have eC:((P:Nat):Int)<(out.length:Int)+1:=(by omega);obtain⟨bC,bE,bF⟩:=cC.n3;go_wp2;go_roundw
                       case rel=>exact⟨k+1,NW,_,c4,by omega,by go_num,by rw[b5.out],bJ,b7,by rw[b5.out,<-bO.out];exact a6.xR aC cD.out rfl,((B5.st _ _ (by first|exact bA|simp)).st _ _ (by first|exact bA|simp)).st _ _ (by first|exact bA|simp)⟩
                       case measure=>simp[intOf];omega
                 . have gK:=Tk hne;clear hne;go_wp2_with fail
                   refine rB (fun w'=>w'.cell? ⟨g,i*3,none⟩=some (.int .i64 x)/\w'.cell? ⟨g,i*3+1,none⟩=some (.int .i64 ey)/\w'.cell? ⟨g,i*3+2,none⟩=some (.bool ed)/\w'.cell? ⟨gd,0,none⟩=some (.int .i64 x)/\w'.cell? ⟨gd,1,none⟩=some (.int .i64 y)/\w'.cell? ⟨gd,2,none⟩=some (.bool dn)) fun hHeld=>(tW 0)<|(tW 1)<|(tW 2)<|(tW 3)<|(tW 4)<|(tW 5)<|(tW 6)<|(tW 7)<|(tW 8)<|(tW 9)<|(tW 10)<|tD ?_
                   have cA:=bU.below ((Below.refl _ _).drew);have cM:=cI.bl ((Below.refl _ _).drew);have B6:=B3.drew;clear hHeld z0 z1 z2 bC bE bF bU cI B3;obtain⟨W5,cJ⟩:=Ti W4.drew;rw[<-cJ]at cA cM B6⊢;clear cJ fX fY gA;first|rw[show((i:Int)+1)=(P:Int) by omega]|rw[show(((i+1:Nat)):Int)=(P:Int) by omega]
                   have gL:=Tk cF;clear cF;have bJ:Hid (kT (out.take P++(x,y,dn)::out.drop P) (l.drop (k+1))=jI l):=Tk (by rw[<-cV.out,cN.out,if_neg cR.out]);have b7:Hid (Sorted (out.take P++(x,y,dn)::out.drop P)):=Tk (by have:=jO cP.out (x,y,dn);rw[cN.out,if_neg cR.out]at this;exact this);have H8:Hid ((out.length+1)*24<=140737488355328):=Tk (by omega);have HM:Hid (out.length+1<=maxLen):=Tk (by unfold maxLen;omega);have bP:=cQ.out;go_wp2_with (at_builtin;go_must (refine aF (enc:=aV) aJ aC aL B6 cA ((0,0,false):Dm) H8.out HM.out rfl _ _ rfl rfl rfl ?_);intro v4 w4 bB hb4 hg4 cK;obtain⟨A4,c4,rfl,cW,e9⟩:=bB.form)
                   have cB:=(cM.alloc _).grown hg4 (fun e=>bP e.symm);obtain⟨g4,cX,bA,cY⟩:=bB.split (k:=0) (by simp);subst cX
                   have dL:g4≠gd:=by
                    have bR:=cM.lt;rcases cK with q|q
                    . intro e;apply bP;rw[<-q,e];rfl
                    . simp[TH]at q;omega
                   clear cK;simp only[Tw,Ty]at cW bB⊢;obtain⟨bC,bE,bF⟩:=cB.n3;have fD:¬c4=P:=(by omega);have fL:IntKind.i64.wrap (((P:Nat):Int)+1)=((P:Nat):Int)+1:=TF _ (by omega);have eM:(0:Int)<=((P:Nat):Int)+1:=(by omega);have fN:((P:Nat):Int)+1<=(out.length:Int)+1:=(by omega);have fO:(((P:Nat):Int)+1).toNat=P+1:=(by omega);have fR:P+1<=c4:=(by omega);have cF:((P:Nat):Int)<=(out.length:Int)+1:=(by omega);have b8:P<=out.length:=(by omega);have a8:aD 99 3 aV w.heap.size w4.drew (.slice (some ⟨g4,0,none⟩) (out.length+1) c4) (out++[(0,0,false)]):=bB.below (Below.refl _ _).drew;have bK:Blk w4.drew gd 99 #[.int .i64 x,.int .i64 y,.bool dn]:=cB;have bS:=hb4.drew;clear bB cB hb4 bC bE bF;by_cases dT:c4=P+1
                   . go_wp2_with fail
                     refine rB (fun _=>True) fun hHeld=>(tW 0)<|(tW 1)<|(tW 2)<|(tW 3)<|(tW 4)<|(tW 5)<|(tW 6)<|(tR [7])<|tL fun K hK=>?_
                     (refine lN aJ aC aL a8 P b8 rfl _ _ rfl _ _ _ _ _ _ rfl rfl (by omega) (by omega) (fun h=>by exfalso;omega) (fun h=>by simp) ?_;intro w5 a6 bL)
                     refine tK hK fun hHeld=>?_
                     clear hK K;refine tD ?_;clear hHeld;have cC:=bK.grown bL (by simp;omega);have B5:=bS.grown bL bS.size (fun k hk=>by injection hk with hk;omega);have bR:((out++[((0,0,false):Dm)]).take (P+1)++out.drop P).length=out.length+1:=by simp;omega
                     have a7:=nE out ((0,0,false):Dm) (x,y,dn) b8;obtain⟨NW,bM⟩:=Ti (out.take P++(x,y,dn)::out.drop P);have bX:NW.length=out.length+1:=by rw[bM];simp;omega
                     rw[<-bM]at bJ b7 a7;obtain⟨L5,bY⟩:=Ti ((out++[((0,0,false):Dm)]).take (P+1)++out.drop P);rw[<-bY]at a6 a7 bR;have bN:P<L5.length:=(by omega);obtain⟨u0,u1,u2,s0,s1,s2⟩:=a6.Dl aC (k:=P) bN;have eA:=a6.free;have bO:=Tk a7;have b5:=Tk bX;have cD:=Tk bN;clear a7 bX bM bY bR a8 bK bS bL bN;have eC:((P:Nat):Int)<(out.length:Int)+1:=(by omega);obtain⟨bC,bE,bF⟩:=cC.n3;go_wp2;go_roundw
                     case rel=>exact⟨k+1,NW,_,c4,by omega,by go_num,by rw[b5.out],bJ,b7,by rw[b5.out,<-bO.out];exact a6.xR aC cD.out rfl,((B5.st _ _ (by first|exact bA|simp)).st _ _ (by first|exact bA|simp)).st _ _ (by first|exact bA|simp)⟩
                     case measure=>simp[intOf];omega
                   . go_wp2_with fail
                     refine rB (fun _=>True) fun hHeld=>(tW 0)<|(tW 1)<|(tW 2)<|(tW 3)<|(tW 4)<|(tW 5)<|(tW 6)<|(tR [7])<|tL fun K hK=>?_
                     (refine lN aJ aC aL a8 P b8 rfl _ _ rfl _ _ _ _ _ _ rfl rfl (by omega) (by omega) (fun h=>by simp) (fun h=>by simp) ?_;intro w5 a6 bL)
                     refine tK hK fun hHeld=>?_
                     clear hK K;refine tD ?_;clear hHeld;have cC:=bK.grown bL (by simp;omega);have B5:=bS.grown bL bS.size (fun k hk=>by injection hk with hk;omega);have bR:((out++[((0,0,false):Dm)]).take (P+1)++out.drop P).length=out.length+1:=by simp;omega
                     have a7:=nE out ((0,0,false):Dm) (x,y,dn) b8;obtain⟨NW,bM⟩:=Ti (out.take P++(x,y,dn)::out.drop P);have bX:NW.length=out.length+1:=by rw[bM];simp;omega
                     rw[<-bM]at bJ b7 a7;obtain⟨L5,bY⟩:=Ti ((out++[((0,0,false):Dm)]).take (P+1)++out.drop P);rw[<-bY]at a6 a7 bR;have bN:P<L5.length:=(by omega);obtain⟨u0,u1,u2,s0,s1,s2⟩:=a6.Dl aC (k:=P) bN;have eA:=a6.free;have bO:=Tk a7;have b5:=Tk bX;have cD:=Tk bN;clear a7 bX bM bY bR a8 bK bS bL bN;have eC:((P:Nat):Int)<(out.length:Int)+1:=(by omega);obtain⟨bC,bE,bF⟩:=cC.n3;go_wp2;go_roundw
                     case rel=>exact⟨k+1,NW,_,c4,by omega,by go_num,by rw[b5.out],bJ,b7,by rw[b5.out,<-bO.out];exact a6.xR aC cD.out rfl,((B5.st _ _ (by first|exact bA|simp)).st _ _ (by first|exact bA|simp)).st _ _ (by first|exact bA|simp)⟩
                     case measure=>simp[intOf];omega
               . have gK:=Tk hne;clear hne;go_wp2_with fail
                 refine rB (fun w'=>w'.cell? ⟨g,i*3,none⟩=some (.int .i64 ex)/\w'.cell? ⟨g,i*3+1,none⟩=some (.int .i64 ey)/\w'.cell? ⟨g,i*3+2,none⟩=some (.bool ed)/\w'.cell? ⟨gd,0,none⟩=some (.int .i64 x)/\w'.cell? ⟨gd,1,none⟩=some (.int .i64 y)/\w'.cell? ⟨gd,2,none⟩=some (.bool dn)) fun hHeld=>(tW 0)<|(tW 1)<|(tW 2)<|(tW 3)<|(tW 4)<|(tW 5)<|(tW 6)<|(tW 7)<|(tW 8)<|(tW 9)<|(tW 10)<|tD ?_
                 have cA:=bU.below ((Below.refl _ _).drew);have cM:=cI.bl ((Below.refl _ _).drew);have B6:=B3.drew;clear hHeld z0 z1 z2 bC bE bF bU cI B3;obtain⟨W5,cJ⟩:=Ti W4.drew;rw[<-cJ]at cA cM B6⊢;clear cJ fX fY gA;first|rw[show((i:Int)+1)=(P:Int) by omega]|rw[show(((i+1:Nat)):Int)=(P:Int) by omega]
                 have gL:=Tk cF;clear cF;have bJ:Hid (kT (out.take P++(x,y,dn)::out.drop P) (l.drop (k+1))=jI l):=Tk (by rw[<-cV.out,cN.out,if_neg cR.out]);have b7:Hid (Sorted (out.take P++(x,y,dn)::out.drop P)):=Tk (by have:=jO cP.out (x,y,dn);rw[cN.out,if_neg cR.out]at this;exact this);have H8:Hid ((out.length+1)*24<=140737488355328):=Tk (by omega);have HM:Hid (out.length+1<=maxLen):=Tk (by unfold maxLen;omega);have bP:=cQ.out;go_wp2_with (at_builtin;go_must (refine aF (enc:=aV) aJ aC aL B6 cA ((0,0,false):Dm) H8.out HM.out rfl _ _ rfl rfl rfl ?_);intro v4 w4 bB hb4 hg4 cK;obtain⟨A4,c4,rfl,cW,e9⟩:=bB.form)
                 have cB:=(cM.alloc _).grown hg4 (fun e=>bP e.symm);obtain⟨g4,cX,bA,cY⟩:=bB.split (k:=0) (by simp);subst cX
                 have dL:g4≠gd:=by
                  have bR:=cM.lt;rcases cK with q|q
                  . intro e;apply bP;rw[<-q,e];rfl
                  . simp[TH]at q;omega
                 clear cK;simp only[Tw,Ty]at cW bB⊢;obtain⟨bC,bE,bF⟩:=cB.n3;have fD:¬c4=P:=(by omega);have fL:IntKind.i64.wrap (((P:Nat):Int)+1)=((P:Nat):Int)+1:=TF _ (by omega);have eM:(0:Int)<=((P:Nat):Int)+1:=(by omega);have fN:((P:Nat):Int)+1<=(out.length:Int)+1:=(by omega);have fO:(((P:Nat):Int)+1).toNat=P+1:=(by omega);have fR:P+1<=c4:=(by omega);have cF:((P:Nat):Int)<=(out.length:Int)+1:=(by omega);have b8:P<=out.length:=(by omega);have a8:aD 99 3 aV w.heap.size w4.drew (.slice (some ⟨g4,0,none⟩) (out.length+1) c4) (out++[(0,0,false)]):=bB.below (Below.refl _ _).drew;have bK:Blk w4.drew gd 99 #[.int .i64 x,.int .i64 y,.bool dn]:=cB;have bS:=hb4.drew;clear bB cB hb4 bC bE bF;by_cases dT:c4=P+1
                 . go_wp2_with fail
                   refine rB (fun _=>True) fun hHeld=>(tW 0)<|(tW 1)<|(tW 2)<|(tW 3)<|(tW 4)<|(tW 5)<|(tW 6)<|(tR [7])<|tL fun K hK=>?_
                   (refine lN aJ aC aL a8 P b8 rfl _ _ rfl _ _ _ _ _ _ rfl rfl (by omega) (by omega) (fun h=>by exfalso;omega) (fun h=>by simp) ?_;intro w5 a6 bL)
                   refine tK hK fun hHeld=>?_
                   clear hK K;refine tD ?_;clear hHeld;have cC:=bK.grown bL (by simp;omega);have B5:=bS.grown bL bS.size (fun k hk=>by injection hk with hk;omega);have bR:((out++[((0,0,false):Dm)]).take (P+1)++out.drop P).length=out.length+1:=by simp;omega
                   have a7:=nE out ((0,0,false):Dm) (x,y,dn) b8;obtain⟨NW,bM⟩:=Ti (out.take P++(x,y,dn)::out.drop P);have bX:NW.length=out.length+1:=by rw[bM];simp;omega
                   rw[<-bM]at bJ b7 a7;obtain⟨L5,bY⟩:=Ti ((out++[((0,0,false):Dm)]).take (P+1)++out.drop P);rw[<-bY]at a6 a7 bR;have bN:P<L5.length:=(by omega);obtain⟨u0,u1,u2,s0,s1,s2⟩:=a6.Dl aC (k:=P) bN;have eA:=a6.free;have bO:=Tk a7;have b5:=Tk bX;have cD:=Tk bN;clear a7 bX bM bY bR a8 bK bS bL bN;have eC:((P:Nat):Int)<(out.length:Int)+1:=(by omega);obtain⟨bC,bE,bF⟩:=cC.n3;go_wp2;go_roundw
                   case rel=>exact⟨k+1,NW,_,c4,by omega,by go_num,by rw[b5.out],bJ,b7,by rw[b5.out,<-bO.out];exact a6.xR aC cD.out rfl,((B5.st _ _ (by first|exact bA|simp)).st _ _ (by first|exact bA|simp)).st _ _ (by first|exact bA|simp)⟩
                   case measure=>simp[intOf];omega
                 . go_wp2_with fail
                   refine rB (fun _=>True) fun hHeld=>(tW 0)<|(tW 1)<|(tW 2)<|(tW 3)<|(tW 4)<|(tW 5)<|(tW 6)<|(tR [7])<|tL fun K hK=>?_
                   (refine lN aJ aC aL a8 P b8 rfl _ _ rfl _ _ _ _ _ _ rfl rfl (by omega) (by omega) (fun h=>by simp) (fun h=>by simp) ?_;intro w5 a6 bL)
                   refine tK hK fun hHeld=>?_
                   clear hK K;refine tD ?_;clear hHeld;have cC:=bK.grown bL (by simp;omega);have B5:=bS.grown bL bS.size (fun k hk=>by injection hk with hk;omega);have bR:((out++[((0,0,false):Dm)]).take (P+1)++out.drop P).length=out.length+1:=by simp;omega
                   have a7:=nE out ((0,0,false):Dm) (x,y,dn) b8;obtain⟨NW,bM⟩:=Ti (out.take P++(x,y,dn)::out.drop P);have bX:NW.length=out.length+1:=by rw[bM];simp;omega
                   rw[<-bM]at bJ b7 a7;obtain⟨L5,bY⟩:=Ti ((out++[((0,0,false):Dm)]).take (P+1)++out.drop P);rw[<-bY]at a6 a7 bR;have bN:P<L5.length:=(by omega);obtain⟨u0,u1,u2,s0,s1,s2⟩:=a6.Dl aC (k:=P) bN;have eA:=a6.free;have bO:=Tk a7;have b5:=Tk bX;have cD:=Tk bN;clear a7 bX bM bY bR a8 bK bS bL bN;have eC:((P:Nat):Int)<(out.length:Int)+1:=(by omega);obtain⟨bC,bE,bF⟩:=cC.n3;go_wp2;go_roundw
                   case rel=>exact⟨k+1,NW,_,c4,by omega,by go_num,by rw[b5.out],bJ,b7,by rw[b5.out,<-bO.out];exact a6.xR aC cD.out rfl,((B5.st _ _ (by first|exact bA|simp)).st _ _ (by first|exact bA|simp)).st _ _ (by first|exact bA|simp)⟩
                   case measure=>simp[intOf];omega
  . obtain rfl : k = l.length := by omega
    have hg:=Hg.out;rw[Tu (TD _)]at hg;have hg2:out=jI l:=hg;clear hg;subst hg2;go_wp2;go_ret;exact⟨_,_,rfl,hown,cH⟩
theorem J7 (x y:Int):kU (x,y)=(inB x 0 6&&inB y 0 6):=by
 unfold kU inB;rw[Bool.eq_iff_iff];simp only[Bool.and_eq_true,decide_eq_true_eq]
theorem wZ {l:List Dm} {c:Cl} (h:kU c=false):kindOf l c=0:=by unfold kindOf;rw[h];rfl
theorem K7 {l:List Dm} {x y:Int} (h:kU (x,y)=true):decide (kindOf l (x,y)≠0)=((l.contains (x,y,false)&&l.contains (x,y+1,false))||(l.contains (x,y,true)&&l.contains (x+1,y,true))):=by
 unfold kindOf fK qW vG;rw[h,if_pos rfl];simp only;rcases l.contains (x,y,false)&&l.contains (x,y+1,false)with _|_
 . rcases l.contains (x,y,true)&&l.contains (x+1,y,true)with _|_<;>rfl
 . rfl
theorem uR (v:Value) (l:List Dm) (x y:Int) (w:World) (h:Rd 3 aQ w v l):Calls prog 199 #[v,.agg #[.int .i64 x,.int .i64 y]] w (Ret (.bool (decide (kindOf l (x,y)≠0))) w):=by
 obtain⟨A,c,rfl,hc,hm⟩:=h.form;have hA:=(Below.refl w.heap.size w).al (.cells #[.int .i64 x,.int .i64 y] 83);have bS:=J7 x y;rcases hx:inB x 0 6 with _|_
 . have e : decide (kindOf l (x, y) ≠ 0) = false := by rw [wZ (by rw [bS, hx]; rfl)]; rfl
   rw[e];have Hx:=Tk hx;clear hx bS e;go_enter TI,TJ
   go_wp2_with fail
   refine(dI _ _ _ _).mono ?_;rintro e w1 ⟨rfl,rfl⟩;rw[Hx.out];go_wp2;go_ret;exact⟨rfl,hA⟩
 . rcases hy:inB y 0 6 with _|_
   . have e : decide (kindOf l (x, y) ≠ 0) = false := by rw [wZ (by rw [bS, hx, hy]; rfl)]; rfl
     rw[e];have Hx:=Tk hx;have Hy:=Tk hy;clear hx hy bS e;go_enter TI,TJ
     go_wp2_with fail
     refine(dI _ _ _ _).mono ?_;rintro e w1 ⟨rfl,rfl⟩;rw[Hx.out];go_wp2_with fail
     refine(dI _ _ _ _).mono ?_;rintro e w2 ⟨rfl,rfl⟩;rw[Hy.out];go_wp2;go_ret;exact⟨rfl,hA⟩
   . have bO : kU (x, y) = true := by rw [bS, hx, hy]; rfl
     have hk:=K7 (l:=l) bO;obtain⟨R,hR⟩:=Ti (decide (kindOf l (x,y)≠0));rw[<-hR]at hk⊢;have HA:∃b,b=l.contains (x,y,false):=⟨_,rfl⟩;obtain⟨a1,ha1⟩:=HA;obtain⟨a2,ha2⟩:=Ti (l.contains (x,y+1,false));obtain⟨d1,bU⟩:=Ti (l.contains (x,y,true));obtain⟨d2,bX⟩:=Ti (l.contains (x+1,y,true));rw[<-ha1,<-ha2,<-bU,<-bX]at hk;have Hx:=Tk hx;have Hy:=Tk hy;have bY:=Tk bO;have b8:=Tk ha1.symm;have b9:=Tk ha2.symm;have b6:=Tk bU.symm;have b7:=Tk bX.symm;have Hk:=Tk hk;clear hx hy bS bO ha1 ha2 bU bX hR hk;go_enter TI,TJ
     go_wp2_with fail
     refine(dI _ _ _ _).mono ?_;rintro e w1 ⟨rfl,rfl⟩;rw[Hx.out];go_wp2_with fail
     refine(dI _ _ _ _).mono ?_;rintro e w2 ⟨rfl,rfl⟩;rw[Hy.out];go_wp2_with fail
     refine(Eb x y _ bY.out).mono ?_;rintro e w3 ⟨rfl,hb3⟩;have B3:=((hA.tr hb3).al (.cells #[.int .i64 x,.int .i64 y,.bool false,.int .i64 x,.int .i64 (y+1),.bool false] 193)).al (.cells #[.int .i64 x,.int .i64 y,.bool true,.int .i64 (x+1),.int .i64 y,.bool true] 193);have a6:=(Blk.aX w3 193 #[.int .i64 x,.int .i64 y,.bool false,.int .i64 x,.int .i64 (y+1),.bool false]).alloc (.cells #[.int .i64 x,.int .i64 y,.bool true,.int .i64 (x+1),.int .i64 y,.bool true] 193);have a7:=Blk.gI (w3.alloc (.cells #[.int .i64 x,.int .i64 y,.bool false,.int .i64 x,.int .i64 (y+1),.bool false] 193)) 193 #[.int .i64 x,.int .i64 y,.bool true,.int .i64 (x+1),.int .i64 y,.bool true] (w3.heap.size+1) (by simp);obtain⟨a8,bA,bB,bC,bD,bE⟩:=a6.n6;obtain⟨bF,bJ,bK,bL,bM,bN⟩:=a7.n6;go_wp2_with fail
     refine(iL _ l x y false _ (h.Tj B3)).mono ?_;rintro e w4 ⟨rfl,hb4⟩;rw[b8.out];have B4:=B3.tr hb4;clear a8 bA bB bC bD bE bF bJ bK bL bM bN;have a6:=a6.bl hb4;have a7:=a7.bl hb4;obtain⟨a8,bA,bB,bC,bD,bE⟩:=a6.n6;obtain⟨bF,bJ,bK,bL,bM,bN⟩:=a7.n6;rcases a1 with _|_
     . skip;go_wp2_with fail
       refine(iL _ l x y true _ (h.Tj B4)).mono ?_;rintro e w5 ⟨rfl,bP⟩;rw[b6.out];have B5:=B4.tr bP;clear a8 bA bB bC bD bE bF bJ bK bL bM bN;have a6:=a6.bl bP;have a7:=a7.bl bP;obtain⟨a8,bA,bB,bC,bD,bE⟩:=a6.n6;obtain⟨bF,bJ,bK,bL,bM,bN⟩:=a7.n6;rcases d1 with _|_
       . have HR := Tk (show false = R by rw [Hk.out]; cases a2 <;> cases d2 <;> rfl);go_wp2;go_ret;exact⟨lJ HR.out,B5⟩
       . skip;go_wp2_with fail
         refine(iL _ l (x+1) y true _ (h.Tj B5)).mono ?_;rintro e w6 ⟨rfl,bR⟩;rw[b7.out];have B6:=B5.tr bR;clear a8 bA bB bC bD bE bF bJ bK bL bM bN;have a6:=a6.bl bR;have a7:=a7.bl bR;obtain⟨a8,bA,bB,bC,bD,bE⟩:=a6.n6;obtain⟨bF,bJ,bK,bL,bM,bN⟩:=a7.n6;have HR:=Tk (show d2=R by rw[Hk.out];cases a2<;>cases d2<;>rfl);go_wp2;go_ret;exact⟨lJ HR.out,B6⟩
     . skip;go_wp2_with fail
       refine(iL _ l x (y+1) false _ (h.Tj B4)).mono ?_;rintro e w5 ⟨rfl,bP⟩;rw[b9.out];have B5:=B4.tr bP;clear a8 bA bB bC bD bE bF bJ bK bL bM bN;have a6:=a6.bl bP;have a7:=a7.bl bP;obtain⟨a8,bA,bB,bC,bD,bE⟩:=a6.n6;obtain⟨bF,bJ,bK,bL,bM,bN⟩:=a7.n6;rcases a2 with _|_
       . skip;go_wp2_with fail
         refine(iL _ l x y true _ (h.Tj B5)).mono ?_;rintro e w6 ⟨rfl,bR⟩;rw[b6.out];have B6:=B5.tr bR;clear a8 bA bB bC bD bE bF bJ bK bL bM bN;have a6:=a6.bl bR;have a7:=a7.bl bR;obtain⟨a8,bA,bB,bC,bD,bE⟩:=a6.n6;obtain⟨bF,bJ,bK,bL,bM,bN⟩:=a7.n6;rcases d1 with _|_
         . have HR := Tk (show false = R by rw [Hk.out]; cases d2 <;> rfl);go_wp2;go_ret;exact⟨lJ HR.out,B6⟩
         . skip;go_wp2_with fail
           refine(iL _ l (x+1) y true _ (h.Tj B6)).mono ?_;rintro e w7 ⟨rfl,b5⟩;rw[b7.out];have B7:=B6.tr b5;clear a8 bA bB bC bD bE bF bJ bK bL bM bN;have a6:=a6.bl b5;have a7:=a7.bl b5;obtain⟨a8,bA,bB,bC,bD,bE⟩:=a6.n6;obtain⟨bF,bJ,bK,bL,bM,bN⟩:=a7.n6;have HR:=Tk (show d2=R by rw[Hk.out];cases d2<;>rfl);go_wp2;go_ret;exact⟨lJ HR.out,B7⟩
       . have HR := Tk (show true = R by rw [Hk.out]; cases d1 <;> cases d2 <;> rfl);go_wp2;go_ret;exact⟨lJ HR.out,B5⟩
theorem aP {P:Program} {ops:Array Oper} {rest:List Oper} {o:Oper} {a:Act} {Q:Exit->Act->World->Prop} {α:Type} {t E:TypeId} {z:Value} {size bytes:Nat} (R:Row P t E z size bytes)
    {enc:α->List Value} (a7:∀x,(enc x).length=size) (h1:∀x,∀u∈enc x,u.oneCell'=true)
    {W0 w:World} (a8:Below W0.heap.size W0 w) {v:Value} {l:List α} (hown:aD E size enc W0.heap.size w v l) (y:α)
    (hlen:(l.length+1)*bytes<=140737488355328) (a6:l.length+1<=maxLen) {g:Nat} (hg:g=w.heap.size)
    (hgd:o.guard=none) (s x:Operand) (ho:o.op= .call {callee:= .builtin .append,args:= #[s,x],argTypes:= #[t,t]})
    (hs:a.eval s=v) (hx:a.eval x= .slice (some ⟨g,0,none⟩) 1 1)
    (h:∀v' w',aD E size enc W0.heap.size w' v' (l++[y])->Below W0.heap.size W0 w'->(w.alloc (.cells (enc y).toArray E)).grownBy w' v.ownBlock->(v'.ownBlock=v.ownBlock∨v'.ownBlock=some (w.heap.size+1))->wpList P ops Q rest (a.put o.dst v') w'):
    wpList P ops Q (o::rest) a (w.alloc (.cells (enc y).toArray E)):=by
 subst hg;exact aF R a7 h1 a8 hown y hlen a6 hgd s x ho hs hx h
def fZ {α:Type} (E:TypeId) (size:Nat) (enc:α->List Value) (l:List α) (b:Bool) (w:World) (e:Ending) (w':World):Prop:=
 ∃A c,e= .returned (.tuple #[.slice A l.length c,.bool b])/\aD E size enc w.heap.size w' (.slice A l.length c) l/\Below w.heap.size w w'
theorem aA {P:Program} {ops:Array Oper} {rest:List Oper} {o:Oper} {a:Act} {w:World} {Q:Exit->Act->World->Prop} (hgd:o.guard=none) (ty:TypeId) (x y:Operand) (ho:o.op= .store ty x y)
    (g:Nat) (cells:Array Value) (hx:a.eval x= .pointer (some ⟨g,0,none⟩)) (hy:a.eval y= .agg cells)
    (t:TypeId) (old:Array Value) (hg:Blk w g t old) (hi:(P.info? ty).map (·.size)=some cells.size) (hold:old.size=cells.size) (h1:cells.all (·.oneCell')=true)
    (h:∀w',Blk w' g t cells->w.grownBy w' (some g)->wpList P ops Q rest (a.put o.dst undef) w'):wpList P ops Q (o::rest) a w:=
 wpList_store_row hgd ty x y ho g cells hx hy t old hg hi hold h1 (h _ (setRow_heap w g old cells t (0,0) hg) (IZ cells))
theorem J8 {l:List Dm} {c:Cl} (h:¬kindOf l c=0):kU c=true:=by
 rcases q:kU c with _|_
 . exact absurd (wZ q) h
 . rfl
theorem kC {a b:Int} {c:Bool} {x y:Int} {d:Bool} (h:¬((a,b,c):Dm)=(x,y,d)):(¬a=x)∨(x=a/\¬b=y)∨(x=a/\y=b/\¬c=d):=by
 by_cases h1:a=x
 . by_cases h2:b=y
   . exact .inr (.inr ⟨h1.symm,h2.symm,fun h3=>h (by rw[h1,h2,h3])⟩)
   . exact .inr (.inl ⟨h1.symm,h2⟩)
 . exact .inl h1
theorem AQ (W:World) (a b:Dm) (B:Nat) (hB:B<=W.heap.size):aD 99 3 aV B (W.alloc (.cells #[.int .i64 a.1,.int .i64 a.2.1,.bool a.2.2,.int .i64 b.1,.int .i64 b.2.1,.bool b.2.2] 99)) (.slice (some ⟨W.heap.size,0,none⟩) 2 2) [a,b]:=by
 have:=World.ownsRow_lit (e:=99) (size:=3) W #[.int .i64 a.1,.int .i64 a.2.1,.bool a.2.2,.int .i64 b.1,.int .i64 b.2.1,.bool b.2.2] 2 (TD _) (by simp[maxLen]) (by simp);exact Go.Joins.ownsRow_le this hB
set_option maxHeartbeats 8000000 in
theorem rV (v:Value) (l:List Dm) (x y:Int) (w:World) (h:Rd 3 aQ w v l) (hl:Small l.length):Calls prog 145 #[v,.agg #[.int .i64 x,.int .i64 y]] w (fZ 99 3 aV (fE l (x,y)).1 (fE l (x,y)).2 w):=by
 obtain⟨A,c,rfl,hc,hm⟩:=h.form;have hA:=(Below.refl w.heap.size w).al (.cells #[.int .i64 x,.int .i64 y] 83);have bC:=Blk.aX w 83 #[.int .i64 x,.int .i64 y];by_cases hk:kindOf l (x,y)=0
 . have e : fE l (x, y) = (l, false) := by unfold fE; rw [if_pos hk]
   rw[e];have Hc:Hid (decide (kindOf l (x,y)≠0)=false):=Tk (by simp[hk]);clear hk e;go_enter func145,ntmps145
   go_wp2_with fail
   refine(uR _ l x y _ (h.Tj hA)).mono ?_;rintro e w1 ⟨rfl,hb1⟩;rw[Hc.out];have B1:=hA.tr hb1;go_wp2_with fail
   refine(dH _ l _ (h.Tj B1) hl).mono ?_;rintro e w2 ⟨A2,c2,rfl,cU,hb2⟩;go_wp2;go_ret2
   exact⟨A2,c2,rfl,cU.mono B1.size,B1.tr hb2⟩
 . have e : fE l (x, y) = (aU l (x, y), true) := by unfold fE; rw [if_neg hk]
   rw[e];have cI:=J8 hk;have Hc:Hid (decide (kindOf l (x,y)≠0)=true):=Tk (by simp[hk]);have cJ:=Tk cI;clear cI e;have eC:kindOf l (x,y)=if fK l (qW (x,y))then 1 else if fK l (vG (x,y))then 2 else 0:=by unfold kindOf;rw[cJ.out,if_pos rfl]
   have hab:fK l (qW (x,y))=(l.contains (x,y,false)&&l.contains (x,y+1,false)):=rfl;obtain⟨a1,ha1⟩:=Ti (l.contains (x,y,false));obtain⟨a2,ha2⟩:=Ti (l.contains (x,y+1,false));rw[<-ha1,<-ha2]at hab;have eR:=Tk ha1.symm;have eW:=Tk ha2.symm;have Hk:=Tk hk;have cV:=Tk eC;have cW:=Tk hab;clear ha1 ha2 hk eC hab;go_enter func145,ntmps145
   have e5:=bC.cell 0;go_wp2_with fail
   refine(uR _ l x y _ (h.Tj hA)).mono ?_;rintro e w1 ⟨rfl,hb1⟩;rw[Hc.out];have B1:=hA.tr hb1;clear e5;have eE:=bC.bl hb1;obtain⟨cX,cY⟩:=eE.n2;go_wp2_with fail
   refine(Eb x y _ cJ.out).mono ?_;rintro e w3 ⟨rfl,hb3⟩;have B3:=((B1.tr hb3).al (.cells #[.int .i64 x,.int .i64 y,.bool false,.int .i64 x,.int .i64 (y+1),.bool false] 193)).al (.cells #[.int .i64 x,.int .i64 y,.bool true,.int .i64 (x+1),.int .i64 y,.bool true] 193);have bN:=(Blk.aX w3 193 #[.int .i64 x,.int .i64 y,.bool false,.int .i64 x,.int .i64 (y+1),.bool false]).alloc (.cells #[.int .i64 x,.int .i64 y,.bool true,.int .i64 (x+1),.int .i64 y,.bool true] 193);have bB:=Blk.gI (w3.alloc (.cells #[.int .i64 x,.int .i64 y,.bool false,.int .i64 x,.int .i64 (y+1),.bool false] 193)) 193 #[.int .i64 x,.int .i64 y,.bool true,.int .i64 (x+1),.int .i64 y,.bool true] (w3.heap.size+1) (by simp);clear cX cY eE;obtain⟨bD,bE,bF,bJ,bK,bL⟩:=bN.n6;obtain⟨bO,bP,bR,bS,bU,bX⟩:=bB.n6;go_wp2_with fail
   refine(iL _ l x y false _ (h.Tj B3)).mono ?_;rintro e w4 ⟨rfl,hb4⟩;rw[eR.out];have B4:=B3.tr hb4;clear bD bE bF bJ bK bL bO bP bR bS bU bX;have bN:=bN.bl hb4;have bB:=bB.bl hb4;obtain⟨bD,bE,bF,bJ,bK,bL⟩:=bN.n6;obtain⟨bO,bP,bR,bS,bU,bX⟩:=bB.n6;rcases a1 with _|_
   . skip
     have cD:kindOf l (x,y)=2:=by
      have h0:=Hk.out;have h1:=cV.out;have h2:fK l (qW (x,y))=false:=by rw[cW.out];rfl
      rw[h2]at h1;simp only[Bool.false_eq_true,if_false]at h1;by_cases q:fK l (vG (x,y))=true
      . rw[h1,if_pos q]
      . rw[if_neg q]at h1;exact absurd h1 h0
     obtain⟨g7,cE⟩:=Ti (w3.heap.size+1);obtain⟨g6,cF⟩:=Ti w3.heap.size;have cK:g6≠g7:=(by omega);have cL:w.heap.size<=g6:=by have:=(B1.tr hb3).size;omega
     have cM:w.heap.size<=g7:=(by omega);rw[<-cE]at bB⊢;rw[<-cF]at bN⊢;clear cF cE bD bE bF bJ bK bL bO bP bR bS bU bX;obtain⟨bD,bE,bF,bJ,bK,bL⟩:=bN.n6;obtain⟨bO,bP,bR,bS,bU,bX⟩:=bB.n6;go_wp2_with (first|(refine aA rfl 193 _ _ rfl g6 #[.int .i64 x,.int .i64 y,.bool true,.int .i64 (x+1),.int .i64 y,.bool true] rfl rfl _ _ bN (by kernel_rfl) rfl (by simp[TG]) ?_;intro wS dL cN;have BS:=B4.grown cN B4.size (fun k hk=>by injection hk with hk;omega);have bB:=bB.grown cN (by simp;omega))|(refine aA rfl 193 _ _ rfl g7 #[.int .i64 x,.int .i64 y,.bool false,.int .i64 x,.int .i64 (y+1),.bool false] rfl rfl _ _ bB (by kernel_rfl) rfl (by simp[TG]) ?_;intro wT dT cP;have cQ:=dL.grown cP (by simp;omega);have BT:=BS.grown cP BS.size (fun k hk=>by injection hk with hk;omega);clear bD bE bF bJ bK bL bO bP bR bS bU bX;obtain⟨bD,bE,bF,bJ,bK,bL⟩:=cQ.n6;obtain⟨bO,bP,bR,bS,bU,bX⟩:=dT.n6))
     obtain⟨gx,hgx⟩:∃n:Int,n=x:=⟨_,rfl⟩;obtain⟨gy,b7⟩:∃n:Int,n=y:=⟨_,rfl⟩;obtain⟨gb,hgb⟩:∃n:Bool,n=true:=⟨_,rfl⟩;obtain⟨kx,b8⟩:∃n:Int,n=x+1:=⟨_,rfl⟩;obtain⟨ky,b9⟩:∃n:Int,n=y:=⟨_,rfl⟩;obtain⟨kb,hkb⟩:∃n:Bool,n=true:=⟨_,rfl⟩;have b6:Blk wT g6 193 #[.int .i64 gx,.int .i64 gy,.bool gb,.int .i64 kx,.int .i64 ky,.bool kb]:=by rw[hgx,b7,hgb,b8,b9,hkb];exact cQ
     have cG:Hid (nY (kindOf l (x,y)) (x,y)=((gx,gy,gb),(kx,ky,kb))/\qM (kindOf l (x,y)) (x,y)=((x,y,false),(x,y+1,false))):=Tk (by rw[cD,hgx,b7,hgb,b8,b9,hkb];exact⟨rfl,rfl⟩);clear hgx b7 hgb b8 b9 hkb cD bN bB;clear bD bE bF bJ bK bL bO bP bR bS bU bX;have bY:aD 99 3 aV w.heap.size (wT.alloc (.cells #[.int .i64 x,.int .i64 y,.bool false,.int .i64 x,.int .i64 (y+1),.bool false] 99)) (.slice (some ⟨wT.heap.size,0,none⟩) 2 2) [((x,y,false):Dm),(x,(y+1),false)]:=AQ _ (x,y,false) (x,(y+1),false) _ BT.size;have cH:=b6.alloc (.cells #[.int .i64 x,.int .i64 y,.bool false,.int .i64 x,.int .i64 (y+1),.bool false] 99);have B0:=BT.al (.cells #[.int .i64 x,.int .i64 y,.bool false,.int .i64 x,.int .i64 (y+1),.bool false] 99);go_wp2;go_loopw [8,43] (fun s8 cR wr=>∃(k:Nat) (out:List Dm) (A8:Option Addr) (c8:Nat),k<=l.length/\out.length<=k+2/\cR= .int .i64 k/\s8= .slice A8 out.length c8/\Hid (out++(l.drop k).filter (keepD ((gx,gy,gb),(kx,ky,kb)))=jH l ((gx,gy,gb),(kx,ky,kb)) ((x,y,false),(x,(y+1),false)))/\aD 99 3 aV w.heap.size wr (.slice A8 out.length c8) out/\Blk wr g6 193 #[.int .i64 gx,.int .i64 gy,.bool gb,.int .i64 kx,.int .i64 ky,.bool kb]/\Below w.heap.size w wr) (fun _ i _=>l.length-(intOf i).toNat)
     case atStart=>exact⟨0,[((x,y,false):Dm),(x,(y+1),false)],_,_,TC _,by simp,rfl,rfl,Tk rfl,bY,cH,B0⟩
     case round=>
      obtain⟨k,out,A8,c8,hk,eI,rfl,rfl,Hg,hown,cA,a7⟩:=hrel;clear bY cH B0;by_cases hlt:k<l.length
      . obtain⟨b,off,rfl,hb,q1,q2,q3⟩:=(h.Tj a7).kE hlt;have hg:=Hg.out;rw[Tq hlt,Tz]at hg;obtain⟨d,hd⟩:=Ti (l[k]);rw[<-hd]at q1 q2 q3 hg;obtain⟨ex,ey,ed⟩:=d;simp only at q1 q2 q3;obtain⟨bD,bE,bF,bJ,bK,bL⟩:=cA.n6;have eJ:=cA.lt;have eK:g6≠wr.heap.size:=(by omega);have B1:=a7.al (.cells #[.int .i64 ex,.int .i64 ey,.bool ed] 99);have a6:=hown.alloc (.cells #[.int .i64 ex,.int .i64 ey,.bool ed] 99);have bM:=cA.alloc (.cells #[.int .i64 ex,.int .i64 ey,.bool ed] 99);have H8:Hid ((out.length+1)*24<=140737488355328):=Tk (by unfold Small at hl;omega);have HM:Hid (out.length+1<=maxLen):=Tk (by unfold Small at hl;unfold maxLen;omega);clear hd;by_cases e1:((ex,ey,ed):Dm)=(gx,gy,gb)
        . rw [if_neg (by rw [e1]; simp [keepD])] at hg;have bA:=Tk hg;clear hg;simp only[Prod.mk.injEq]at e1;obtain⟨rfl,rfl,rfl⟩:=e1;go_wp2;go_roundw
          case rel=>exact⟨k+1,out,A8,c8,by omega,by omega,by go_num,rfl,bA,a6,bM,B1⟩
          case measure=>simp[intOf];omega
        . by_cases e2:((ex,ey,ed):Dm)=(kx,ky,kb)
          . rw [if_neg (by rw [e2]; simp [keepD])] at hg;have bA:=Tk hg;clear hg;simp only[Prod.mk.injEq]at e2;obtain⟨rfl,rfl,rfl⟩:=e2;rcases kC e1 with p|⟨rfl,p⟩|⟨rfl,rfl,p⟩
            . clear e1;go_wp2;go_roundw
              case rel=>exact⟨k+1,out,A8,c8,by omega,by omega,by go_num,rfl,bA,a6,bM,B1⟩
              case measure=>simp[intOf];omega
            . clear e1;go_wp2;go_roundw
              case rel=>exact⟨k+1,out,A8,c8,by omega,by omega,by go_num,rfl,bA,a6,bM,B1⟩
              case measure=>simp[intOf];omega
            . clear e1;go_wp2;go_roundw
              case rel=>exact⟨k+1,out,A8,c8,by omega,by omega,by go_num,rfl,bA,a6,bM,B1⟩
              case measure=>simp[intOf];omega
          . rw [if_pos (by simp only [keepD, decide_eq_false e1, decide_eq_false e2]; rfl), <- List.singleton_append, <- Tx] at hg;have bA:=Tk hg;clear hg;rcases kC e1 with p|⟨rfl,p⟩|⟨rfl,rfl,p⟩<;>rcases kC e2 with q|⟨rfl,q⟩|⟨rfl,rfl,q⟩
            all_goals
              clear e1 e2;go_wp2_with (at_builtin;go_must (first|(refine aP (enc:=aV) aJ aC aL B1 a6 ((ex,ey,ed):Dm) H8.out HM.out (by simp) rfl _ _ rfl rfl rfl ?_)|(refine aP (enc:=aV) aJ aC aL B1 a6 ((ex,gy,ed):Dm) H8.out HM.out (by simp) rfl _ _ rfl rfl rfl ?_)|(refine aP (enc:=aV) aJ aC aL B1 a6 ((ex,ky,ed):Dm) H8.out HM.out (by simp) rfl _ _ rfl rfl rfl ?_)|(refine aP (enc:=aV) aJ aC aL B1 a6 ((gx,ey,ed):Dm) H8.out HM.out (by simp) rfl _ _ rfl rfl rfl ?_)|(refine aP (enc:=aV) aJ aC aL B1 a6 ((gx,gy,ed):Dm) H8.out HM.out (by simp) rfl _ _ rfl rfl rfl ?_)|(refine aP (enc:=aV) aJ aC aL B1 a6 ((gx,ky,ed):Dm) H8.out HM.out (by simp) rfl _ _ rfl rfl rfl ?_)|(refine aP (enc:=aV) aJ aC aL B1 a6 ((kx,ey,ed):Dm) H8.out HM.out (by simp) rfl _ _ rfl rfl rfl ?_)|(refine aP (enc:=aV) aJ aC aL B1 a6 ((kx,gy,ed):Dm) H8.out HM.out (by simp) rfl _ _ rfl rfl rfl ?_)|(refine aP (enc:=aV) aJ aC aL B1 a6 ((kx,ky,ed):Dm) H8.out HM.out (by simp) rfl _ _ rfl rfl rfl ?_));intro v4 w4 b5 hb4 hg4 eL;obtain⟨A4,c4,rfl,eM,eN⟩:=b5.form)
              have cS:=(bM.alloc _).grown hg4 (fun e=>(a6.apart bM (by decide)) e.symm);go_roundw
              case rel=>exact⟨k+1,_,A4,c4,by omega,by simp;omega,by go_num,by simp,bA,b5,cS,hb4⟩
              case measure=>simp[intOf];omega
      . obtain rfl : k = l.length := by omega
        have hg:=Hg.out;rw[Tu (TD _),TA,TB]at hg;have cB:=Tk hg;clear hg;go_wp2_with fail
        refine(Bi _ out _ (hown.rd aC (by decide))).mono ?_;rintro e eP ⟨cT,c70,rfl,a8,cC⟩;go_wp2;go_ret2
        have e9:jI out=aU l (x,y):=by rw[cB.out];unfold aU;rw[cG.out.1,cG.out.2]
        rw[e9]at a8⊢;exact⟨cT,c70,rfl,a8.mono a7.size,a7.tr cC⟩
   . skip;go_wp2_with fail
     refine(iL _ l x (y+1) false _ (h.Tj B4)).mono ?_;rintro e w5 ⟨rfl,eA⟩;rw[eW.out];have B5:=B4.tr eA;clear bD bE bF bJ bK bL bO bP bR bS bU bX;have bN:=bN.bl eA;have bB:=bB.bl eA;obtain⟨bD,bE,bF,bJ,bK,bL⟩:=bN.n6;obtain⟨bO,bP,bR,bS,bU,bX⟩:=bB.n6;rcases a2 with _|_
     . skip
       have cD:kindOf l (x,y)=2:=by
        have h0:=Hk.out;have h1:=cV.out;have h2:fK l (qW (x,y))=false:=by rw[cW.out];rfl
        rw[h2]at h1;simp only[Bool.false_eq_true,if_false]at h1;by_cases q:fK l (vG (x,y))=true
        . rw[h1,if_pos q]
        . rw[if_neg q]at h1;exact absurd h1 h0
       obtain⟨g7,cE⟩:=Ti (w3.heap.size+1);obtain⟨g6,cF⟩:=Ti w3.heap.size;have cK:g6≠g7:=(by omega);have cL:w.heap.size<=g6:=by have:=(B1.tr hb3).size;omega
       have cM:w.heap.size<=g7:=(by omega);rw[<-cE]at bB⊢;rw[<-cF]at bN⊢;clear cF cE bD bE bF bJ bK bL bO bP bR bS bU bX;obtain⟨bD,bE,bF,bJ,bK,bL⟩:=bN.n6;obtain⟨bO,bP,bR,bS,bU,bX⟩:=bB.n6;go_wp2_with (first|(refine aA rfl 193 _ _ rfl g6 #[.int .i64 x,.int .i64 y,.bool true,.int .i64 (x+1),.int .i64 y,.bool true] rfl rfl _ _ bN (by kernel_rfl) rfl (by simp[TG]) ?_;intro wS dL cN;have BS:=B5.grown cN B5.size (fun k hk=>by injection hk with hk;omega);have bB:=bB.grown cN (by simp;omega))|(refine aA rfl 193 _ _ rfl g7 #[.int .i64 x,.int .i64 y,.bool false,.int .i64 x,.int .i64 (y+1),.bool false] rfl rfl _ _ bB (by kernel_rfl) rfl (by simp[TG]) ?_;intro wT dT cP;have cQ:=dL.grown cP (by simp;omega);have BT:=BS.grown cP BS.size (fun k hk=>by injection hk with hk;omega);clear bD bE bF bJ bK bL bO bP bR bS bU bX;obtain⟨bD,bE,bF,bJ,bK,bL⟩:=cQ.n6;obtain⟨bO,bP,bR,bS,bU,bX⟩:=dT.n6))
       obtain⟨gx,hgx⟩:∃n:Int,n=x:=⟨_,rfl⟩;obtain⟨gy,b7⟩:∃n:Int,n=y:=⟨_,rfl⟩;obtain⟨gb,hgb⟩:∃n:Bool,n=true:=⟨_,rfl⟩;obtain⟨kx,b8⟩:∃n:Int,n=x+1:=⟨_,rfl⟩;obtain⟨ky,b9⟩:∃n:Int,n=y:=⟨_,rfl⟩;obtain⟨kb,hkb⟩:∃n:Bool,n=true:=⟨_,rfl⟩;have b6:Blk wT g6 193 #[.int .i64 gx,.int .i64 gy,.bool gb,.int .i64 kx,.int .i64 ky,.bool kb]:=by rw[hgx,b7,hgb,b8,b9,hkb];exact cQ
       have cG:Hid (nY (kindOf l (x,y)) (x,y)=((gx,gy,gb),(kx,ky,kb))/\qM (kindOf l (x,y)) (x,y)=((x,y,false),(x,y+1,false))):=Tk (by rw[cD,hgx,b7,hgb,b8,b9,hkb];exact⟨rfl,rfl⟩);clear hgx b7 hgb b8 b9 hkb cD bN bB;clear bD bE bF bJ bK bL bO bP bR bS bU bX;have bY:aD 99 3 aV w.heap.size (wT.alloc (.cells #[.int .i64 x,.int .i64 y,.bool false,.int .i64 x,.int .i64 (y+1),.bool false] 99)) (.slice (some ⟨wT.heap.size,0,none⟩) 2 2) [((x,y,false):Dm),(x,(y+1),false)]:=AQ _ (x,y,false) (x,(y+1),false) _ BT.size;have cH:=b6.alloc (.cells #[.int .i64 x,.int .i64 y,.bool false,.int .i64 x,.int .i64 (y+1),.bool false] 99);have B0:=BT.al (.cells #[.int .i64 x,.int .i64 y,.bool false,.int .i64 x,.int .i64 (y+1),.bool false] 99);go_wp2;go_loopw [8,43] (fun s8 cR wr=>∃(k:Nat) (out:List Dm) (A8:Option Addr) (c8:Nat),k<=l.length/\out.length<=k+2/\cR= .int .i64 k/\s8= .slice A8 out.length c8/\Hid (out++(l.drop k).filter (keepD ((gx,gy,gb),(kx,ky,kb)))=jH l ((gx,gy,gb),(kx,ky,kb)) ((x,y,false),(x,(y+1),false)))/\aD 99 3 aV w.heap.size wr (.slice A8 out.length c8) out/\Blk wr g6 193 #[.int .i64 gx,.int .i64 gy,.bool gb,.int .i64 kx,.int .i64 ky,.bool kb]/\Below w.heap.size w wr) (fun _ i _=>l.length-(intOf i).toNat)
       case atStart=>exact⟨0,[((x,y,false):Dm),(x,(y+1),false)],_,_,TC _,by simp,rfl,rfl,Tk rfl,bY,cH,B0⟩
       case round=>
        obtain⟨k,out,A8,c8,hk,eI,rfl,rfl,Hg,hown,cA,a7⟩:=hrel;clear bY cH B0;by_cases hlt:k<l.length
        . obtain⟨b,off,rfl,hb,q1,q2,q3⟩:=(h.Tj a7).kE hlt;have hg:=Hg.out;rw[Tq hlt,Tz]at hg;obtain⟨d,hd⟩:=Ti (l[k]);rw[<-hd]at q1 q2 q3 hg;obtain⟨ex,ey,ed⟩:=d;simp only at q1 q2 q3;obtain⟨bD,bE,bF,bJ,bK,bL⟩:=cA.n6;have eJ:=cA.lt;have eK:g6≠wr.heap.size:=(by omega);have B1:=a7.al (.cells #[.int .i64 ex,.int .i64 ey,.bool ed] 99);have a6:=hown.alloc (.cells #[.int .i64 ex,.int .i64 ey,.bool ed] 99);have bM:=cA.alloc (.cells #[.int .i64 ex,.int .i64 ey,.bool ed] 99);have H8:Hid ((out.length+1)*24<=140737488355328):=Tk (by unfold Small at hl;omega);have HM:Hid (out.length+1<=maxLen):=Tk (by unfold Small at hl;unfold maxLen;omega);clear hd;by_cases e1:((ex,ey,ed):Dm)=(gx,gy,gb)
          . rw [if_neg (by rw [e1]; simp [keepD])] at hg;have bA:=Tk hg;clear hg;simp only[Prod.mk.injEq]at e1;obtain⟨rfl,rfl,rfl⟩:=e1;go_wp2;go_roundw
            case rel=>exact⟨k+1,out,A8,c8,by omega,by omega,by go_num,rfl,bA,a6,bM,B1⟩
            case measure=>simp[intOf];omega
          . by_cases e2:((ex,ey,ed):Dm)=(kx,ky,kb)
            . rw [if_neg (by rw [e2]; simp [keepD])] at hg;have bA:=Tk hg;clear hg;simp only[Prod.mk.injEq]at e2;obtain⟨rfl,rfl,rfl⟩:=e2;rcases kC e1 with p|⟨rfl,p⟩|⟨rfl,rfl,p⟩
              . clear e1;go_wp2;go_roundw
                case rel=>exact⟨k+1,out,A8,c8,by omega,by omega,by go_num,rfl,bA,a6,bM,B1⟩
                case measure=>simp[intOf];omega
              . clear e1;go_wp2;go_roundw
                case rel=>exact⟨k+1,out,A8,c8,by omega,by omega,by go_num,rfl,bA,a6,bM,B1⟩
                case measure=>simp[intOf];omega
              . clear e1;go_wp2;go_roundw
                case rel=>exact⟨k+1,out,A8,c8,by omega,by omega,by go_num,rfl,bA,a6,bM,B1⟩
                case measure=>simp[intOf];omega
            . rw [if_pos (by simp only [keepD, decide_eq_false e1, decide_eq_false e2]; rfl), <- List.singleton_append, <- Tx] at hg;have bA:=Tk hg;clear hg;rcases kC e1 with p|⟨rfl,p⟩|⟨rfl,rfl,p⟩<;>rcases kC e2 with q|⟨rfl,q⟩|⟨rfl,rfl,q⟩
              all_goals
                clear e1 e2;go_wp2_with (at_builtin;go_must (first|(refine aP (enc:=aV) aJ aC aL B1 a6 ((ex,ey,ed):Dm) H8.out HM.out (by simp) rfl _ _ rfl rfl rfl ?_)|(refine aP (enc:=aV) aJ aC aL B1 a6 ((ex,gy,ed):Dm) H8.out HM.out (by simp) rfl _ _ rfl rfl rfl ?_)|(refine aP (enc:=aV) aJ aC aL B1 a6 ((ex,ky,ed):Dm) H8.out HM.out (by simp) rfl _ _ rfl rfl rfl ?_)|(refine aP (enc:=aV) aJ aC aL B1 a6 ((gx,ey,ed):Dm) H8.out HM.out (by simp) rfl _ _ rfl rfl rfl ?_)|(refine aP (enc:=aV) aJ aC aL B1 a6 ((gx,gy,ed):Dm) H8.out HM.out (by simp) rfl _ _ rfl rfl rfl ?_)|(refine aP (enc:=aV) aJ aC aL B1 a6 ((gx,ky,ed):Dm) H8.out HM.out (by simp) rfl _ _ rfl rfl rfl ?_)|(refine aP (enc:=aV) aJ aC aL B1 a6 ((kx,ey,ed):Dm) H8.out HM.out (by simp) rfl _ _ rfl rfl rfl ?_)|(refine aP (enc:=aV) aJ aC aL B1 a6 ((kx,gy,ed):Dm) H8.out HM.out (by simp) rfl _ _ rfl rfl rfl ?_)|(refine aP (enc:=aV) aJ aC aL B1 a6 ((kx,ky,ed):Dm) H8.out HM.out (by simp) rfl _ _ rfl rfl rfl ?_));intro v4 w4 b5 hb4 hg4 eL;obtain⟨A4,c4,rfl,eM,eN⟩:=b5.form)
                have cS:=(bM.alloc _).grown hg4 (fun e=>(a6.apart bM (by decide)) e.symm);go_roundw
                case rel=>exact⟨k+1,_,A4,c4,by omega,by simp;omega,by go_num,by simp,bA,b5,cS,hb4⟩
                case measure=>simp[intOf];omega
        . obtain rfl : k = l.length := by omega
          have hg:=Hg.out;rw[Tu (TD _),TA,TB]at hg;have cB:=Tk hg;clear hg;go_wp2_with fail
          refine(Bi _ out _ (hown.rd aC (by decide))).mono ?_;rintro e eP ⟨cT,c70,rfl,a8,cC⟩;go_wp2;go_ret2
          have e9:jI out=aU l (x,y):=by rw[cB.out];unfold aU;rw[cG.out.1,cG.out.2]
          rw[e9]at a8⊢;exact⟨cT,c70,rfl,a8.mono a7.size,a7.tr cC⟩
     . have cD : kindOf l (x, y) = 1 := by rw [cV.out, cW.out]; rfl
       obtain⟨g7,cE⟩:=Ti (w3.heap.size+1);obtain⟨g6,cF⟩:=Ti w3.heap.size;have cK:g6≠g7:=(by omega);have cL:w.heap.size<=g6:=by have:=(B1.tr hb3).size;omega
       have cM:w.heap.size<=g7:=(by omega);rw[<-cE]at bB⊢;rw[<-cF]at bN⊢;clear cF cE bD bE bF bJ bK bL bO bP bR bS bU bX;obtain⟨bD,bE,bF,bJ,bK,bL⟩:=bN.n6;obtain⟨bO,bP,bR,bS,bU,bX⟩:=bB.n6;go_wp2_with fail
       obtain⟨gx,hgx⟩:∃n:Int,n=x:=⟨_,rfl⟩;obtain⟨gy,b7⟩:∃n:Int,n=y:=⟨_,rfl⟩;obtain⟨gb,hgb⟩:∃n:Bool,n=false:=⟨_,rfl⟩;obtain⟨kx,b8⟩:∃n:Int,n=x:=⟨_,rfl⟩;obtain⟨ky,b9⟩:∃n:Int,n=y+1:=⟨_,rfl⟩;obtain⟨kb,hkb⟩:∃n:Bool,n=false:=⟨_,rfl⟩;have b6:Blk w5 g6 193 #[.int .i64 gx,.int .i64 gy,.bool gb,.int .i64 kx,.int .i64 ky,.bool kb]:=by rw[hgx,b7,hgb,b8,b9,hkb];exact bN
       have cG:Hid (nY (kindOf l (x,y)) (x,y)=((gx,gy,gb),(kx,ky,kb))/\qM (kindOf l (x,y)) (x,y)=((x,y,true),(x+1,y,true))):=Tk (by rw[cD,hgx,b7,hgb,b8,b9,hkb];exact⟨rfl,rfl⟩);clear hgx b7 hgb b8 b9 hkb cD bN bB;clear bD bE bF bJ bK bL bO bP bR bS bU bX;have bY:aD 99 3 aV w.heap.size (w5.alloc (.cells #[.int .i64 x,.int .i64 y,.bool true,.int .i64 (x+1),.int .i64 y,.bool true] 99)) (.slice (some ⟨w5.heap.size,0,none⟩) 2 2) [((x,y,true):Dm),((x+1),y,true)]:=AQ _ (x,y,true) ((x+1),y,true) _ B5.size;have cH:=b6.alloc (.cells #[.int .i64 x,.int .i64 y,.bool true,.int .i64 (x+1),.int .i64 y,.bool true] 99);have B0:=B5.al (.cells #[.int .i64 x,.int .i64 y,.bool true,.int .i64 (x+1),.int .i64 y,.bool true] 99);go_wp2;go_loopw [8,43] (fun s8 cR wr=>∃(k:Nat) (out:List Dm) (A8:Option Addr) (c8:Nat),k<=l.length/\out.length<=k+2/\cR= .int .i64 k/\s8= .slice A8 out.length c8/\Hid (out++(l.drop k).filter (keepD ((gx,gy,gb),(kx,ky,kb)))=jH l ((gx,gy,gb),(kx,ky,kb)) ((x,y,true),((x+1),y,true)))/\aD 99 3 aV w.heap.size wr (.slice A8 out.length c8) out/\Blk wr g6 193 #[.int .i64 gx,.int .i64 gy,.bool gb,.int .i64 kx,.int .i64 ky,.bool kb]/\Below w.heap.size w wr) (fun _ i _=>l.length-(intOf i).toNat)
       case atStart=>exact⟨0,[((x,y,true):Dm),((x+1),y,true)],_,_,TC _,by simp,rfl,rfl,Tk rfl,bY,cH,B0⟩
       case round=>
        obtain⟨k,out,A8,c8,hk,eI,rfl,rfl,Hg,hown,cA,a7⟩:=hrel;clear bY cH B0;by_cases hlt:k<l.length
        . obtain⟨b,off,rfl,hb,q1,q2,q3⟩:=(h.Tj a7).kE hlt;have hg:=Hg.out;rw[Tq hlt,Tz]at hg;obtain⟨d,hd⟩:=Ti (l[k]);rw[<-hd]at q1 q2 q3 hg;obtain⟨ex,ey,ed⟩:=d;simp only at q1 q2 q3;obtain⟨bD,bE,bF,bJ,bK,bL⟩:=cA.n6;have eJ:=cA.lt;have eK:g6≠wr.heap.size:=(by omega);have B1:=a7.al (.cells #[.int .i64 ex,.int .i64 ey,.bool ed] 99);have a6:=hown.alloc (.cells #[.int .i64 ex,.int .i64 ey,.bool ed] 99);have bM:=cA.alloc (.cells #[.int .i64 ex,.int .i64 ey,.bool ed] 99);have H8:Hid ((out.length+1)*24<=140737488355328):=Tk (by unfold Small at hl;omega);have HM:Hid (out.length+1<=maxLen):=Tk (by unfold Small at hl;unfold maxLen;omega);clear hd;by_cases e1:((ex,ey,ed):Dm)=(gx,gy,gb)
          . rw [if_neg (by rw [e1]; simp [keepD])] at hg;have bA:=Tk hg;clear hg;simp only[Prod.mk.injEq]at e1;obtain⟨rfl,rfl,rfl⟩:=e1;go_wp2;go_roundw
            case rel=>exact⟨k+1,out,A8,c8,by omega,by omega,by go_num,rfl,bA,a6,bM,B1⟩
            case measure=>simp[intOf];omega
          . by_cases e2:((ex,ey,ed):Dm)=(kx,ky,kb)
            . rw [if_neg (by rw [e2]; simp [keepD])] at hg;have bA:=Tk hg;clear hg;simp only[Prod.mk.injEq]at e2;obtain⟨rfl,rfl,rfl⟩:=e2;rcases kC e1 with p|⟨rfl,p⟩|⟨rfl,rfl,p⟩
              . clear e1;go_wp2;go_roundw
                case rel=>exact⟨k+1,out,A8,c8,by omega,by omega,by go_num,rfl,bA,a6,bM,B1⟩
                case measure=>simp[intOf];omega
              . clear e1;go_wp2;go_roundw
                case rel=>exact⟨k+1,out,A8,c8,by omega,by omega,by go_num,rfl,bA,a6,bM,B1⟩
                case measure=>simp[intOf];omega
              . clear e1;go_wp2;go_roundw
                case rel=>exact⟨k+1,out,A8,c8,by omega,by omega,by go_num,rfl,bA,a6,bM,B1⟩
                case measure=>simp[intOf];omega
            . rw [if_pos (by simp only [keepD, decide_eq_false e1, decide_eq_false e2]; rfl), <- List.singleton_append, <- Tx] at hg;have bA:=Tk hg;clear hg;rcases kC e1 with p|⟨rfl,p⟩|⟨rfl,rfl,p⟩<;>rcases kC e2 with q|⟨rfl,q⟩|⟨rfl,rfl,q⟩
              all_goals
                clear e1 e2;go_wp2_with (at_builtin;go_must (first|(refine aP (enc:=aV) aJ aC aL B1 a6 ((ex,ey,ed):Dm) H8.out HM.out (by simp) rfl _ _ rfl rfl rfl ?_)|(refine aP (enc:=aV) aJ aC aL B1 a6 ((ex,gy,ed):Dm) H8.out HM.out (by simp) rfl _ _ rfl rfl rfl ?_)|(refine aP (enc:=aV) aJ aC aL B1 a6 ((ex,ky,ed):Dm) H8.out HM.out (by simp) rfl _ _ rfl rfl rfl ?_)|(refine aP (enc:=aV) aJ aC aL B1 a6 ((gx,ey,ed):Dm) H8.out HM.out (by simp) rfl _ _ rfl rfl rfl ?_)|(refine aP (enc:=aV) aJ aC aL B1 a6 ((gx,gy,ed):Dm) H8.out HM.out (by simp) rfl _ _ rfl rfl rfl ?_)|(refine aP (enc:=aV) aJ aC aL B1 a6 ((gx,ky,ed):Dm) H8.out HM.out (by simp) rfl _ _ rfl rfl rfl ?_)|(refine aP (enc:=aV) aJ aC aL B1 a6 ((kx,ey,ed):Dm) H8.out HM.out (by simp) rfl _ _ rfl rfl rfl ?_)|(refine aP (enc:=aV) aJ aC aL B1 a6 ((kx,gy,ed):Dm) H8.out HM.out (by simp) rfl _ _ rfl rfl rfl ?_)|(refine aP (enc:=aV) aJ aC aL B1 a6 ((kx,ky,ed):Dm) H8.out HM.out (by simp) rfl _ _ rfl rfl rfl ?_));intro v4 w4 b5 hb4 hg4 eL;obtain⟨A4,c4,rfl,eM,eN⟩:=b5.form)
                have cS:=(bM.alloc _).grown hg4 (fun e=>(a6.apart bM (by decide)) e.symm);go_roundw
                case rel=>exact⟨k+1,_,A4,c4,by omega,by simp;omega,by go_num,by simp,bA,b5,cS,hb4⟩
                case measure=>simp[intOf];omega
        . obtain rfl : k = l.length := by omega
          have hg:=Hg.out;rw[Tu (TD _),TA,TB]at hg;have cB:=Tk hg;clear hg;go_wp2_with fail
          refine(Bi _ out _ (hown.rd aC (by decide))).mono ?_;rintro e eP ⟨cT,c70,rfl,a8,cC⟩;go_wp2;go_ret2
          have e9:jI out=aU l (x,y):=by rw[cB.out];unfold aU;rw[cG.out.1,cG.out.2]
          rw[e9]at a8⊢;exact⟨cT,c70,rfl,a8.mono a7.size,a7.tr cC⟩
theorem K8 (v:Value) (l:List Dm) (x y:Int) (w:World) (h:Rd 3 aQ w v l) (hl:Small l.length) (hk:kindOf l (x,y)=0):Calls prog 145 #[v,.agg #[.int .i64 x,.int .i64 y]] w (fZ 99 3 aV l false w):=by
 have:=rV v l x y w h hl;unfold fE at this;rw[if_pos hk]at this;exact this
theorem wL (v:Value) (l:List Dm) (x y:Int) (w:World) (h:Rd 3 aQ w v l) (hl:Small l.length) (hk:¬kindOf l (x,y)=0):Calls prog 145 #[v,.agg #[.int .i64 x,.int .i64 y]] w (fZ 99 3 aV (aU l (x,y)) true w):=by
 have:=rV v l x y w h hl;unfold fE at this;rw[if_neg hk]at this;exact this
theorem wM (l:List Dm) (c:Cl) (r:List Cl):fQ l (c::r)=if kindOf l c=0 then none else fQ (aU l c) r:=rfl
theorem uS (l:List Dm) (c:Cl):Small (aU l c).length:=by have:=DX l c;unfold Small;omega
theorem zN {l m:List Dm} {cs:List Cl} (hn:¬cs.length>200) (h:fQ l cs=some m):dS l cs=(m,true):=by unfold dS;rw[if_neg hn,h]
theorem zP {l:List Dm} {cs:List Cl} (hn:¬cs.length>200) (h:fQ l cs=none):dS l cs=(l,false):=by unfold dS;rw[if_neg hn,h]
theorem zQ (v u:Value) (l:List Dm) (cs:List Cl) (w:World) (h:Rd 3 aQ w v l) (h2:Rd 2 bT w u cs) (hl:Small l.length):Calls prog 92 #[v,u] w (fZ 99 3 aV (dS l cs).1 (dS l cs).2 w):=by
 obtain⟨A,c,rfl,hc,hm⟩:=h.form;obtain⟨A2,c2,rfl,hc2,bS⟩:=h2.form;by_cases bD:cs.length>200
 . have e : dS l cs = (l, false) := by unfold dS; rw [if_pos bD]
   rw[e];have bN:(200:Int)<(cs.length:Int):=(by omega);clear e;go_enter func92,ntmps92
   go_wp2_with fail
   refine(dH _ l _ h hl).mono ?_;rintro e w1 ⟨A1,c1,rfl,a6,hb1⟩;go_wp2;go_ret2
   exact⟨A1,c1,rfl,a6,hb1⟩
 . have bN : (cs.length : Int) <= 200 := by omega
   obtain⟨F1,bE⟩:=Ti ((dS l cs).1);obtain⟨F2,hF2⟩:=Ti ((dS l cs).2);rw[<-bE,<-hF2];have bK:=Tk bE;have bL:=Tk hF2;have bM:=Tk bD;clear bE hF2 bD;go_enter func92,ntmps92
   go_wp2_with fail
   refine(dH _ l _ h hl).mono ?_;rintro e w1 ⟨A1,c1,rfl,a6,hb1⟩;go_wp2;go_loopw [6,20] (fun s6 bO wr=>∃(k:Nat) (m:List Dm) (A6:Option Addr) (c6:Nat),k<=cs.length/\bO= .int .i64 k/\s6= .slice A6 m.length c6/\Hid (fQ m (cs.drop k)=fQ l cs)/\Hid (Small m.length)/\aD 99 3 aV w.heap.size wr (.slice A6 m.length c6) m/\Below w.heap.size w wr) (fun _ i _=>cs.length-(intOf i).toNat)
   case atStart=>exact⟨0,l,A1,c1,TC _,rfl,rfl,Tk rfl,Tk hl,a6,hb1⟩
   case round=>
    obtain⟨k,m,A6,c6,hk,rfl,rfl,Hg,Hs,hown,a7⟩:=hrel;clear a6 hb1;by_cases hlt:k<cs.length
    . obtain⟨b,off,rfl,hb,q1,q2⟩:=(h2.Tj a7).iR hlt;have hg:=Hg.out;rw[Tq hlt,wM]at hg;obtain⟨d,hd⟩:=Ti (cs[k]);rw[<-hd]at q1 q2 hg;obtain⟨cx,cy⟩:=d;simp only at q1 q2;have B1:=a7.al (.cells #[.int .i64 cx,.int .i64 cy] 83);have a6:=hown.alloc (.cells #[.int .i64 cx,.int .i64 cy] 83);clear hd;by_cases a8:kindOf m (cx,cy)=0
      . rw[if_pos a8]at hg;have bA:=zP bM.out hg.symm;have bF:=Tk a8;have bB:=Tk bA;clear a8 hg bA;go_wp2_with fail
        refine(K8 _ m cx cy _ (a6.rd aC (by decide)) Hs.out bF.out).mono ?_;rintro e w2 ⟨A3,c3,rfl,bC,hb3⟩;go_wp2_with fail
        refine(dH _ l _ (h.Tj (B1.tr hb3)) hl).mono ?_;rintro e w4 ⟨A5,c5,rfl,bJ,bP⟩;go_wp2;go_ret2
        have e1:F1=l:=(by rw[bK.out,bB.out]);have e2:F2=false:=(by rw[bL.out,bB.out]);rw[e1,e2];exact⟨A5,c5,rfl,bJ.mono (B1.tr hb3).size,(B1.tr hb3).tr bP⟩
      . rw[if_neg a8]at hg;have bF:=Tk a8;have bR:=Tk hg;clear a8 hg;go_wp2_with fail
        refine(wL _ m cx cy _ (a6.rd aC (by decide)) Hs.out bF.out).mono ?_;rintro e w2 ⟨A3,c3,rfl,bC,hb3⟩;go_wp2;go_roundw
        case rel=>exact⟨k+1,aU m (cx,cy),A3,c3,by omega,by go_num,rfl,bR,Tk (uS _ _),bC.mono B1.size,B1.tr hb3⟩
        case measure=>simp[intOf];omega
    . obtain rfl : k = cs.length := by omega
      have hg:=Hg.out;rw[Tu (TD _)]at hg;have bA:=zN bM.out hg.symm;have bB:=Tk bA;clear hg bA;go_wp2;go_ret2
      have e1:F1=m:=(by rw[bK.out,bB.out]);have e2:F2=true:=(by rw[bL.out,bB.out]);rw[e1,e2];exact⟨A6,c6,rfl,hown,a7⟩
theorem uT (u v:Value) (l m:List Dm) (w:World) (h:Rd 3 aQ w u l) (h':Rd 3 aQ w v m):Calls prog 93 #[u,v] w (Ret (.bool (decide (l=m))) w):=by
 obtain⟨A,c,rfl,hc,hm⟩:=h.form;obtain⟨A',c',rfl,hc',bE⟩:=h'.form;by_cases hlen:l.length=m.length
 . have hne : ((l.length : Int) != (m.length : Int)) = false := by simp [hlen]
   have a8:=Tk hlen;clear hlen;go_enter func93,ntmps93
   go_wp2;go_loopw [13] (fun i wr=>∃k:Nat,k<=l.length/\i= .int .i64 k/\Hid (decide (l.drop k=m.drop k)=decide (l=m))/\Below w.heap.size w wr) (fun i _=>l.length-(intOf i).toNat)
   case atStart=>exact⟨0,TC _,rfl,Tk rfl,Below.refl _ _⟩
   case round=>
    obtain⟨k,hk,rfl,Hg,a6⟩:=hrel;by_cases hlt:k<l.length
    . have bA : k < m.length := by have := a8.out; omega
      obtain⟨b,off,rfl,hb,q1,q2,q3⟩:=(h.Tj a6).kE hlt;obtain⟨b',bB,rfl,hb',p1,p2,p3⟩:=(h'.Tj a6).kE bA;have bC:(k:Int)<(m.length:Int):=(by omega);obtain⟨d,hd⟩:=Ti (l[k]);obtain⟨e,he⟩:=Ti (m[k]);rw[<-hd]at q1 q2 q3;rw[<-he]at p1 p2 p3;obtain⟨dx,dy,dd⟩:=d;obtain⟨ex,ey,ed⟩:=e;simp only at q1 q2 q3 p1 p2 p3;by_cases a7:((dx,dy,dd):Dm)=(ex,ey,ed)
      . have bD := LW Hg hlt bA (by rw [<- hd, <- he]; exact a7);simp only[Prod.mk.injEq]at a7;obtain⟨rfl,rfl,rfl⟩:=a7;clear hd he;go_wp2_with fail
        go_quiet (fail)
        go_wp2;go_roundw
        case rel=>exact⟨k+1,by omega,by go_num,bD,below_drewN a6 _⟩
        case measure=>simp[intOf];omega
      . have HR := Tk (LX Hg hlt bA (by rw [<- hd, <- he]; exact a7)).symm;clear hd he;rcases kC a7 with p|⟨rfl,p⟩|⟨rfl,rfl,p⟩
        all_goals
          clear a7;go_wp2_with fail
          go_quiet (fail)
          go_wp2;go_ret;exact⟨lJ HR.out,below_drewN a6 _⟩
    . go_wp2;go_ret;exact⟨lJ (Ii Hg (by omega) (by have:=a8.out;omega)).symm,a6⟩
 . have hne : ((l.length : Int) != (m.length : Int)) = true := by simp; omega
   go_enter func93,ntmps93
   go_wp2;go_ret;exact⟨lJ (by rw[eq_comm,decide_eq_false_iff_not];exact fun e=>hlen (by rw[e])),Below.refl _ _⟩
theorem nK (vr vf vn vc:Value) (rows:List Int) (f n:List Dm) (cs:List Cl) (w:World) (h1:Rd 1 aZ w vr rows) (h2:Rd 3 aQ w vf f) (h3:Rd 3 aQ w vn n) (h4:Rd 2 bT w vc cs) (hl:Small f.length):
 Calls prog 50 #[.agg #[vr,vf,vn,vc]] w (Ret (.bool (dG rows f n cs)) w):=by
 obtain⟨A1,c1,rfl,hc1,bE⟩:=h1.form;obtain⟨A2,c2,rfl,hc2,bJ⟩:=h2.form;obtain⟨A3,c3,rfl,hc3,bK⟩:=h3.form;obtain⟨A4,c4,rfl,bA,bL⟩:=h4.form;have hA:=(Below.refl w.heap.size w).al (.cells #[.slice A1 rows.length c1,.slice A2 f.length c2,.slice A3 n.length c3,.slice A4 cs.length c4] 30);have bF:=Blk.aX w 30 #[.slice A1 rows.length c1,.slice A2 f.length c2,.slice A3 n.length c3,.slice A4 cs.length c4];have g1:=h1.Tj hA;have g2:=h2.Tj hA;have g3:=h3.Tj hA;have g4:=h4.Tj hA;clear hc1 hc2 hc3 bA;rcases ht:eF rows f with _|_
 . have e : dG rows f n cs = false := by unfold dG; rw [ht]; rfl
   rw[e];have Ht:=Tk ht;clear ht e;go_enter func50,TL
   go_wp2_with fail
   refine(wI _ _ rows f _ g1 g2).mono ?_;rintro e w1 ⟨rfl,hb1⟩;rw[Ht.out];go_wp2;go_ret;exact⟨rfl,hA.tr hb1⟩
 . by_cases hn:cs.length<=60
   . have e : dG rows f n cs = ((dS f cs).2 && decide ((dS f cs).1 = n)) := by unfold dG; rw [ht, decide_eq_true hn]; rfl
     have bB:(cs.length:Int)<=60:=(by omega);obtain⟨M,hM⟩:=Ti ((dS f cs).1);obtain⟨b,hb⟩:=Ti ((dS f cs).2);rw[<-hM,<-hb]at e;rw[e];have Ht:=Tk ht;have HM:=Tk hM;have Hb:=Tk hb;clear ht e hM hb;go_enter func50,TL
     go_wp2_with fail
     refine(wI _ _ rows f _ g1 g2).mono ?_;rintro e w1 ⟨rfl,hb1⟩;rw[Ht.out];have a6:=bF.bl hb1;have z1:=a6.cell 1;have z3:=a6.cell 3;simp only[Tm,Tn,Tp]at z1 z3;go_wp2_with fail
     refine(zQ _ _ f cs _ (g2.Tj hb1) (g4.Tj hb1) hl).mono ?_;rintro e w2 ⟨Am,cm,rfl,a7,hb2⟩;rw[<-HM.out]at a7;rw[<-HM.out,<-Hb.out];have bC:=a6.bl hb2;clear z1 z3;have z2:=bC.cell 2;simp only[Tm,Tn,Tp]at z2;have B2:=(hA.tr hb1).tr hb2;cases b
     . go_wp2;go_ret;exact⟨rfl,B2⟩
     . go_wp2_with fail
       refine(uT _ _ M n _ (a7.rd aC (by decide)) ((g3.Tj hb1).Tj hb2)).mono ?_;rintro e w3 ⟨rfl,hb3⟩;obtain⟨R,hR⟩:∃R,R=decide (M=n):=⟨_,rfl⟩;rw[<-hR];have a8:(true&&decide (M=n))=R:=by rw[hR];rfl
       have bD:=Tk a8;clear hR a8;go_wp2;go_ret;exact⟨lJ bD.out.symm,B2.tr hb3⟩
   . have e : dG rows f n cs = false := by unfold dG; rw [ht, decide_eq_false hn]; rfl
     rw[e];have bB:(60:Int)<(cs.length:Int):=(by omega);have Ht:=Tk ht;clear ht e hn;go_enter func50,TL
     go_wp2_with fail
     refine(wI _ _ rows f _ g1 g2).mono ?_;rintro e w1 ⟨rfl,hb1⟩;rw[Ht.out];have a6:=bF.bl hb1;have z3:=a6.cell 3;simp only[Tm,Tn,Tp]at z3;go_wp2;go_ret;exact⟨rfl,hA.tr hb1⟩
end Go.Proofs.YtjijonhkofhikaaGreatDoor
