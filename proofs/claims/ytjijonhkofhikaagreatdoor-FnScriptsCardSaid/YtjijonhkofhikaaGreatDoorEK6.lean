import Derived.Test.YtjijonhkofhikaaGreatDoorEG8
import Derived.Laws.CopyOwn
open _root_.List renaming getElem?_toArray->TZ,getElem?_cons_zero->T9,getElem?_cons_succ->Ua,drop_eq_getElem_cons->Ub,contains_cons->Uc,drop_of_length_le->Ud,flatMap_cons->Ue,length_append->Uf,append_assoc->Ug,length_singleton->Uh,filter_cons->Ui,filter_nil->Uj,append_nil->Uk
open _root_.Nat renaming zero_le->Ul,le_refl->Um,add_mul->Un
open _root_.Go.IntWalk renaming i64_in->Uo
open _root_.Go.Value renaming oneCell'->Uq,ownBlock->Ur
open _root_.Go.Proofs.Tryz (prog func145 ntmps145 func92 ntmps92 func93 ntmps93 func50)
open _root_.Go.Proofs.Tryz renaming func199->Us,ntmps199->Ut,ntmps50->Uu
set_option linter.unusedVariables false
set_option linter.unusedSimpArgs false
set_option maxHeartbeats 4000000
set_option maxRecDepth 100000
namespace Go.Proofs.YtjijonhkofhikaaGreatDoor
open Go.ChangeShapes Go.WideShapes Go.ChangeAt Go.RowKit
theorem iB (v:Value) (l:List Dm) (x y:Int) (d:Bool) (w:World) (h:Rd 3 aU w v l):Calls prog 201 #[v,.agg #[.int .i64 x,.int .i64 y,.bool d]] w (Ret (.bool (l.contains (x,y,d))) w):=by
 obtain⟨A,c,rfl,hc,hm⟩:=h.form;have hA:=((Below.refl w.heap.size w).al (.cells #[.int .i64 x,.int .i64 y,.bool d] 99));have hx:=Blk.aZ w 99 #[.int .i64 x,.int .i64 y,.bool d];obtain⟨R,hR⟩:=TV (l.contains (x,y,d));rw[<-hR];have HR:=TY hR;clear hR;go_enter Tryz.func201,Tryz.ntmps201
 go_wp2;go_loopw [9] (fun s9 wr=>∃k:Nat,k<=l.length/\s9= .int .i64 k/\Hid ((l.drop k).contains (x,y,d)=R)/\Below (w.alloc (.cells #[.int .i64 x,.int .i64 y,.bool d] 99)).heap.size (w.alloc (.cells #[.int .i64 x,.int .i64 y,.bool d] 99)) wr) (fun i _=>l.length-(intOf i).toNat)
 case atStart=>exact⟨0,Ul _,rfl,TY HR.out.symm,Below.refl _ _⟩
 case round=>
  obtain⟨k,hk,rfl,Hg,a6⟩:=hrel;have z:=hx.bl a6;have z0:=z.cell 0;have z1:=z.cell 1;have z2:=z.cell 2;simp only[TZ,T9,Ua]at z0 z1 z2;have a8:=z.lt;have hne:w.heap.size≠wr.heap.size:=(by omega);by_cases hlt:k<l.length
  . obtain⟨b,off,rfl,hb,q1,q2,q3⟩:=((h.TW hA).TW a6).jT hlt;have hg:=Hg.out;rw[Ub hlt]at hg;obtain⟨e,he⟩:=TV (l[k]);rw[<-he]at q1 q2 q3 hg;obtain⟨ex,ey,ed⟩:=e;simp only at q1 q2 q3;have a7:=TY hg;clear hg he;by_cases h1:x=ex
    . obtain rfl:x=ex:=h1;by_cases h2:y=ey
      . obtain rfl:y=ey:=h2;by_cases h3:d=ed
        . obtain rfl:d=ed:=h3;go_wp2;go_ret;refine⟨lF ?_,(hA.tr a6).al _⟩;have hg:=a7.out;rw[Uc]at hg;rw[<-hg];simp
        . skip;have hg:=a7.out;rw[Uc,show((x,y,d)==(x,y,ed))=false by simp[*],Bool.false_or]at hg;have HG:=TY hg;clear hg;go_wp2;go_roundw
          case rel=>exact⟨k+1,by omega,by go_num,HG,a6.al _⟩
          case measure=>simp[intOf];omega
      . skip;have hg:=a7.out;rw[Uc,show((x,y,d)==(x,ey,ed))=false by simp[*],Bool.false_or]at hg;have HG:=TY hg;clear hg;go_wp2;go_roundw
        case rel=>exact⟨k+1,by omega,by go_num,HG,a6.al _⟩
        case measure=>simp[intOf];omega
    . skip;have hg:=a7.out;rw[Uc,show((x,y,d)==(ex,ey,ed))=false by simp[*],Bool.false_or]at hg;have HG:=TY hg;clear hg;go_wp2;go_roundw
      case rel=>exact⟨k+1,by omega,by go_num,HG,a6.al _⟩
      case measure=>simp[intOf];omega
  . obtain rfl : k = l.length := by omega
    have hg:=Hg.out;rw[Ud (Um _)]at hg;have hg2:false=R:=by rw[<-hg];rfl
    have HG:=TY hg2;clear hg hg2;go_wp2;go_ret;exact⟨lF HG.out,hA.tr a6⟩
theorem Er (x y:Int) (w:World) (h:kM (x,y)=true):Calls prog 200 #[.agg #[.int .i64 x,.int .i64 y]] w (Ret (.tuple #[.agg #[.int .i64 x,.int .i64 y,.bool false,.int .i64 x,.int .i64 (y+1),.bool false],.agg #[.int .i64 x,.int .i64 y,.bool true,.int .i64 (x+1),.int .i64 y,.bool true]]) w):=by
 unfold kM at h;rw[Bool.and_eq_true,decide_eq_true_eq,decide_eq_true_eq]at h;simp only at h;obtain⟨⟨x0,x1⟩,y0,y1⟩:=h;have hA:=(Below.refl w.heap.size w).al (.cells #[.int .i64 x,.int .i64 y] 83);go_enter Tryz.func200,Tryz.ntmps200
 have e1:IntKind.i64.wrap (x+1)=x+1:=Uo _ (by omega);have e2:IntKind.i64.wrap (y+1)=y+1:=Uo _ (by omega);go_wp2_with fail
 obtain⟨W3,hW⟩:=TV (((w.alloc (.cells #[.int .i64 x,.int .i64 y] 83)).alloc (.cells #[.int .i64 0,.int .i64 0,.bool false,.int .i64 0,.int .i64 0,.bool false] 193)).alloc (.cells #[.int .i64 0,.int .i64 0,.bool false,.int .i64 0,.int .i64 0,.bool false] 193));have bC:Blk W3 w.heap.size 83 #[.int .i64 x,.int .i64 y]:=by rw[hW];exact((Blk.aZ w _ _).alloc _).alloc _
 have b1:Blk W3 (w.heap.size+1) 193 #[.int .i64 0,.int .i64 0,.bool false,.int .i64 0,.int .i64 0,.bool false]:=by rw[hW];exact(Blk.gZ _ _ _ _ (by simp)).alloc _
 have b2:Blk W3 (w.heap.size+1+1) 193 #[.int .i64 0,.int .i64 0,.bool false,.int .i64 0,.int .i64 0,.bool false]:=by rw[hW];exact Blk.gZ _ _ _ _ (by simp)
 have B3:Below w.heap.size w W3:=by rw[hW];exact(hA.al _).al _
 have hs3:W3.heap.size=w.heap.size+1+1+1:=by rw[hW];simp
 rw[<-hW];obtain⟨g0,hg0⟩:=TV w.heap.size;obtain⟨g1,hg1⟩:=TV (w.heap.size+1);obtain⟨g2,hg2⟩:=TV (w.heap.size+1+1);rw[<-hg2]at b2⊢;rw[<-hg1]at b1⊢;rw[<-hg0]at bC⊢;have bD:g0≠g1:=(by omega);have bE:g0≠g2:=(by omega);have bF:g1≠g2:=(by omega);have cA:w.heap.size<=g1:=(by omega);have hl2:w.heap.size<=g2:=(by omega);clear hW hs3 hg0 hg1 hg2 hA;have c0:=bC.cell 0;have c1:=bC.cell 1;simp only[TZ,T9,Ua]at c0 c1;have bJ:=bD.symm;have bK:=bE.symm;have bL:=bF.symm;have B4:Below w.heap.size w W3.drew:=B3.drew;have a8:Blk W3.drew g1 193 #[.int .i64 0,.int .i64 0,.bool false,.int .i64 0,.int .i64 0,.bool false]:=b1;have bA:Blk W3.drew g2 193 #[.int .i64 0,.int .i64 0,.bool false,.int .i64 0,.int .i64 0,.bool false]:=b2;have a6:Blk W3.drew g0 83 #[.int .i64 x,.int .i64 y]:=bC;clear b1 b2 bC B3;refine rB (fun w'=>w'.cell? ⟨g0,0,none⟩=some (.int .i64 x)/\w'.cell? ⟨g0,1,none⟩=some (.int .i64 y)) fun hHeld=>(tW 0)<|(tW 1)<|(tW 2)<|(tW 3)<|(tW 4)<|(tW 5)<|(tW 6)<|(tW 7)<|(tW 8)<|(tW 9)<|(tW 10)<|(tW 11)<|(tW 12)<|(tW 13)<|(tW 14)<|(tW 15)<|(tW 16)<|(tW 17)<|(tW 18)<|(tW 19)<|(tW 20)<|(tW 21)<|(tW 22)<|(tW 23)<|(tR [24])<|tL fun K hK=>?_
 (first|(refine aL rfl 193 _ _ rfl g1 #[.int .i64 x,.int .i64 y,.bool false,.int .i64 x,.int .i64 (y+1),.bool false] rfl rfl _ _ a8 (by kernel_rfl) rfl (by simp[Uq]) ?_;intro wS bB a7;have a8:=bB;have bA:=bA.grown a7 (by simp;omega);have a6:=a6.grown a7 (by simp;omega);have B4:=B4.grown a7 B4.size (fun k hk=>by injection hk with hk;omega);have c0:=a6.cell 0;have c1:=a6.cell 1;simp only[TZ,T9,Ua]at c0 c1)|(refine aL rfl 193 _ _ rfl g2 #[.int .i64 x,.int .i64 y,.bool true,.int .i64 (x+1),.int .i64 y,.bool true] rfl rfl _ _ bA (by kernel_rfl) rfl (by simp[Uq]) ?_;intro wS bB a7;have bA:=bB;have a8:=a8.grown a7 (by simp;omega);have a6:=a6.grown a7 (by simp;omega);have B4:=B4.grown a7 B4.size (fun k hk=>by injection hk with hk;omega);have c0:=a6.cell 0;have c1:=a6.cell 1;simp only[TZ,T9,Ua]at c0 c1))
 refine tK hK fun hHeld=>?_
 clear hK K;refine(tR [25])<|tL fun K hK=>?_
 (first|(refine aL rfl 193 _ _ rfl g1 #[.int .i64 x,.int .i64 y,.bool false,.int .i64 x,.int .i64 (y+1),.bool false] rfl rfl _ _ a8 (by kernel_rfl) rfl (by simp[Uq]) ?_;intro wS bB a7;have a8:=bB;have bA:=bA.grown a7 (by simp;omega);have a6:=a6.grown a7 (by simp;omega);have B4:=B4.grown a7 B4.size (fun k hk=>by injection hk with hk;omega);have c0:=a6.cell 0;have c1:=a6.cell 1;simp only[TZ,T9,Ua]at c0 c1)|(refine aL rfl 193 _ _ rfl g2 #[.int .i64 x,.int .i64 y,.bool true,.int .i64 (x+1),.int .i64 y,.bool true] rfl rfl _ _ bA (by kernel_rfl) rfl (by simp[Uq]) ?_;intro wS bB a7;have bA:=bB;have a8:=a8.grown a7 (by simp;omega);have a6:=a6.grown a7 (by simp;omega);have B4:=B4.grown a7 B4.size (fun k hk=>by injection hk with hk;omega);have c0:=a6.cell 0;have c1:=a6.cell 1;simp only[TZ,T9,Ua]at c0 c1))
 refine tK hK fun hHeld=>?_
 clear hK K;refine tD ?_;obtain⟨bN,bO,bR,bU,bW,bX⟩:=a8.n6;obtain⟨bY,b5,b6,b7,b8,b9⟩:=bA.n6;go_wp2_with fail
 refine bodyPost_ret (v:= .tuple #[.agg #[.int .i64 x,.int .i64 y,.bool false,.int .i64 x,.int .i64 (y+1),.bool false],.agg #[.int .i64 x,.int .i64 y,.bool true,.int .i64 (x+1),.int .i64 y,.bool true]]) (by simp[results,Tryz.results200,go_sem,bN,bO,bR,bU,bW,bX,bY,b5,b6,b7,b8,b9]) rfl ⟨rfl,B4⟩
end Go.Proofs.YtjijonhkofhikaaGreatDoor
namespace Go.Proofs.YtjijonhkofhikaaGreatDoor
open Go.RowKit
theorem Bu {α:Type} {enc:α->List Value} {size:Nat} (a6:∀x,(enc x).length=size):∀(l:List α) (j:Nat),(l.flatMap enc).take (j*size)=(l.take j).flatMap enc
  |[],j=>by simp
  |x::r,0=>by simp
  | x :: r, j + 1 => by
   rw[Ue,List.take_succ_cons,Ue,List.take_append,a6,List.take_of_length_le (by rw[a6,Un];omega),show(j+1)*size-size=j*size by rw[Un];omega,Bu a6 r j]
theorem Gy {α:Type} {enc:α->List Value} {size:Nat} (a6:∀x,(enc x).length=size):∀(l:List α) (j:Nat),(l.flatMap enc).drop (j*size)=(l.drop j).flatMap enc
  |[],j=>by simp
  |x::r,0=>by simp
  | x :: r, j + 1 => by
   rw[Ue,List.drop_succ_cons,List.drop_append,a6,Ud (by rw[a6,Un];omega),show(j+1)*size-size=j*size by rw[Un];omega,Gy a6 r j,List.nil_append]
theorem addr_add (g o j:Nat):(⟨g,o,none⟩:Addr).add j=⟨g,o+j,none⟩:=by unfold Addr.add;split<;>simp_all
section
variable (P : Program)
theorem FR (w:World) (dT sT ty elem:TypeId) (g o a6 a8:Nat) (a:Addr) (a7 bA:Nat) (cur:Array Value) (t:TypeId) (cs:List Value) (s n:Nat)
    (hu:P.underlying dT=some (.slice elem)) (hs:(P.info? elem).map (·.size)=some s)
    (hg:w.heap[g]? =some (.cells cur t (0,0))) (hn:n=Nat.min a7 a6) (hc:cs.length=n*s)
    (bB:∀j v,cs[j]? =some v->w.cell? (a.add j)=some v) (bC:o+cs.length<=cur.size) (h1:∀v∈cs,v.oneCell'=true):
    (Builtin.copy_ #[dT,sT] ty #[.slice (some ⟨g,o,none⟩) a6 a8,.slice (some a) a7 bA]).run P w=
      .ok (goInt n) (w.setRow g (cur.toList.take o++cs++cur.toList.drop (o+cs.length)).toArray):=by
 have hl:=run_loadCells_list (P:=P) w a cs bB;rw[hc]at hl;have hst:=run_storeCells_at P g o t cs 0 cur w hg (by simpa using bC) h1;cases hq:P.info? elem with
 |none=>simp[hq]at hs
 |some i=>
  have hi:i.size=s:=(by simpa[hq]using hs);simp[Builtin.copy_,run_underlying hu,Builtin.lenOf,Builtin.firstCells,sizeOf,typeInfo,hq,hi,<-hn,hl,hst]
theorem Lh (w:World) (dT sT ty elem:TypeId) (dp sp:Option Addr) (a6 a8 a7 bA:Nat) (hu:P.underlying dT=some (.slice elem)) (hs:((P.info? elem).map (·.size)).isSome=true) (hn:Nat.min a7 a6=0):
 (Builtin.copy_ #[dT,sT] ty #[.slice dp a6 a8,.slice sp a7 bA]).run P w= .ok (goInt 0) w:=by
 cases hq:P.info? elem with
 |none=>simp[hq]at hs
 |some i=>
  cases dp<;>cases sp<;>simp[Builtin.copy_,run_underlying hu,Builtin.lenOf,Builtin.firstCells,sizeOf,typeInfo,hq,hn,loadCells,loadCellsFrom,storeCells]
end
theorem lJ {P:Program} {ops:Array Oper} {o:Oper} {a:Act} {w:World} {K:Act->World->Prop} {Q:Exit->Act->World->Prop} {E':Prop} {α:Type} {t E:TypeId} {z:Value} {size bytes:Nat} (R:Row P t E z size bytes)
    {enc:α->List Value} (a6:∀x,(enc x).length=size) (h1:∀x,∀u∈enc x,u.oneCell'=true) {B g c:Nat} {l:List α} {zz:α} (hown:aD E size enc B w (.slice (some ⟨g,0,none⟩) (l.length+1) c) (l++[zz]))
    (k:Nat) (hk:k<=l.length) (hgd:o.guard=none) (d s:Operand) (ho:o.op= .call {callee:= .builtin .copy,args:= #[d,s],argTypes:= #[t,t]}) (dp sp:Option Addr) (bC bA bD bB:Nat)
    (hd:a.eval d= .slice dp bC bA) (hs:a.eval s= .slice sp bD bB) (bN:bC=l.length-k) (bO:bD=l.length+1-k) (bR:k<l.length->dp=some ⟨g,(k+1)*size,none⟩) (hsp:k<l.length->sp=some ⟨g,k*size,none⟩)
    (h:∀w',aD E size enc B w' (.slice (some ⟨g,0,none⟩) (l.length+1) c) ((l++[zz]).take (k+1)++l.drop k)->w.grownBy w' (some g)->K (a.put o.dst (goInt ((l.length-k:Nat):Int))) w'):
    if Region.wanted o (yielded ops a.tmps)=true then Oper.wp P o a w K Q else E':=by
 have hw:Region.wanted o (yielded ops a.tmps)=true:=(by simp[Region.wanted,hgd]);rw[if_pos hw];obtain⟨ht,bE,hzs,hsz⟩:=R;obtain⟨i0,hi,hz0,hz1,hz2⟩:=info_parts bE;have hsome:((P.info? E).map (·.size))=some size:=by rw[hi];simp[hz1]
 subst bN;subst bO;by_cases bK:k<l.length
 . obtain rfl:=bR bK;obtain rfl:=hsp bK;rcases hown.2 with⟨e,_⟩|⟨g',cap,cur,e,hB,hg,a8,bJ,hsize,a7⟩
   . injection e with e1;cases e1
   . injection e with e1 e2 e3;injection e1 with e1;injection e1 with e1 _ _;subst e1 e3;have hlen:((l++[zz]).flatMap enc).length=(l.length+1)*size:=by rw[fZ a6];simp
     have hcs:((l.drop k).flatMap enc).length=(l.length-k)*size:=by rw[fZ a6];simp
     have bU:(l++[zz]).length=l.length+1:=(by simp);rw[bU]at a7 a8;have bW:(k+1)*size+(l.length-k)*size=(l.length+1)*size:=by rw[<-Un];congr 1;omega
     have bF:(k+1)*size+((l.drop k).flatMap enc).length<=cur.size:=by
      rw[hcs,bW,hsize];exact Nat.mul_le_mul_right _ a8
     have hcell:∀j v,((l.drop k).flatMap enc)[j]? =some v->w.cell? ((⟨g,k*size,none⟩:Addr).add j)=some v:=by
      intro j v hv;rw[addr_add,cell_of_row w g _ cur E (0,0) hg];rw[<-Gy a6,List.getElem?_drop]at hv;have hj:k*size+j<(l.flatMap enc).length:=(List.getElem?_eq_some_iff.1 hv).1;rw[fZ a6]at hj;have h2:((l++[zz]).flatMap enc)[k*size+j]? =some v:=by rw[List.flatMap_append,List.getElem?_append_left (by rw[fZ a6];exact hj)];exact hv
      rw[<-a7,List.getElem?_take_of_lt (by rw[Un];omega)]at h2;simpa using h2
     have bL:=I8 h1 (l.drop k);have e5:((l++[zz]).take (k+1)++l.drop k).flatMap enc=((l++[zz]).take (k+1)).flatMap enc++(l.drop k).flatMap enc:=List.flatMap_append;obtain⟨CS,bX⟩:=TV ((l.drop k).flatMap enc);rw[<-bX]at hcs bF hcell bL e5;have hrun:=FR P w t t o.type E g ((k+1)*size) (l.length-k) bA ⟨g,k*size,none⟩ (l.length+1-k) bB cur E CS size (l.length-k) ht hsome hg (by show _=min _ _;omega) hcs hcell bF bL;unfold Oper.wp;simp[execOp,ho,resolve,invoke,builtin,hd,hs,hrun,Result.andThen];have hm:(goInt ((l.length-k:Nat):Int))=goInt (l.length-k:Nat):=rfl;have e3:((l++[zz]).take (k+1)++l.drop k).length=l.length+1:=by simp;omega
     refine h _ ⟨by rw[fZ a6],.inr ⟨g,c,_,by rw[e3],hB,setRow_heap w g cur _ E (0,0) hg,by rw[e3];exact a8,bJ,?_,?_⟩⟩ (by exact⟨rfl,rfl,rfl,by simp[World.setRow],fun k hk hne=>setRow_other w g k _ (fun e=>hne (by rw[e]))⟩)
     . have hle:(l.length+1)*size<=c*size:=Nat.mul_le_mul_right _ a8;simp only[List.size_toArray,Uf,List.length_take,List.length_drop,Array.length_toList];rw[hcs,hsize];omega
     . have hA:cur.toList.take ((k+1)*size)=((l++[zz]).take (k+1)).flatMap enc:=by
        rw[<-Bu a6,<-a7,List.take_take,Nat.min_eq_left (Nat.mul_le_mul_right _ (by omega))]
       have e4:(((l++[zz]).take (k+1)).flatMap enc++CS).length=(l.length+1)*size:=(by rw[<-e5,fZ a6,e3]);rw[hA,e3,e5,<-Ug];rw[List.take_append_of_le_length (by rw[e4];exact Um _)];exact List.take_of_length_le (by rw[e4];exact Um _)
 . obtain rfl : k = l.length := by omega
   have hrun:=Lh P w t t o.type E dp sp 0 bA 1 bB ht (by rw[hsome];rfl) (by show min _ _=_;omega);unfold Oper.wp;simp[execOp,ho,resolve,invoke,builtin,hd,hs,hrun,Result.andThen];have e1:(l++[zz]).take (l.length+1)++l.drop l.length=l++[zz]:=(by simp[List.take_of_length_le]);have h':=h w (by rw[e1];exact hown) (World.grownBy.refl _ _);show K (a.put o.dst (goInt 0)) w;simpa using h'
end Go.Proofs.YtjijonhkofhikaaGreatDoor
namespace Go.Proofs.YtjijonhkofhikaaGreatDoor
open Go.ChangeShapes Go.WideShapes Go.ChangeAt Go.RowKit
theorem mX {α:Type} (out:List α) (z d:α) {P:Nat} (h:P<=out.length):((out++[z]).take (P+1)++out.drop P).set P d=out.take P++d::out.drop P:=by
 have hP:P<(out++[z]).length:=by simp;omega
 rw[List.take_succ_eq_append_getElem hP,List.take_append_of_le_length h,Ug,List.set_append_right _ _ (by simp;omega)];congr 1
 rw[List.length_take,Nat.min_eq_left h,Nat.sub_self];rfl
theorem Cg (out:List Dm) (d:Dm) (r:List Dm):kL out (d::r)=kL (kP out d) r:=rfl
theorem zT (out:List Dm) {d:Dm} (h:aI d=true):kP out d=if out[nO d out]? =some d then out else out.take (nO d out)++d::out.drop (nO d out):=by
 unfold kP;rw[if_pos h,Kj]
theorem xL (x y:Int) (d:Bool) (r:Int) (w:World) (hd:aI (x,y,d)=true) (hr:r=aT (x,y,d)):Calls prog 163 #[.agg #[.int .i64 x,.int .i64 y,.bool d]] w (Ret (.int .i64 r) w):=by
 rw[hr];exact Eg x y d w hd
theorem Bv (v:Value) (l:List Dm) (w:World) (h:Rd 3 aU w v l):Calls prog 202 #[v] w (iH 99 3 aX (jB l) w):=by
 obtain⟨A,c,rfl,hc,hm⟩:=h.form;go_enter Tryz.func202,Tryz.ntmps202
 go_wp2;go_loopw [3,10] (fun s3 gO wr=>∃(k:Nat) (out:List Dm) (A3:Option Addr) (c3:Nat),k<=l.length/\gO= .int .i64 k/\s3= .slice A3 out.length c3/\Hid (kL out (l.drop k)=jB l)/\Hid (Sorted out)/\aD 99 3 aX w.heap.size wr (.slice A3 out.length c3) out/\Below w.heap.size w wr) (fun _ i _=>l.length-(intOf i).toNat)
 case atStart=>exact⟨0,[],_,_,Ul _,rfl,rfl,TY rfl,TY yV,fI w _ rfl _ (Um _),(Below.refl _ _).al _⟩
 case round=>
  obtain⟨k,out,A3,c3,hk,rfl,rfl,Hg,cR,hown,cJ⟩:=hrel;have gX:=yX cR.out;obtain⟨wo,rfl⟩:∃wo:World,wo=wr:=⟨_,rfl⟩;by_cases hlt:k<l.length
  . obtain⟨b,off,rfl,hb,q1,q2,q3⟩:=(h.TW cJ).jT hlt;have hg:=Hg.out;rw[Ub hlt,Cg]at hg;obtain⟨d,hd⟩:=TV (l[k]);rw[<-hd]at q1 q2 q3 hg;obtain⟨x,y,dn⟩:=d;simp only at q1 q2 q3;have bD:=Blk.aZ wo 99 #[.int .i64 x,.int .i64 y,.bool dn];rcases eK:aI (x,y,dn)with _|_
    . have e : kP out (x, y, dn) = out := by unfold kP; rw [eK]; rfl
      rw[e]at hg;have cX:=TY hg;have cU:=TY eK;clear hg eK hd e;go_wp2_with fail
      refine(aR x y dn _).mono ?_;rintro e w1 ⟨rfl,hb1⟩;rw[cU.out];go_wp2;go_roundw
      case rel=>exact⟨k+1,out,A3,c3,by omega,by go_num,rfl,cX,cR,(hown.alloc _).below hb1,(cJ.al _).tr hb1⟩
      case measure=>simp[intOf];omega
    . have hst:=zT out eK;have cQ:=TY hst;have cX:=TY hg;have cU:=TY eK;clear hst hg eK hd;go_wp2_with fail
      refine(aR x y dn _).mono ?_;rintro e w1 ⟨rfl,hb1⟩;rw[cU.out];have eL:=(hown.alloc (.cells #[.int .i64 x,.int .i64 y,.bool dn] 99)).below hb1;have e8:=bD.bl hb1;have B1:=(cJ.al (.cells #[.int .i64 x,.int .i64 y,.bool dn] 99)).tr hb1;obtain⟨gd,hgd⟩:=TV wo.heap.size;rw[<-hgd]at e8⊢;obtain⟨P,hP⟩:=TV (nO (x,y,dn) out);have e9:P<=out.length:=by rw[hP];exact IQ _ _
      obtain⟨E,hE⟩:∃E,E=if out[P]? =some (x,y,dn)then P+1 else P:=⟨_,rfl⟩
      have fD:E<=out.length:=by
       rw[hE];split
       . rename_i q;have:=(List.getElem?_eq_some_iff.1 q).1;omega
       . exact e9
      have hback:∀j,(hj:j<out.length)->(aT out[j]>aT (x,y,dn)↔E<=j):=fun j hj=>by rw[hE,hP];exact JF cR.out cU.out hj
      rw[<-hP]at cQ
      have bU:Ur (.slice A3 out.length c3)≠some gd:=by
       intro e;have:=World.ownsRow.lt hown _ e;omega
      have cS:=TY bU;clear bU;have eM:=TY hback;have HE:=TY hE;have HP:=TY hP;clear hback hE hP hgd;go_wp2;go_loopw [6] (fun s6 wi=>∃j:Nat,E<=j/\j<=out.length/\s6= .int .i64 j/\aD 99 3 aX w.heap.size wi (.slice A3 out.length c3) out/\Blk wi gd 99 #[.int .i64 x,.int .i64 y,.bool dn]/\Below w.heap.size w wi) (fun i _=>(intOf i).toNat)
      case atStart=>exact⟨out.length,fD,Um _,rfl,eL,e8,B1⟩
      case round=>
       obtain⟨j,gP,hj,rfl,hown2,cV,b8⟩:=hrel;clear eL e8 B1 hown cJ bD q1 q2 q3 hb1;obtain⟨bC,bE,bF⟩:=cV.n3;rcases Nat.eq_zero_or_pos j with eN|gY
       . have hno:¬out[P]? =some (x,y,dn):=by
          intro q;have:=HE.out;rw[if_pos q]at this;omega
         have eP:P=j:=by have:=HE.out;rw[if_neg hno]at this;omega
         have cT:=TY hno;clear hno;subst eP;have hZ:(P:Int)<=0:=(by omega);have gQ:P<=0:=(by omega);have gR:decide (0<P)=false:=by simp;omega
         have gS:decide ((0:Int)<(P:Int))=false:=by simp;omega
         have Hj:=TY eN;clear eN gP;go_wp2_with fail
         refine rB (fun _=>True) fun hHeld=>(tW 0)<|(tW 1)<|(tW 2)<|(tU 3)<|(tU 4)<|(tU 5)<|(tU 6)<|(tU 7)<|(tU 8)<|(tU 9)<|(tU 10)<|(tU 11)<|(tW 12)<|tD ?_
         have Bw:Below wr.heap.size wr wr.drew.drew:=(Below.refl _ _).drew.drew;go_wp2_with fail
         refine rB (fun _=>True) fun hHeld=>(tW 0)<|(tW 1)<|(tW 2)<|(tU 3)<|(tU 4)<|(tU 5)<|(tU 6)<|(tU 7)<|(tU 8)<|(tU 9)<|(tW 10)<|tD ?_
         have bY:=hown2.below Bw;have cK:=cV.bl Bw;have B3:=b8.tr Bw;clear hHeld bC bE bF hown2 cV b8 Bw;obtain⟨W5,cL⟩:=TV wr.drew.drew;rw[<-cL]at bY cK B3⊢;clear cL;have bJ:Hid (kL (out.take P++(x,y,dn)::out.drop P) (l.drop (k+1))=jB l):=TY (by rw[<-cX.out,cQ.out,if_neg cT.out]);have b9:Hid (Sorted (out.take P++(x,y,dn)::out.drop P)):=TY (by have:=jJ cR.out (x,y,dn);rw[cQ.out,if_neg cT.out]at this;exact this);have H8:Hid ((out.length+1)*24<=140737488355328):=TY (by omega);have HM:Hid (out.length+1<=maxLen):=TY (by unfold maxLen;omega);have bU:=cS.out;go_wp2_with (at_builtin;go_must (refine aF (enc:=aX) aK aC aM B3 bY ((0,0,false):Dm) H8.out HM.out rfl _ _ rfl rfl rfl ?_);intro v4 w4 bB hb4 hg4 cM;obtain⟨A4,c4,rfl,cY,fL⟩:=bB.form)
         have cD:=(cK.alloc _).grown hg4 (fun e=>bU e.symm);obtain⟨g4,dL,bA,dT⟩:=bB.split (k:=0) (by simp);subst dL
         have eA:g4≠gd:=by
          have bW:=cK.lt;rcases cM with q|q
          . intro e;apply bU;rw[<-q,e];rfl
          . simp[Ur]at q;omega
         clear cM;simp only[Uf,Uh]at cY bB⊢;obtain⟨bC,bE,bF⟩:=cD.n3;have fN:¬c4=P:=(by omega);have fO:IntKind.i64.wrap (((P:Nat):Int)+1)=((P:Nat):Int)+1:=Uo _ (by omega);have eP:(0:Int)<=((P:Nat):Int)+1:=(by omega);have fR:((P:Nat):Int)+1<=(out.length:Int)+1:=(by omega);have fS:(((P:Nat):Int)+1).toNat=P+1:=(by omega);have fW:P+1<=c4:=(by omega);have cH:((P:Nat):Int)<=(out.length:Int)+1:=(by omega);have cA:P<=out.length:=(by omega);have a8:aD 99 3 aX w.heap.size w4.drew (.slice (some ⟨g4,0,none⟩) (out.length+1) c4) (out++[(0,0,false)]):=bB.below (Below.refl _ _).drew;have bK:Blk w4.drew gd 99 #[.int .i64 x,.int .i64 y,.bool dn]:=cD;have bX:=hb4.drew;clear bB cD hb4 bC bE bF;by_cases eC:c4=P+1
         . go_wp2_with fail
           refine rB (fun _=>True) fun hHeld=>(tW 0)<|(tW 1)<|(tW 2)<|(tW 3)<|(tW 4)<|(tW 5)<|(tW 6)<|(tR [7])<|tL fun K hK=>?_
           (refine lJ aK aC aM a8 P cA rfl _ _ rfl _ _ _ _ _ _ rfl rfl (by omega) (by omega) (fun h=>by exfalso;omega) (fun h=>by simp) ?_;intro w5 a6 bL)
           refine tK hK fun hHeld=>?_
           clear hK K;refine tD ?_;clear hHeld;have cE:=bK.grown bL (by simp;omega);have B5:=bX.grown bL bX.size (fun k hk=>by injection hk with hk;omega);have bW:((out++[((0,0,false):Dm)]).take (P+1)++out.drop P).length=out.length+1:=by simp;omega
           have a7:=mX out ((0,0,false):Dm) (x,y,dn) cA;obtain⟨NW,bN⟩:=TV (out.take P++(x,y,dn)::out.drop P);have b5:NW.length=out.length+1:=by rw[bN];simp;omega
           rw[<-bN]at bJ b9 a7;obtain⟨L5,b6⟩:=TV ((out++[((0,0,false):Dm)]).take (P+1)++out.drop P);rw[<-b6]at a6 a7 bW;have bO:P<L5.length:=(by omega);obtain⟨u0,u1,u2,s0,s1,s2⟩:=a6.DJ aC (k:=P) bO;have eE:=a6.free;have bR:=TY a7;have b7:=TY b5;have cF:=TY bO;clear a7 b5 bN b6 bW a8 bK bX bL bO;have eI:((P:Nat):Int)<(out.length:Int)+1:=(by omega);obtain⟨bC,bE,bF⟩:=cE.n3;go_wp2;go_roundw
           case rel=>exact⟨k+1,NW,_,c4,by omega,by go_num,by rw[b7.out],bJ,b9,by rw[b7.out,<-bR.out];exact a6.xR aC cF.out rfl,((B5.st _ _ (by first|exact bA|simp)).st _ _ (by first|exact bA|simp)).st _ _ (by first|exact bA|simp)⟩
           case measure=>simp[intOf];omega
         . go_wp2_with fail
           refine rB (fun _=>True) fun hHeld=>(tW 0)<|(tW 1)<|(tW 2)<|(tW 3)<|(tW 4)<|(tW 5)<|(tW 6)<|(tR [7])<|tL fun K hK=>?_
           (refine lJ aK aC aM a8 P cA rfl _ _ rfl _ _ _ _ _ _ rfl rfl (by omega) (by omega) (fun h=>by simp) (fun h=>by simp) ?_;intro w5 a6 bL)
           refine tK hK fun hHeld=>?_
           clear hK K;refine tD ?_;clear hHeld;have cE:=bK.grown bL (by simp;omega);have B5:=bX.grown bL bX.size (fun k hk=>by injection hk with hk;omega);have bW:((out++[((0,0,false):Dm)]).take (P+1)++out.drop P).length=out.length+1:=by simp;omega
           have a7:=mX out ((0,0,false):Dm) (x,y,dn) cA;obtain⟨NW,bN⟩:=TV (out.take P++(x,y,dn)::out.drop P);have b5:NW.length=out.length+1:=by rw[bN];simp;omega
           rw[<-bN]at bJ b9 a7;obtain⟨L5,b6⟩:=TV ((out++[((0,0,false):Dm)]).take (P+1)++out.drop P);rw[<-b6]at a6 a7 bW;have bO:P<L5.length:=(by omega);obtain⟨u0,u1,u2,s0,s1,s2⟩:=a6.DJ aC (k:=P) bO;have eE:=a6.free;have bR:=TY a7;have b7:=TY b5;have cF:=TY bO;clear a7 b5 bN b6 bW a8 bK bX bL bO;have eI:((P:Nat):Int)<(out.length:Int)+1:=(by omega);obtain⟨bC,bE,bF⟩:=cE.n3;go_wp2;go_roundw
           case rel=>exact⟨k+1,NW,_,c4,by omega,by go_num,by rw[b7.out],bJ,b9,by rw[b7.out,<-bR.out];exact a6.xR aC cF.out rfl,((B5.st _ _ (by first|exact bA|simp)).st _ _ (by first|exact bA|simp)).st _ _ (by first|exact bA|simp)⟩
           case measure=>simp[intOf];omega
       . obtain ⟨i, rfl⟩ : ∃ i, j = i + 1 := ⟨j - 1, by omega⟩;have eJ:i<out.length:=(by omega);obtain⟨g,hA,hg0,hg1⟩:=hown2.split eJ;subst hA;obtain⟨e,he⟩:=TV (out[i]);have cN:=hown2.slot aC (by decide) eJ;rw[<-he]at cN;have gK:aI e=true:=by rw[he];exact cR.out.1 _ (List.getElem_mem eJ)
         have cG:=eM.out i eJ;rw[<-he]at cG;obtain⟨ex,ey,ed⟩:=e;have z0:=cN 0 _ rfl;have z1:=cN 1 _ rfl;have z2:=cN 2 _ rfl;simp only[Nat.add_zero]at z0;obtain⟨o1,fX⟩:=TV (aT (ex,ey,ed));obtain⟨o2,fY⟩:=TV (aT (x,y,dn));rw[<-fX,<-fY]at cG;have eR:=TY gK;have eW:=TY fX;have e5:=TY fY;have He:=TY he;clear cN gK fX fY he;have gA:IntKind.i64.wrap (i:Int)=(i:Int):=Uo _ (by omega);have gB:(0:Int)<=(i:Int):=(by omega);have gC:(i:Int)<(out.length:Int):=(by omega);have h9:=cV.lt;have gD:=b8.drew;have Bw:Below wr.heap.size wr wr.drew:=(Below.refl _ _).drew;have hz:wr.heap.size<=wr.drew.heap.size:=(by simp);by_cases gF:E<=i
         . have j0:o2<o1:=cG.2 gF;clear cG;go_wp2_with fail
           refine rB (fun w'=>w'.cell? ⟨g,i*3,none⟩=some (.int .i64 ex)/\w'.cell? ⟨g,i*3+1,none⟩=some (.int .i64 ey)/\w'.cell? ⟨g,i*3+2,none⟩=some (.bool ed)/\w'.cell? ⟨gd,0,none⟩=some (.int .i64 x)/\w'.cell? ⟨gd,1,none⟩=some (.int .i64 y)/\w'.cell? ⟨gd,2,none⟩=some (.bool dn)) fun hHeld=>(tW 0)<|(tW 1)<|(tW 2)<|(tW 3)<|(tW 4)<|(tW 5)<|(tW 6)<|(tW 7)<|(tW 9)<|(tR [8])<|tL fun K hK=>?_
           go_simp
           (first|(go_at_call 163;go_must (refine(xL _ _ _ _ _ (by first|exact eR.out|exact cU.out) (by first|exact eW.out|exact e5.out)).mono ?_;rintro e wX ⟨rfl,cI⟩;obtain⟨e6,e7,cW⟩:=bkn cI wr.heap.size hz;have hz:=cW;have Bw:=Bw.tr cI);(try go_wp2_with fail)))
           refine tK hK fun hHeld=>?_
           clear hK K;refine(tR [10])<|tL fun K hK=>?_
           go_simp
           (first|(go_at_call 163;go_must (refine(xL _ _ _ _ _ (by first|exact eR.out|exact cU.out) (by first|exact eW.out|exact e5.out)).mono ?_;rintro e wX ⟨rfl,cI⟩;obtain⟨e6,e7,cW⟩:=bkn cI wr.heap.size hz;have hz:=cW;have Bw:=Bw.tr cI);(try go_wp2_with fail)))
           refine tK hK fun hHeld=>?_
           clear hK K;refine(tW 11)<|(tW 12)<|tD ?_
           all_goals
             go_wp2;go_roundw
             case rel=>exact⟨i,gF,by omega,by go_num,hown2.below Bw,cV.bl Bw,b8.tr Bw⟩
             case measure=>simp[intOf]
         . have hle:o1<=o2:=by
            have:=mt cG.1 gF;omega
           have j1:E=i+1:=(by omega);clear cG;go_wp2_with fail
           refine rB (fun w'=>w'.cell? ⟨g,i*3,none⟩=some (.int .i64 ex)/\w'.cell? ⟨g,i*3+1,none⟩=some (.int .i64 ey)/\w'.cell? ⟨g,i*3+2,none⟩=some (.bool ed)/\w'.cell? ⟨gd,0,none⟩=some (.int .i64 x)/\w'.cell? ⟨gd,1,none⟩=some (.int .i64 y)/\w'.cell? ⟨gd,2,none⟩=some (.bool dn)) fun hHeld=>(tW 0)<|(tW 1)<|(tW 2)<|(tW 3)<|(tW 4)<|(tW 5)<|(tW 6)<|(tW 7)<|(tW 9)<|(tR [8])<|tL fun K hK=>?_
           go_simp
           (first|(go_at_call 163;go_must (refine(xL _ _ _ _ _ (by first|exact eR.out|exact cU.out) (by first|exact eW.out|exact e5.out)).mono ?_;rintro e wX ⟨rfl,cI⟩;obtain⟨e6,e7,cW⟩:=bkn cI wr.heap.size hz;have hz:=cW;have Bw:=Bw.tr cI);(try go_wp2_with fail)))
           refine tK hK fun hHeld=>?_
           clear hK K;refine(tR [10])<|tL fun K hK=>?_
           go_simp
           (first|(go_at_call 163;go_must (refine(xL _ _ _ _ _ (by first|exact eR.out|exact cU.out) (by first|exact eW.out|exact e5.out)).mono ?_;rintro e wX ⟨rfl,cI⟩;obtain⟨e6,e7,cW⟩:=bkn cI wr.heap.size hz;have hz:=cW;have Bw:=Bw.tr cI);(try go_wp2_with fail)))
           refine tK hK fun hHeld=>?_
           clear hK K;refine(tW 11)<|(tW 12)<|tD ?_
           all_goals
             have bY:=hown2.below Bw;have cK:=cV.bl Bw;have B3:=b8.tr Bw;have gT:=cV.lt;clear hHeld z0 z1 z2 bC bE bF hown2 cV b8 Bw hz e6 e7 cW cI gD;obtain⟨W4,gW⟩:=TV wX;subst gW;have cN:=bY.slot aC (by decide) eJ;rw[<-He.out]at cN;have z0:=cN 0 _ rfl;have z1:=cN 1 _ rfl;have z2:=cN 2 _ rfl;simp only[Nat.add_zero]at z0;clear cN;obtain⟨bC,bE,bF⟩:=cK.n3;by_cases cB:out[P]? =some (x,y,dn)
             . have cH : P = i := by have := HE.out; rw [if_pos cB] at this; omega
               subst cH
               have gL:(ex,ey,ed)=(x,y,dn):=by
                rw[List.getElem?_eq_getElem eJ,Option.some.injEq]at cB;rw[He.out,cB]
               simp only[Prod.mk.injEq]at gL;obtain⟨rfl,rfl,rfl⟩:=gL;have HG:Hid (kL out (l.drop (k+1))=jB l):=TY (by rw[<-cX.out,cQ.out,if_pos cB]);clear cB;go_wp2_with fail
               refine rB (fun w'=>w'.cell? ⟨g,P*3,none⟩=some (.int .i64 ex)/\w'.cell? ⟨g,P*3+1,none⟩=some (.int .i64 ey)/\w'.cell? ⟨g,P*3+2,none⟩=some (.bool ed)/\w'.cell? ⟨gd,0,none⟩=some (.int .i64 ex)/\w'.cell? ⟨gd,1,none⟩=some (.int .i64 ey)/\w'.cell? ⟨gd,2,none⟩=some (.bool ed)) fun hHeld=>(tW 0)<|(tW 1)<|(tW 2)<|(tW 3)<|(tW 4)<|(tW 5)<|(tW 6)<|(tW 7)<|(tW 8)<|(tW 9)<|(tW 10)<|tD ?_
               go_wp2;go_roundw
               case rel=>exact⟨k+1,out,_,c3,by omega,by go_num,rfl,HG,cR,bY.below ((Below.refl _ _).drew),B3.drew⟩
               case measure=>simp[intOf];omega
             . have cH : P = i + 1 := by have := HE.out; rw [if_neg cB] at this; omega
               have hne : ¬ (ex, ey, ed) = (x, y, dn) := fun q => by
                have h1:=AY (x,y,dn) out i eJ (by rw[<-HP.out];omega);rw[<-He.out,q]at h1;omega
               have cT:=TY cB;clear cB;by_cases h1:ex=x
               . obtain rfl:x=ex:=h1.symm;by_cases h2:ey=y
                 . obtain rfl:y=ey:=h2.symm;by_cases h3:ed=dn
                   . exfalso;apply hne;rw[h3]
                   . have gM:=TY hne;clear hne;go_wp2_with fail
                     refine rB (fun w'=>w'.cell? ⟨g,i*3,none⟩=some (.int .i64 x)/\w'.cell? ⟨g,i*3+1,none⟩=some (.int .i64 y)/\w'.cell? ⟨g,i*3+2,none⟩=some (.bool ed)/\w'.cell? ⟨gd,0,none⟩=some (.int .i64 x)/\w'.cell? ⟨gd,1,none⟩=some (.int .i64 y)/\w'.cell? ⟨gd,2,none⟩=some (.bool dn)) fun hHeld=>(tW 0)<|(tW 1)<|(tW 2)<|(tW 3)<|(tW 4)<|(tW 5)<|(tW 6)<|(tW 7)<|(tW 8)<|(tW 9)<|(tW 10)<|tD ?_
                     have cC:=bY.below ((Below.refl _ _).drew);have cP:=cK.bl ((Below.refl _ _).drew);have B6:=B3.drew;clear hHeld z0 z1 z2 bC bE bF bY cK B3;obtain⟨W5,cL⟩:=TV W4.drew;rw[<-cL]at cC cP B6⊢;clear cL gA gB gC;first|rw[show((i:Int)+1)=(P:Int) by omega]|rw[show(((i+1:Nat)):Int)=(P:Int) by omega]
                     have gN:=TY cH;clear cH;have bJ:Hid (kL (out.take P++(x,y,dn)::out.drop P) (l.drop (k+1))=jB l):=TY (by rw[<-cX.out,cQ.out,if_neg cT.out]);have b9:Hid (Sorted (out.take P++(x,y,dn)::out.drop P)):=TY (by have:=jJ cR.out (x,y,dn);rw[cQ.out,if_neg cT.out]at this;exact this);have H8:Hid ((out.length+1)*24<=140737488355328):=TY (by omega);have HM:Hid (out.length+1<=maxLen):=TY (by unfold maxLen;omega);have bU:=cS.out;go_wp2_with (at_builtin;go_must (refine aF (enc:=aX) aK aC aM B6 cC ((0,0,false):Dm) H8.out HM.out rfl _ _ rfl rfl rfl ?_);intro v4 w4 bB hb4 hg4 cM;obtain⟨A4,c4,rfl,cY,fL⟩:=bB.form)
                     have cD:=(cP.alloc _).grown hg4 (fun e=>bU e.symm);obtain⟨g4,dL,bA,dT⟩:=bB.split (k:=0) (by simp);subst dL
                     have eA:g4≠gd:=by
                      have bW:=cP.lt;rcases cM with q|q
                      . intro e;apply bU;rw[<-q,e];rfl
                      . simp[Ur]at q;omega
                     clear cM;simp only[Uf,Uh]at cY bB⊢;obtain⟨bC,bE,bF⟩:=cD.n3;have fN:¬c4=P:=(by omega);have fO:IntKind.i64.wrap (((P:Nat):Int)+1)=((P:Nat):Int)+1:=Uo _ (by omega);have eP:(0:Int)<=((P:Nat):Int)+1:=(by omega);have fR:((P:Nat):Int)+1<=(out.length:Int)+1:=(by omega);have fS:(((P:Nat):Int)+1).toNat=P+1:=(by omega);have fW:P+1<=c4:=(by omega);have cH:((P:Nat):Int)<=(out.length:Int)+1:=(by omega);have cA:P<=out.length:=(by omega);have a8:aD 99 3 aX w.heap.size w4.drew (.slice (some ⟨g4,0,none⟩) (out.length+1) c4) (out++[(0,0,false)]):=bB.below (Below.refl _ _).drew;have bK:Blk w4.drew gd 99 #[.int .i64 x,.int .i64 y,.bool dn]:=cD;have bX:=hb4.drew;clear bB cD hb4 bC bE bF;by_cases eC:c4=P+1
                     . go_wp2_with fail
                       refine rB (fun _=>True) fun hHeld=>(tW 0)<|(tW 1)<|(tW 2)<|(tW 3)<|(tW 4)<|(tW 5)<|(tW 6)<|(tR [7])<|tL fun K hK=>?_
                       (refine lJ aK aC aM a8 P cA rfl _ _ rfl _ _ _ _ _ _ rfl rfl (by omega) (by omega) (fun h=>by exfalso;omega) (fun h=>by simp) ?_;intro w5 a6 bL)
                       refine tK hK fun hHeld=>?_
                       clear hK K;refine tD ?_;clear hHeld;have cE:=bK.grown bL (by simp;omega);have B5:=bX.grown bL bX.size (fun k hk=>by injection hk with hk;omega);have bW:((out++[((0,0,false):Dm)]).take (P+1)++out.drop P).length=out.length+1:=by simp;omega
                       have a7:=mX out ((0,0,false):Dm) (x,y,dn) cA;obtain⟨NW,bN⟩:=TV (out.take P++(x,y,dn)::out.drop P);have b5:NW.length=out.length+1:=by rw[bN];simp;omega
                       rw[<-bN]at bJ b9 a7;obtain⟨L5,b6⟩:=TV ((out++[((0,0,false):Dm)]).take (P+1)++out.drop P);rw[<-b6]at a6 a7 bW;have bO:P<L5.length:=(by omega);obtain⟨u0,u1,u2,s0,s1,s2⟩:=a6.DJ aC (k:=P) bO;have eE:=a6.free;have bR:=TY a7;have b7:=TY b5;have cF:=TY bO;clear a7 b5 bN b6 bW a8 bK bX bL bO;have eI:((P:Nat):Int)<(out.length:Int)+1:=(by omega);obtain⟨bC,bE,bF⟩:=cE.n3;go_wp2;go_roundw
                       case rel=>exact⟨k+1,NW,_,c4,by omega,by go_num,by rw[b7.out],bJ,b9,by rw[b7.out,<-bR.out];exact a6.xR aC cF.out rfl,((B5.st _ _ (by first|exact bA|simp)).st _ _ (by first|exact bA|simp)).st _ _ (by first|exact bA|simp)⟩
                       case measure=>simp[intOf];omega
                     . go_wp2_with fail
                       refine rB (fun _=>True) fun hHeld=>(tW 0)<|(tW 1)<|(tW 2)<|(tW 3)<|(tW 4)<|(tW 5)<|(tW 6)<|(tR [7])<|tL fun K hK=>?_
                       (refine lJ aK aC aM a8 P cA rfl _ _ rfl _ _ _ _ _ _ rfl rfl (by omega) (by omega) (fun h=>by simp) (fun h=>by simp) ?_;intro w5 a6 bL)
                       refine tK hK fun hHeld=>?_
                       clear hK K;refine tD ?_;clear hHeld;have cE:=bK.grown bL (by simp;omega);have B5:=bX.grown bL bX.size (fun k hk=>by injection hk with hk;omega);have bW:((out++[((0,0,false):Dm)]).take (P+1)++out.drop P).length=out.length+1:=by simp;omega
                       have a7:=mX out ((0,0,false):Dm) (x,y,dn) cA;obtain⟨NW,bN⟩:=TV (out.take P++(x,y,dn)::out.drop P);have b5:NW.length=out.length+1:=by rw[bN];simp;omega
                       rw[<-bN]at bJ b9 a7;obtain⟨L5,b6⟩:=TV ((out++[((0,0,false):Dm)]).take (P+1)++out.drop P);rw[<-b6]at a6 a7 bW;have bO:P<L5.length:=(by omega);obtain⟨u0,u1,u2,s0,s1,s2⟩:=a6.DJ aC (k:=P) bO;have eE:=a6.free;have bR:=TY a7;have b7:=TY b5;have cF:=TY bO;clear a7 b5 bN b6 bW a8 bK bX bL bO;have eI:((P:Nat):Int)<(out.length:Int)+1:=(by omega);obtain⟨bC,bE,bF⟩:=cE.n3;go_wp2;go_roundw
                       case rel=>exact⟨k+1,NW,_,c4,by omega,by go_num,by rw[b7.out],bJ,b9,by rw[b7.out,<-bR.out];exact a6.xR aC cF.out rfl,((B5.st _ _ (by first|exact bA|simp)).st _ _ (by first|exact bA|simp)).st _ _ (by first|exact bA|simp)⟩
                       case measure=>simp[intOf];omega
                 . have gM:=TY hne;clear hne;go_wp2_with fail
                   refine rB (fun w'=>w'.cell? ⟨g,i*3,none⟩=some (.int .i64 x)/\w'.cell? ⟨g,i*3+1,none⟩=some (.int .i64 ey)/\w'.cell? ⟨g,i*3+2,none⟩=some (.bool ed)/\w'.cell? ⟨gd,0,none⟩=some (.int .i64 x)/\w'.cell? ⟨gd,1,none⟩=some (.int .i64 y)/\w'.cell? ⟨gd,2,none⟩=some (.bool dn)) fun hHeld=>(tW 0)<|(tW 1)<|(tW 2)<|(tW 3)<|(tW 4)<|(tW 5)<|(tW 6)<|(tW 7)<|(tW 8)<|(tW 9)<|(tW 10)<|tD ?_
                   have cC:=bY.below ((Below.refl _ _).drew);have cP:=cK.bl ((Below.refl _ _).drew);have B6:=B3.drew;clear hHeld z0 z1 z2 bC bE bF bY cK B3;obtain⟨W5,cL⟩:=TV W4.drew;rw[<-cL]at cC cP B6⊢;clear cL gA gB gC;first|rw[show((i:Int)+1)=(P:Int) by omega]|rw[show(((i+1:Nat)):Int)=(P:Int) by omega]
                   have gN:=TY cH;clear cH;have bJ:Hid (kL (out.take P++(x,y,dn)::out.drop P) (l.drop (k+1))=jB l):=TY (by rw[<-cX.out,cQ.out,if_neg cT.out]);have b9:Hid (Sorted (out.take P++(x,y,dn)::out.drop P)):=TY (by have:=jJ cR.out (x,y,dn);rw[cQ.out,if_neg cT.out]at this;exact this);have H8:Hid ((out.length+1)*24<=140737488355328):=TY (by omega);have HM:Hid (out.length+1<=maxLen):=TY (by unfold maxLen;omega);have bU:=cS.out;go_wp2_with (at_builtin;go_must (refine aF (enc:=aX) aK aC aM B6 cC ((0,0,false):Dm) H8.out HM.out rfl _ _ rfl rfl rfl ?_);intro v4 w4 bB hb4 hg4 cM;obtain⟨A4,c4,rfl,cY,fL⟩:=bB.form)
                   have cD:=(cP.alloc _).grown hg4 (fun e=>bU e.symm);obtain⟨g4,dL,bA,dT⟩:=bB.split (k:=0) (by simp);subst dL
                   have eA:g4≠gd:=by
                    have bW:=cP.lt;rcases cM with q|q
                    . intro e;apply bU;rw[<-q,e];rfl
                    . simp[Ur]at q;omega
                   clear cM;simp only[Uf,Uh]at cY bB⊢;obtain⟨bC,bE,bF⟩:=cD.n3;have fN:¬c4=P:=(by omega);have fO:IntKind.i64.wrap (((P:Nat):Int)+1)=((P:Nat):Int)+1:=Uo _ (by omega);have eP:(0:Int)<=((P:Nat):Int)+1:=(by omega);have fR:((P:Nat):Int)+1<=(out.length:Int)+1:=(by omega);have fS:(((P:Nat):Int)+1).toNat=P+1:=(by omega);have fW:P+1<=c4:=(by omega);have cH:((P:Nat):Int)<=(out.length:Int)+1:=(by omega);have cA:P<=out.length:=(by omega);have a8:aD 99 3 aX w.heap.size w4.drew (.slice (some ⟨g4,0,none⟩) (out.length+1) c4) (out++[(0,0,false)]):=bB.below (Below.refl _ _).drew;have bK:Blk w4.drew gd 99 #[.int .i64 x,.int .i64 y,.bool dn]:=cD;have bX:=hb4.drew;clear bB cD hb4 bC bE bF;by_cases eC:c4=P+1
                   . go_wp2_with fail
                     refine rB (fun _=>True) fun hHeld=>(tW 0)<|(tW 1)<|(tW 2)<|(tW 3)<|(tW 4)<|(tW 5)<|(tW 6)<|(tR [7])<|tL fun K hK=>?_
                     (refine lJ aK aC aM a8 P cA rfl _ _ rfl _ _ _ _ _ _ rfl rfl (by omega) (by omega) (fun h=>by exfalso;omega) (fun h=>by simp) ?_;intro w5 a6 bL)
                     refine tK hK fun hHeld=>?_
                     clear hK K;refine tD ?_;clear hHeld;have cE:=bK.grown bL (by simp;omega);have B5:=bX.grown bL bX.size (fun k hk=>by injection hk with hk;omega);have bW:((out++[((0,0,false):Dm)]).take (P+1)++out.drop P).length=out.length+1:=by simp;omega
                     have a7:=mX out ((0,0,false):Dm) (x,y,dn) cA;obtain⟨NW,bN⟩:=TV (out.take P++(x,y,dn)::out.drop P);have b5:NW.length=out.length+1:=by rw[bN];simp;omega
                     rw[<-bN]at bJ b9 a7;obtain⟨L5,b6⟩:=TV ((out++[((0,0,false):Dm)]).take (P+1)++out.drop P);rw[<-b6]at a6 a7 bW;have bO:P<L5.length:=(by omega);obtain⟨u0,u1,u2,s0,s1,s2⟩:=a6.DJ aC (k:=P) bO;have eE:=a6.free;have bR:=TY a7;have b7:=TY b5;have cF:=TY bO;clear a7 b5 bN b6 bW a8 bK bX bL bO;have eI:((P:Nat):Int)<(out.length:Int)+1:=(by omega);obtain⟨bC,bE,bF⟩:=cE.n3;go_wp2;go_roundw
                     case rel=>exact⟨k+1,NW,_,c4,by omega,by go_num,by rw[b7.out],bJ,b9,by rw[b7.out,<-bR.out];exact a6.xR aC cF.out rfl,((B5.st _ _ (by first|exact bA|simp)).st _ _ (by first|exact bA|simp)).st _ _ (by first|exact bA|simp)⟩
                     case measure=>simp[intOf];omega
                   . go_wp2_with fail
                     refine rB (fun _=>True) fun hHeld=>(tW 0)<|(tW 1)<|(tW 2)<|(tW 3)<|(tW 4)<|(tW 5)<|(tW 6)<|(tR [7])<|tL fun K hK=>?_
                     (refine lJ aK aC aM a8 P cA rfl _ _ rfl _ _ _ _ _ _ rfl rfl (by omega) (by omega) (fun h=>by simp) (fun h=>by simp) ?_;intro w5 a6 bL)
                     refine tK hK fun hHeld=>?_
                     clear hK K;refine tD ?_;clear hHeld;have cE:=bK.grown bL (by simp;omega);have B5:=bX.grown bL bX.size (fun k hk=>by injection hk with hk;omega);have bW:((out++[((0,0,false):Dm)]).take (P+1)++out.drop P).length=out.length+1:=by simp;omega
                     have a7:=mX out ((0,0,false):Dm) (x,y,dn) cA;obtain⟨NW,bN⟩:=TV (out.take P++(x,y,dn)::out.drop P);have b5:NW.length=out.length+1:=by rw[bN];simp;omega
                     rw[<-bN]at bJ b9 a7;obtain⟨L5,b6⟩:=TV ((out++[((0,0,false):Dm)]).take (P+1)++out.drop P);rw[<-b6]at a6 a7 bW;have bO:P<L5.length:=(by omega);obtain⟨u0,u1,u2,s0,s1,s2⟩:=a6.DJ aC (k:=P) bO;have eE:=a6.free;have bR:=TY a7;have b7:=TY b5;have cF:=TY bO;clear a7 b5 bN b6 bW a8 bK bX bL bO;have eI:((P:Nat):Int)<(out.length:Int)+1:=(by omega);obtain⟨bC,bE,bF⟩:=cE.n3;go_wp2;go_roundw
                     case rel=>exact⟨k+1,NW,_,c4,by omega,by go_num,by rw[b7.out],bJ,b9,by rw[b7.out,<-bR.out];exact a6.xR aC cF.out rfl,((B5.st _ _ (by first|exact bA|simp)).st _ _ (by first|exact bA|simp)).st _ _ (by first|exact bA|simp)⟩
                     case measure=>simp[intOf];omega
               . have gM:=TY hne;clear hne;go_wp2_with fail
                 refine rB (fun w'=>w'.cell? ⟨g,i*3,none⟩=some (.int .i64 ex)/\w'.cell? ⟨g,i*3+1,none⟩=some (.int .i64 ey)/\w'.cell? ⟨g,i*3+2,none⟩=some (.bool ed)/\w'.cell? ⟨gd,0,none⟩=some (.int .i64 x)/\w'.cell? ⟨gd,1,none⟩=some (.int .i64 y)/\w'.cell? ⟨gd,2,none⟩=some (.bool dn)) fun hHeld=>(tW 0)<|(tW 1)<|(tW 2)<|(tW 3)<|(tW 4)<|(tW 5)<|(tW 6)<|(tW 7)<|(tW 8)<|(tW 9)<|(tW 10)<|tD ?_
                 have cC:=bY.below ((Below.refl _ _).drew);have cP:=cK.bl ((Below.refl _ _).drew);have B6:=B3.drew;clear hHeld z0 z1 z2 bC bE bF bY cK B3;obtain⟨W5,cL⟩:=TV W4.drew;rw[<-cL]at cC cP B6⊢;clear cL gA gB gC;first|rw[show((i:Int)+1)=(P:Int) by omega]|rw[show(((i+1:Nat)):Int)=(P:Int) by omega]
                 have gN:=TY cH;clear cH;have bJ:Hid (kL (out.take P++(x,y,dn)::out.drop P) (l.drop (k+1))=jB l):=TY (by rw[<-cX.out,cQ.out,if_neg cT.out]);have b9:Hid (Sorted (out.take P++(x,y,dn)::out.drop P)):=TY (by have:=jJ cR.out (x,y,dn);rw[cQ.out,if_neg cT.out]at this;exact this);have H8:Hid ((out.length+1)*24<=140737488355328):=TY (by omega);have HM:Hid (out.length+1<=maxLen):=TY (by unfold maxLen;omega);have bU:=cS.out;go_wp2_with (at_builtin;go_must (refine aF (enc:=aX) aK aC aM B6 cC ((0,0,false):Dm) H8.out HM.out rfl _ _ rfl rfl rfl ?_);intro v4 w4 bB hb4 hg4 cM;obtain⟨A4,c4,rfl,cY,fL⟩:=bB.form)
                 have cD:=(cP.alloc _).grown hg4 (fun e=>bU e.symm);obtain⟨g4,dL,bA,dT⟩:=bB.split (k:=0) (by simp);subst dL
                 have eA:g4≠gd:=by
                  have bW:=cP.lt;rcases cM with q|q
                  . intro e;apply bU;rw[<-q,e];rfl
                  . simp[Ur]at q;omega
                 clear cM;simp only[Uf,Uh]at cY bB⊢;obtain⟨bC,bE,bF⟩:=cD.n3;have fN:¬c4=P:=(by omega);have fO:IntKind.i64.wrap (((P:Nat):Int)+1)=((P:Nat):Int)+1:=Uo _ (by omega);have eP:(0:Int)<=((P:Nat):Int)+1:=(by omega);have fR:((P:Nat):Int)+1<=(out.length:Int)+1:=(by omega);have fS:(((P:Nat):Int)+1).toNat=P+1:=(by omega);have fW:P+1<=c4:=(by omega);have cH:((P:Nat):Int)<=(out.length:Int)+1:=(by omega);have cA:P<=out.length:=(by omega);have a8:aD 99 3 aX w.heap.size w4.drew (.slice (some ⟨g4,0,none⟩) (out.length+1) c4) (out++[(0,0,false)]):=bB.below (Below.refl _ _).drew;have bK:Blk w4.drew gd 99 #[.int .i64 x,.int .i64 y,.bool dn]:=cD;have bX:=hb4.drew;clear bB cD hb4 bC bE bF;by_cases eC:c4=P+1
                 . go_wp2_with fail
                   refine rB (fun _=>True) fun hHeld=>(tW 0)<|(tW 1)<|(tW 2)<|(tW 3)<|(tW 4)<|(tW 5)<|(tW 6)<|(tR [7])<|tL fun K hK=>?_
                   (refine lJ aK aC aM a8 P cA rfl _ _ rfl _ _ _ _ _ _ rfl rfl (by omega) (by omega) (fun h=>by exfalso;omega) (fun h=>by simp) ?_;intro w5 a6 bL)
                   refine tK hK fun hHeld=>?_
                   clear hK K;refine tD ?_;clear hHeld;have cE:=bK.grown bL (by simp;omega);have B5:=bX.grown bL bX.size (fun k hk=>by injection hk with hk;omega);have bW:((out++[((0,0,false):Dm)]).take (P+1)++out.drop P).length=out.length+1:=by simp;omega
                   have a7:=mX out ((0,0,false):Dm) (x,y,dn) cA;obtain⟨NW,bN⟩:=TV (out.take P++(x,y,dn)::out.drop P);have b5:NW.length=out.length+1:=by rw[bN];simp;omega
                   rw[<-bN]at bJ b9 a7;obtain⟨L5,b6⟩:=TV ((out++[((0,0,false):Dm)]).take (P+1)++out.drop P);rw[<-b6]at a6 a7 bW;have bO:P<L5.length:=(by omega);obtain⟨u0,u1,u2,s0,s1,s2⟩:=a6.DJ aC (k:=P) bO;have eE:=a6.free;have bR:=TY a7;have b7:=TY b5;have cF:=TY bO;clear a7 b5 bN b6 bW a8 bK bX bL bO;have eI:((P:Nat):Int)<(out.length:Int)+1:=(by omega);obtain⟨bC,bE,bF⟩:=cE.n3;go_wp2;go_roundw
                   case rel=>exact⟨k+1,NW,_,c4,by omega,by go_num,by rw[b7.out],bJ,b9,by rw[b7.out,<-bR.out];exact a6.xR aC cF.out rfl,((B5.st _ _ (by first|exact bA|simp)).st _ _ (by first|exact bA|simp)).st _ _ (by first|exact bA|simp)⟩
                   case measure=>simp[intOf];omega
                 . go_wp2_with fail
                   refine rB (fun _=>True) fun hHeld=>(tW 0)<|(tW 1)<|(tW 2)<|(tW 3)<|(tW 4)<|(tW 5)<|(tW 6)<|(tR [7])<|tL fun K hK=>?_
                   (refine lJ aK aC aM a8 P cA rfl _ _ rfl _ _ _ _ _ _ rfl rfl (by omega) (by omega) (fun h=>by simp) (fun h=>by simp) ?_;intro w5 a6 bL)
                   refine tK hK fun hHeld=>?_
                   clear hK K;refine tD ?_;clear hHeld;have cE:=bK.grown bL (by simp;omega);have B5:=bX.grown bL bX.size (fun k hk=>by injection hk with hk;omega);have bW:((out++[((0,0,false):Dm)]).take (P+1)++out.drop P).length=out.length+1:=by simp;omega
                   have a7:=mX out ((0,0,false):Dm) (x,y,dn) cA;obtain⟨NW,bN⟩:=TV (out.take P++(x,y,dn)::out.drop P);have b5:NW.length=out.length+1:=by rw[bN];simp;omega
                   rw[<-bN]at bJ b9 a7;obtain⟨L5,b6⟩:=TV ((out++[((0,0,false):Dm)]).take (P+1)++out.drop P);rw[<-b6]at a6 a7 bW;have bO:P<L5.length:=(by omega);obtain⟨u0,u1,u2,s0,s1,s2⟩:=a6.DJ aC (k:=P) bO;have eE:=a6.free;have bR:=TY a7;have b7:=TY b5;have cF:=TY bO;clear a7 b5 bN b6 bW a8 bK bX bL bO;have eI:((P:Nat):Int)<(out.length:Int)+1:=(by omega);obtain⟨bC,bE,bF⟩:=cE.n3;go_wp2;go_roundw
                   case rel=>exact⟨k+1,NW,_,c4,by omega,by go_num,by rw[b7.out],bJ,b9,by rw[b7.out,<-bR.out];exact a6.xR aC cF.out rfl,((B5.st _ _ (by first|exact bA|simp)).st _ _ (by first|exact bA|simp)).st _ _ (by first|exact bA|simp)⟩
                   case measure=>simp[intOf];omega
  . obtain rfl : k = l.length := by omega
    have hg:=Hg.out;rw[Ud (Um _)]at hg;have hg2:out=jB l:=hg;clear hg;subst hg2;go_wp2;go_ret;exact⟨_,_,rfl,hown,cJ⟩
theorem Kk (x y:Int):kM (x,y)=(inB x 0 6&&inB y 0 6):=by
 unfold kM inB;rw[Bool.eq_iff_iff];simp only[Bool.and_eq_true,decide_eq_true_eq]
theorem wZ {l:List Dm} {c:Cl} (h:kM c=false):kindOf l c=0:=by unfold kindOf;rw[h];rfl
theorem Li {l:List Dm} {x y:Int} (h:kM (x,y)=true):decide (kindOf l (x,y)≠0)=((l.contains (x,y,false)&&l.contains (x,y+1,false))||(l.contains (x,y,true)&&l.contains (x+1,y,true))):=by
 unfold kindOf fH qX vD;rw[h,if_pos rfl];simp only;rcases l.contains (x,y,false)&&l.contains (x,y+1,false)with _|_
 . rcases l.contains (x,y,true)&&l.contains (x+1,y,true)with _|_<;>rfl
 . rfl
theorem uN (v:Value) (l:List Dm) (x y:Int) (w:World) (h:Rd 3 aU w v l):Calls prog 199 #[v,.agg #[.int .i64 x,.int .i64 y]] w (Ret (.bool (decide (kindOf l (x,y)≠0))) w):=by
 obtain⟨A,c,rfl,hc,hm⟩:=h.form;have hA:=(Below.refl w.heap.size w).al (.cells #[.int .i64 x,.int .i64 y] 83);have bX:=Kk x y;rcases hx:inB x 0 6 with _|_
 . have e : decide (kindOf l (x, y) ≠ 0) = false := by rw [wZ (by rw [bX, hx]; rfl)]; rfl
   rw[e];have Hx:=TY hx;clear hx bX e;go_enter Us,Ut
   go_wp2_with fail
   refine(dI _ _ _ _).mono ?_;rintro e w1 ⟨rfl,rfl⟩;rw[Hx.out];go_wp2;go_ret;exact⟨rfl,hA⟩
 . rcases hy:inB y 0 6 with _|_
   . have e : decide (kindOf l (x, y) ≠ 0) = false := by rw [wZ (by rw [bX, hx, hy]; rfl)]; rfl
     rw[e];have Hx:=TY hx;have Hy:=TY hy;clear hx hy bX e;go_enter Us,Ut
     go_wp2_with fail
     refine(dI _ _ _ _).mono ?_;rintro e w1 ⟨rfl,rfl⟩;rw[Hx.out];go_wp2_with fail
     refine(dI _ _ _ _).mono ?_;rintro e w2 ⟨rfl,rfl⟩;rw[Hy.out];go_wp2;go_ret;exact⟨rfl,hA⟩
   . have bR : kM (x, y) = true := by rw [bX, hx, hy]; rfl
     have hk:=Li (l:=l) bR;obtain⟨R,hR⟩:=TV (decide (kindOf l (x,y)≠0));rw[<-hR]at hk⊢;have HA:∃b,b=l.contains (x,y,false):=⟨_,rfl⟩;obtain⟨a1,ha1⟩:=HA;obtain⟨a2,ha2⟩:=TV (l.contains (x,y+1,false));obtain⟨d1,bY⟩:=TV (l.contains (x,y,true));obtain⟨d2,b5⟩:=TV (l.contains (x+1,y,true));rw[<-ha1,<-ha2,<-bY,<-b5]at hk;have Hx:=TY hx;have Hy:=TY hy;have b6:=TY bR;have cA:=TY ha1.symm;have cB:=TY ha2.symm;have b8:=TY bY.symm;have b9:=TY b5.symm;have Hk:=TY hk;clear hx hy bX bR ha1 ha2 bY b5 hR hk;go_enter Us,Ut
     go_wp2_with fail
     refine(dI _ _ _ _).mono ?_;rintro e w1 ⟨rfl,rfl⟩;rw[Hx.out];go_wp2_with fail
     refine(dI _ _ _ _).mono ?_;rintro e w2 ⟨rfl,rfl⟩;rw[Hy.out];go_wp2_with fail
     refine(Er x y _ b6.out).mono ?_;rintro e w3 ⟨rfl,hb3⟩;have B3:=((hA.tr hb3).al (.cells #[.int .i64 x,.int .i64 y,.bool false,.int .i64 x,.int .i64 (y+1),.bool false] 193)).al (.cells #[.int .i64 x,.int .i64 y,.bool true,.int .i64 (x+1),.int .i64 y,.bool true] 193);have a6:=(Blk.aZ w3 193 #[.int .i64 x,.int .i64 y,.bool false,.int .i64 x,.int .i64 (y+1),.bool false]).alloc (.cells #[.int .i64 x,.int .i64 y,.bool true,.int .i64 (x+1),.int .i64 y,.bool true] 193);have a7:=Blk.gZ (w3.alloc (.cells #[.int .i64 x,.int .i64 y,.bool false,.int .i64 x,.int .i64 (y+1),.bool false] 193)) 193 #[.int .i64 x,.int .i64 y,.bool true,.int .i64 (x+1),.int .i64 y,.bool true] (w3.heap.size+1) (by simp);obtain⟨a8,bA,bB,bC,bD,bE⟩:=a6.n6;obtain⟨bF,bJ,bK,bL,bN,bO⟩:=a7.n6;go_wp2_with fail
     refine(iB _ l x y false _ (h.TW B3)).mono ?_;rintro e w4 ⟨rfl,hb4⟩;rw[cA.out];have B4:=B3.tr hb4;clear a8 bA bB bC bD bE bF bJ bK bL bN bO;have a6:=a6.bl hb4;have a7:=a7.bl hb4;obtain⟨a8,bA,bB,bC,bD,bE⟩:=a6.n6;obtain⟨bF,bJ,bK,bL,bN,bO⟩:=a7.n6;rcases a1 with _|_
     . skip;go_wp2_with fail
       refine(iB _ l x y true _ (h.TW B4)).mono ?_;rintro e w5 ⟨rfl,bU⟩;rw[b8.out];have B5:=B4.tr bU;clear a8 bA bB bC bD bE bF bJ bK bL bN bO;have a6:=a6.bl bU;have a7:=a7.bl bU;obtain⟨a8,bA,bB,bC,bD,bE⟩:=a6.n6;obtain⟨bF,bJ,bK,bL,bN,bO⟩:=a7.n6;rcases d1 with _|_
       . have HR := TY (show false = R by rw [Hk.out]; cases a2 <;> cases d2 <;> rfl);go_wp2;go_ret;exact⟨lF HR.out,B5⟩
       . skip;go_wp2_with fail
         refine(iB _ l (x+1) y true _ (h.TW B5)).mono ?_;rintro e w6 ⟨rfl,bW⟩;rw[b9.out];have B6:=B5.tr bW;clear a8 bA bB bC bD bE bF bJ bK bL bN bO;have a6:=a6.bl bW;have a7:=a7.bl bW;obtain⟨a8,bA,bB,bC,bD,bE⟩:=a6.n6;obtain⟨bF,bJ,bK,bL,bN,bO⟩:=a7.n6;have HR:=TY (show d2=R by rw[Hk.out];cases a2<;>cases d2<;>rfl);go_wp2;go_ret;exact⟨lF HR.out,B6⟩
     . skip;go_wp2_with fail
       refine(iB _ l x (y+1) false _ (h.TW B4)).mono ?_;rintro e w5 ⟨rfl,bU⟩;rw[cB.out];have B5:=B4.tr bU;clear a8 bA bB bC bD bE bF bJ bK bL bN bO;have a6:=a6.bl bU;have a7:=a7.bl bU;obtain⟨a8,bA,bB,bC,bD,bE⟩:=a6.n6;obtain⟨bF,bJ,bK,bL,bN,bO⟩:=a7.n6;rcases a2 with _|_
       . skip;go_wp2_with fail
         refine(iB _ l x y true _ (h.TW B5)).mono ?_;rintro e w6 ⟨rfl,bW⟩;rw[b8.out];have B6:=B5.tr bW;clear a8 bA bB bC bD bE bF bJ bK bL bN bO;have a6:=a6.bl bW;have a7:=a7.bl bW;obtain⟨a8,bA,bB,bC,bD,bE⟩:=a6.n6;obtain⟨bF,bJ,bK,bL,bN,bO⟩:=a7.n6;rcases d1 with _|_
         . have HR := TY (show false = R by rw [Hk.out]; cases d2 <;> rfl);go_wp2;go_ret;exact⟨lF HR.out,B6⟩
         . skip;go_wp2_with fail
           refine(iB _ l (x+1) y true _ (h.TW B6)).mono ?_;rintro e w7 ⟨rfl,b7⟩;rw[b9.out];have B7:=B6.tr b7;clear a8 bA bB bC bD bE bF bJ bK bL bN bO;have a6:=a6.bl b7;have a7:=a7.bl b7;obtain⟨a8,bA,bB,bC,bD,bE⟩:=a6.n6;obtain⟨bF,bJ,bK,bL,bN,bO⟩:=a7.n6;have HR:=TY (show d2=R by rw[Hk.out];cases d2<;>rfl);go_wp2;go_ret;exact⟨lF HR.out,B7⟩
       . have HR := TY (show true = R by rw [Hk.out]; cases d1 <;> cases d2 <;> rfl);go_wp2;go_ret;exact⟨lF HR.out,B5⟩
theorem aS {P:Program} {ops:Array Oper} {rest:List Oper} {o:Oper} {a:Act} {Q:Exit->Act->World->Prop} {α:Type} {t E:TypeId} {z:Value} {size bytes:Nat} (R:Row P t E z size bytes)
    {enc:α->List Value} (a7:∀x,(enc x).length=size) (h1:∀x,∀u∈enc x,u.oneCell'=true)
    {W0 w:World} (a8:Below W0.heap.size W0 w) {v:Value} {l:List α} (hown:aD E size enc W0.heap.size w v l) (y:α)
    (hlen:(l.length+1)*bytes<=140737488355328) (a6:l.length+1<=maxLen) {g:Nat} (hg:g=w.heap.size)
    (hgd:o.guard=none) (s x:Operand) (ho:o.op= .call {callee:= .builtin .append,args:= #[s,x],argTypes:= #[t,t]})
    (hs:a.eval s=v) (hx:a.eval x= .slice (some ⟨g,0,none⟩) 1 1)
    (h:∀v' w',aD E size enc W0.heap.size w' v' (l++[y])->Below W0.heap.size W0 w'->(w.alloc (.cells (enc y).toArray E)).grownBy w' v.ownBlock->(v'.ownBlock=v.ownBlock∨v'.ownBlock=some (w.heap.size+1))->wpList P ops Q rest (a.put o.dst v') w'):
    wpList P ops Q (o::rest) a (w.alloc (.cells (enc y).toArray E)):=by
 subst hg;exact aF R a7 h1 a8 hown y hlen a6 hgd s x ho hs hx h
def gJ {α:Type} (E:TypeId) (size:Nat) (enc:α->List Value) (l:List α) (b:Bool) (w:World) (e:Ending) (w':World):Prop:=
 ∃A c,e= .returned (.tuple #[.slice A l.length c,.bool b])/\aD E size enc w.heap.size w' (.slice A l.length c) l/\Below w.heap.size w w'
theorem aA {P:Program} {ops:Array Oper} {rest:List Oper} {o:Oper} {a:Act} {w:World} {Q:Exit->Act->World->Prop} (hgd:o.guard=none) (ty:TypeId) (x y:Operand) (ho:o.op= .store ty x y)
    (g:Nat) (cells:Array Value) (hx:a.eval x= .pointer (some ⟨g,0,none⟩)) (hy:a.eval y= .agg cells)
    (t:TypeId) (old:Array Value) (hg:Blk w g t old) (hi:(P.info? ty).map (·.size)=some cells.size) (hold:old.size=cells.size) (h1:cells.all (·.oneCell')=true)
    (h:∀w',Blk w' g t cells->w.grownBy w' (some g)->wpList P ops Q rest (a.put o.dst undef) w'):wpList P ops Q (o::rest) a w:=
 wpList_store_row hgd ty x y ho g cells hx hy t old hg hi hold h1 (h _ (setRow_heap w g old cells t (0,0) hg) (Je cells))
theorem Kl {l:List Dm} {c:Cl} (h:¬kindOf l c=0):kM c=true:=by
 rcases q:kM c with _|_
 . exact absurd (wZ q) h
 . rfl
theorem jS {a b:Int} {c:Bool} {x y:Int} {d:Bool} (h:¬((a,b,c):Dm)=(x,y,d)):(¬a=x)∨(x=a/\¬b=y)∨(x=a/\y=b/\¬c=d):=by
 by_cases h1:a=x
 . by_cases h2:b=y
   . exact .inr (.inr ⟨h1.symm,h2.symm,fun h3=>h (by rw[h1,h2,h3])⟩)
   . exact .inr (.inl ⟨h1.symm,h2⟩)
 . exact .inl h1
theorem Bb (W:World) (a b:Dm) (B:Nat) (hB:B<=W.heap.size):aD 99 3 aX B (W.alloc (.cells #[.int .i64 a.1,.int .i64 a.2.1,.bool a.2.2,.int .i64 b.1,.int .i64 b.2.1,.bool b.2.2] 99)) (.slice (some ⟨W.heap.size,0,none⟩) 2 2) [a,b]:=by
 have:=World.ownsRow_lit (e:=99) (size:=3) W #[.int .i64 a.1,.int .i64 a.2.1,.bool a.2.2,.int .i64 b.1,.int .i64 b.2.1,.bool b.2.2] 2 (Um _) (by simp[maxLen]) (by simp);exact Go.Joins.ownsRow_le this hB
set_option maxHeartbeats 8000000 in
theorem rX (v:Value) (l:List Dm) (x y:Int) (w:World) (h:Rd 3 aU w v l) (hl:Small l.length):Calls prog 145 #[v,.agg #[.int .i64 x,.int .i64 y]] w (gJ 99 3 aX (fJ l (x,y)).1 (fJ l (x,y)).2 w):=by
 obtain⟨A,c,rfl,hc,hm⟩:=h.form;have hA:=(Below.refl w.heap.size w).al (.cells #[.int .i64 x,.int .i64 y] 83);have bC:=Blk.aZ w 83 #[.int .i64 x,.int .i64 y];by_cases hk:kindOf l (x,y)=0
 . have e : fJ l (x, y) = (l, false) := by unfold fJ; rw [if_pos hk]
   rw[e];have Hc:Hid (decide (kindOf l (x,y)≠0)=false):=TY (by simp[hk]);clear hk e;go_enter func145,ntmps145
   go_wp2_with fail
   refine(uN _ l x y _ (h.TW hA)).mono ?_;rintro e w1 ⟨rfl,hb1⟩;rw[Hc.out];have B1:=hA.tr hb1;go_wp2_with fail
   refine(dG _ l _ (h.TW B1) hl).mono ?_;rintro e w2 ⟨A2,c2,rfl,cW,hb2⟩;go_wp2;go_ret2
   exact⟨A2,c2,rfl,cW.mono B1.size,B1.tr hb2⟩
 . have e : fJ l (x, y) = (aW l (x, y), true) := by unfold fJ; rw [if_neg hk]
   rw[e];have cK:=Kl hk;have Hc:Hid (decide (kindOf l (x,y)≠0)=true):=TY (by simp[hk]);have cL:=TY cK;clear cK e;have eI:kindOf l (x,y)=if fH l (qX (x,y))then 1 else if fH l (vD (x,y))then 2 else 0:=by unfold kindOf;rw[cL.out,if_pos rfl]
   have hab:fH l (qX (x,y))=(l.contains (x,y,false)&&l.contains (x,y+1,false)):=rfl;obtain⟨a1,ha1⟩:=TV (l.contains (x,y,false));obtain⟨a2,ha2⟩:=TV (l.contains (x,y+1,false));rw[<-ha1,<-ha2]at hab;have e5:=TY ha1.symm;have e6:=TY ha2.symm;have Hk:=TY hk;have cX:=TY eI;have cY:=TY hab;clear ha1 ha2 hk eI hab;go_enter func145,ntmps145
   have e7:=bC.cell 0;go_wp2_with fail
   refine(uN _ l x y _ (h.TW hA)).mono ?_;rintro e w1 ⟨rfl,hb1⟩;rw[Hc.out];have B1:=hA.tr hb1;clear e7;have eJ:=bC.bl hb1;obtain⟨dL,dT⟩:=eJ.n2;go_wp2_with fail
   refine(Er x y _ cL.out).mono ?_;rintro e w3 ⟨rfl,hb3⟩;have B3:=((B1.tr hb3).al (.cells #[.int .i64 x,.int .i64 y,.bool false,.int .i64 x,.int .i64 (y+1),.bool false] 193)).al (.cells #[.int .i64 x,.int .i64 y,.bool true,.int .i64 (x+1),.int .i64 y,.bool true] 193);have bO:=(Blk.aZ w3 193 #[.int .i64 x,.int .i64 y,.bool false,.int .i64 x,.int .i64 (y+1),.bool false]).alloc (.cells #[.int .i64 x,.int .i64 y,.bool true,.int .i64 (x+1),.int .i64 y,.bool true] 193);have bB:=Blk.gZ (w3.alloc (.cells #[.int .i64 x,.int .i64 y,.bool false,.int .i64 x,.int .i64 (y+1),.bool false] 193)) 193 #[.int .i64 x,.int .i64 y,.bool true,.int .i64 (x+1),.int .i64 y,.bool true] (w3.heap.size+1) (by simp);clear dL dT eJ;obtain⟨bD,bE,bF,bJ,bK,bL⟩:=bO.n6;obtain⟨bR,bU,bW,bX,bY,b5⟩:=bB.n6;go_wp2_with fail
   refine(iB _ l x y false _ (h.TW B3)).mono ?_;rintro e w4 ⟨rfl,hb4⟩;rw[e5.out];have B4:=B3.tr hb4;clear bD bE bF bJ bK bL bR bU bW bX bY b5;have bO:=bO.bl hb4;have bB:=bB.bl hb4;obtain⟨bD,bE,bF,bJ,bK,bL⟩:=bO.n6;obtain⟨bR,bU,bW,bX,bY,b5⟩:=bB.n6;rcases a1 with _|_
   . skip
     have cF:kindOf l (x,y)=2:=by
      have h0:=Hk.out;have h1:=cX.out;have h2:fH l (qX (x,y))=false:=by rw[cY.out];rfl
      rw[h2]at h1;simp only[Bool.false_eq_true,if_false]at h1;by_cases q:fH l (vD (x,y))=true
      . rw[h1,if_pos q]
      . rw[if_neg q]at h1;exact absurd h1 h0
     obtain⟨g7,cG⟩:=TV (w3.heap.size+1);obtain⟨g6,cH⟩:=TV w3.heap.size;have cM:g6≠g7:=(by omega);have cN:w.heap.size<=g6:=by have:=(B1.tr hb3).size;omega
     have cP:w.heap.size<=g7:=(by omega);rw[<-cG]at bB⊢;rw[<-cH]at bO⊢;clear cH cG bD bE bF bJ bK bL bR bU bW bX bY b5;obtain⟨bD,bE,bF,bJ,bK,bL⟩:=bO.n6;obtain⟨bR,bU,bW,bX,bY,b5⟩:=bB.n6;go_wp2_with (first|(refine aA rfl 193 _ _ rfl g6 #[.int .i64 x,.int .i64 y,.bool true,.int .i64 (x+1),.int .i64 y,.bool true] rfl rfl _ _ bO (by kernel_rfl) rfl (by simp[Uq]) ?_;intro wS eA cQ;have BS:=B4.grown cQ B4.size (fun k hk=>by injection hk with hk;omega);have bB:=bB.grown cQ (by simp;omega))|(refine aA rfl 193 _ _ rfl g7 #[.int .i64 x,.int .i64 y,.bool false,.int .i64 x,.int .i64 (y+1),.bool false] rfl rfl _ _ bB (by kernel_rfl) rfl (by simp[Uq]) ?_;intro wT eC cR;have cS:=eA.grown cR (by simp;omega);have BT:=BS.grown cR BS.size (fun k hk=>by injection hk with hk;omega);clear bD bE bF bJ bK bL bR bU bW bX bY b5;obtain⟨bD,bE,bF,bJ,bK,bL⟩:=cS.n6;obtain⟨bR,bU,bW,bX,bY,b5⟩:=eC.n6))
     obtain⟨gx,hgx⟩:∃n:Int,n=x:=⟨_,rfl⟩;obtain⟨gy,b9⟩:∃n:Int,n=y:=⟨_,rfl⟩;obtain⟨gb,hgb⟩:∃n:Bool,n=true:=⟨_,rfl⟩;obtain⟨kx,cA⟩:∃n:Int,n=x+1:=⟨_,rfl⟩;obtain⟨ky,cB⟩:∃n:Int,n=y:=⟨_,rfl⟩;obtain⟨kb,hkb⟩:∃n:Bool,n=true:=⟨_,rfl⟩;have b6:Blk wT g6 193 #[.int .i64 gx,.int .i64 gy,.bool gb,.int .i64 kx,.int .i64 ky,.bool kb]:=by rw[hgx,b9,hgb,cA,cB,hkb];exact cS
     have cI:Hid (nV (kindOf l (x,y)) (x,y)=((gx,gy,gb),(kx,ky,kb))/\qL (kindOf l (x,y)) (x,y)=((x,y,false),(x,y+1,false))):=TY (by rw[cF,hgx,b9,hgb,cA,cB,hkb];exact⟨rfl,rfl⟩);clear hgx b9 hgb cA cB hkb cF bO bB;clear bD bE bF bJ bK bL bR bU bW bX bY b5;have b7:aD 99 3 aX w.heap.size (wT.alloc (.cells #[.int .i64 x,.int .i64 y,.bool false,.int .i64 x,.int .i64 (y+1),.bool false] 99)) (.slice (some ⟨wT.heap.size,0,none⟩) 2 2) [((x,y,false):Dm),(x,(y+1),false)]:=Bb _ (x,y,false) (x,(y+1),false) _ BT.size;have cJ:=b6.alloc (.cells #[.int .i64 x,.int .i64 y,.bool false,.int .i64 x,.int .i64 (y+1),.bool false] 99);have B0:=BT.al (.cells #[.int .i64 x,.int .i64 y,.bool false,.int .i64 x,.int .i64 (y+1),.bool false] 99);go_wp2;go_loopw [8,43] (fun s8 cT wr=>∃(k:Nat) (out:List Dm) (A8:Option Addr) (c8:Nat),k<=l.length/\out.length<=k+2/\cT= .int .i64 k/\s8= .slice A8 out.length c8/\Hid (out++(l.drop k).filter (keepD ((gx,gy,gb),(kx,ky,kb)))=iW l ((gx,gy,gb),(kx,ky,kb)) ((x,y,false),(x,(y+1),false)))/\aD 99 3 aX w.heap.size wr (.slice A8 out.length c8) out/\Blk wr g6 193 #[.int .i64 gx,.int .i64 gy,.bool gb,.int .i64 kx,.int .i64 ky,.bool kb]/\Below w.heap.size w wr) (fun _ i _=>l.length-(intOf i).toNat)
     case atStart=>exact⟨0,[((x,y,false):Dm),(x,(y+1),false)],_,_,Ul _,by simp,rfl,rfl,TY rfl,b7,cJ,B0⟩
     case round=>
      obtain⟨k,out,A8,c8,hk,eK,rfl,rfl,Hg,hown,cC,a7⟩:=hrel;clear b7 cJ B0;by_cases hlt:k<l.length
      . obtain⟨b,off,rfl,hb,q1,q2,q3⟩:=(h.TW a7).jT hlt;have hg:=Hg.out;rw[Ub hlt,Ui]at hg;obtain⟨d,hd⟩:=TV (l[k]);rw[<-hd]at q1 q2 q3 hg;obtain⟨ex,ey,ed⟩:=d;simp only at q1 q2 q3;obtain⟨bD,bE,bF,bJ,bK,bL⟩:=cC.n6;have eL:=cC.lt;have eM:g6≠wr.heap.size:=(by omega);have B1:=a7.al (.cells #[.int .i64 ex,.int .i64 ey,.bool ed] 99);have a6:=hown.alloc (.cells #[.int .i64 ex,.int .i64 ey,.bool ed] 99);have bN:=cC.alloc (.cells #[.int .i64 ex,.int .i64 ey,.bool ed] 99);have H8:Hid ((out.length+1)*24<=140737488355328):=TY (by unfold Small at hl;omega);have HM:Hid (out.length+1<=maxLen):=TY (by unfold Small at hl;unfold maxLen;omega);clear hd;by_cases e1:((ex,ey,ed):Dm)=(gx,gy,gb)
        . rw [if_neg (by rw [e1]; simp [keepD])] at hg;have bA:=TY hg;clear hg;simp only[Prod.mk.injEq]at e1;obtain⟨rfl,rfl,rfl⟩:=e1;go_wp2;go_roundw
          case rel=>exact⟨k+1,out,A8,c8,by omega,by omega,by go_num,rfl,bA,a6,bN,B1⟩
          case measure=>simp[intOf];omega
        . by_cases e2:((ex,ey,ed):Dm)=(kx,ky,kb)
          . rw [if_neg (by rw [e2]; simp [keepD])] at hg;have bA:=TY hg;clear hg;simp only[Prod.mk.injEq]at e2;obtain⟨rfl,rfl,rfl⟩:=e2;rcases jS e1 with p|⟨rfl,p⟩|⟨rfl,rfl,p⟩
            . clear e1;go_wp2;go_roundw
              case rel=>exact⟨k+1,out,A8,c8,by omega,by omega,by go_num,rfl,bA,a6,bN,B1⟩
              case measure=>simp[intOf];omega
            . clear e1;go_wp2;go_roundw
              case rel=>exact⟨k+1,out,A8,c8,by omega,by omega,by go_num,rfl,bA,a6,bN,B1⟩
              case measure=>simp[intOf];omega
            . clear e1;go_wp2;go_roundw
              case rel=>exact⟨k+1,out,A8,c8,by omega,by omega,by go_num,rfl,bA,a6,bN,B1⟩
              case measure=>simp[intOf];omega
          . rw [if_pos (by simp only [keepD, decide_eq_false e1, decide_eq_false e2]; rfl), <- List.singleton_append, <- Ug] at hg;have bA:=TY hg;clear hg;rcases jS e1 with p|⟨rfl,p⟩|⟨rfl,rfl,p⟩<;>rcases jS e2 with q|⟨rfl,q⟩|⟨rfl,rfl,q⟩
            all_goals
              clear e1 e2;go_wp2_with (at_builtin;go_must (first|(refine aS (enc:=aX) aK aC aM B1 a6 ((ex,ey,ed):Dm) H8.out HM.out (by simp) rfl _ _ rfl rfl rfl ?_)|(refine aS (enc:=aX) aK aC aM B1 a6 ((ex,gy,ed):Dm) H8.out HM.out (by simp) rfl _ _ rfl rfl rfl ?_)|(refine aS (enc:=aX) aK aC aM B1 a6 ((ex,ky,ed):Dm) H8.out HM.out (by simp) rfl _ _ rfl rfl rfl ?_)|(refine aS (enc:=aX) aK aC aM B1 a6 ((gx,ey,ed):Dm) H8.out HM.out (by simp) rfl _ _ rfl rfl rfl ?_)|(refine aS (enc:=aX) aK aC aM B1 a6 ((gx,gy,ed):Dm) H8.out HM.out (by simp) rfl _ _ rfl rfl rfl ?_)|(refine aS (enc:=aX) aK aC aM B1 a6 ((gx,ky,ed):Dm) H8.out HM.out (by simp) rfl _ _ rfl rfl rfl ?_)|(refine aS (enc:=aX) aK aC aM B1 a6 ((kx,ey,ed):Dm) H8.out HM.out (by simp) rfl _ _ rfl rfl rfl ?_)|(refine aS (enc:=aX) aK aC aM B1 a6 ((kx,gy,ed):Dm) H8.out HM.out (by simp) rfl _ _ rfl rfl rfl ?_)|(refine aS (enc:=aX) aK aC aM B1 a6 ((kx,ky,ed):Dm) H8.out HM.out (by simp) rfl _ _ rfl rfl rfl ?_));intro v4 w4 b8 hb4 hg4 eN;obtain⟨A4,c4,rfl,eP,eR⟩:=b8.form)
              have cU:=(bN.alloc _).grown hg4 (fun e=>(a6.apart bN (by decide)) e.symm);go_roundw
              case rel=>exact⟨k+1,_,A4,c4,by omega,by simp;omega,by go_num,by simp,bA,b8,cU,hb4⟩
              case measure=>simp[intOf];omega
      . obtain rfl : k = l.length := by omega
        have hg:=Hg.out;rw[Ud (Um _),Uj,Uk]at hg;have cD:=TY hg;clear hg;go_wp2_with fail
        refine(Bv _ out _ (hown.rd aC (by decide))).mono ?_;rintro e eW ⟨cV,c70,rfl,a8,cE⟩;go_wp2;go_ret2
        have e9:jB out=aW l (x,y):=by rw[cD.out];unfold aW;rw[cI.out.1,cI.out.2]
        rw[e9]at a8⊢;exact⟨cV,c70,rfl,a8.mono a7.size,a7.tr cE⟩
   . skip;go_wp2_with fail
     refine(iB _ l x (y+1) false _ (h.TW B4)).mono ?_;rintro e w5 ⟨rfl,eE⟩;rw[e6.out];have B5:=B4.tr eE;clear bD bE bF bJ bK bL bR bU bW bX bY b5;have bO:=bO.bl eE;have bB:=bB.bl eE;obtain⟨bD,bE,bF,bJ,bK,bL⟩:=bO.n6;obtain⟨bR,bU,bW,bX,bY,b5⟩:=bB.n6;rcases a2 with _|_
     . skip
       have cF:kindOf l (x,y)=2:=by
        have h0:=Hk.out;have h1:=cX.out;have h2:fH l (qX (x,y))=false:=by rw[cY.out];rfl
        rw[h2]at h1;simp only[Bool.false_eq_true,if_false]at h1;by_cases q:fH l (vD (x,y))=true
        . rw[h1,if_pos q]
        . rw[if_neg q]at h1;exact absurd h1 h0
       obtain⟨g7,cG⟩:=TV (w3.heap.size+1);obtain⟨g6,cH⟩:=TV w3.heap.size;have cM:g6≠g7:=(by omega);have cN:w.heap.size<=g6:=by have:=(B1.tr hb3).size;omega
       have cP:w.heap.size<=g7:=(by omega);rw[<-cG]at bB⊢;rw[<-cH]at bO⊢;clear cH cG bD bE bF bJ bK bL bR bU bW bX bY b5;obtain⟨bD,bE,bF,bJ,bK,bL⟩:=bO.n6;obtain⟨bR,bU,bW,bX,bY,b5⟩:=bB.n6;go_wp2_with (first|(refine aA rfl 193 _ _ rfl g6 #[.int .i64 x,.int .i64 y,.bool true,.int .i64 (x+1),.int .i64 y,.bool true] rfl rfl _ _ bO (by kernel_rfl) rfl (by simp[Uq]) ?_;intro wS eA cQ;have BS:=B5.grown cQ B5.size (fun k hk=>by injection hk with hk;omega);have bB:=bB.grown cQ (by simp;omega))|(refine aA rfl 193 _ _ rfl g7 #[.int .i64 x,.int .i64 y,.bool false,.int .i64 x,.int .i64 (y+1),.bool false] rfl rfl _ _ bB (by kernel_rfl) rfl (by simp[Uq]) ?_;intro wT eC cR;have cS:=eA.grown cR (by simp;omega);have BT:=BS.grown cR BS.size (fun k hk=>by injection hk with hk;omega);clear bD bE bF bJ bK bL bR bU bW bX bY b5;obtain⟨bD,bE,bF,bJ,bK,bL⟩:=cS.n6;obtain⟨bR,bU,bW,bX,bY,b5⟩:=eC.n6))
       obtain⟨gx,hgx⟩:∃n:Int,n=x:=⟨_,rfl⟩;obtain⟨gy,b9⟩:∃n:Int,n=y:=⟨_,rfl⟩;obtain⟨gb,hgb⟩:∃n:Bool,n=true:=⟨_,rfl⟩;obtain⟨kx,cA⟩:∃n:Int,n=x+1:=⟨_,rfl⟩;obtain⟨ky,cB⟩:∃n:Int,n=y:=⟨_,rfl⟩;obtain⟨kb,hkb⟩:∃n:Bool,n=true:=⟨_,rfl⟩;have b6:Blk wT g6 193 #[.int .i64 gx,.int .i64 gy,.bool gb,.int .i64 kx,.int .i64 ky,.bool kb]:=by rw[hgx,b9,hgb,cA,cB,hkb];exact cS
       have cI:Hid (nV (kindOf l (x,y)) (x,y)=((gx,gy,gb),(kx,ky,kb))/\qL (kindOf l (x,y)) (x,y)=((x,y,false),(x,y+1,false))):=TY (by rw[cF,hgx,b9,hgb,cA,cB,hkb];exact⟨rfl,rfl⟩);clear hgx b9 hgb cA cB hkb cF bO bB;clear bD bE bF bJ bK bL bR bU bW bX bY b5;have b7:aD 99 3 aX w.heap.size (wT.alloc (.cells #[.int .i64 x,.int .i64 y,.bool false,.int .i64 x,.int .i64 (y+1),.bool false] 99)) (.slice (some ⟨wT.heap.size,0,none⟩) 2 2) [((x,y,false):Dm),(x,(y+1),false)]:=Bb _ (x,y,false) (x,(y+1),false) _ BT.size;have cJ:=b6.alloc (.cells #[.int .i64 x,.int .i64 y,.bool false,.int .i64 x,.int .i64 (y+1),.bool false] 99);have B0:=BT.al (.cells #[.int .i64 x,.int .i64 y,.bool false,.int .i64 x,.int .i64 (y+1),.bool false] 99);go_wp2;go_loopw [8,43] (fun s8 cT wr=>∃(k:Nat) (out:List Dm) (A8:Option Addr) (c8:Nat),k<=l.length/\out.length<=k+2/\cT= .int .i64 k/\s8= .slice A8 out.length c8/\Hid (out++(l.drop k).filter (keepD ((gx,gy,gb),(kx,ky,kb)))=iW l ((gx,gy,gb),(kx,ky,kb)) ((x,y,false),(x,(y+1),false)))/\aD 99 3 aX w.heap.size wr (.slice A8 out.length c8) out/\Blk wr g6 193 #[.int .i64 gx,.int .i64 gy,.bool gb,.int .i64 kx,.int .i64 ky,.bool kb]/\Below w.heap.size w wr) (fun _ i _=>l.length-(intOf i).toNat)
       case atStart=>exact⟨0,[((x,y,false):Dm),(x,(y+1),false)],_,_,Ul _,by simp,rfl,rfl,TY rfl,b7,cJ,B0⟩
       case round=>
        obtain⟨k,out,A8,c8,hk,eK,rfl,rfl,Hg,hown,cC,a7⟩:=hrel;clear b7 cJ B0;by_cases hlt:k<l.length
        . obtain⟨b,off,rfl,hb,q1,q2,q3⟩:=(h.TW a7).jT hlt;have hg:=Hg.out;rw[Ub hlt,Ui]at hg;obtain⟨d,hd⟩:=TV (l[k]);rw[<-hd]at q1 q2 q3 hg;obtain⟨ex,ey,ed⟩:=d;simp only at q1 q2 q3;obtain⟨bD,bE,bF,bJ,bK,bL⟩:=cC.n6;have eL:=cC.lt;have eM:g6≠wr.heap.size:=(by omega);have B1:=a7.al (.cells #[.int .i64 ex,.int .i64 ey,.bool ed] 99);have a6:=hown.alloc (.cells #[.int .i64 ex,.int .i64 ey,.bool ed] 99);have bN:=cC.alloc (.cells #[.int .i64 ex,.int .i64 ey,.bool ed] 99);have H8:Hid ((out.length+1)*24<=140737488355328):=TY (by unfold Small at hl;omega);have HM:Hid (out.length+1<=maxLen):=TY (by unfold Small at hl;unfold maxLen;omega);clear hd;by_cases e1:((ex,ey,ed):Dm)=(gx,gy,gb)
          . rw [if_neg (by rw [e1]; simp [keepD])] at hg;have bA:=TY hg;clear hg;simp only[Prod.mk.injEq]at e1;obtain⟨rfl,rfl,rfl⟩:=e1;go_wp2;go_roundw
            case rel=>exact⟨k+1,out,A8,c8,by omega,by omega,by go_num,rfl,bA,a6,bN,B1⟩
            case measure=>simp[intOf];omega
          . by_cases e2:((ex,ey,ed):Dm)=(kx,ky,kb)
            . rw [if_neg (by rw [e2]; simp [keepD])] at hg;have bA:=TY hg;clear hg;simp only[Prod.mk.injEq]at e2;obtain⟨rfl,rfl,rfl⟩:=e2;rcases jS e1 with p|⟨rfl,p⟩|⟨rfl,rfl,p⟩
              . clear e1;go_wp2;go_roundw
                case rel=>exact⟨k+1,out,A8,c8,by omega,by omega,by go_num,rfl,bA,a6,bN,B1⟩
                case measure=>simp[intOf];omega
              . clear e1;go_wp2;go_roundw
                case rel=>exact⟨k+1,out,A8,c8,by omega,by omega,by go_num,rfl,bA,a6,bN,B1⟩
                case measure=>simp[intOf];omega
              . clear e1;go_wp2;go_roundw
                case rel=>exact⟨k+1,out,A8,c8,by omega,by omega,by go_num,rfl,bA,a6,bN,B1⟩
                case measure=>simp[intOf];omega
            . rw [if_pos (by simp only [keepD, decide_eq_false e1, decide_eq_false e2]; rfl), <- List.singleton_append, <- Ug] at hg;have bA:=TY hg;clear hg;rcases jS e1 with p|⟨rfl,p⟩|⟨rfl,rfl,p⟩<;>rcases jS e2 with q|⟨rfl,q⟩|⟨rfl,rfl,q⟩
              all_goals
                clear e1 e2;go_wp2_with (at_builtin;go_must (first|(refine aS (enc:=aX) aK aC aM B1 a6 ((ex,ey,ed):Dm) H8.out HM.out (by simp) rfl _ _ rfl rfl rfl ?_)|(refine aS (enc:=aX) aK aC aM B1 a6 ((ex,gy,ed):Dm) H8.out HM.out (by simp) rfl _ _ rfl rfl rfl ?_)|(refine aS (enc:=aX) aK aC aM B1 a6 ((ex,ky,ed):Dm) H8.out HM.out (by simp) rfl _ _ rfl rfl rfl ?_)|(refine aS (enc:=aX) aK aC aM B1 a6 ((gx,ey,ed):Dm) H8.out HM.out (by simp) rfl _ _ rfl rfl rfl ?_)|(refine aS (enc:=aX) aK aC aM B1 a6 ((gx,gy,ed):Dm) H8.out HM.out (by simp) rfl _ _ rfl rfl rfl ?_)|(refine aS (enc:=aX) aK aC aM B1 a6 ((gx,ky,ed):Dm) H8.out HM.out (by simp) rfl _ _ rfl rfl rfl ?_)|(refine aS (enc:=aX) aK aC aM B1 a6 ((kx,ey,ed):Dm) H8.out HM.out (by simp) rfl _ _ rfl rfl rfl ?_)|(refine aS (enc:=aX) aK aC aM B1 a6 ((kx,gy,ed):Dm) H8.out HM.out (by simp) rfl _ _ rfl rfl rfl ?_)|(refine aS (enc:=aX) aK aC aM B1 a6 ((kx,ky,ed):Dm) H8.out HM.out (by simp) rfl _ _ rfl rfl rfl ?_));intro v4 w4 b8 hb4 hg4 eN;obtain⟨A4,c4,rfl,eP,eR⟩:=b8.form)
                have cU:=(bN.alloc _).grown hg4 (fun e=>(a6.apart bN (by decide)) e.symm);go_roundw
                case rel=>exact⟨k+1,_,A4,c4,by omega,by simp;omega,by go_num,by simp,bA,b8,cU,hb4⟩
                case measure=>simp[intOf];omega
        . obtain rfl : k = l.length := by omega
          have hg:=Hg.out;rw[Ud (Um _),Uj,Uk]at hg;have cD:=TY hg;clear hg;go_wp2_with fail
          refine(Bv _ out _ (hown.rd aC (by decide))).mono ?_;rintro e eW ⟨cV,c70,rfl,a8,cE⟩;go_wp2;go_ret2
          have e9:jB out=aW l (x,y):=by rw[cD.out];unfold aW;rw[cI.out.1,cI.out.2]
          rw[e9]at a8⊢;exact⟨cV,c70,rfl,a8.mono a7.size,a7.tr cE⟩
     . have cF : kindOf l (x, y) = 1 := by rw [cX.out, cY.out]; rfl
       obtain⟨g7,cG⟩:=TV (w3.heap.size+1);obtain⟨g6,cH⟩:=TV w3.heap.size;have cM:g6≠g7:=(by omega);have cN:w.heap.size<=g6:=by have:=(B1.tr hb3).size;omega
       have cP:w.heap.size<=g7:=(by omega);rw[<-cG]at bB⊢;rw[<-cH]at bO⊢;clear cH cG bD bE bF bJ bK bL bR bU bW bX bY b5;obtain⟨bD,bE,bF,bJ,bK,bL⟩:=bO.n6;obtain⟨bR,bU,bW,bX,bY,b5⟩:=bB.n6;go_wp2_with fail
       obtain⟨gx,hgx⟩:∃n:Int,n=x:=⟨_,rfl⟩;obtain⟨gy,b9⟩:∃n:Int,n=y:=⟨_,rfl⟩;obtain⟨gb,hgb⟩:∃n:Bool,n=false:=⟨_,rfl⟩;obtain⟨kx,cA⟩:∃n:Int,n=x:=⟨_,rfl⟩;obtain⟨ky,cB⟩:∃n:Int,n=y+1:=⟨_,rfl⟩;obtain⟨kb,hkb⟩:∃n:Bool,n=false:=⟨_,rfl⟩;have b6:Blk w5 g6 193 #[.int .i64 gx,.int .i64 gy,.bool gb,.int .i64 kx,.int .i64 ky,.bool kb]:=by rw[hgx,b9,hgb,cA,cB,hkb];exact bO
       have cI:Hid (nV (kindOf l (x,y)) (x,y)=((gx,gy,gb),(kx,ky,kb))/\qL (kindOf l (x,y)) (x,y)=((x,y,true),(x+1,y,true))):=TY (by rw[cF,hgx,b9,hgb,cA,cB,hkb];exact⟨rfl,rfl⟩);clear hgx b9 hgb cA cB hkb cF bO bB;clear bD bE bF bJ bK bL bR bU bW bX bY b5;have b7:aD 99 3 aX w.heap.size (w5.alloc (.cells #[.int .i64 x,.int .i64 y,.bool true,.int .i64 (x+1),.int .i64 y,.bool true] 99)) (.slice (some ⟨w5.heap.size,0,none⟩) 2 2) [((x,y,true):Dm),((x+1),y,true)]:=Bb _ (x,y,true) ((x+1),y,true) _ B5.size;have cJ:=b6.alloc (.cells #[.int .i64 x,.int .i64 y,.bool true,.int .i64 (x+1),.int .i64 y,.bool true] 99);have B0:=B5.al (.cells #[.int .i64 x,.int .i64 y,.bool true,.int .i64 (x+1),.int .i64 y,.bool true] 99);go_wp2;go_loopw [8,43] (fun s8 cT wr=>∃(k:Nat) (out:List Dm) (A8:Option Addr) (c8:Nat),k<=l.length/\out.length<=k+2/\cT= .int .i64 k/\s8= .slice A8 out.length c8/\Hid (out++(l.drop k).filter (keepD ((gx,gy,gb),(kx,ky,kb)))=iW l ((gx,gy,gb),(kx,ky,kb)) ((x,y,true),((x+1),y,true)))/\aD 99 3 aX w.heap.size wr (.slice A8 out.length c8) out/\Blk wr g6 193 #[.int .i64 gx,.int .i64 gy,.bool gb,.int .i64 kx,.int .i64 ky,.bool kb]/\Below w.heap.size w wr) (fun _ i _=>l.length-(intOf i).toNat)
       case atStart=>exact⟨0,[((x,y,true):Dm),((x+1),y,true)],_,_,Ul _,by simp,rfl,rfl,TY rfl,b7,cJ,B0⟩
       case round=>
        obtain⟨k,out,A8,c8,hk,eK,rfl,rfl,Hg,hown,cC,a7⟩:=hrel;clear b7 cJ B0;by_cases hlt:k<l.length
        . obtain⟨b,off,rfl,hb,q1,q2,q3⟩:=(h.TW a7).jT hlt;have hg:=Hg.out;rw[Ub hlt,Ui]at hg;obtain⟨d,hd⟩:=TV (l[k]);rw[<-hd]at q1 q2 q3 hg;obtain⟨ex,ey,ed⟩:=d;simp only at q1 q2 q3;obtain⟨bD,bE,bF,bJ,bK,bL⟩:=cC.n6;have eL:=cC.lt;have eM:g6≠wr.heap.size:=(by omega);have B1:=a7.al (.cells #[.int .i64 ex,.int .i64 ey,.bool ed] 99);have a6:=hown.alloc (.cells #[.int .i64 ex,.int .i64 ey,.bool ed] 99);have bN:=cC.alloc (.cells #[.int .i64 ex,.int .i64 ey,.bool ed] 99);have H8:Hid ((out.length+1)*24<=140737488355328):=TY (by unfold Small at hl;omega);have HM:Hid (out.length+1<=maxLen):=TY (by unfold Small at hl;unfold maxLen;omega);clear hd;by_cases e1:((ex,ey,ed):Dm)=(gx,gy,gb)
          . rw [if_neg (by rw [e1]; simp [keepD])] at hg;have bA:=TY hg;clear hg;simp only[Prod.mk.injEq]at e1;obtain⟨rfl,rfl,rfl⟩:=e1;go_wp2;go_roundw
            case rel=>exact⟨k+1,out,A8,c8,by omega,by omega,by go_num,rfl,bA,a6,bN,B1⟩
            case measure=>simp[intOf];omega
          . by_cases e2:((ex,ey,ed):Dm)=(kx,ky,kb)
            . rw [if_neg (by rw [e2]; simp [keepD])] at hg;have bA:=TY hg;clear hg;simp only[Prod.mk.injEq]at e2;obtain⟨rfl,rfl,rfl⟩:=e2;rcases jS e1 with p|⟨rfl,p⟩|⟨rfl,rfl,p⟩
              . clear e1;go_wp2;go_roundw
                case rel=>exact⟨k+1,out,A8,c8,by omega,by omega,by go_num,rfl,bA,a6,bN,B1⟩
                case measure=>simp[intOf];omega
              . clear e1;go_wp2;go_roundw
                case rel=>exact⟨k+1,out,A8,c8,by omega,by omega,by go_num,rfl,bA,a6,bN,B1⟩
                case measure=>simp[intOf];omega
              . clear e1;go_wp2;go_roundw
                case rel=>exact⟨k+1,out,A8,c8,by omega,by omega,by go_num,rfl,bA,a6,bN,B1⟩
                case measure=>simp[intOf];omega
            . rw [if_pos (by simp only [keepD, decide_eq_false e1, decide_eq_false e2]; rfl), <- List.singleton_append, <- Ug] at hg;have bA:=TY hg;clear hg;rcases jS e1 with p|⟨rfl,p⟩|⟨rfl,rfl,p⟩<;>rcases jS e2 with q|⟨rfl,q⟩|⟨rfl,rfl,q⟩
              all_goals
                clear e1 e2;go_wp2_with (at_builtin;go_must (first|(refine aS (enc:=aX) aK aC aM B1 a6 ((ex,ey,ed):Dm) H8.out HM.out (by simp) rfl _ _ rfl rfl rfl ?_)|(refine aS (enc:=aX) aK aC aM B1 a6 ((ex,gy,ed):Dm) H8.out HM.out (by simp) rfl _ _ rfl rfl rfl ?_)|(refine aS (enc:=aX) aK aC aM B1 a6 ((ex,ky,ed):Dm) H8.out HM.out (by simp) rfl _ _ rfl rfl rfl ?_)|(refine aS (enc:=aX) aK aC aM B1 a6 ((gx,ey,ed):Dm) H8.out HM.out (by simp) rfl _ _ rfl rfl rfl ?_)|(refine aS (enc:=aX) aK aC aM B1 a6 ((gx,gy,ed):Dm) H8.out HM.out (by simp) rfl _ _ rfl rfl rfl ?_)|(refine aS (enc:=aX) aK aC aM B1 a6 ((gx,ky,ed):Dm) H8.out HM.out (by simp) rfl _ _ rfl rfl rfl ?_)|(refine aS (enc:=aX) aK aC aM B1 a6 ((kx,ey,ed):Dm) H8.out HM.out (by simp) rfl _ _ rfl rfl rfl ?_)|(refine aS (enc:=aX) aK aC aM B1 a6 ((kx,gy,ed):Dm) H8.out HM.out (by simp) rfl _ _ rfl rfl rfl ?_)|(refine aS (enc:=aX) aK aC aM B1 a6 ((kx,ky,ed):Dm) H8.out HM.out (by simp) rfl _ _ rfl rfl rfl ?_));intro v4 w4 b8 hb4 hg4 eN;obtain⟨A4,c4,rfl,eP,eR⟩:=b8.form)
                have cU:=(bN.alloc _).grown hg4 (fun e=>(a6.apart bN (by decide)) e.symm);go_roundw
                case rel=>exact⟨k+1,_,A4,c4,by omega,by simp;omega,by go_num,by simp,bA,b8,cU,hb4⟩
                case measure=>simp[intOf];omega
        . obtain rfl : k = l.length := by omega
          have hg:=Hg.out;rw[Ud (Um _),Uj,Uk]at hg;have cD:=TY hg;clear hg;go_wp2_with fail
          refine(Bv _ out _ (hown.rd aC (by decide))).mono ?_;rintro e eW ⟨cV,c70,rfl,a8,cE⟩;go_wp2;go_ret2
          have e9:jB out=aW l (x,y):=by rw[cD.out];unfold aW;rw[cI.out.1,cI.out.2]
          rw[e9]at a8⊢;exact⟨cV,c70,rfl,a8.mono a7.size,a7.tr cE⟩
theorem Lj (v:Value) (l:List Dm) (x y:Int) (w:World) (h:Rd 3 aU w v l) (hl:Small l.length) (hk:kindOf l (x,y)=0):Calls prog 145 #[v,.agg #[.int .i64 x,.int .i64 y]] w (gJ 99 3 aX l false w):=by
 have:=rX v l x y w h hl;unfold fJ at this;rw[if_pos hk]at this;exact this
theorem wH (v:Value) (l:List Dm) (x y:Int) (w:World) (h:Rd 3 aU w v l) (hl:Small l.length) (hk:¬kindOf l (x,y)=0):Calls prog 145 #[v,.agg #[.int .i64 x,.int .i64 y]] w (gJ 99 3 aX (aW l (x,y)) true w):=by
 have:=rX v l x y w h hl;unfold fJ at this;rw[if_neg hk]at this;exact this
theorem wI (l:List Dm) (c:Cl) (r:List Cl):iJ l (c::r)=if kindOf l c=0 then none else iJ (aW l c) r:=rfl
theorem uO (l:List Dm) (c:Cl):Small (aW l c).length:=by have:=Em l c;unfold Small;omega
theorem zU {l m:List Dm} {cs:List Cl} (hn:¬cs.length>200) (h:iJ l cs=some m):dS l cs=(m,true):=by unfold dS;rw[if_neg hn,h]
theorem zW {l:List Dm} {cs:List Cl} (hn:¬cs.length>200) (h:iJ l cs=none):dS l cs=(l,false):=by unfold dS;rw[if_neg hn,h]
theorem zX (v u:Value) (l:List Dm) (cs:List Cl) (w:World) (h:Rd 3 aU w v l) (h2:Rd 2 cO w u cs) (hl:Small l.length):Calls prog 92 #[v,u] w (gJ 99 3 aX (dS l cs).1 (dS l cs).2 w):=by
 obtain⟨A,c,rfl,hc,hm⟩:=h.form;obtain⟨A2,c2,rfl,hc2,bX⟩:=h2.form;by_cases bD:cs.length>200
 . have e : dS l cs = (l, false) := by unfold dS; rw [if_pos bD]
   rw[e];have bO:(200:Int)<(cs.length:Int):=(by omega);clear e;go_enter func92,ntmps92
   go_wp2_with fail
   refine(dG _ l _ h hl).mono ?_;rintro e w1 ⟨A1,c1,rfl,a6,hb1⟩;go_wp2;go_ret2
   exact⟨A1,c1,rfl,a6,hb1⟩
 . have bO : (cs.length : Int) <= 200 := by omega
   obtain⟨F1,bE⟩:=TV ((dS l cs).1);obtain⟨F2,hF2⟩:=TV ((dS l cs).2);rw[<-bE,<-hF2];have bK:=TY bE;have bL:=TY hF2;have bN:=TY bD;clear bE hF2 bD;go_enter func92,ntmps92
   go_wp2_with fail
   refine(dG _ l _ h hl).mono ?_;rintro e w1 ⟨A1,c1,rfl,a6,hb1⟩;go_wp2;go_loopw [6,20] (fun s6 bR wr=>∃(k:Nat) (m:List Dm) (A6:Option Addr) (c6:Nat),k<=cs.length/\bR= .int .i64 k/\s6= .slice A6 m.length c6/\Hid (iJ m (cs.drop k)=iJ l cs)/\Hid (Small m.length)/\aD 99 3 aX w.heap.size wr (.slice A6 m.length c6) m/\Below w.heap.size w wr) (fun _ i _=>cs.length-(intOf i).toNat)
   case atStart=>exact⟨0,l,A1,c1,Ul _,rfl,rfl,TY rfl,TY hl,a6,hb1⟩
   case round=>
    obtain⟨k,m,A6,c6,hk,rfl,rfl,Hg,Hs,hown,a7⟩:=hrel;clear a6 hb1;by_cases hlt:k<cs.length
    . obtain⟨b,off,rfl,hb,q1,q2⟩:=(h2.TW a7).fQ hlt;have hg:=Hg.out;rw[Ub hlt,wI]at hg;obtain⟨d,hd⟩:=TV (cs[k]);rw[<-hd]at q1 q2 hg;obtain⟨cx,cy⟩:=d;simp only at q1 q2;have B1:=a7.al (.cells #[.int .i64 cx,.int .i64 cy] 83);have a6:=hown.alloc (.cells #[.int .i64 cx,.int .i64 cy] 83);clear hd;by_cases a8:kindOf m (cx,cy)=0
      . rw[if_pos a8]at hg;have bA:=zW bN.out hg.symm;have bF:=TY a8;have bB:=TY bA;clear a8 hg bA;go_wp2_with fail
        refine(Lj _ m cx cy _ (a6.rd aC (by decide)) Hs.out bF.out).mono ?_;rintro e w2 ⟨A3,c3,rfl,bC,hb3⟩;go_wp2_with fail
        refine(dG _ l _ (h.TW (B1.tr hb3)) hl).mono ?_;rintro e w4 ⟨A5,c5,rfl,bJ,bU⟩;go_wp2;go_ret2
        have e1:F1=l:=(by rw[bK.out,bB.out]);have e2:F2=false:=(by rw[bL.out,bB.out]);rw[e1,e2];exact⟨A5,c5,rfl,bJ.mono (B1.tr hb3).size,(B1.tr hb3).tr bU⟩
      . rw[if_neg a8]at hg;have bF:=TY a8;have bW:=TY hg;clear a8 hg;go_wp2_with fail
        refine(wH _ m cx cy _ (a6.rd aC (by decide)) Hs.out bF.out).mono ?_;rintro e w2 ⟨A3,c3,rfl,bC,hb3⟩;go_wp2;go_roundw
        case rel=>exact⟨k+1,aW m (cx,cy),A3,c3,by omega,by go_num,rfl,bW,TY (uO _ _),bC.mono B1.size,B1.tr hb3⟩
        case measure=>simp[intOf];omega
    . obtain rfl : k = cs.length := by omega
      have hg:=Hg.out;rw[Ud (Um _)]at hg;have bA:=zU bN.out hg.symm;have bB:=TY bA;clear hg bA;go_wp2;go_ret2
      have e1:F1=m:=(by rw[bK.out,bB.out]);have e2:F2=true:=(by rw[bL.out,bB.out]);rw[e1,e2];exact⟨A6,c6,rfl,hown,a7⟩
theorem uP (u v:Value) (l m:List Dm) (w:World) (h:Rd 3 aU w u l) (h':Rd 3 aU w v m):Calls prog 93 #[u,v] w (Ret (.bool (decide (l=m))) w):=by
 obtain⟨A,c,rfl,hc,hm⟩:=h.form;obtain⟨A',c',rfl,hc',bE⟩:=h'.form;by_cases hlen:l.length=m.length
 . have hne : ((l.length : Int) != (m.length : Int)) = false := by simp [hlen]
   have a8:=TY hlen;clear hlen;go_enter func93,ntmps93
   go_wp2;go_loopw [13] (fun i wr=>∃k:Nat,k<=l.length/\i= .int .i64 k/\Hid (decide (l.drop k=m.drop k)=decide (l=m))/\Below w.heap.size w wr) (fun i _=>l.length-(intOf i).toNat)
   case atStart=>exact⟨0,Ul _,rfl,TY rfl,Below.refl _ _⟩
   case round=>
    obtain⟨k,hk,rfl,Hg,a6⟩:=hrel;by_cases hlt:k<l.length
    . have bA : k < m.length := by have := a8.out; omega
      obtain⟨b,off,rfl,hb,q1,q2,q3⟩:=(h.TW a6).jT hlt;obtain⟨b',bB,rfl,hb',p1,p2,p3⟩:=(h'.TW a6).jT bA;have bC:(k:Int)<(m.length:Int):=(by omega);obtain⟨d,hd⟩:=TV (l[k]);obtain⟨e,he⟩:=TV (m[k]);rw[<-hd]at q1 q2 q3;rw[<-he]at p1 p2 p3;obtain⟨dx,dy,dd⟩:=d;obtain⟨ex,ey,ed⟩:=e;simp only at q1 q2 q3 p1 p2 p3;by_cases a7:((dx,dy,dd):Dm)=(ex,ey,ed)
      . have bD := Mg Hg hlt bA (by rw [<- hd, <- he]; exact a7);simp only[Prod.mk.injEq]at a7;obtain⟨rfl,rfl,rfl⟩:=a7;clear hd he;go_wp2_with fail
        go_quiet (fail)
        go_wp2;go_roundw
        case rel=>exact⟨k+1,by omega,by go_num,bD,below_drewN a6 _⟩
        case measure=>simp[intOf];omega
      . have HR := TY (Mh Hg hlt bA (by rw [<- hd, <- he]; exact a7)).symm;clear hd he;rcases jS a7 with p|⟨rfl,p⟩|⟨rfl,rfl,p⟩
        all_goals
          clear a7;go_wp2_with fail
          go_quiet (fail)
          go_wp2;go_ret;exact⟨lF HR.out,below_drewN a6 _⟩
    . go_wp2;go_ret;exact⟨lF (IL Hg (by omega) (by have:=a8.out;omega)).symm,a6⟩
 . have hne : ((l.length : Int) != (m.length : Int)) = true := by simp; omega
   go_enter func93,ntmps93
   go_wp2;go_ret;exact⟨lF (by rw[eq_comm,decide_eq_false_iff_not];exact fun e=>hlen (by rw[e])),Below.refl _ _⟩
theorem nA (vr vf vn vc:Value) (rows:List Int) (f n:List Dm) (cs:List Cl) (w:World) (h1:Rd 1 bG w vr rows) (h2:Rd 3 aU w vf f) (h3:Rd 3 aU w vn n) (h4:Rd 2 cO w vc cs) (hl:Small f.length):
 Calls prog 50 #[.agg #[vr,vf,vn,vc]] w (Ret (.bool (dM rows f n cs)) w):=by
 obtain⟨A1,c1,rfl,hc1,bE⟩:=h1.form;obtain⟨A2,c2,rfl,hc2,bJ⟩:=h2.form;obtain⟨A3,c3,rfl,hc3,bK⟩:=h3.form;obtain⟨A4,c4,rfl,bA,bL⟩:=h4.form;have hA:=(Below.refl w.heap.size w).al (.cells #[.slice A1 rows.length c1,.slice A2 f.length c2,.slice A3 n.length c3,.slice A4 cs.length c4] 30);have bF:=Blk.aZ w 30 #[.slice A1 rows.length c1,.slice A2 f.length c2,.slice A3 n.length c3,.slice A4 cs.length c4];have g1:=h1.TW hA;have g2:=h2.TW hA;have g3:=h3.TW hA;have g4:=h4.TW hA;clear hc1 hc2 hc3 bA;rcases ht:eX rows f with _|_
 . have e : dM rows f n cs = false := by unfold dM; rw [ht]; rfl
   rw[e];have Ht:=TY ht;clear ht e;go_enter func50,Uu
   go_wp2_with fail
   refine(wD _ _ rows f _ g1 g2).mono ?_;rintro e w1 ⟨rfl,hb1⟩;rw[Ht.out];go_wp2;go_ret;exact⟨rfl,hA.tr hb1⟩
 . by_cases hn:cs.length<=60
   . have e : dM rows f n cs = ((dS f cs).2 && decide ((dS f cs).1 = n)) := by unfold dM; rw [ht, decide_eq_true hn]; rfl
     have bB:(cs.length:Int)<=60:=(by omega);obtain⟨M,hM⟩:=TV ((dS f cs).1);obtain⟨b,hb⟩:=TV ((dS f cs).2);rw[<-hM,<-hb]at e;rw[e];have Ht:=TY ht;have HM:=TY hM;have Hb:=TY hb;clear ht e hM hb;go_enter func50,Uu
     go_wp2_with fail
     refine(wD _ _ rows f _ g1 g2).mono ?_;rintro e w1 ⟨rfl,hb1⟩;rw[Ht.out];have a6:=bF.bl hb1;have z1:=a6.cell 1;have z3:=a6.cell 3;simp only[TZ,T9,Ua]at z1 z3;go_wp2_with fail
     refine(zX _ _ f cs _ (g2.TW hb1) (g4.TW hb1) hl).mono ?_;rintro e w2 ⟨Am,cm,rfl,a7,hb2⟩;rw[<-HM.out]at a7;rw[<-HM.out,<-Hb.out];have bC:=a6.bl hb2;clear z1 z3;have z2:=bC.cell 2;simp only[TZ,T9,Ua]at z2;have B2:=(hA.tr hb1).tr hb2;cases b
     . go_wp2;go_ret;exact⟨rfl,B2⟩
     . go_wp2_with fail
       refine(uP _ _ M n _ (a7.rd aC (by decide)) ((g3.TW hb1).TW hb2)).mono ?_;rintro e w3 ⟨rfl,hb3⟩;obtain⟨R,hR⟩:∃R,R=decide (M=n):=⟨_,rfl⟩;rw[<-hR];have a8:(true&&decide (M=n))=R:=by rw[hR];rfl
       have bD:=TY a8;clear hR a8;go_wp2;go_ret;exact⟨lF bD.out.symm,B2.tr hb3⟩
   . have e : dM rows f n cs = false := by unfold dM; rw [ht, decide_eq_false hn]; rfl
     rw[e];have bB:(60:Int)<(cs.length:Int):=(by omega);have Ht:=TY ht;clear ht e hn;go_enter func50,Uu
     go_wp2_with fail
     refine(wD _ _ rows f _ g1 g2).mono ?_;rintro e w1 ⟨rfl,hb1⟩;rw[Ht.out];have a6:=bF.bl hb1;have z3:=a6.cell 3;simp only[TZ,T9,Ua]at z3;go_wp2;go_ret;exact⟨rfl,hA.tr hb1⟩
end Go.Proofs.YtjijonhkofhikaaGreatDoor
