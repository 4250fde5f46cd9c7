/- The flips of the program: the walks. No conditions but sizes. The two pairs of dominoes over a square, as the program makes them: the walk. Condition: the square lies on the board. The builtin copy, elements of any size: the elements of a list of the call's own moved one place on. Plain laws of the model's operations. SortDominoes of the program: the walk. Conditions: sizes. CanFlip of the program: the walk. No conditions but sizes. FlipAt of the program: the walk. Conditions: sizes. FlipAll, SameDominoes, FloorOk of the program: the walks. Conditions: sizes.. Conditions, where there are any, stand in the statements. -/
import Derived.Test.YtljfoohaapckeaaGreatDoorDK5
import Derived.Test.YtljfoohaapckeaaGreatDoorDK1
import Derived.Test.YtljfoohaapckeaaGreatDoorDK2
import Derived.Test.YtljfoohaapckeaaGreatDoorDG6
import Derived.IntWalk
import Derived.BigRegion
import Derived.Deep.RegionHeld3
import Derived.Deep.DeepCutAuto
import Derived.Laws.CopyOwn
import Derived.Test.YtljfoohaapckeaaGreatDoorDK4
open _root_.List (getElem?_toArray getElem?_cons_zero getElem?_cons_succ drop_eq_getElem_cons contains_cons drop_of_length_le flatMap_cons length_append append_assoc length_singleton filter_cons filter_nil append_nil)
open _root_.Nat (zero_le le_refl add_mul)
open _root_.Go.IntWalk (i64_in)
open _root_.Go.Value (oneCell' ownBlock)
open _root_.Go.Proofs.Tryz (prog func147 ntmps147 func91 ntmps91 func90 ntmps90 func80 ntmps80 func38 ntmps38)
namespace Go.Proofs.YtljfoohaapckeaaGreatDoor
open Go.ChangeShapes Go.WideShapes Go.ChangeAt Go.RowKit
set_option linter.unusedVariables false
set_option linter.unusedSimpArgs false
set_option maxHeartbeats 4000000
set_option maxRecDepth 100000
theorem fZ (v:Value) (l:List Dm) (x y:Int) (d:Bool) (w:World) (h:Rd 3 aU w v l):Calls prog 149 #[v,.agg #[.int .i64 x,.int .i64 y,.bool d]] w (Ret (.bool (l.contains (x,y,d))) w):=by
 obtain⟨A,c,rfl,hc,hm⟩:=h.form;have hA:=((Below.refl w.heap.size w).al (.cells #[.int .i64 x,.int .i64 y,.bool d] 60));have hx:=Blk.bK w 60 #[.int .i64 x,.int .i64 y,.bool d];obtain⟨R,hR⟩:=Oy (l.contains (x,y,d));rw[<-hR];have HR:=OA hR;clear hR;go_enter Tryz.func149,Tryz.ntmps149
 go_wp2;go_loopw [9] (fun s9 wr=>∃k:Nat,k<=l.length/\s9= .int .i64 k/\Hid ((l.drop k).contains (x,y,d)=R)/\Below (w.alloc (.cells #[.int .i64 x,.int .i64 y,.bool d] 60)).heap.size (w.alloc (.cells #[.int .i64 x,.int .i64 y,.bool d] 60)) wr) (fun i _=>l.length-(intOf i).toNat)
 case atStart=>exact⟨0,zero_le _,rfl,OA HR.out.symm,Below.refl _ _⟩
 case round=>
  obtain⟨k,hk,rfl,Hg,hbel⟩:=hrel;have z:=hx.bl hbel;have z0:=z.cell 0;have z1:=z.cell 1;have z2:=z.cell 2;simp only[getElem?_toArray,getElem?_cons_zero,getElem?_cons_succ]at z0 z1 z2;have hwl:=z.lt;have hne:w.heap.size≠wr.heap.size:=(by omega);by_cases hlt:k<l.length
  . obtain⟨b,off,rfl,hb,q1,q2,q3⟩:=((h.Oz hA).Oz hbel).jJ hlt;have hg:=Hg.out;rw[drop_eq_getElem_cons hlt]at hg;obtain⟨e,he⟩:=Oy (l[k]);rw[<-he]at q1 q2 q3 hg;obtain⟨ex,ey,ed⟩:=e;simp only at q1 q2 q3;have Hg2:=OA hg;clear hg he;by_cases h1:x=ex
    . obtain rfl:x=ex:=h1;by_cases h2:y=ey
      . obtain rfl:y=ey:=h2;by_cases h3:d=ed
        . obtain rfl:d=ed:=h3;go_wp2;go_ret;refine⟨kN ?_,(hA.tr hbel).al _⟩;have hg:=Hg2.out;rw[contains_cons]at hg;rw[<-hg];simp
        . skip;have hg:=Hg2.out;rw[contains_cons,show((x,y,d)==(x,y,ed))=false by simp[*],Bool.false_or]at hg;have HG:=OA hg;clear hg;go_wp2;go_roundw
          case rel=>exact⟨k+1,by omega,by go_num,HG,hbel.al _⟩
          case measure=>simp[intOf];omega
      . skip;have hg:=Hg2.out;rw[contains_cons,show((x,y,d)==(x,ey,ed))=false by simp[*],Bool.false_or]at hg;have HG:=OA hg;clear hg;go_wp2;go_roundw
        case rel=>exact⟨k+1,by omega,by go_num,HG,hbel.al _⟩
        case measure=>simp[intOf];omega
    . skip;have hg:=Hg2.out;rw[contains_cons,show((x,y,d)==(ex,ey,ed))=false by simp[*],Bool.false_or]at hg;have HG:=OA hg;clear hg;go_wp2;go_roundw
      case rel=>exact⟨k+1,by omega,by go_num,HG,hbel.al _⟩
      case measure=>simp[intOf];omega
  . obtain rfl : k = l.length := by omega
    have hg:=Hg.out;rw[drop_of_length_le (le_refl _)]at hg;have hg2:false=R:=by rw[<-hg];rfl
    have HG:=OA hg2;clear hg hg2;go_wp2;go_ret;exact⟨kN HG.out,hA.tr hbel⟩
theorem Bg (x y:Int) (w:World) (h:jP (x,y)=true):Calls prog 148 #[.agg #[.int .i64 x,.int .i64 y]] w (Ret (.tuple #[.agg #[.int .i64 x,.int .i64 y,.bool false,.int .i64 x,.int .i64 (y+1),.bool false],.agg #[.int .i64 x,.int .i64 y,.bool true,.int .i64 (x+1),.int .i64 y,.bool true]]) w):=by
 unfold jP at h;rw[Bool.and_eq_true,decide_eq_true_eq,decide_eq_true_eq]at h;simp only at h;obtain⟨⟨x0,x1⟩,y0,y1⟩:=h;have hA:=(Below.refl w.heap.size w).al (.cells #[.int .i64 x,.int .i64 y] 70);go_enter Tryz.func148,Tryz.ntmps148
 have e1:IntKind.i64.wrap (x+1)=x+1:=i64_in _ (by omega);have e2:IntKind.i64.wrap (y+1)=y+1:=i64_in _ (by omega);go_wp2_with fail
 obtain⟨W3,hW⟩:=Oy (((w.alloc (.cells #[.int .i64 x,.int .i64 y] 70)).alloc (.cells #[.int .i64 0,.int .i64 0,.bool false,.int .i64 0,.int .i64 0,.bool false] 156)).alloc (.cells #[.int .i64 0,.int .i64 0,.bool false,.int .i64 0,.int .i64 0,.bool false] 156));have bC:Blk W3 w.heap.size 70 #[.int .i64 x,.int .i64 y]:=by rw[hW];exact((Blk.bK w _ _).alloc _).alloc _
 have b1:Blk W3 (w.heap.size+1) 156 #[.int .i64 0,.int .i64 0,.bool false,.int .i64 0,.int .i64 0,.bool false]:=by rw[hW];exact(Blk.iV _ _ _ _ (by simp)).alloc _
 have b2:Blk W3 (w.heap.size+1+1) 156 #[.int .i64 0,.int .i64 0,.bool false,.int .i64 0,.int .i64 0,.bool false]:=by rw[hW];exact Blk.iV _ _ _ _ (by simp)
 have B3:Below w.heap.size w W3:=by rw[hW];exact(hA.al _).al _
 have hs3:W3.heap.size=w.heap.size+1+1+1:=by rw[hW];simp
 rw[<-hW];obtain⟨g0,hg0⟩:=Oy w.heap.size;obtain⟨g1,hg1⟩:=Oy (w.heap.size+1);obtain⟨g2,hg2⟩:=Oy (w.heap.size+1+1);rw[<-hg2]at b2⊢;rw[<-hg1]at b1⊢;rw[<-hg0]at bC⊢;have hn1:g0≠g1:=(by omega);have hn2:g0≠g2:=(by omega);have hn3:g1≠g2:=(by omega);have hl1:w.heap.size<=g1:=(by omega);have hl2:w.heap.size<=g2:=(by omega);clear hW hs3 hg0 hg1 hg2 hA;have c0:=bC.cell 0;have c1:=bC.cell 1;simp only[getElem?_toArray,getElem?_cons_zero,getElem?_cons_succ]at c0 c1;have hn1':=hn1.symm;have hn2':=hn2.symm;have hn3':=hn3.symm;have B4:Below w.heap.size w W3.drew:=B3.drew;have b1':Blk W3.drew g1 156 #[.int .i64 0,.int .i64 0,.bool false,.int .i64 0,.int .i64 0,.bool false]:=b1;have b2':Blk W3.drew g2 156 #[.int .i64 0,.int .i64 0,.bool false,.int .i64 0,.int .i64 0,.bool false]:=b2;have bC':Blk W3.drew g0 70 #[.int .i64 x,.int .i64 y]:=bC;clear b1 b2 bC B3;refine rB (fun w'=>w'.cell? ⟨g0,0,none⟩=some (.int .i64 x)/\w'.cell? ⟨g0,1,none⟩=some (.int .i64 y)) fun hHeld=>(tW 0)<|(tW 1)<|(tW 2)<|(tW 3)<|(tW 4)<|(tW 5)<|(tW 6)<|(tW 7)<|(tW 8)<|(tW 9)<|(tW 10)<|(tW 11)<|(tW 12)<|(tW 13)<|(tW 14)<|(tW 15)<|(tW 16)<|(tW 17)<|(tW 18)<|(tW 19)<|(tW 20)<|(tW 21)<|(tW 22)<|(tW 23)<|(tR [24])<|tL fun K hK=>?_
 (first|(refine aJ rfl 156 _ _ rfl g1 #[.int .i64 x,.int .i64 y,.bool false,.int .i64 x,.int .i64 (y+1),.bool false] rfl rfl _ _ b1' (by kernel_rfl) rfl (by simp[oneCell']) ?_;intro wS hbS hgS;have b1':=hbS;have b2':=b2'.grown hgS (by simp;omega);have bC':=bC'.grown hgS (by simp;omega);have B4:=B4.grown hgS B4.size (fun k hk=>by injection hk with hk;omega);have c0:=bC'.cell 0;have c1:=bC'.cell 1;simp only[getElem?_toArray,getElem?_cons_zero,getElem?_cons_succ]at c0 c1)|(refine aJ rfl 156 _ _ rfl g2 #[.int .i64 x,.int .i64 y,.bool true,.int .i64 (x+1),.int .i64 y,.bool true] rfl rfl _ _ b2' (by kernel_rfl) rfl (by simp[oneCell']) ?_;intro wS hbS hgS;have b2':=hbS;have b1':=b1'.grown hgS (by simp;omega);have bC':=bC'.grown hgS (by simp;omega);have B4:=B4.grown hgS B4.size (fun k hk=>by injection hk with hk;omega);have c0:=bC'.cell 0;have c1:=bC'.cell 1;simp only[getElem?_toArray,getElem?_cons_zero,getElem?_cons_succ]at c0 c1))
 refine tK hK fun hHeld=>?_
 clear hK K;refine(tR [25])<|tL fun K hK=>?_
 (first|(refine aJ rfl 156 _ _ rfl g1 #[.int .i64 x,.int .i64 y,.bool false,.int .i64 x,.int .i64 (y+1),.bool false] rfl rfl _ _ b1' (by kernel_rfl) rfl (by simp[oneCell']) ?_;intro wS hbS hgS;have b1':=hbS;have b2':=b2'.grown hgS (by simp;omega);have bC':=bC'.grown hgS (by simp;omega);have B4:=B4.grown hgS B4.size (fun k hk=>by injection hk with hk;omega);have c0:=bC'.cell 0;have c1:=bC'.cell 1;simp only[getElem?_toArray,getElem?_cons_zero,getElem?_cons_succ]at c0 c1)|(refine aJ rfl 156 _ _ rfl g2 #[.int .i64 x,.int .i64 y,.bool true,.int .i64 (x+1),.int .i64 y,.bool true] rfl rfl _ _ b2' (by kernel_rfl) rfl (by simp[oneCell']) ?_;intro wS hbS hgS;have b2':=hbS;have b1':=b1'.grown hgS (by simp;omega);have bC':=bC'.grown hgS (by simp;omega);have B4:=B4.grown hgS B4.size (fun k hk=>by injection hk with hk;omega);have c0:=bC'.cell 0;have c1:=bC'.cell 1;simp only[getElem?_toArray,getElem?_cons_zero,getElem?_cons_succ]at c0 c1))
 refine tK hK fun hHeld=>?_
 clear hK K;refine tD ?_;obtain⟨u_0,u_1,u_2,u_3,u_4,u_5⟩:=b1'.n6;obtain⟨t_0,t_1,t_2,t_3,t_4,t_5⟩:=b2'.n6;go_wp2_with fail
 refine bodyPost_ret (v:= .tuple #[.agg #[.int .i64 x,.int .i64 y,.bool false,.int .i64 x,.int .i64 (y+1),.bool false],.agg #[.int .i64 x,.int .i64 y,.bool true,.int .i64 (x+1),.int .i64 y,.bool true]]) (by simp[results,Tryz.results148,go_sem,u_0,u_1,u_2,u_3,u_4,u_5,t_0,t_1,t_2,t_3,t_4,t_5]) rfl ⟨rfl,B4⟩
end Go.Proofs.YtljfoohaapckeaaGreatDoor
namespace Go.Proofs.YtljfoohaapckeaaGreatDoor
open Go.RowKit
set_option linter.unusedVariables false
set_option maxHeartbeats 4000000
set_option maxRecDepth 100000
theorem yF {α:Type} {enc:α->List Value} {size:Nat} (henc:∀x,(enc x).length=size):∀(l:List α) (j:Nat),(l.flatMap enc).take (j*size)=(l.take j).flatMap enc
  |[],j=>by simp
  |x::r,0=>by simp
  | x :: r, j + 1 => by
   rw[flatMap_cons,List.take_succ_cons,flatMap_cons,List.take_append,henc,List.take_of_length_le (by rw[henc,add_mul];omega),show(j+1)*size-size=j*size by rw[add_mul];omega,yF henc r j]
theorem DZ {α:Type} {enc:α->List Value} {size:Nat} (henc:∀x,(enc x).length=size):∀(l:List α) (j:Nat),(l.flatMap enc).drop (j*size)=(l.drop j).flatMap enc
  |[],j=>by simp
  |x::r,0=>by simp
  | x :: r, j + 1 => by
   rw[flatMap_cons,List.drop_succ_cons,List.drop_append,henc,drop_of_length_le (by rw[henc,add_mul];omega),show(j+1)*size-size=j*size by rw[add_mul];omega,DZ henc r j,List.nil_append]
theorem addr_add (g o j:Nat):(⟨g,o,none⟩:Addr).add j=⟨g,o+j,none⟩:=by unfold Addr.add;split<;>simp_all
section
variable (P : Program)
theorem Db (w:World) (dT sT ty elem:TypeId) (g o dLen dCap:Nat) (a:Addr) (sLen sCap:Nat) (cur:Array Value) (t:TypeId) (cs:List Value) (s n:Nat)
    (hu:P.underlying dT=some (.slice elem)) (hs:(P.info? elem).map (·.size)=some s)
    (hg:w.heap[g]? =some (.cells cur t (0,0))) (hn:n=Nat.min sLen dLen) (hc:cs.length=n*s)
    (hsrc:∀j v,cs[j]? =some v->w.cell? (a.add j)=some v) (hfit:o+cs.length<=cur.size) (h1:∀v∈cs,v.oneCell'=true):
    (Builtin.copy_ #[dT,sT] ty #[.slice (some ⟨g,o,none⟩) dLen dCap,.slice (some a) sLen sCap]).run P w=
      .ok (goInt n) (w.setRow g (cur.toList.take o++cs++cur.toList.drop (o+cs.length)).toArray):=by
 have hl:=run_loadCells_list (P:=P) w a cs hsrc;rw[hc]at hl;have hst:=run_storeCells_at P g o t cs 0 cur w hg (by simpa using hfit) h1;cases hq:P.info? elem with
 |none=>simp[hq]at hs
 |some i=>
  have hi:i.size=s:=(by simpa[hq]using hs);simp[Builtin.copy_,run_underlying hu,Builtin.lenOf,Builtin.firstCells,sizeOf,typeInfo,hq,hi,<-hn,hl,hst]
theorem Ib (w:World) (dT sT ty elem:TypeId) (dp sp:Option Addr) (dLen dCap sLen sCap:Nat) (hu:P.underlying dT=some (.slice elem)) (hs:((P.info? elem).map (·.size)).isSome=true) (hn:Nat.min sLen dLen=0):
 (Builtin.copy_ #[dT,sT] ty #[.slice dp dLen dCap,.slice sp sLen sCap]).run P w= .ok (goInt 0) w:=by
 cases hq:P.info? elem with
 |none=>simp[hq]at hs
 |some i=>
  cases dp<;>cases sp<;>simp[Builtin.copy_,run_underlying hu,Builtin.lenOf,Builtin.firstCells,sizeOf,typeInfo,hq,hn,loadCells,loadCellsFrom,storeCells]
end
theorem kC {P:Program} {ops:Array Oper} {o:Oper} {a:Act} {w:World} {K:Act->World->Prop} {Q:Exit->Act->World->Prop} {E':Prop} {α:Type} {t E:TypeId} {z:Value} {size bytes:Nat} (R:Row P t E z size bytes)
    {enc:α->List Value} (henc:∀x,(enc x).length=size) (h1:∀x,∀u∈enc x,u.oneCell'=true) {B g c:Nat} {l:List α} {zz:α} (hown:aC E size enc B w (.slice (some ⟨g,0,none⟩) (l.length+1) c) (l++[zz]))
    (k:Nat) (hk:k<=l.length) (hgd:o.guard=none) (d s:Operand) (ho:o.op= .call {callee:= .builtin .copy,args:= #[d,s],argTypes:= #[t,t]}) (dp sp:Option Addr) (dLen dCap sLen sCap:Nat)
    (hd:a.eval d= .slice dp dLen dCap) (hs:a.eval s= .slice sp sLen sCap) (hdl:dLen=l.length-k) (hsl:sLen=l.length+1-k) (hdp:k<l.length->dp=some ⟨g,(k+1)*size,none⟩) (hsp:k<l.length->sp=some ⟨g,k*size,none⟩)
    (h:∀w',aC E size enc B w' (.slice (some ⟨g,0,none⟩) (l.length+1) c) ((l++[zz]).take (k+1)++l.drop k)->w.grownBy w' (some g)->K (a.put o.dst (goInt ((l.length-k:Nat):Int))) w'):
    if Region.wanted o (yielded ops a.tmps)=true then Oper.wp P o a w K Q else E':=by
 have hw:Region.wanted o (yielded ops a.tmps)=true:=(by simp[Region.wanted,hgd]);rw[if_pos hw];obtain⟨ht,hinfo,hzs,hsz⟩:=R;obtain⟨i0,hi,hz0,hz1,hz2⟩:=info_parts hinfo;have hsome:((P.info? E).map (·.size))=some size:=by rw[hi];simp[hz1]
 subst hdl;subst hsl;by_cases hkn:k<l.length
 . obtain rfl:=hdp hkn;obtain rfl:=hsp hkn;rcases hown.2 with⟨e,_⟩|⟨g',cap,cur,e,hB,hg,hcap,hmax,hsize,htake⟩
   . injection e with e1;cases e1
   . injection e with e1 e2 e3;injection e1 with e1;injection e1 with e1 _ _;subst e1 e3;have hlen:((l++[zz]).flatMap enc).length=(l.length+1)*size:=by rw[gW henc];simp
     have hcs:((l.drop k).flatMap enc).length=(l.length-k)*size:=by rw[gW henc];simp
     have hll:(l++[zz]).length=l.length+1:=(by simp);rw[hll]at htake hcap;have hms:(k+1)*size+(l.length-k)*size=(l.length+1)*size:=by rw[<-add_mul];congr 1;omega
     have hfit:(k+1)*size+((l.drop k).flatMap enc).length<=cur.size:=by
      rw[hcs,hms,hsize];exact Nat.mul_le_mul_right _ hcap
     have hcell:∀j v,((l.drop k).flatMap enc)[j]? =some v->w.cell? ((⟨g,k*size,none⟩:Addr).add j)=some v:=by
      intro j v hv;rw[addr_add,cell_of_row w g _ cur E (0,0) hg];rw[<-DZ henc,List.getElem?_drop]at hv;have hj:k*size+j<(l.flatMap enc).length:=(List.getElem?_eq_some_iff.1 hv).1;rw[gW henc]at hj;have h2:((l++[zz]).flatMap enc)[k*size+j]? =some v:=by rw[List.flatMap_append,List.getElem?_append_left (by rw[gW henc];exact hj)];exact hv
      rw[<-htake,List.getElem?_take_of_lt (by rw[add_mul];omega)]at h2;simpa using h2
     have h1':=IX h1 (l.drop k);have e5:((l++[zz]).take (k+1)++l.drop k).flatMap enc=((l++[zz]).take (k+1)).flatMap enc++(l.drop k).flatMap enc:=List.flatMap_append;obtain⟨CS,hCS⟩:=Oy ((l.drop k).flatMap enc);rw[<-hCS]at hcs hfit hcell h1' e5;have hrun:=Db P w t t o.type E g ((k+1)*size) (l.length-k) dCap ⟨g,k*size,none⟩ (l.length+1-k) sCap cur E CS size (l.length-k) ht hsome hg (by show _=min _ _;omega) hcs hcell hfit h1';unfold Oper.wp;simp[execOp,ho,resolve,invoke,builtin,hd,hs,hrun,Result.andThen];have hm:(goInt ((l.length-k:Nat):Int))=goInt (l.length-k:Nat):=rfl;have e3:((l++[zz]).take (k+1)++l.drop k).length=l.length+1:=by simp;omega
     refine h _ ⟨by rw[gW henc],.inr ⟨g,c,_,by rw[e3],hB,setRow_heap w g cur _ E (0,0) hg,by rw[e3];exact hcap,hmax,?_,?_⟩⟩ (by exact⟨rfl,rfl,rfl,by simp[World.setRow],fun k hk hne=>setRow_other w g k _ (fun e=>hne (by rw[e]))⟩)
     . have hle:(l.length+1)*size<=c*size:=Nat.mul_le_mul_right _ hcap;simp only[List.size_toArray,length_append,List.length_take,List.length_drop,Array.length_toList];rw[hcs,hsize];omega
     . have hA:cur.toList.take ((k+1)*size)=((l++[zz]).take (k+1)).flatMap enc:=by
        rw[<-yF henc,<-htake,List.take_take,Nat.min_eq_left (Nat.mul_le_mul_right _ (by omega))]
       have e4:(((l++[zz]).take (k+1)).flatMap enc++CS).length=(l.length+1)*size:=(by rw[<-e5,gW henc,e3]);rw[hA,e3,e5,<-append_assoc];rw[List.take_append_of_le_length (by rw[e4];exact le_refl _)];exact List.take_of_length_le (by rw[e4];exact le_refl _)
 . obtain rfl : k = l.length := by omega
   have hrun:=Ib P w t t o.type E dp sp 0 dCap 1 sCap ht (by rw[hsome];rfl) (by show min _ _=_;omega);unfold Oper.wp;simp[execOp,ho,resolve,invoke,builtin,hd,hs,hrun,Result.andThen];have e1:(l++[zz]).take (l.length+1)++l.drop l.length=l++[zz]:=(by simp[List.take_of_length_le]);have h':=h w (by rw[e1];exact hown) (World.grownBy.refl _ _);show K (a.put o.dst (goInt 0)) w;simpa using h'
end Go.Proofs.YtljfoohaapckeaaGreatDoor
namespace Go.Proofs.YtljfoohaapckeaaGreatDoor
open Go.ChangeShapes Go.WideShapes Go.ChangeAt Go.RowKit
set_option linter.unusedVariables false
set_option linter.unusedSimpArgs false
set_option maxHeartbeats 4000000
set_option maxRecDepth 100000
theorem lD {α:Type} (out:List α) (z d:α) {P:Nat} (h:P<=out.length):((out++[z]).take (P+1)++out.drop P).set P d=out.take P++d::out.drop P:=by
 have hP:P<(out++[z]).length:=by simp;omega
 rw[List.take_succ_eq_append_getElem hP,List.take_append_of_le_length h,append_assoc,List.set_append_right _ _ (by simp;omega)];congr 1
 rw[List.length_take,Nat.min_eq_left h,Nat.sub_self];rfl
theorem zC (out:List Dm) (d:Dm) (r:List Dm):jO out (d::r)=jO (jR out d) r:=rfl
theorem wD (out:List Dm) {d:Dm} (h:aH d=true):jR out d=if out[lN d out]? =some d then out else out.take (lN d out)++d::out.drop (lN d out):=by
 unfold jR;rw[if_pos h,Gf]
theorem uK (x y:Int) (d:Bool) (r:Int) (w:World) (hd:aH (x,y,d)=true) (hr:r=aP (x,y,d)):Calls prog 194 #[.agg #[.int .i64 x,.int .i64 y,.bool d]] w (Ret (.int .i64 r) w):=by
 rw[hr];exact AY x y d w hd
theorem yG (v:Value) (l:List Dm) (w:World) (h:Rd 3 aU w v l):Calls prog 150 #[v] w (jA 60 3 aT (iL l) w):=by
 obtain⟨A,c,rfl,hc,hm⟩:=h.form;go_enter Tryz.func150,Tryz.ntmps150
 go_wp2;go_loopw [3,10] (fun s3 s10 wr=>∃(k:Nat) (out:List Dm) (A3:Option Addr) (c3:Nat),k<=l.length/\s10= .int .i64 k/\s3= .slice A3 out.length c3/\Hid (jO out (l.drop k)=iL l)/\Hid (Sorted out)/\aC 60 3 aT w.heap.size wr (.slice A3 out.length c3) out/\Below w.heap.size w wr) (fun _ i _=>l.length-(intOf i).toNat)
 case atStart=>exact⟨0,[],_,_,zero_le _,rfl,rfl,OA rfl,OA vP,iK w _ rfl _ (le_refl _),(Below.refl _ _).al _⟩
 case round=>
  obtain⟨k,out,A3,c3,hk,rfl,rfl,Hg,Hso,hown,hbel⟩:=hrel;have hol:=vQ Hso.out;obtain⟨wo,rfl⟩:∃wo:World,wo=wr:=⟨_,rfl⟩;by_cases hlt:k<l.length
  . obtain⟨b,off,rfl,hb,q1,q2,q3⟩:=(h.Oz hbel).jJ hlt;have hg:=Hg.out;rw[drop_eq_getElem_cons hlt,zC]at hg;obtain⟨d,hd⟩:=Oy (l[k]);rw[<-hd]at q1 q2 q3 hg;obtain⟨x,y,dn⟩:=d;simp only at q1 q2 q3;have bD:=Blk.bK wo 60 #[.int .i64 x,.int .i64 y,.bool dn];rcases hok:aH (x,y,dn)with _|_
    . have e : jR out (x, y, dn) = out := by unfold jR; rw [hok]; rfl
      rw[e]at hg;have Hg2:=OA hg;have Hok:=OA hok;clear hg hok hd e;go_wp2_with fail
      refine(aW x y dn _).mono ?_;rintro e w1 ⟨rfl,hb1⟩;rw[Hok.out];go_wp2;go_roundw
      case rel=>exact⟨k+1,out,A3,c3,by omega,by go_num,rfl,Hg2,Hso,(hown.alloc _).below hb1,(hbel.al _).tr hb1⟩
      case measure=>simp[intOf];omega
    . have hst:=wD out hok;have Hst:=OA hst;have Hg2:=OA hg;have Hok:=OA hok;clear hst hg hok hd;go_wp2_with fail
      refine(aW x y dn _).mono ?_;rintro e w1 ⟨rfl,hb1⟩;rw[Hok.out];have own1:=(hown.alloc (.cells #[.int .i64 x,.int .i64 y,.bool dn] 60)).below hb1;have bD1:=bD.bl hb1;have B1:=(hbel.al (.cells #[.int .i64 x,.int .i64 y,.bool dn] 60)).tr hb1;obtain⟨gd,hgd⟩:=Oy wo.heap.size;rw[<-hgd]at bD1⊢;obtain⟨P,hP⟩:=Oy (lN (x,y,dn) out);have hPle:P<=out.length:=by rw[hP];exact EY _ _
      obtain⟨E,hE⟩:∃E,E=if out[P]? =some (x,y,dn)then P+1 else P:=⟨_,rfl⟩
      have hEle:E<=out.length:=by
       rw[hE];split
       . rename_i q;have:=(List.getElem?_eq_some_iff.1 q).1;omega
       . exact hPle
      have hback:∀j,(hj:j<out.length)->(aP out[j]>aP (x,y,dn)↔E<=j):=fun j hj=>by rw[hE,hP];exact FJ Hso.out Hok.out hj
      rw[<-hP]at Hst
      have hneD:ownBlock (.slice A3 out.length c3)≠some gd:=by
       intro e;have:=World.ownsRow.lt hown _ e;omega
      have HneD:=OA hneD;clear hneD;have Hback:=OA hback;have HE:=OA hE;have HP:=OA hP;clear hback hE hP hgd;go_wp2;go_loopw [6] (fun s6 wi=>∃j:Nat,E<=j/\j<=out.length/\s6= .int .i64 j/\aC 60 3 aT w.heap.size wi (.slice A3 out.length c3) out/\Blk wi gd 60 #[.int .i64 x,.int .i64 y,.bool dn]/\Below w.heap.size w wi) (fun i _=>(intOf i).toNat)
      case atStart=>exact⟨out.length,hEle,le_refl _,rfl,own1,bD1,B1⟩
      case round=>
       obtain⟨j,hj0,hj,rfl,hown2,hD2,hbel2⟩:=hrel;clear own1 bD1 B1 hown hbel bD q1 q2 q3 hb1;obtain⟨zd_0,zd_1,zd_2⟩:=hD2.n3;rcases Nat.eq_zero_or_pos j with hj00|hjp
       . have hno:¬out[P]? =some (x,y,dn):=by
          intro q;have:=HE.out;rw[if_pos q]at this;omega
         have hP0:P=j:=by have:=HE.out;rw[if_neg hno]at this;omega
         have HNo:=OA hno;clear hno;subst hP0;have hjz:(P:Int)<=0:=(by omega);have hjz2:P<=0:=(by omega);have hjz3:decide (0<P)=false:=by simp;omega
         have hjz4:decide ((0:Int)<(P:Int))=false:=by simp;omega
         have Hj:=OA hj00;clear hj00 hj0;go_wp2_with fail
         refine rB (fun _=>True) fun hHeld=>(tW 0)<|(tW 1)<|(tW 2)<|(tU 3)<|(tU 4)<|(tU 5)<|(tU 6)<|(tU 7)<|(tU 8)<|(tU 9)<|(tU 10)<|(tU 11)<|(tW 12)<|tD ?_
         have Bw:Below wr.heap.size wr wr.drew.drew:=(Below.refl _ _).drew.drew;go_wp2_with fail
         refine rB (fun _=>True) fun hHeld=>(tW 0)<|(tW 1)<|(tW 2)<|(tU 3)<|(tU 4)<|(tU 5)<|(tU 6)<|(tU 7)<|(tU 8)<|(tU 9)<|(tW 10)<|tD ?_
         have own3:=hown2.below Bw;have bD3:=hD2.bl Bw;have B3:=hbel2.tr Bw;clear hHeld zd_0 zd_1 zd_2 hown2 hD2 hbel2 Bw;obtain⟨W5,hW5⟩:=Oy wr.drew.drew;rw[<-hW5]at own3 bD3 B3⊢;clear hW5;have Hins:Hid (jO (out.take P++(x,y,dn)::out.drop P) (l.drop (k+1))=iL l):=OA (by rw[<-Hg2.out,Hst.out,if_neg HNo.out]);have Hsi:Hid (Sorted (out.take P++(x,y,dn)::out.drop P)):=OA (by have:=iO Hso.out (x,y,dn);rw[Hst.out,if_neg HNo.out]at this;exact this);have H8:Hid ((out.length+1)*24<=140737488355328):=OA (by omega);have HM:Hid (out.length+1<=maxLen):=OA (by unfold maxLen;omega);have hneD:=HneD.out;go_wp2_with (at_builtin;go_must (refine aG (enc:=aT) aI aB aM B3 own3 ((0,0,false):Dm) H8.out HM.out rfl _ _ rfl rfl rfl ?_);intro v4 w4 own4 hb4 hg4 hd4;obtain⟨A4,c4,rfl,hc4,hm4⟩:=own4.form)
         have bD4:=(bD3.alloc _).grown hg4 (fun e=>hneD e.symm);obtain⟨g4,hA4,hg40,hg41⟩:=own4.split (k:=0) (by simp);subst hA4
         have hneg:g4≠gd:=by
          have hl5:=bD3.lt;rcases hd4 with q|q
          . intro e;apply hneD;rw[<-q,e];rfl
          . simp[ownBlock]at q;omega
         clear hd4;simp only[length_append,length_singleton]at hc4 own4⊢;obtain⟨zd_0,zd_1,zd_2⟩:=bD4.n3;have hP4:¬c4=P:=(by omega);have hwP:IntKind.i64.wrap (((P:Nat):Int)+1)=((P:Nat):Int)+1:=i64_in _ (by omega);have hP0:(0:Int)<=((P:Nat):Int)+1:=(by omega);have hP1:((P:Nat):Int)+1<=(out.length:Int)+1:=(by omega);have hPn:(((P:Nat):Int)+1).toNat=P+1:=(by omega);have hPc:P+1<=c4:=(by omega);have hPi:((P:Nat):Int)<=(out.length:Int)+1:=(by omega);have hPl:P<=out.length:=(by omega);have own4d:aC 60 3 aT w.heap.size w4.drew (.slice (some ⟨g4,0,none⟩) (out.length+1) c4) (out++[(0,0,false)]):=own4.below (Below.refl _ _).drew;have bD4d:Blk w4.drew gd 60 #[.int .i64 x,.int .i64 y,.bool dn]:=bD4;have B4d:=hb4.drew;clear own4 bD4 hb4 zd_0 zd_1 zd_2;by_cases hcap:c4=P+1
         . go_wp2_with fail
           refine rB (fun _=>True) fun hHeld=>(tW 0)<|(tW 1)<|(tW 2)<|(tW 3)<|(tW 4)<|(tW 5)<|(tW 6)<|(tR [7])<|tL fun K hK=>?_
           (refine kC aI aB aM own4d P hPl rfl _ _ rfl _ _ _ _ _ _ rfl rfl (by omega) (by omega) (fun h=>by exfalso;omega) (fun h=>by simp) ?_;intro w5 own5 hg5)
           refine tK hK fun hHeld=>?_
           clear hK K;refine tD ?_;clear hHeld;have bD5:=bD4d.grown hg5 (by simp;omega);have B5:=B4d.grown hg5 B4d.size (fun k hk=>by injection hk with hk;omega);have hl5:((out++[((0,0,false):Dm)]).take (P+1)++out.drop P).length=out.length+1:=by simp;omega
           have hset:=lD out ((0,0,false):Dm) (x,y,dn) hPl;obtain⟨NW,hNW⟩:=Oy (out.take P++(x,y,dn)::out.drop P);have hNl:NW.length=out.length+1:=by rw[hNW];simp;omega
           rw[<-hNW]at Hins Hsi hset;obtain⟨L5,hL5⟩:=Oy ((out++[((0,0,false):Dm)]).take (P+1)++out.drop P);rw[<-hL5]at own5 hset hl5;have hk5:P<L5.length:=(by omega);obtain⟨u0,u1,u2,s0,s1,s2⟩:=own5.AA aB (k:=P) hk5;have hsf:=own5.free;have Hset:=OA hset;have HNl:=OA hNl;have Hk5:=OA hk5;clear hset hNl hNW hL5 hl5 own4d bD4d B4d hg5 hk5;have hpn:((P:Nat):Int)<(out.length:Int)+1:=(by omega);obtain⟨zd_0,zd_1,zd_2⟩:=bD5.n3;go_wp2;go_roundw
           case rel=>exact⟨k+1,NW,_,c4,by omega,by go_num,by rw[HNl.out],Hins,Hsi,by rw[HNl.out,<-Hset.out];exact own5.uT aB Hk5.out rfl,((B5.st _ _ (by first|exact hg40|simp)).st _ _ (by first|exact hg40|simp)).st _ _ (by first|exact hg40|simp)⟩
           case measure=>simp[intOf];omega
         . go_wp2_with fail
           refine rB (fun _=>True) fun hHeld=>(tW 0)<|(tW 1)<|(tW 2)<|(tW 3)<|(tW 4)<|(tW 5)<|(tW 6)<|(tR [7])<|tL fun K hK=>?_
           (refine kC aI aB aM own4d P hPl rfl _ _ rfl _ _ _ _ _ _ rfl rfl (by omega) (by omega) (fun h=>by simp) (fun h=>by simp) ?_;intro w5 own5 hg5)
           refine tK hK fun hHeld=>?_
           clear hK K;refine tD ?_;clear hHeld;have bD5:=bD4d.grown hg5 (by simp;omega);have B5:=B4d.grown hg5 B4d.size (fun k hk=>by injection hk with hk;omega);have hl5:((out++[((0,0,false):Dm)]).take (P+1)++out.drop P).length=out.length+1:=by simp;omega
           have hset:=lD out ((0,0,false):Dm) (x,y,dn) hPl;obtain⟨NW,hNW⟩:=Oy (out.take P++(x,y,dn)::out.drop P);have hNl:NW.length=out.length+1:=by rw[hNW];simp;omega
           rw[<-hNW]at Hins Hsi hset;obtain⟨L5,hL5⟩:=Oy ((out++[((0,0,false):Dm)]).take (P+1)++out.drop P);rw[<-hL5]at own5 hset hl5;have hk5:P<L5.length:=(by omega);obtain⟨u0,u1,u2,s0,s1,s2⟩:=own5.AA aB (k:=P) hk5;have hsf:=own5.free;have Hset:=OA hset;have HNl:=OA hNl;have Hk5:=OA hk5;clear hset hNl hNW hL5 hl5 own4d bD4d B4d hg5 hk5;have hpn:((P:Nat):Int)<(out.length:Int)+1:=(by omega);obtain⟨zd_0,zd_1,zd_2⟩:=bD5.n3;go_wp2;go_roundw
           case rel=>exact⟨k+1,NW,_,c4,by omega,by go_num,by rw[HNl.out],Hins,Hsi,by rw[HNl.out,<-Hset.out];exact own5.uT aB Hk5.out rfl,((B5.st _ _ (by first|exact hg40|simp)).st _ _ (by first|exact hg40|simp)).st _ _ (by first|exact hg40|simp)⟩
           case measure=>simp[intOf];omega
       . obtain ⟨i, rfl⟩ : ∃ i, j = i + 1 := ⟨j - 1, by omega⟩;have hil:i<out.length:=(by omega);obtain⟨g,hA,hg0,hg1⟩:=hown2.split hil;subst hA;obtain⟨e,he⟩:=Oy (out[i]);have hsl:=hown2.slot aB (by decide) hil;rw[<-he]at hsl;have heo:aH e=true:=by rw[he];exact Hso.out.1 _ (List.getElem_mem hil)
         have hcmp:=Hback.out i hil;rw[<-he]at hcmp;obtain⟨ex,ey,ed⟩:=e;have z0:=hsl 0 _ rfl;have z1:=hsl 1 _ rfl;have z2:=hsl 2 _ rfl;simp only[Nat.add_zero]at z0;obtain⟨o1,ho1⟩:=Oy (aP (ex,ey,ed));obtain⟨o2,ho2⟩:=Oy (aP (x,y,dn));rw[<-ho1,<-ho2]at hcmp;have Heo:=OA heo;have Ho1:=OA ho1;have Ho2:=OA ho2;have He:=OA he;clear hsl heo ho1 ho2 he;have hwi:IntKind.i64.wrap (i:Int)=(i:Int):=i64_in _ (by omega);have hi0:(0:Int)<=(i:Int):=(by omega);have hiI:(i:Int)<(out.length:Int):=(by omega);have hpd:=hD2.lt;have Bacc:=hbel2.drew;have Bw:Below wr.heap.size wr wr.drew:=(Below.refl _ _).drew;have hz:wr.heap.size<=wr.drew.heap.size:=(by simp);by_cases hEi:E<=i
         . have hgt:o2<o1:=hcmp.2 hEi;clear hcmp;go_wp2_with fail
           refine rB (fun w'=>w'.cell? ⟨g,i*3,none⟩=some (.int .i64 ex)/\w'.cell? ⟨g,i*3+1,none⟩=some (.int .i64 ey)/\w'.cell? ⟨g,i*3+2,none⟩=some (.bool ed)/\w'.cell? ⟨gd,0,none⟩=some (.int .i64 x)/\w'.cell? ⟨gd,1,none⟩=some (.int .i64 y)/\w'.cell? ⟨gd,2,none⟩=some (.bool dn)) fun hHeld=>(tW 0)<|(tW 1)<|(tW 2)<|(tW 3)<|(tW 4)<|(tW 5)<|(tW 6)<|(tW 7)<|(tW 9)<|(tR [8])<|tL fun K hK=>?_
           go_simp
           (first|(go_at_call 194;go_must (refine(uK _ _ _ _ _ (by first|exact Heo.out|exact Hok.out) (by first|exact Ho1.out|exact Ho2.out)).mono ?_;rintro e wX ⟨rfl,hbX⟩;obtain⟨hcX,hfX,hzX⟩:=bkn hbX wr.heap.size hz;have hz:=hzX;have Bw:=Bw.tr hbX);(try go_wp2_with fail)))
           refine tK hK fun hHeld=>?_
           clear hK K;refine(tR [10])<|tL fun K hK=>?_
           go_simp
           (first|(go_at_call 194;go_must (refine(uK _ _ _ _ _ (by first|exact Heo.out|exact Hok.out) (by first|exact Ho1.out|exact Ho2.out)).mono ?_;rintro e wX ⟨rfl,hbX⟩;obtain⟨hcX,hfX,hzX⟩:=bkn hbX wr.heap.size hz;have hz:=hzX;have Bw:=Bw.tr hbX);(try go_wp2_with fail)))
           refine tK hK fun hHeld=>?_
           clear hK K;refine(tW 11)<|(tW 12)<|tD ?_
           all_goals
             go_wp2;go_roundw
             case rel=>exact⟨i,hEi,by omega,by go_num,hown2.below Bw,hD2.bl Bw,hbel2.tr Bw⟩
             case measure=>simp[intOf]
         . have hle:o1<=o2:=by
            have:=mt hcmp.1 hEi;omega
           have hEj:E=i+1:=(by omega);clear hcmp;go_wp2_with fail
           refine rB (fun w'=>w'.cell? ⟨g,i*3,none⟩=some (.int .i64 ex)/\w'.cell? ⟨g,i*3+1,none⟩=some (.int .i64 ey)/\w'.cell? ⟨g,i*3+2,none⟩=some (.bool ed)/\w'.cell? ⟨gd,0,none⟩=some (.int .i64 x)/\w'.cell? ⟨gd,1,none⟩=some (.int .i64 y)/\w'.cell? ⟨gd,2,none⟩=some (.bool dn)) fun hHeld=>(tW 0)<|(tW 1)<|(tW 2)<|(tW 3)<|(tW 4)<|(tW 5)<|(tW 6)<|(tW 7)<|(tW 9)<|(tR [8])<|tL fun K hK=>?_
           go_simp
           (first|(go_at_call 194;go_must (refine(uK _ _ _ _ _ (by first|exact Heo.out|exact Hok.out) (by first|exact Ho1.out|exact Ho2.out)).mono ?_;rintro e wX ⟨rfl,hbX⟩;obtain⟨hcX,hfX,hzX⟩:=bkn hbX wr.heap.size hz;have hz:=hzX;have Bw:=Bw.tr hbX);(try go_wp2_with fail)))
           refine tK hK fun hHeld=>?_
           clear hK K;refine(tR [10])<|tL fun K hK=>?_
           go_simp
           (first|(go_at_call 194;go_must (refine(uK _ _ _ _ _ (by first|exact Heo.out|exact Hok.out) (by first|exact Ho1.out|exact Ho2.out)).mono ?_;rintro e wX ⟨rfl,hbX⟩;obtain⟨hcX,hfX,hzX⟩:=bkn hbX wr.heap.size hz;have hz:=hzX;have Bw:=Bw.tr hbX);(try go_wp2_with fail)))
           refine tK hK fun hHeld=>?_
           clear hK K;refine(tW 11)<|(tW 12)<|tD ?_
           all_goals
             have own3:=hown2.below Bw;have bD3:=hD2.bl Bw;have B3:=hbel2.tr Bw;have hlow:=hD2.lt;clear hHeld z0 z1 z2 zd_0 zd_1 zd_2 hown2 hD2 hbel2 Bw hz hcX hfX hzX hbX Bacc;obtain⟨W4,hW4⟩:=Oy wX;subst hW4;have hsl:=own3.slot aB (by decide) hil;rw[<-He.out]at hsl;have z0:=hsl 0 _ rfl;have z1:=hsl 1 _ rfl;have z2:=hsl 2 _ rfl;simp only[Nat.add_zero]at z0;clear hsl;obtain⟨zd_0,zd_1,zd_2⟩:=bD3.n3;by_cases hyes:out[P]? =some (x,y,dn)
             . have hPi : P = i := by have := HE.out; rw [if_pos hyes] at this; omega
               subst hPi
               have he2:(ex,ey,ed)=(x,y,dn):=by
                rw[List.getElem?_eq_getElem hil,Option.some.injEq]at hyes;rw[He.out,hyes]
               simp only[Prod.mk.injEq]at he2;obtain⟨rfl,rfl,rfl⟩:=he2;have HG:Hid (jO out (l.drop (k+1))=iL l):=OA (by rw[<-Hg2.out,Hst.out,if_pos hyes]);clear hyes;go_wp2_with fail
               refine rB (fun w'=>w'.cell? ⟨g,P*3,none⟩=some (.int .i64 ex)/\w'.cell? ⟨g,P*3+1,none⟩=some (.int .i64 ey)/\w'.cell? ⟨g,P*3+2,none⟩=some (.bool ed)/\w'.cell? ⟨gd,0,none⟩=some (.int .i64 ex)/\w'.cell? ⟨gd,1,none⟩=some (.int .i64 ey)/\w'.cell? ⟨gd,2,none⟩=some (.bool ed)) fun hHeld=>(tW 0)<|(tW 1)<|(tW 2)<|(tW 3)<|(tW 4)<|(tW 5)<|(tW 6)<|(tW 7)<|(tW 8)<|(tW 9)<|(tW 10)<|tD ?_
               go_wp2;go_roundw
               case rel=>exact⟨k+1,out,_,c3,by omega,by go_num,rfl,HG,Hso,own3.below ((Below.refl _ _).drew),B3.drew⟩
               case measure=>simp[intOf];omega
             . have hPi : P = i + 1 := by have := HE.out; rw [if_neg hyes] at this; omega
               have hne : ¬ (ex, ey, ed) = (x, y, dn) := fun q => by
                have h1:=xM (x,y,dn) out i hil (by rw[<-HP.out];omega);rw[<-He.out,q]at h1;omega
               have HNo:=OA hyes;clear hyes;by_cases h1:ex=x
               . obtain rfl:x=ex:=h1.symm;by_cases h2:ey=y
                 . obtain rfl:y=ey:=h2.symm;by_cases h3:ed=dn
                   . exfalso;apply hne;rw[h3]
                   . have Hne:=OA hne;clear hne;go_wp2_with fail
                     refine rB (fun w'=>w'.cell? ⟨g,i*3,none⟩=some (.int .i64 x)/\w'.cell? ⟨g,i*3+1,none⟩=some (.int .i64 y)/\w'.cell? ⟨g,i*3+2,none⟩=some (.bool ed)/\w'.cell? ⟨gd,0,none⟩=some (.int .i64 x)/\w'.cell? ⟨gd,1,none⟩=some (.int .i64 y)/\w'.cell? ⟨gd,2,none⟩=some (.bool dn)) fun hHeld=>(tW 0)<|(tW 1)<|(tW 2)<|(tW 3)<|(tW 4)<|(tW 5)<|(tW 6)<|(tW 7)<|(tW 8)<|(tW 9)<|(tW 10)<|tD ?_
                     have own6:=own3.below ((Below.refl _ _).drew);have bD6:=bD3.bl ((Below.refl _ _).drew);have B6:=B3.drew;clear hHeld z0 z1 z2 zd_0 zd_1 zd_2 own3 bD3 B3;obtain⟨W5,hW5⟩:=Oy W4.drew;rw[<-hW5]at own6 bD6 B6⊢;clear hW5 hwi hi0 hiI;first|rw[show((i:Int)+1)=(P:Int) by omega]|rw[show(((i+1:Nat)):Int)=(P:Int) by omega]
                     have HPi:=OA hPi;clear hPi;have Hins:Hid (jO (out.take P++(x,y,dn)::out.drop P) (l.drop (k+1))=iL l):=OA (by rw[<-Hg2.out,Hst.out,if_neg HNo.out]);have Hsi:Hid (Sorted (out.take P++(x,y,dn)::out.drop P)):=OA (by have:=iO Hso.out (x,y,dn);rw[Hst.out,if_neg HNo.out]at this;exact this);have H8:Hid ((out.length+1)*24<=140737488355328):=OA (by omega);have HM:Hid (out.length+1<=maxLen):=OA (by unfold maxLen;omega);have hneD:=HneD.out;go_wp2_with (at_builtin;go_must (refine aG (enc:=aT) aI aB aM B6 own6 ((0,0,false):Dm) H8.out HM.out rfl _ _ rfl rfl rfl ?_);intro v4 w4 own4 hb4 hg4 hd4;obtain⟨A4,c4,rfl,hc4,hm4⟩:=own4.form)
                     have bD4:=(bD6.alloc _).grown hg4 (fun e=>hneD e.symm);obtain⟨g4,hA4,hg40,hg41⟩:=own4.split (k:=0) (by simp);subst hA4
                     have hneg:g4≠gd:=by
                      have hl5:=bD6.lt;rcases hd4 with q|q
                      . intro e;apply hneD;rw[<-q,e];rfl
                      . simp[ownBlock]at q;omega
                     clear hd4;simp only[length_append,length_singleton]at hc4 own4⊢;obtain⟨zd_0,zd_1,zd_2⟩:=bD4.n3;have hP4:¬c4=P:=(by omega);have hwP:IntKind.i64.wrap (((P:Nat):Int)+1)=((P:Nat):Int)+1:=i64_in _ (by omega);have hP0:(0:Int)<=((P:Nat):Int)+1:=(by omega);have hP1:((P:Nat):Int)+1<=(out.length:Int)+1:=(by omega);have hPn:(((P:Nat):Int)+1).toNat=P+1:=(by omega);have hPc:P+1<=c4:=(by omega);have hPi:((P:Nat):Int)<=(out.length:Int)+1:=(by omega);have hPl:P<=out.length:=(by omega);have own4d:aC 60 3 aT w.heap.size w4.drew (.slice (some ⟨g4,0,none⟩) (out.length+1) c4) (out++[(0,0,false)]):=own4.below (Below.refl _ _).drew;have bD4d:Blk w4.drew gd 60 #[.int .i64 x,.int .i64 y,.bool dn]:=bD4;have B4d:=hb4.drew;clear own4 bD4 hb4 zd_0 zd_1 zd_2;by_cases hcap:c4=P+1
                     . go_wp2_with fail
                       refine rB (fun _=>True) fun hHeld=>(tW 0)<|(tW 1)<|(tW 2)<|(tW 3)<|(tW 4)<|(tW 5)<|(tW 6)<|(tR [7])<|tL fun K hK=>?_
                       (refine kC aI aB aM own4d P hPl rfl _ _ rfl _ _ _ _ _ _ rfl rfl (by omega) (by omega) (fun h=>by exfalso;omega) (fun h=>by simp) ?_;intro w5 own5 hg5)
                       refine tK hK fun hHeld=>?_
                       clear hK K;refine tD ?_;clear hHeld;have bD5:=bD4d.grown hg5 (by simp;omega);have B5:=B4d.grown hg5 B4d.size (fun k hk=>by injection hk with hk;omega);have hl5:((out++[((0,0,false):Dm)]).take (P+1)++out.drop P).length=out.length+1:=by simp;omega
                       have hset:=lD out ((0,0,false):Dm) (x,y,dn) hPl;obtain⟨NW,hNW⟩:=Oy (out.take P++(x,y,dn)::out.drop P);have hNl:NW.length=out.length+1:=by rw[hNW];simp;omega
                       rw[<-hNW]at Hins Hsi hset;obtain⟨L5,hL5⟩:=Oy ((out++[((0,0,false):Dm)]).take (P+1)++out.drop P);rw[<-hL5]at own5 hset hl5;have hk5:P<L5.length:=(by omega);obtain⟨u0,u1,u2,s0,s1,s2⟩:=own5.AA aB (k:=P) hk5;have hsf:=own5.free;have Hset:=OA hset;have HNl:=OA hNl;have Hk5:=OA hk5;clear hset hNl hNW hL5 hl5 own4d bD4d B4d hg5 hk5;have hpn:((P:Nat):Int)<(out.length:Int)+1:=(by omega);obtain⟨zd_0,zd_1,zd_2⟩:=bD5.n3;go_wp2;go_roundw
                       case rel=>exact⟨k+1,NW,_,c4,by omega,by go_num,by rw[HNl.out],Hins,Hsi,by rw[HNl.out,<-Hset.out];exact own5.uT aB Hk5.out rfl,((B5.st _ _ (by first|exact hg40|simp)).st _ _ (by first|exact hg40|simp)).st _ _ (by first|exact hg40|simp)⟩
                       case measure=>simp[intOf];omega
                     . go_wp2_with fail
                       refine rB (fun _=>True) fun hHeld=>(tW 0)<|(tW 1)<|(tW 2)<|(tW 3)<|(tW 4)<|(tW 5)<|(tW 6)<|(tR [7])<|tL fun K hK=>?_
                       (refine kC aI aB aM own4d P hPl rfl _ _ rfl _ _ _ _ _ _ rfl rfl (by omega) (by omega) (fun h=>by simp) (fun h=>by simp) ?_;intro w5 own5 hg5)
                       refine tK hK fun hHeld=>?_
                       clear hK K;refine tD ?_;clear hHeld;have bD5:=bD4d.grown hg5 (by simp;omega);have B5:=B4d.grown hg5 B4d.size (fun k hk=>by injection hk with hk;omega);have hl5:((out++[((0,0,false):Dm)]).take (P+1)++out.drop P).length=out.length+1:=by simp;omega
                       have hset:=lD out ((0,0,false):Dm) (x,y,dn) hPl;obtain⟨NW,hNW⟩:=Oy (out.take P++(x,y,dn)::out.drop P);have hNl:NW.length=out.length+1:=by rw[hNW];simp;omega
                       rw[<-hNW]at Hins Hsi hset;obtain⟨L5,hL5⟩:=Oy ((out++[((0,0,false):Dm)]).take (P+1)++out.drop P);rw[<-hL5]at own5 hset hl5;have hk5:P<L5.length:=(by omega);obtain⟨u0,u1,u2,s0,s1,s2⟩:=own5.AA aB (k:=P) hk5;have hsf:=own5.free;have Hset:=OA hset;have HNl:=OA hNl;have Hk5:=OA hk5;clear hset hNl hNW hL5 hl5 own4d bD4d B4d hg5 hk5;have hpn:((P:Nat):Int)<(out.length:Int)+1:=(by omega);obtain⟨zd_0,zd_1,zd_2⟩:=bD5.n3;go_wp2;go_roundw
                       case rel=>exact⟨k+1,NW,_,c4,by omega,by go_num,by rw[HNl.out],Hins,Hsi,by rw[HNl.out,<-Hset.out];exact own5.uT aB Hk5.out rfl,((B5.st _ _ (by first|exact hg40|simp)).st _ _ (by first|exact hg40|simp)).st _ _ (by first|exact hg40|simp)⟩
                       case measure=>simp[intOf];omega
                 . have Hne:=OA hne;clear hne;go_wp2_with fail
                   refine rB (fun w'=>w'.cell? ⟨g,i*3,none⟩=some (.int .i64 x)/\w'.cell? ⟨g,i*3+1,none⟩=some (.int .i64 ey)/\w'.cell? ⟨g,i*3+2,none⟩=some (.bool ed)/\w'.cell? ⟨gd,0,none⟩=some (.int .i64 x)/\w'.cell? ⟨gd,1,none⟩=some (.int .i64 y)/\w'.cell? ⟨gd,2,none⟩=some (.bool dn)) fun hHeld=>(tW 0)<|(tW 1)<|(tW 2)<|(tW 3)<|(tW 4)<|(tW 5)<|(tW 6)<|(tW 7)<|(tW 8)<|(tW 9)<|(tW 10)<|tD ?_
                   have own6:=own3.below ((Below.refl _ _).drew);have bD6:=bD3.bl ((Below.refl _ _).drew);have B6:=B3.drew;clear hHeld z0 z1 z2 zd_0 zd_1 zd_2 own3 bD3 B3;obtain⟨W5,hW5⟩:=Oy W4.drew;rw[<-hW5]at own6 bD6 B6⊢;clear hW5 hwi hi0 hiI;first|rw[show((i:Int)+1)=(P:Int) by omega]|rw[show(((i+1:Nat)):Int)=(P:Int) by omega]
                   have HPi:=OA hPi;clear hPi;have Hins:Hid (jO (out.take P++(x,y,dn)::out.drop P) (l.drop (k+1))=iL l):=OA (by rw[<-Hg2.out,Hst.out,if_neg HNo.out]);have Hsi:Hid (Sorted (out.take P++(x,y,dn)::out.drop P)):=OA (by have:=iO Hso.out (x,y,dn);rw[Hst.out,if_neg HNo.out]at this;exact this);have H8:Hid ((out.length+1)*24<=140737488355328):=OA (by omega);have HM:Hid (out.length+1<=maxLen):=OA (by unfold maxLen;omega);have hneD:=HneD.out;go_wp2_with (at_builtin;go_must (refine aG (enc:=aT) aI aB aM B6 own6 ((0,0,false):Dm) H8.out HM.out rfl _ _ rfl rfl rfl ?_);intro v4 w4 own4 hb4 hg4 hd4;obtain⟨A4,c4,rfl,hc4,hm4⟩:=own4.form)
                   have bD4:=(bD6.alloc _).grown hg4 (fun e=>hneD e.symm);obtain⟨g4,hA4,hg40,hg41⟩:=own4.split (k:=0) (by simp);subst hA4
                   have hneg:g4≠gd:=by
                    have hl5:=bD6.lt;rcases hd4 with q|q
                    . intro e;apply hneD;rw[<-q,e];rfl
                    . simp[ownBlock]at q;omega
                   clear hd4;simp only[length_append,length_singleton]at hc4 own4⊢;obtain⟨zd_0,zd_1,zd_2⟩:=bD4.n3;have hP4:¬c4=P:=(by omega);have hwP:IntKind.i64.wrap (((P:Nat):Int)+1)=((P:Nat):Int)+1:=i64_in _ (by omega);have hP0:(0:Int)<=((P:Nat):Int)+1:=(by omega);have hP1:((P:Nat):Int)+1<=(out.length:Int)+1:=(by omega);have hPn:(((P:Nat):Int)+1).toNat=P+1:=(by omega);have hPc:P+1<=c4:=(by omega);have hPi:((P:Nat):Int)<=(out.length:Int)+1:=(by omega);have hPl:P<=out.length:=(by omega);have own4d:aC 60 3 aT w.heap.size w4.drew (.slice (some ⟨g4,0,none⟩) (out.length+1) c4) (out++[(0,0,false)]):=own4.below (Below.refl _ _).drew;have bD4d:Blk w4.drew gd 60 #[.int .i64 x,.int .i64 y,.bool dn]:=bD4;have B4d:=hb4.drew;clear own4 bD4 hb4 zd_0 zd_1 zd_2;by_cases hcap:c4=P+1
                   . go_wp2_with fail
                     refine rB (fun _=>True) fun hHeld=>(tW 0)<|(tW 1)<|(tW 2)<|(tW 3)<|(tW 4)<|(tW 5)<|(tW 6)<|(tR [7])<|tL fun K hK=>?_
                     (refine kC aI aB aM own4d P hPl rfl _ _ rfl _ _ _ _ _ _ rfl rfl (by omega) (by omega) (fun h=>by exfalso;omega) (fun h=>by simp) ?_;intro w5 own5 hg5)
                     refine tK hK fun hHeld=>?_
                     clear hK K;refine tD ?_;clear hHeld;have bD5:=bD4d.grown hg5 (by simp;omega);have B5:=B4d.grown hg5 B4d.size (fun k hk=>by injection hk with hk;omega);have hl5:((out++[((0,0,false):Dm)]).take (P+1)++out.drop P).length=out.length+1:=by simp;omega
                     have hset:=lD out ((0,0,false):Dm) (x,y,dn) hPl;obtain⟨NW,hNW⟩:=Oy (out.take P++(x,y,dn)::out.drop P);have hNl:NW.length=out.length+1:=by rw[hNW];simp;omega
                     rw[<-hNW]at Hins Hsi hset;obtain⟨L5,hL5⟩:=Oy ((out++[((0,0,false):Dm)]).take (P+1)++out.drop P);rw[<-hL5]at own5 hset hl5;have hk5:P<L5.length:=(by omega);obtain⟨u0,u1,u2,s0,s1,s2⟩:=own5.AA aB (k:=P) hk5;have hsf:=own5.free;have Hset:=OA hset;have HNl:=OA hNl;have Hk5:=OA hk5;clear hset hNl hNW hL5 hl5 own4d bD4d B4d hg5 hk5;have hpn:((P:Nat):Int)<(out.length:Int)+1:=(by omega);obtain⟨zd_0,zd_1,zd_2⟩:=bD5.n3;go_wp2;go_roundw
                     case rel=>exact⟨k+1,NW,_,c4,by omega,by go_num,by rw[HNl.out],Hins,Hsi,by rw[HNl.out,<-Hset.out];exact own5.uT aB Hk5.out rfl,((B5.st _ _ (by first|exact hg40|simp)).st _ _ (by first|exact hg40|simp)).st _ _ (by first|exact hg40|simp)⟩
                     case measure=>simp[intOf];omega
                   . go_wp2_with fail
                     refine rB (fun _=>True) fun hHeld=>(tW 0)<|(tW 1)<|(tW 2)<|(tW 3)<|(tW 4)<|(tW 5)<|(tW 6)<|(tR [7])<|tL fun K hK=>?_
                     (refine kC aI aB aM own4d P hPl rfl _ _ rfl _ _ _ _ _ _ rfl rfl (by omega) (by omega) (fun h=>by simp) (fun h=>by simp) ?_;intro w5 own5 hg5)
                     refine tK hK fun hHeld=>?_
                     clear hK K;refine tD ?_;clear hHeld;have bD5:=bD4d.grown hg5 (by simp;omega);have B5:=B4d.grown hg5 B4d.size (fun k hk=>by injection hk with hk;omega);have hl5:((out++[((0,0,false):Dm)]).take (P+1)++out.drop P).length=out.length+1:=by simp;omega
                     have hset:=lD out ((0,0,false):Dm) (x,y,dn) hPl;obtain⟨NW,hNW⟩:=Oy (out.take P++(x,y,dn)::out.drop P);have hNl:NW.length=out.length+1:=by rw[hNW];simp;omega
                     rw[<-hNW]at Hins Hsi hset;obtain⟨L5,hL5⟩:=Oy ((out++[((0,0,false):Dm)]).take (P+1)++out.drop P);rw[<-hL5]at own5 hset hl5;have hk5:P<L5.length:=(by omega);obtain⟨u0,u1,u2,s0,s1,s2⟩:=own5.AA aB (k:=P) hk5;have hsf:=own5.free;have Hset:=OA hset;have HNl:=OA hNl;have Hk5:=OA hk5;clear hset hNl hNW hL5 hl5 own4d bD4d B4d hg5 hk5;have hpn:((P:Nat):Int)<(out.length:Int)+1:=(by omega);obtain⟨zd_0,zd_1,zd_2⟩:=bD5.n3;go_wp2;go_roundw
                     case rel=>exact⟨k+1,NW,_,c4,by omega,by go_num,by rw[HNl.out],Hins,Hsi,by rw[HNl.out,<-Hset.out];exact own5.uT aB Hk5.out rfl,((B5.st _ _ (by first|exact hg40|simp)).st _ _ (by first|exact hg40|simp)).st _ _ (by first|exact hg40|simp)⟩
                     case measure=>simp[intOf];omega
               . have Hne:=OA hne;clear hne;go_wp2_with fail
                 refine rB (fun w'=>w'.cell? ⟨g,i*3,none⟩=some (.int .i64 ex)/\w'.cell? ⟨g,i*3+1,none⟩=some (.int .i64 ey)/\w'.cell? ⟨g,i*3+2,none⟩=some (.bool ed)/\w'.cell? ⟨gd,0,none⟩=some (.int .i64 x)/\w'.cell? ⟨gd,1,none⟩=some (.int .i64 y)/\w'.cell? ⟨gd,2,none⟩=some (.bool dn)) fun hHeld=>(tW 0)<|(tW 1)<|(tW 2)<|(tW 3)<|(tW 4)<|(tW 5)<|(tW 6)<|(tW 7)<|(tW 8)<|(tW 9)<|(tW 10)<|tD ?_
                 have own6:=own3.below ((Below.refl _ _).drew);have bD6:=bD3.bl ((Below.refl _ _).drew);have B6:=B3.drew;clear hHeld z0 z1 z2 zd_0 zd_1 zd_2 own3 bD3 B3;obtain⟨W5,hW5⟩:=Oy W4.drew;rw[<-hW5]at own6 bD6 B6⊢;clear hW5 hwi hi0 hiI;first|rw[show((i:Int)+1)=(P:Int) by omega]|rw[show(((i+1:Nat)):Int)=(P:Int) by omega]
                 have HPi:=OA hPi;clear hPi;have Hins:Hid (jO (out.take P++(x,y,dn)::out.drop P) (l.drop (k+1))=iL l):=OA (by rw[<-Hg2.out,Hst.out,if_neg HNo.out]);have Hsi:Hid (Sorted (out.take P++(x,y,dn)::out.drop P)):=OA (by have:=iO Hso.out (x,y,dn);rw[Hst.out,if_neg HNo.out]at this;exact this);have H8:Hid ((out.length+1)*24<=140737488355328):=OA (by omega);have HM:Hid (out.length+1<=maxLen):=OA (by unfold maxLen;omega);have hneD:=HneD.out;go_wp2_with (at_builtin;go_must (refine aG (enc:=aT) aI aB aM B6 own6 ((0,0,false):Dm) H8.out HM.out rfl _ _ rfl rfl rfl ?_);intro v4 w4 own4 hb4 hg4 hd4;obtain⟨A4,c4,rfl,hc4,hm4⟩:=own4.form)
                 have bD4:=(bD6.alloc _).grown hg4 (fun e=>hneD e.symm);obtain⟨g4,hA4,hg40,hg41⟩:=own4.split (k:=0) (by simp);subst hA4
                 have hneg:g4≠gd:=by
                  have hl5:=bD6.lt;rcases hd4 with q|q
                  . intro e;apply hneD;rw[<-q,e];rfl
                  . simp[ownBlock]at q;omega
                 clear hd4;simp only[length_append,length_singleton]at hc4 own4⊢;obtain⟨zd_0,zd_1,zd_2⟩:=bD4.n3;have hP4:¬c4=P:=(by omega);have hwP:IntKind.i64.wrap (((P:Nat):Int)+1)=((P:Nat):Int)+1:=i64_in _ (by omega);have hP0:(0:Int)<=((P:Nat):Int)+1:=(by omega);have hP1:((P:Nat):Int)+1<=(out.length:Int)+1:=(by omega);have hPn:(((P:Nat):Int)+1).toNat=P+1:=(by omega);have hPc:P+1<=c4:=(by omega);have hPi:((P:Nat):Int)<=(out.length:Int)+1:=(by omega);have hPl:P<=out.length:=(by omega);have own4d:aC 60 3 aT w.heap.size w4.drew (.slice (some ⟨g4,0,none⟩) (out.length+1) c4) (out++[(0,0,false)]):=own4.below (Below.refl _ _).drew;have bD4d:Blk w4.drew gd 60 #[.int .i64 x,.int .i64 y,.bool dn]:=bD4;have B4d:=hb4.drew;clear own4 bD4 hb4 zd_0 zd_1 zd_2;by_cases hcap:c4=P+1
                 . go_wp2_with fail
                   refine rB (fun _=>True) fun hHeld=>(tW 0)<|(tW 1)<|(tW 2)<|(tW 3)<|(tW 4)<|(tW 5)<|(tW 6)<|(tR [7])<|tL fun K hK=>?_
                   (refine kC aI aB aM own4d P hPl rfl _ _ rfl _ _ _ _ _ _ rfl rfl (by omega) (by omega) (fun h=>by exfalso;omega) (fun h=>by simp) ?_;intro w5 own5 hg5)
                   refine tK hK fun hHeld=>?_
                   clear hK K;refine tD ?_;clear hHeld;have bD5:=bD4d.grown hg5 (by simp;omega);have B5:=B4d.grown hg5 B4d.size (fun k hk=>by injection hk with hk;omega);have hl5:((out++[((0,0,false):Dm)]).take (P+1)++out.drop P).length=out.length+1:=by simp;omega
                   have hset:=lD out ((0,0,false):Dm) (x,y,dn) hPl;obtain⟨NW,hNW⟩:=Oy (out.take P++(x,y,dn)::out.drop P);have hNl:NW.length=out.length+1:=by rw[hNW];simp;omega
                   rw[<-hNW]at Hins Hsi hset;obtain⟨L5,hL5⟩:=Oy ((out++[((0,0,false):Dm)]).take (P+1)++out.drop P);rw[<-hL5]at own5 hset hl5;have hk5:P<L5.length:=(by omega);obtain⟨u0,u1,u2,s0,s1,s2⟩:=own5.AA aB (k:=P) hk5;have hsf:=own5.free;have Hset:=OA hset;have HNl:=OA hNl;have Hk5:=OA hk5;clear hset hNl hNW hL5 hl5 own4d bD4d B4d hg5 hk5;have hpn:((P:Nat):Int)<(out.length:Int)+1:=(by omega);obtain⟨zd_0,zd_1,zd_2⟩:=bD5.n3;go_wp2;go_roundw
                   case rel=>exact⟨k+1,NW,_,c4,by omega,by go_num,by rw[HNl.out],Hins,Hsi,by rw[HNl.out,<-Hset.out];exact own5.uT aB Hk5.out rfl,((B5.st _ _ (by first|exact hg40|simp)).st _ _ (by first|exact hg40|simp)).st _ _ (by first|exact hg40|simp)⟩
                   case measure=>simp[intOf];omega
                 . go_wp2_with fail
                   refine rB (fun _=>True) fun hHeld=>(tW 0)<|(tW 1)<|(tW 2)<|(tW 3)<|(tW 4)<|(tW 5)<|(tW 6)<|(tR [7])<|tL fun K hK=>?_
                   (refine kC aI aB aM own4d P hPl rfl _ _ rfl _ _ _ _ _ _ rfl rfl (by omega) (by omega) (fun h=>by simp) (fun h=>by simp) ?_;intro w5 own5 hg5)
                   refine tK hK fun hHeld=>?_
                   clear hK K;refine tD ?_;clear hHeld;have bD5:=bD4d.grown hg5 (by simp;omega);have B5:=B4d.grown hg5 B4d.size (fun k hk=>by injection hk with hk;omega);have hl5:((out++[((0,0,false):Dm)]).take (P+1)++out.drop P).length=out.length+1:=by simp;omega
                   have hset:=lD out ((0,0,false):Dm) (x,y,dn) hPl;obtain⟨NW,hNW⟩:=Oy (out.take P++(x,y,dn)::out.drop P);have hNl:NW.length=out.length+1:=by rw[hNW];simp;omega
                   rw[<-hNW]at Hins Hsi hset;obtain⟨L5,hL5⟩:=Oy ((out++[((0,0,false):Dm)]).take (P+1)++out.drop P);rw[<-hL5]at own5 hset hl5;have hk5:P<L5.length:=(by omega);obtain⟨u0,u1,u2,s0,s1,s2⟩:=own5.AA aB (k:=P) hk5;have hsf:=own5.free;have Hset:=OA hset;have HNl:=OA hNl;have Hk5:=OA hk5;clear hset hNl hNW hL5 hl5 own4d bD4d B4d hg5 hk5;have hpn:((P:Nat):Int)<(out.length:Int)+1:=(by omega);obtain⟨zd_0,zd_1,zd_2⟩:=bD5.n3;go_wp2;go_roundw
                   case rel=>exact⟨k+1,NW,_,c4,by omega,by go_num,by rw[HNl.out],Hins,Hsi,by rw[HNl.out,<-Hset.out];exact own5.uT aB Hk5.out rfl,((B5.st _ _ (by first|exact hg40|simp)).st _ _ (by first|exact hg40|simp)).st _ _ (by first|exact hg40|simp)⟩
                   case measure=>simp[intOf];omega
  . obtain rfl : k = l.length := by omega
    have hg:=Hg.out;rw[drop_of_length_le (le_refl _)]at hg;have hg2:out=iL l:=hg;clear hg;subst hg2;go_wp2;go_ret;exact⟨_,_,rfl,hown,hbel⟩
theorem Gg (x y:Int):jP (x,y)=(inB x 0 6&&inB y 0 6):=by
 unfold jP inB;rw[Bool.eq_iff_iff];simp only[Bool.and_eq_true,decide_eq_true_eq]
theorem uA {l:List Dm} {c:Cl} (h:jP c=false):kindOf l c=0:=by unfold kindOf;rw[h];rfl
theorem Ic {l:List Dm} {x y:Int} (h:jP (x,y)=true):decide (kindOf l (x,y)≠0)=((l.contains (x,y,false)&&l.contains (x,y+1,false))||(l.contains (x,y,true)&&l.contains (x+1,y,true))):=by
 unfold kindOf eO nQ rJ;rw[h,if_pos rfl];simp only;rcases l.contains (x,y,false)&&l.contains (x,y+1,false)with _|_
 . rcases l.contains (x,y,true)&&l.contains (x+1,y,true)with _|_<;>rfl
 . rfl
theorem qU (v:Value) (l:List Dm) (x y:Int) (w:World) (h:Rd 3 aU w v l):Calls prog 147 #[v,.agg #[.int .i64 x,.int .i64 y]] w (Ret (.bool (decide (kindOf l (x,y)≠0))) w):=by
 obtain⟨A,c,rfl,hc,hm⟩:=h.form;have hA:=(Below.refl w.heap.size w).al (.cells #[.int .i64 x,.int .i64 y] 70);have hin:=Gg x y;rcases hx:inB x 0 6 with _|_
 . have e : decide (kindOf l (x, y) ≠ 0) = false := by rw [uA (by rw [hin, hx]; rfl)]; rfl
   rw[e];have Hx:=OA hx;clear hx hin e;go_enter func147,ntmps147
   go_wp2_with fail
   refine(fI _ _ _ _).mono ?_;rintro e w1 ⟨rfl,rfl⟩;rw[Hx.out];go_wp2;go_ret;exact⟨rfl,hA⟩
 . rcases hy:inB y 0 6 with _|_
   . have e : decide (kindOf l (x, y) ≠ 0) = false := by rw [uA (by rw [hin, hx, hy]; rfl)]; rfl
     rw[e];have Hx:=OA hx;have Hy:=OA hy;clear hx hy hin e;go_enter func147,ntmps147
     go_wp2_with fail
     refine(fI _ _ _ _).mono ?_;rintro e w1 ⟨rfl,rfl⟩;rw[Hx.out];go_wp2_with fail
     refine(fI _ _ _ _).mono ?_;rintro e w2 ⟨rfl,rfl⟩;rw[Hy.out];go_wp2;go_ret;exact⟨rfl,hA⟩
   . have hinf : jP (x, y) = true := by rw [hin, hx, hy]; rfl
     have hk:=Ic (l:=l) hinf;obtain⟨R,hR⟩:=Oy (decide (kindOf l (x,y)≠0));rw[<-hR]at hk⊢;have HA:∃b,b=l.contains (x,y,false):=⟨_,rfl⟩;obtain⟨a1,ha1⟩:=HA;obtain⟨a2,ha2⟩:=Oy (l.contains (x,y+1,false));obtain⟨d1,hd1⟩:=Oy (l.contains (x,y,true));obtain⟨d2,hd2⟩:=Oy (l.contains (x+1,y,true));rw[<-ha1,<-ha2,<-hd1,<-hd2]at hk;have Hx:=OA hx;have Hy:=OA hy;have Hinf:=OA hinf;have Ha1:=OA ha1.symm;have Ha2:=OA ha2.symm;have Hd1:=OA hd1.symm;have Hd2:=OA hd2.symm;have Hk:=OA hk;clear hx hy hin hinf ha1 ha2 hd1 hd2 hR hk;go_enter func147,ntmps147
     go_wp2_with fail
     refine(fI _ _ _ _).mono ?_;rintro e w1 ⟨rfl,rfl⟩;rw[Hx.out];go_wp2_with fail
     refine(fI _ _ _ _).mono ?_;rintro e w2 ⟨rfl,rfl⟩;rw[Hy.out];go_wp2_with fail
     refine(Bg x y _ Hinf.out).mono ?_;rintro e w3 ⟨rfl,hb3⟩;have B3:=((hA.tr hb3).al (.cells #[.int .i64 x,.int .i64 y,.bool false,.int .i64 x,.int .i64 (y+1),.bool false] 156)).al (.cells #[.int .i64 x,.int .i64 y,.bool true,.int .i64 (x+1),.int .i64 y,.bool true] 156);have b1':=(Blk.bK w3 156 #[.int .i64 x,.int .i64 y,.bool false,.int .i64 x,.int .i64 (y+1),.bool false]).alloc (.cells #[.int .i64 x,.int .i64 y,.bool true,.int .i64 (x+1),.int .i64 y,.bool true] 156);have b2':=Blk.iV (w3.alloc (.cells #[.int .i64 x,.int .i64 y,.bool false,.int .i64 x,.int .i64 (y+1),.bool false] 156)) 156 #[.int .i64 x,.int .i64 y,.bool true,.int .i64 (x+1),.int .i64 y,.bool true] (w3.heap.size+1) (by simp);obtain⟨u_0,u_1,u_2,u_3,u_4,u_5⟩:=b1'.n6;obtain⟨t_0,t_1,t_2,t_3,t_4,t_5⟩:=b2'.n6;go_wp2_with fail
     refine(fZ _ l x y false _ (h.Oz B3)).mono ?_;rintro e w4 ⟨rfl,hb4⟩;rw[Ha1.out];have B4:=B3.tr hb4;clear u_0 u_1 u_2 u_3 u_4 u_5 t_0 t_1 t_2 t_3 t_4 t_5;have b1':=b1'.bl hb4;have b2':=b2'.bl hb4;obtain⟨u_0,u_1,u_2,u_3,u_4,u_5⟩:=b1'.n6;obtain⟨t_0,t_1,t_2,t_3,t_4,t_5⟩:=b2'.n6;rcases a1 with _|_
     . skip;go_wp2_with fail
       refine(fZ _ l x y true _ (h.Oz B4)).mono ?_;rintro e w5 ⟨rfl,hb5⟩;rw[Hd1.out];have B5:=B4.tr hb5;clear u_0 u_1 u_2 u_3 u_4 u_5 t_0 t_1 t_2 t_3 t_4 t_5;have b1':=b1'.bl hb5;have b2':=b2'.bl hb5;obtain⟨u_0,u_1,u_2,u_3,u_4,u_5⟩:=b1'.n6;obtain⟨t_0,t_1,t_2,t_3,t_4,t_5⟩:=b2'.n6;rcases d1 with _|_
       . have HR := OA (show false = R by rw [Hk.out]; cases a2 <;> cases d2 <;> rfl);go_wp2;go_ret;exact⟨kN HR.out,B5⟩
       . skip;go_wp2_with fail
         refine(fZ _ l (x+1) y true _ (h.Oz B5)).mono ?_;rintro e w6 ⟨rfl,hb6⟩;rw[Hd2.out];have B6:=B5.tr hb6;clear u_0 u_1 u_2 u_3 u_4 u_5 t_0 t_1 t_2 t_3 t_4 t_5;have b1':=b1'.bl hb6;have b2':=b2'.bl hb6;obtain⟨u_0,u_1,u_2,u_3,u_4,u_5⟩:=b1'.n6;obtain⟨t_0,t_1,t_2,t_3,t_4,t_5⟩:=b2'.n6;have HR:=OA (show d2=R by rw[Hk.out];cases a2<;>cases d2<;>rfl);go_wp2;go_ret;exact⟨kN HR.out,B6⟩
     . skip;go_wp2_with fail
       refine(fZ _ l x (y+1) false _ (h.Oz B4)).mono ?_;rintro e w5 ⟨rfl,hb5⟩;rw[Ha2.out];have B5:=B4.tr hb5;clear u_0 u_1 u_2 u_3 u_4 u_5 t_0 t_1 t_2 t_3 t_4 t_5;have b1':=b1'.bl hb5;have b2':=b2'.bl hb5;obtain⟨u_0,u_1,u_2,u_3,u_4,u_5⟩:=b1'.n6;obtain⟨t_0,t_1,t_2,t_3,t_4,t_5⟩:=b2'.n6;rcases a2 with _|_
       . skip;go_wp2_with fail
         refine(fZ _ l x y true _ (h.Oz B5)).mono ?_;rintro e w6 ⟨rfl,hb6⟩;rw[Hd1.out];have B6:=B5.tr hb6;clear u_0 u_1 u_2 u_3 u_4 u_5 t_0 t_1 t_2 t_3 t_4 t_5;have b1':=b1'.bl hb6;have b2':=b2'.bl hb6;obtain⟨u_0,u_1,u_2,u_3,u_4,u_5⟩:=b1'.n6;obtain⟨t_0,t_1,t_2,t_3,t_4,t_5⟩:=b2'.n6;rcases d1 with _|_
         . have HR := OA (show false = R by rw [Hk.out]; cases d2 <;> rfl);go_wp2;go_ret;exact⟨kN HR.out,B6⟩
         . skip;go_wp2_with fail
           refine(fZ _ l (x+1) y true _ (h.Oz B6)).mono ?_;rintro e w7 ⟨rfl,hb7⟩;rw[Hd2.out];have B7:=B6.tr hb7;clear u_0 u_1 u_2 u_3 u_4 u_5 t_0 t_1 t_2 t_3 t_4 t_5;have b1':=b1'.bl hb7;have b2':=b2'.bl hb7;obtain⟨u_0,u_1,u_2,u_3,u_4,u_5⟩:=b1'.n6;obtain⟨t_0,t_1,t_2,t_3,t_4,t_5⟩:=b2'.n6;have HR:=OA (show d2=R by rw[Hk.out];cases d2<;>rfl);go_wp2;go_ret;exact⟨kN HR.out,B7⟩
       . have HR := OA (show true = R by rw [Hk.out]; cases d1 <;> cases d2 <;> rfl);go_wp2;go_ret;exact⟨kN HR.out,B5⟩
theorem aO {P:Program} {ops:Array Oper} {rest:List Oper} {o:Oper} {a:Act} {Q:Exit->Act->World->Prop} {α:Type} {t E:TypeId} {z:Value} {size bytes:Nat} (R:Row P t E z size bytes)
    {enc:α->List Value} (henc:∀x,(enc x).length=size) (h1:∀x,∀u∈enc x,u.oneCell'=true)
    {W0 w:World} (hbel:Below W0.heap.size W0 w) {v:Value} {l:List α} (hown:aC E size enc W0.heap.size w v l) (y:α)
    (hlen:(l.length+1)*bytes<=140737488355328) (hlen2:l.length+1<=maxLen) {g:Nat} (hg:g=w.heap.size)
    (hgd:o.guard=none) (s x:Operand) (ho:o.op= .call {callee:= .builtin .append,args:= #[s,x],argTypes:= #[t,t]})
    (hs:a.eval s=v) (hx:a.eval x= .slice (some ⟨g,0,none⟩) 1 1)
    (h:∀v' w',aC E size enc W0.heap.size w' v' (l++[y])->Below W0.heap.size W0 w'->(w.alloc (.cells (enc y).toArray E)).grownBy w' v.ownBlock->(v'.ownBlock=v.ownBlock∨v'.ownBlock=some (w.heap.size+1))->wpList P ops Q rest (a.put o.dst v') w'):
    wpList P ops Q (o::rest) a (w.alloc (.cells (enc y).toArray E)):=by
 subst hg;exact aG R henc h1 hbel hown y hlen hlen2 hgd s x ho hs hx h
def iG {α:Type} (E:TypeId) (size:Nat) (enc:α->List Value) (l:List α) (b:Bool) (w:World) (e:Ending) (w':World):Prop:=
 ∃A c,e= .returned (.tuple #[.slice A l.length c,.bool b])/\aC E size enc w.heap.size w' (.slice A l.length c) l/\Below w.heap.size w w'
theorem aA {P:Program} {ops:Array Oper} {rest:List Oper} {o:Oper} {a:Act} {w:World} {Q:Exit->Act->World->Prop} (hgd:o.guard=none) (ty:TypeId) (x y:Operand) (ho:o.op= .store ty x y)
    (g:Nat) (cells:Array Value) (hx:a.eval x= .pointer (some ⟨g,0,none⟩)) (hy:a.eval y= .agg cells)
    (t:TypeId) (old:Array Value) (hg:Blk w g t old) (hi:(P.info? ty).map (·.size)=some cells.size) (hold:old.size=cells.size) (h1:cells.all (·.oneCell')=true)
    (h:∀w',Blk w' g t cells->w.grownBy w' (some g)->wpList P ops Q rest (a.put o.dst undef) w'):wpList P ops Q (o::rest) a w:=
 wpList_store_row hgd ty x y ho g cells hx hy t old hg hi hold h1 (h _ (setRow_heap w g old cells t (0,0) hg) (I1 cells))
theorem Gh {l:List Dm} {c:Cl} (h:¬kindOf l c=0):jP c=true:=by
 rcases q:jP c with _|_
 . exact absurd (uA q) h
 . rfl
theorem iZ {a b:Int} {c:Bool} {x y:Int} {d:Bool} (h:¬((a,b,c):Dm)=(x,y,d)):(¬a=x)∨(x=a/\¬b=y)∨(x=a/\y=b/\¬c=d):=by
 by_cases h1:a=x
 . by_cases h2:b=y
   . exact .inr (.inr ⟨h1.symm,h2.symm,fun h3=>h (by rw[h1,h2,h3])⟩)
   . exact .inr (.inl ⟨h1.symm,h2⟩)
 . exact .inl h1
theorem xO (W:World) (a b:Dm) (B:Nat) (hB:B<=W.heap.size):aC 60 3 aT B (W.alloc (.cells #[.int .i64 a.1,.int .i64 a.2.1,.bool a.2.2,.int .i64 b.1,.int .i64 b.2.1,.bool b.2.2] 60)) (.slice (some ⟨W.heap.size,0,none⟩) 2 2) [a,b]:=by
 have:=World.ownsRow_lit (e:=60) (size:=3) W #[.int .i64 a.1,.int .i64 a.2.1,.bool a.2.2,.int .i64 b.1,.int .i64 b.2.1,.bool b.2.2] 2 (le_refl _) (by simp[maxLen]) (by simp);exact Go.Joins.ownsRow_le this hB
set_option maxHeartbeats 8000000 in
theorem zD (v:Value) (l:List Dm) (x y:Int) (w:World) (h:Rd 3 aU w v l) (hl:Small l.length):Calls prog 91 #[v,.agg #[.int .i64 x,.int .i64 y]] w (iG 60 3 aT (iM l (x,y)).1 (iM l (x,y)).2 w):=by
 obtain⟨A,c,rfl,hc,hm⟩:=h.form;have hA:=(Below.refl w.heap.size w).al (.cells #[.int .i64 x,.int .i64 y] 70);have bC:=Blk.bK w 70 #[.int .i64 x,.int .i64 y];by_cases hk:kindOf l (x,y)=0
 . have e : iM l (x, y) = (l, false) := by unfold iM; rw [if_pos hk]
   rw[e];have Hc:Hid (decide (kindOf l (x,y)≠0)=false):=OA (by simp[hk]);clear hk e;go_enter func91,ntmps91
   go_wp2_with fail
   refine(qU _ l x y _ (h.Oz hA)).mono ?_;rintro e w1 ⟨rfl,hb1⟩;rw[Hc.out];have B1:=hA.tr hb1;go_wp2_with fail
   refine(cZ _ l _ (h.Oz B1) hl).mono ?_;rintro e w2 ⟨A2,c2,rfl,own2,hb2⟩;go_wp2;go_ret2
   exact⟨A2,c2,rfl,own2.mono B1.size,B1.tr hb2⟩
 . have e : iM l (x, y) = (aS l (x, y), true) := by unfold iM; rw [if_neg hk]
   rw[e];have hinf:=Gh hk;have Hc:Hid (decide (kindOf l (x,y)≠0)=true):=OA (by simp[hk]);have Hinf:=OA hinf;clear hinf e;have hkv:kindOf l (x,y)=if eO l (nQ (x,y))then 1 else if eO l (rJ (x,y))then 2 else 0:=by unfold kindOf;rw[Hinf.out,if_pos rfl]
   have hab:eO l (nQ (x,y))=(l.contains (x,y,false)&&l.contains (x,y+1,false)):=rfl;obtain⟨a1,ha1⟩:=Oy (l.contains (x,y,false));obtain⟨a2,ha2⟩:=Oy (l.contains (x,y+1,false));rw[<-ha1,<-ha2]at hab;have Ha1:=OA ha1.symm;have Ha2:=OA ha2.symm;have Hk:=OA hk;have Hkv:=OA hkv;have Hab:=OA hab;clear ha1 ha2 hk hkv hab;go_enter func91,ntmps91
   have zc0:=bC.cell 0;go_wp2_with fail
   refine(qU _ l x y _ (h.Oz hA)).mono ?_;rintro e w1 ⟨rfl,hb1⟩;rw[Hc.out];have B1:=hA.tr hb1;clear zc0;have bC1:=bC.bl hb1;obtain⟨zc_0,zc_1⟩:=bC1.n2;go_wp2_with fail
   refine(Bg x y _ Hinf.out).mono ?_;rintro e w3 ⟨rfl,hb3⟩;have B3:=((B1.tr hb3).al (.cells #[.int .i64 x,.int .i64 y,.bool false,.int .i64 x,.int .i64 (y+1),.bool false] 156)).al (.cells #[.int .i64 x,.int .i64 y,.bool true,.int .i64 (x+1),.int .i64 y,.bool true] 156);have b1':=(Blk.bK w3 156 #[.int .i64 x,.int .i64 y,.bool false,.int .i64 x,.int .i64 (y+1),.bool false]).alloc (.cells #[.int .i64 x,.int .i64 y,.bool true,.int .i64 (x+1),.int .i64 y,.bool true] 156);have b2':=Blk.iV (w3.alloc (.cells #[.int .i64 x,.int .i64 y,.bool false,.int .i64 x,.int .i64 (y+1),.bool false] 156)) 156 #[.int .i64 x,.int .i64 y,.bool true,.int .i64 (x+1),.int .i64 y,.bool true] (w3.heap.size+1) (by simp);clear zc_0 zc_1 bC1;obtain⟨u_0,u_1,u_2,u_3,u_4,u_5⟩:=b1'.n6;obtain⟨t_0,t_1,t_2,t_3,t_4,t_5⟩:=b2'.n6;go_wp2_with fail
   refine(fZ _ l x y false _ (h.Oz B3)).mono ?_;rintro e w4 ⟨rfl,hb4⟩;rw[Ha1.out];have B4:=B3.tr hb4;clear u_0 u_1 u_2 u_3 u_4 u_5 t_0 t_1 t_2 t_3 t_4 t_5;have b1':=b1'.bl hb4;have b2':=b2'.bl hb4;obtain⟨u_0,u_1,u_2,u_3,u_4,u_5⟩:=b1'.n6;obtain⟨t_0,t_1,t_2,t_3,t_4,t_5⟩:=b2'.n6;rcases a1 with _|_
   . skip
     have hkk:kindOf l (x,y)=2:=by
      have h0:=Hk.out;have h1:=Hkv.out;have h2:eO l (nQ (x,y))=false:=by rw[Hab.out];rfl
      rw[h2]at h1;simp only[Bool.false_eq_true,if_false]at h1;by_cases q:eO l (rJ (x,y))=true
      . rw[h1,if_pos q]
      . rw[if_neg q]at h1;exact absurd h1 h0
     obtain⟨g7,hg7⟩:=Oy (w3.heap.size+1);obtain⟨g6,hg6⟩:=Oy w3.heap.size;have hg67:g6≠g7:=(by omega);have hg60:w.heap.size<=g6:=by have:=(B1.tr hb3).size;omega
     have hg70:w.heap.size<=g7:=(by omega);rw[<-hg7]at b2'⊢;rw[<-hg6]at b1'⊢;clear hg6 hg7 u_0 u_1 u_2 u_3 u_4 u_5 t_0 t_1 t_2 t_3 t_4 t_5;obtain⟨u_0,u_1,u_2,u_3,u_4,u_5⟩:=b1'.n6;obtain⟨t_0,t_1,t_2,t_3,t_4,t_5⟩:=b2'.n6;go_wp2_with (first|(refine aA rfl 156 _ _ rfl g6 #[.int .i64 x,.int .i64 y,.bool true,.int .i64 (x+1),.int .i64 y,.bool true] rfl rfl _ _ b1' (by kernel_rfl) rfl (by simp[oneCell']) ?_;intro wS hbS hgS;have BS:=B4.grown hgS B4.size (fun k hk=>by injection hk with hk;omega);have b2':=b2'.grown hgS (by simp;omega))|(refine aA rfl 156 _ _ rfl g7 #[.int .i64 x,.int .i64 y,.bool false,.int .i64 x,.int .i64 (y+1),.bool false] rfl rfl _ _ b2' (by kernel_rfl) rfl (by simp[oneCell']) ?_;intro wT hbT hgT;have b1s:=hbS.grown hgT (by simp;omega);have BT:=BS.grown hgT BS.size (fun k hk=>by injection hk with hk;omega);clear u_0 u_1 u_2 u_3 u_4 u_5 t_0 t_1 t_2 t_3 t_4 t_5;obtain⟨u_0,u_1,u_2,u_3,u_4,u_5⟩:=b1s.n6;obtain⟨t_0,t_1,t_2,t_3,t_4,t_5⟩:=hbT.n6))
     obtain⟨gx,hgx⟩:∃n:Int,n=x:=⟨_,rfl⟩;obtain⟨gy,hgy⟩:∃n:Int,n=y:=⟨_,rfl⟩;obtain⟨gb,hgb⟩:∃n:Bool,n=true:=⟨_,rfl⟩;obtain⟨kx,hkx⟩:∃n:Int,n=x+1:=⟨_,rfl⟩;obtain⟨ky,hky⟩:∃n:Int,n=y:=⟨_,rfl⟩;obtain⟨kb,hkb⟩:∃n:Bool,n=true:=⟨_,rfl⟩;have b6:Blk wT g6 156 #[.int .i64 gx,.int .i64 gy,.bool gb,.int .i64 kx,.int .i64 ky,.bool kb]:=by rw[hgx,hgy,hgb,hkx,hky,hkb];exact b1s
     have HGN:Hid (lT (kindOf l (x,y)) (x,y)=((gx,gy,gb),(kx,ky,kb))/\nJ (kindOf l (x,y)) (x,y)=((x,y,false),(x,y+1,false))):=OA (by rw[hkk,hgx,hgy,hgb,hkx,hky,hkb];exact⟨rfl,rfl⟩);clear hgx hgy hgb hkx hky hkb hkk b1' b2';clear u_0 u_1 u_2 u_3 u_4 u_5 t_0 t_1 t_2 t_3 t_4 t_5;have own0:aC 60 3 aT w.heap.size (wT.alloc (.cells #[.int .i64 x,.int .i64 y,.bool false,.int .i64 x,.int .i64 (y+1),.bool false] 60)) (.slice (some ⟨wT.heap.size,0,none⟩) 2 2) [((x,y,false):Dm),(x,(y+1),false)]:=xO _ (x,y,false) (x,(y+1),false) _ BT.size;have b60:=b6.alloc (.cells #[.int .i64 x,.int .i64 y,.bool false,.int .i64 x,.int .i64 (y+1),.bool false] 60);have B0:=BT.al (.cells #[.int .i64 x,.int .i64 y,.bool false,.int .i64 x,.int .i64 (y+1),.bool false] 60);go_wp2;go_loopw [8,43] (fun s8 s43 wr=>∃(k:Nat) (out:List Dm) (A8:Option Addr) (c8:Nat),k<=l.length/\out.length<=k+2/\s43= .int .i64 k/\s8= .slice A8 out.length c8/\Hid (out++(l.drop k).filter (keepD ((gx,gy,gb),(kx,ky,kb)))=iF l ((gx,gy,gb),(kx,ky,kb)) ((x,y,false),(x,(y+1),false)))/\aC 60 3 aT w.heap.size wr (.slice A8 out.length c8) out/\Blk wr g6 156 #[.int .i64 gx,.int .i64 gy,.bool gb,.int .i64 kx,.int .i64 ky,.bool kb]/\Below w.heap.size w wr) (fun _ i _=>l.length-(intOf i).toNat)
     case atStart=>exact⟨0,[((x,y,false):Dm),(x,(y+1),false)],_,_,zero_le _,by simp,rfl,rfl,OA rfl,own0,b60,B0⟩
     case round=>
      obtain⟨k,out,A8,c8,hk,hol,rfl,rfl,Hg,hown,hb6,hbel⟩:=hrel;clear own0 b60 B0;by_cases hlt:k<l.length
      . obtain⟨b,off,rfl,hb,q1,q2,q3⟩:=(h.Oz hbel).jJ hlt;have hg:=Hg.out;rw[drop_eq_getElem_cons hlt,filter_cons]at hg;obtain⟨d,hd⟩:=Oy (l[k]);rw[<-hd]at q1 q2 q3 hg;obtain⟨ex,ey,ed⟩:=d;simp only at q1 q2 q3;obtain⟨u_0,u_1,u_2,u_3,u_4,u_5⟩:=hb6.n6;have hl6:=hb6.lt;have hn6:g6≠wr.heap.size:=(by omega);have B1:=hbel.al (.cells #[.int .i64 ex,.int .i64 ey,.bool ed] 60);have own1:=hown.alloc (.cells #[.int .i64 ex,.int .i64 ey,.bool ed] 60);have b61:=hb6.alloc (.cells #[.int .i64 ex,.int .i64 ey,.bool ed] 60);have H8:Hid ((out.length+1)*24<=140737488355328):=OA (by unfold Small at hl;omega);have HM:Hid (out.length+1<=maxLen):=OA (by unfold Small at hl;unfold maxLen;omega);clear hd;by_cases e1:((ex,ey,ed):Dm)=(gx,gy,gb)
        . rw [if_neg (by rw [e1]; simp [keepD])] at hg;have Hg2:=OA hg;clear hg;simp only[Prod.mk.injEq]at e1;obtain⟨rfl,rfl,rfl⟩:=e1;go_wp2;go_roundw
          case rel=>exact⟨k+1,out,A8,c8,by omega,by omega,by go_num,rfl,Hg2,own1,b61,B1⟩
          case measure=>simp[intOf];omega
        . by_cases e2:((ex,ey,ed):Dm)=(kx,ky,kb)
          . rw [if_neg (by rw [e2]; simp [keepD])] at hg;have Hg2:=OA hg;clear hg;simp only[Prod.mk.injEq]at e2;obtain⟨rfl,rfl,rfl⟩:=e2;rcases iZ e1 with p|⟨rfl,p⟩|⟨rfl,rfl,p⟩
            . clear e1;go_wp2;go_roundw
              case rel=>exact⟨k+1,out,A8,c8,by omega,by omega,by go_num,rfl,Hg2,own1,b61,B1⟩
              case measure=>simp[intOf];omega
            . clear e1;go_wp2;go_roundw
              case rel=>exact⟨k+1,out,A8,c8,by omega,by omega,by go_num,rfl,Hg2,own1,b61,B1⟩
              case measure=>simp[intOf];omega
            . clear e1;go_wp2;go_roundw
              case rel=>exact⟨k+1,out,A8,c8,by omega,by omega,by go_num,rfl,Hg2,own1,b61,B1⟩
              case measure=>simp[intOf];omega
          . rw [if_pos (by simp only [keepD, decide_eq_false e1, decide_eq_false e2]; rfl), <- List.singleton_append, <- append_assoc] at hg;have Hg2:=OA hg;clear hg;rcases iZ e1 with p|⟨rfl,p⟩|⟨rfl,rfl,p⟩<;>rcases iZ e2 with q|⟨rfl,q⟩|⟨rfl,rfl,q⟩
            all_goals
              clear e1 e2;go_wp2_with (at_builtin;go_must (first|(refine aO (enc:=aT) aI aB aM B1 own1 ((ex,ey,ed):Dm) H8.out HM.out (by simp) rfl _ _ rfl rfl rfl ?_)|(refine aO (enc:=aT) aI aB aM B1 own1 ((ex,gy,ed):Dm) H8.out HM.out (by simp) rfl _ _ rfl rfl rfl ?_)|(refine aO (enc:=aT) aI aB aM B1 own1 ((ex,ky,ed):Dm) H8.out HM.out (by simp) rfl _ _ rfl rfl rfl ?_)|(refine aO (enc:=aT) aI aB aM B1 own1 ((gx,ey,ed):Dm) H8.out HM.out (by simp) rfl _ _ rfl rfl rfl ?_)|(refine aO (enc:=aT) aI aB aM B1 own1 ((gx,gy,ed):Dm) H8.out HM.out (by simp) rfl _ _ rfl rfl rfl ?_)|(refine aO (enc:=aT) aI aB aM B1 own1 ((gx,ky,ed):Dm) H8.out HM.out (by simp) rfl _ _ rfl rfl rfl ?_)|(refine aO (enc:=aT) aI aB aM B1 own1 ((kx,ey,ed):Dm) H8.out HM.out (by simp) rfl _ _ rfl rfl rfl ?_)|(refine aO (enc:=aT) aI aB aM B1 own1 ((kx,gy,ed):Dm) H8.out HM.out (by simp) rfl _ _ rfl rfl rfl ?_)|(refine aO (enc:=aT) aI aB aM B1 own1 ((kx,ky,ed):Dm) H8.out HM.out (by simp) rfl _ _ rfl rfl rfl ?_));intro v4 w4 own4 hb4 hg4 hd4;obtain⟨A4,c4,rfl,hc4,hm4⟩:=own4.form)
              have b64:=(b61.alloc _).grown hg4 (fun e=>(own1.apart b61 (by decide)) e.symm);go_roundw
              case rel=>exact⟨k+1,_,A4,c4,by omega,by simp;omega,by go_num,by simp,Hg2,own4,b64,hb4⟩
              case measure=>simp[intOf];omega
      . obtain rfl : k = l.length := by omega
        have hg:=Hg.out;rw[drop_of_length_le (le_refl _),filter_nil,append_nil]at hg;have Hout:=OA hg;clear hg;go_wp2_with fail
        refine(yG _ out _ (hown.rd aB (by decide))).mono ?_;rintro e w70 ⟨A70,c70,rfl,own70,hb70⟩;go_wp2;go_ret2
        have e9:iL out=aS l (x,y):=by rw[Hout.out];unfold aS;rw[HGN.out.1,HGN.out.2]
        rw[e9]at own70⊢;exact⟨A70,c70,rfl,own70.mono hbel.size,hbel.tr hb70⟩
   . skip;go_wp2_with fail
     refine(fZ _ l x (y+1) false _ (h.Oz B4)).mono ?_;rintro e w5 ⟨rfl,hb5⟩;rw[Ha2.out];have B5:=B4.tr hb5;clear u_0 u_1 u_2 u_3 u_4 u_5 t_0 t_1 t_2 t_3 t_4 t_5;have b1':=b1'.bl hb5;have b2':=b2'.bl hb5;obtain⟨u_0,u_1,u_2,u_3,u_4,u_5⟩:=b1'.n6;obtain⟨t_0,t_1,t_2,t_3,t_4,t_5⟩:=b2'.n6;rcases a2 with _|_
     . skip
       have hkk:kindOf l (x,y)=2:=by
        have h0:=Hk.out;have h1:=Hkv.out;have h2:eO l (nQ (x,y))=false:=by rw[Hab.out];rfl
        rw[h2]at h1;simp only[Bool.false_eq_true,if_false]at h1;by_cases q:eO l (rJ (x,y))=true
        . rw[h1,if_pos q]
        . rw[if_neg q]at h1;exact absurd h1 h0
       obtain⟨g7,hg7⟩:=Oy (w3.heap.size+1);obtain⟨g6,hg6⟩:=Oy w3.heap.size;have hg67:g6≠g7:=(by omega);have hg60:w.heap.size<=g6:=by have:=(B1.tr hb3).size;omega
       have hg70:w.heap.size<=g7:=(by omega);rw[<-hg7]at b2'⊢;rw[<-hg6]at b1'⊢;clear hg6 hg7 u_0 u_1 u_2 u_3 u_4 u_5 t_0 t_1 t_2 t_3 t_4 t_5;obtain⟨u_0,u_1,u_2,u_3,u_4,u_5⟩:=b1'.n6;obtain⟨t_0,t_1,t_2,t_3,t_4,t_5⟩:=b2'.n6;go_wp2_with (first|(refine aA rfl 156 _ _ rfl g6 #[.int .i64 x,.int .i64 y,.bool true,.int .i64 (x+1),.int .i64 y,.bool true] rfl rfl _ _ b1' (by kernel_rfl) rfl (by simp[oneCell']) ?_;intro wS hbS hgS;have BS:=B5.grown hgS B5.size (fun k hk=>by injection hk with hk;omega);have b2':=b2'.grown hgS (by simp;omega))|(refine aA rfl 156 _ _ rfl g7 #[.int .i64 x,.int .i64 y,.bool false,.int .i64 x,.int .i64 (y+1),.bool false] rfl rfl _ _ b2' (by kernel_rfl) rfl (by simp[oneCell']) ?_;intro wT hbT hgT;have b1s:=hbS.grown hgT (by simp;omega);have BT:=BS.grown hgT BS.size (fun k hk=>by injection hk with hk;omega);clear u_0 u_1 u_2 u_3 u_4 u_5 t_0 t_1 t_2 t_3 t_4 t_5;obtain⟨u_0,u_1,u_2,u_3,u_4,u_5⟩:=b1s.n6;obtain⟨t_0,t_1,t_2,t_3,t_4,t_5⟩:=hbT.n6))
       obtain⟨gx,hgx⟩:∃n:Int,n=x:=⟨_,rfl⟩;obtain⟨gy,hgy⟩:∃n:Int,n=y:=⟨_,rfl⟩;obtain⟨gb,hgb⟩:∃n:Bool,n=true:=⟨_,rfl⟩;obtain⟨kx,hkx⟩:∃n:Int,n=x+1:=⟨_,rfl⟩;obtain⟨ky,hky⟩:∃n:Int,n=y:=⟨_,rfl⟩;obtain⟨kb,hkb⟩:∃n:Bool,n=true:=⟨_,rfl⟩;have b6:Blk wT g6 156 #[.int .i64 gx,.int .i64 gy,.bool gb,.int .i64 kx,.int .i64 ky,.bool kb]:=by rw[hgx,hgy,hgb,hkx,hky,hkb];exact b1s
       have HGN:Hid (lT (kindOf l (x,y)) (x,y)=((gx,gy,gb),(kx,ky,kb))/\nJ (kindOf l (x,y)) (x,y)=((x,y,false),(x,y+1,false))):=OA (by rw[hkk,hgx,hgy,hgb,hkx,hky,hkb];exact⟨rfl,rfl⟩);clear hgx hgy hgb hkx hky hkb hkk b1' b2';clear u_0 u_1 u_2 u_3 u_4 u_5 t_0 t_1 t_2 t_3 t_4 t_5;have own0:aC 60 3 aT w.heap.size (wT.alloc (.cells #[.int .i64 x,.int .i64 y,.bool false,.int .i64 x,.int .i64 (y+1),.bool false] 60)) (.slice (some ⟨wT.heap.size,0,none⟩) 2 2) [((x,y,false):Dm),(x,(y+1),false)]:=xO _ (x,y,false) (x,(y+1),false) _ BT.size;have b60:=b6.alloc (.cells #[.int .i64 x,.int .i64 y,.bool false,.int .i64 x,.int .i64 (y+1),.bool false] 60);have B0:=BT.al (.cells #[.int .i64 x,.int .i64 y,.bool false,.int .i64 x,.int .i64 (y+1),.bool false] 60);go_wp2;go_loopw [8,43] (fun s8 s43 wr=>∃(k:Nat) (out:List Dm) (A8:Option Addr) (c8:Nat),k<=l.length/\out.length<=k+2/\s43= .int .i64 k/\s8= .slice A8 out.length c8/\Hid (out++(l.drop k).filter (keepD ((gx,gy,gb),(kx,ky,kb)))=iF l ((gx,gy,gb),(kx,ky,kb)) ((x,y,false),(x,(y+1),false)))/\aC 60 3 aT w.heap.size wr (.slice A8 out.length c8) out/\Blk wr g6 156 #[.int .i64 gx,.int .i64 gy,.bool gb,.int .i64 kx,.int .i64 ky,.bool kb]/\Below w.heap.size w wr) (fun _ i _=>l.length-(intOf i).toNat)
       case atStart=>exact⟨0,[((x,y,false):Dm),(x,(y+1),false)],_,_,zero_le _,by simp,rfl,rfl,OA rfl,own0,b60,B0⟩
       case round=>
        obtain⟨k,out,A8,c8,hk,hol,rfl,rfl,Hg,hown,hb6,hbel⟩:=hrel;clear own0 b60 B0;by_cases hlt:k<l.length
        . obtain⟨b,off,rfl,hb,q1,q2,q3⟩:=(h.Oz hbel).jJ hlt;have hg:=Hg.out;rw[drop_eq_getElem_cons hlt,filter_cons]at hg;obtain⟨d,hd⟩:=Oy (l[k]);rw[<-hd]at q1 q2 q3 hg;obtain⟨ex,ey,ed⟩:=d;simp only at q1 q2 q3;obtain⟨u_0,u_1,u_2,u_3,u_4,u_5⟩:=hb6.n6;have hl6:=hb6.lt;have hn6:g6≠wr.heap.size:=(by omega);have B1:=hbel.al (.cells #[.int .i64 ex,.int .i64 ey,.bool ed] 60);have own1:=hown.alloc (.cells #[.int .i64 ex,.int .i64 ey,.bool ed] 60);have b61:=hb6.alloc (.cells #[.int .i64 ex,.int .i64 ey,.bool ed] 60);have H8:Hid ((out.length+1)*24<=140737488355328):=OA (by unfold Small at hl;omega);have HM:Hid (out.length+1<=maxLen):=OA (by unfold Small at hl;unfold maxLen;omega);clear hd;by_cases e1:((ex,ey,ed):Dm)=(gx,gy,gb)
          . rw [if_neg (by rw [e1]; simp [keepD])] at hg;have Hg2:=OA hg;clear hg;simp only[Prod.mk.injEq]at e1;obtain⟨rfl,rfl,rfl⟩:=e1;go_wp2;go_roundw
            case rel=>exact⟨k+1,out,A8,c8,by omega,by omega,by go_num,rfl,Hg2,own1,b61,B1⟩
            case measure=>simp[intOf];omega
          . by_cases e2:((ex,ey,ed):Dm)=(kx,ky,kb)
            . rw [if_neg (by rw [e2]; simp [keepD])] at hg;have Hg2:=OA hg;clear hg;simp only[Prod.mk.injEq]at e2;obtain⟨rfl,rfl,rfl⟩:=e2;rcases iZ e1 with p|⟨rfl,p⟩|⟨rfl,rfl,p⟩
              . clear e1;go_wp2;go_roundw
                case rel=>exact⟨k+1,out,A8,c8,by omega,by omega,by go_num,rfl,Hg2,own1,b61,B1⟩
                case measure=>simp[intOf];omega
              . clear e1;go_wp2;go_roundw
                case rel=>exact⟨k+1,out,A8,c8,by omega,by omega,by go_num,rfl,Hg2,own1,b61,B1⟩
                case measure=>simp[intOf];omega
              . clear e1;go_wp2;go_roundw
                case rel=>exact⟨k+1,out,A8,c8,by omega,by omega,by go_num,rfl,Hg2,own1,b61,B1⟩
                case measure=>simp[intOf];omega
            . rw [if_pos (by simp only [keepD, decide_eq_false e1, decide_eq_false e2]; rfl), <- List.singleton_append, <- append_assoc] at hg;have Hg2:=OA hg;clear hg;rcases iZ e1 with p|⟨rfl,p⟩|⟨rfl,rfl,p⟩<;>rcases iZ e2 with q|⟨rfl,q⟩|⟨rfl,rfl,q⟩
              all_goals
                clear e1 e2;go_wp2_with (at_builtin;go_must (first|(refine aO (enc:=aT) aI aB aM B1 own1 ((ex,ey,ed):Dm) H8.out HM.out (by simp) rfl _ _ rfl rfl rfl ?_)|(refine aO (enc:=aT) aI aB aM B1 own1 ((ex,gy,ed):Dm) H8.out HM.out (by simp) rfl _ _ rfl rfl rfl ?_)|(refine aO (enc:=aT) aI aB aM B1 own1 ((ex,ky,ed):Dm) H8.out HM.out (by simp) rfl _ _ rfl rfl rfl ?_)|(refine aO (enc:=aT) aI aB aM B1 own1 ((gx,ey,ed):Dm) H8.out HM.out (by simp) rfl _ _ rfl rfl rfl ?_)|(refine aO (enc:=aT) aI aB aM B1 own1 ((gx,gy,ed):Dm) H8.out HM.out (by simp) rfl _ _ rfl rfl rfl ?_)|(refine aO (enc:=aT) aI aB aM B1 own1 ((gx,ky,ed):Dm) H8.out HM.out (by simp) rfl _ _ rfl rfl rfl ?_)|(refine aO (enc:=aT) aI aB aM B1 own1 ((kx,ey,ed):Dm) H8.out HM.out (by simp) rfl _ _ rfl rfl rfl ?_)|(refine aO (enc:=aT) aI aB aM B1 own1 ((kx,gy,ed):Dm) H8.out HM.out (by simp) rfl _ _ rfl rfl rfl ?_)|(refine aO (enc:=aT) aI aB aM B1 own1 ((kx,ky,ed):Dm) H8.out HM.out (by simp) rfl _ _ rfl rfl rfl ?_));intro v4 w4 own4 hb4 hg4 hd4;obtain⟨A4,c4,rfl,hc4,hm4⟩:=own4.form)
                have b64:=(b61.alloc _).grown hg4 (fun e=>(own1.apart b61 (by decide)) e.symm);go_roundw
                case rel=>exact⟨k+1,_,A4,c4,by omega,by simp;omega,by go_num,by simp,Hg2,own4,b64,hb4⟩
                case measure=>simp[intOf];omega
        . obtain rfl : k = l.length := by omega
          have hg:=Hg.out;rw[drop_of_length_le (le_refl _),filter_nil,append_nil]at hg;have Hout:=OA hg;clear hg;go_wp2_with fail
          refine(yG _ out _ (hown.rd aB (by decide))).mono ?_;rintro e w70 ⟨A70,c70,rfl,own70,hb70⟩;go_wp2;go_ret2
          have e9:iL out=aS l (x,y):=by rw[Hout.out];unfold aS;rw[HGN.out.1,HGN.out.2]
          rw[e9]at own70⊢;exact⟨A70,c70,rfl,own70.mono hbel.size,hbel.tr hb70⟩
     . have hkk : kindOf l (x, y) = 1 := by rw [Hkv.out, Hab.out]; rfl
       obtain⟨g7,hg7⟩:=Oy (w3.heap.size+1);obtain⟨g6,hg6⟩:=Oy w3.heap.size;have hg67:g6≠g7:=(by omega);have hg60:w.heap.size<=g6:=by have:=(B1.tr hb3).size;omega
       have hg70:w.heap.size<=g7:=(by omega);rw[<-hg7]at b2'⊢;rw[<-hg6]at b1'⊢;clear hg6 hg7 u_0 u_1 u_2 u_3 u_4 u_5 t_0 t_1 t_2 t_3 t_4 t_5;obtain⟨u_0,u_1,u_2,u_3,u_4,u_5⟩:=b1'.n6;obtain⟨t_0,t_1,t_2,t_3,t_4,t_5⟩:=b2'.n6;go_wp2_with fail
       obtain⟨gx,hgx⟩:∃n:Int,n=x:=⟨_,rfl⟩;obtain⟨gy,hgy⟩:∃n:Int,n=y:=⟨_,rfl⟩;obtain⟨gb,hgb⟩:∃n:Bool,n=false:=⟨_,rfl⟩;obtain⟨kx,hkx⟩:∃n:Int,n=x:=⟨_,rfl⟩;obtain⟨ky,hky⟩:∃n:Int,n=y+1:=⟨_,rfl⟩;obtain⟨kb,hkb⟩:∃n:Bool,n=false:=⟨_,rfl⟩;have b6:Blk w5 g6 156 #[.int .i64 gx,.int .i64 gy,.bool gb,.int .i64 kx,.int .i64 ky,.bool kb]:=by rw[hgx,hgy,hgb,hkx,hky,hkb];exact b1'
       have HGN:Hid (lT (kindOf l (x,y)) (x,y)=((gx,gy,gb),(kx,ky,kb))/\nJ (kindOf l (x,y)) (x,y)=((x,y,true),(x+1,y,true))):=OA (by rw[hkk,hgx,hgy,hgb,hkx,hky,hkb];exact⟨rfl,rfl⟩);clear hgx hgy hgb hkx hky hkb hkk b1' b2';clear u_0 u_1 u_2 u_3 u_4 u_5 t_0 t_1 t_2 t_3 t_4 t_5;have own0:aC 60 3 aT w.heap.size (w5.alloc (.cells #[.int .i64 x,.int .i64 y,.bool true,.int .i64 (x+1),.int .i64 y,.bool true] 60)) (.slice (some ⟨w5.heap.size,0,none⟩) 2 2) [((x,y,true):Dm),((x+1),y,true)]:=xO _ (x,y,true) ((x+1),y,true) _ B5.size;have b60:=b6.alloc (.cells #[.int .i64 x,.int .i64 y,.bool true,.int .i64 (x+1),.int .i64 y,.bool true] 60);have B0:=B5.al (.cells #[.int .i64 x,.int .i64 y,.bool true,.int .i64 (x+1),.int .i64 y,.bool true] 60);go_wp2;go_loopw [8,43] (fun s8 s43 wr=>∃(k:Nat) (out:List Dm) (A8:Option Addr) (c8:Nat),k<=l.length/\out.length<=k+2/\s43= .int .i64 k/\s8= .slice A8 out.length c8/\Hid (out++(l.drop k).filter (keepD ((gx,gy,gb),(kx,ky,kb)))=iF l ((gx,gy,gb),(kx,ky,kb)) ((x,y,true),((x+1),y,true)))/\aC 60 3 aT w.heap.size wr (.slice A8 out.length c8) out/\Blk wr g6 156 #[.int .i64 gx,.int .i64 gy,.bool gb,.int .i64 kx,.int .i64 ky,.bool kb]/\Below w.heap.size w wr) (fun _ i _=>l.length-(intOf i).toNat)
       case atStart=>exact⟨0,[((x,y,true):Dm),((x+1),y,true)],_,_,zero_le _,by simp,rfl,rfl,OA rfl,own0,b60,B0⟩
       case round=>
        obtain⟨k,out,A8,c8,hk,hol,rfl,rfl,Hg,hown,hb6,hbel⟩:=hrel;clear own0 b60 B0;by_cases hlt:k<l.length
        . obtain⟨b,off,rfl,hb,q1,q2,q3⟩:=(h.Oz hbel).jJ hlt;have hg:=Hg.out;rw[drop_eq_getElem_cons hlt,filter_cons]at hg;obtain⟨d,hd⟩:=Oy (l[k]);rw[<-hd]at q1 q2 q3 hg;obtain⟨ex,ey,ed⟩:=d;simp only at q1 q2 q3;obtain⟨u_0,u_1,u_2,u_3,u_4,u_5⟩:=hb6.n6;have hl6:=hb6.lt;have hn6:g6≠wr.heap.size:=(by omega);have B1:=hbel.al (.cells #[.int .i64 ex,.int .i64 ey,.bool ed] 60);have own1:=hown.alloc (.cells #[.int .i64 ex,.int .i64 ey,.bool ed] 60);have b61:=hb6.alloc (.cells #[.int .i64 ex,.int .i64 ey,.bool ed] 60);have H8:Hid ((out.length+1)*24<=140737488355328):=OA (by unfold Small at hl;omega);have HM:Hid (out.length+1<=maxLen):=OA (by unfold Small at hl;unfold maxLen;omega);clear hd;by_cases e1:((ex,ey,ed):Dm)=(gx,gy,gb)
          . rw [if_neg (by rw [e1]; simp [keepD])] at hg;have Hg2:=OA hg;clear hg;simp only[Prod.mk.injEq]at e1;obtain⟨rfl,rfl,rfl⟩:=e1;go_wp2;go_roundw
            case rel=>exact⟨k+1,out,A8,c8,by omega,by omega,by go_num,rfl,Hg2,own1,b61,B1⟩
            case measure=>simp[intOf];omega
          . by_cases e2:((ex,ey,ed):Dm)=(kx,ky,kb)
            . rw [if_neg (by rw [e2]; simp [keepD])] at hg;have Hg2:=OA hg;clear hg;simp only[Prod.mk.injEq]at e2;obtain⟨rfl,rfl,rfl⟩:=e2;rcases iZ e1 with p|⟨rfl,p⟩|⟨rfl,rfl,p⟩
              . clear e1;go_wp2;go_roundw
                case rel=>exact⟨k+1,out,A8,c8,by omega,by omega,by go_num,rfl,Hg2,own1,b61,B1⟩
                case measure=>simp[intOf];omega
              . clear e1;go_wp2;go_roundw
                case rel=>exact⟨k+1,out,A8,c8,by omega,by omega,by go_num,rfl,Hg2,own1,b61,B1⟩
                case measure=>simp[intOf];omega
              . clear e1;go_wp2;go_roundw
                case rel=>exact⟨k+1,out,A8,c8,by omega,by omega,by go_num,rfl,Hg2,own1,b61,B1⟩
                case measure=>simp[intOf];omega
            . rw [if_pos (by simp only [keepD, decide_eq_false e1, decide_eq_false e2]; rfl), <- List.singleton_append, <- append_assoc] at hg;have Hg2:=OA hg;clear hg;rcases iZ e1 with p|⟨rfl,p⟩|⟨rfl,rfl,p⟩<;>rcases iZ e2 with q|⟨rfl,q⟩|⟨rfl,rfl,q⟩
              all_goals
                clear e1 e2;go_wp2_with (at_builtin;go_must (first|(refine aO (enc:=aT) aI aB aM B1 own1 ((ex,ey,ed):Dm) H8.out HM.out (by simp) rfl _ _ rfl rfl rfl ?_)|(refine aO (enc:=aT) aI aB aM B1 own1 ((ex,gy,ed):Dm) H8.out HM.out (by simp) rfl _ _ rfl rfl rfl ?_)|(refine aO (enc:=aT) aI aB aM B1 own1 ((ex,ky,ed):Dm) H8.out HM.out (by simp) rfl _ _ rfl rfl rfl ?_)|(refine aO (enc:=aT) aI aB aM B1 own1 ((gx,ey,ed):Dm) H8.out HM.out (by simp) rfl _ _ rfl rfl rfl ?_)|(refine aO (enc:=aT) aI aB aM B1 own1 ((gx,gy,ed):Dm) H8.out HM.out (by simp) rfl _ _ rfl rfl rfl ?_)|(refine aO (enc:=aT) aI aB aM B1 own1 ((gx,ky,ed):Dm) H8.out HM.out (by simp) rfl _ _ rfl rfl rfl ?_)|(refine aO (enc:=aT) aI aB aM B1 own1 ((kx,ey,ed):Dm) H8.out HM.out (by simp) rfl _ _ rfl rfl rfl ?_)|(refine aO (enc:=aT) aI aB aM B1 own1 ((kx,gy,ed):Dm) H8.out HM.out (by simp) rfl _ _ rfl rfl rfl ?_)|(refine aO (enc:=aT) aI aB aM B1 own1 ((kx,ky,ed):Dm) H8.out HM.out (by simp) rfl _ _ rfl rfl rfl ?_));intro v4 w4 own4 hb4 hg4 hd4;obtain⟨A4,c4,rfl,hc4,hm4⟩:=own4.form)
                have b64:=(b61.alloc _).grown hg4 (fun e=>(own1.apart b61 (by decide)) e.symm);go_roundw
                case rel=>exact⟨k+1,_,A4,c4,by omega,by simp;omega,by go_num,by simp,Hg2,own4,b64,hb4⟩
                case measure=>simp[intOf];omega
        . obtain rfl : k = l.length := by omega
          have hg:=Hg.out;rw[drop_of_length_le (le_refl _),filter_nil,append_nil]at hg;have Hout:=OA hg;clear hg;go_wp2_with fail
          refine(yG _ out _ (hown.rd aB (by decide))).mono ?_;rintro e w70 ⟨A70,c70,rfl,own70,hb70⟩;go_wp2;go_ret2
          have e9:iL out=aS l (x,y):=by rw[Hout.out];unfold aS;rw[HGN.out.1,HGN.out.2]
          rw[e9]at own70⊢;exact⟨A70,c70,rfl,own70.mono hbel.size,hbel.tr hb70⟩
theorem Ie (v:Value) (l:List Dm) (x y:Int) (w:World) (h:Rd 3 aU w v l) (hl:Small l.length) (hk:kindOf l (x,y)=0):Calls prog 91 #[v,.agg #[.int .i64 x,.int .i64 y]] w (iG 60 3 aT l false w):=by
 have:=zD v l x y w h hl;unfold iM at this;rw[if_pos hk]at this;exact this
theorem sU (v:Value) (l:List Dm) (x y:Int) (w:World) (h:Rd 3 aU w v l) (hl:Small l.length) (hk:¬kindOf l (x,y)=0):Calls prog 91 #[v,.agg #[.int .i64 x,.int .i64 y]] w (iG 60 3 aT (aS l (x,y)) true w):=by
 have:=zD v l x y w h hl;unfold iM at this;rw[if_neg hk]at this;exact this
theorem sV (l:List Dm) (c:Cl) (r:List Cl):fJ l (c::r)=if kindOf l c=0 then none else fJ (aS l c) r:=rfl
theorem qV (l:List Dm) (c:Cl):Small (aS l c).length:=by have:=Bc l c;unfold Small;omega
theorem wF {l m:List Dm} {cs:List Cl} (hn:¬cs.length>200) (h:fJ l cs=some m):dD l cs=(m,true):=by unfold dD;rw[if_neg hn,h]
theorem wG {l:List Dm} {cs:List Cl} (hn:¬cs.length>200) (h:fJ l cs=none):dD l cs=(l,false):=by unfold dD;rw[if_neg hn,h]
theorem wH (v u:Value) (l:List Dm) (cs:List Cl) (w:World) (h:Rd 3 aU w v l) (h2:Rd 2 bT w u cs) (hl:Small l.length):Calls prog 90 #[v,u] w (iG 60 3 aT (dD l cs).1 (dD l cs).2 w):=by
 obtain⟨A,c,rfl,hc,hm⟩:=h.form;obtain⟨A2,c2,rfl,hc2,hm2⟩:=h2.form;by_cases hgt:cs.length>200
 . have e : dD l cs = (l, false) := by unfold dD; rw [if_pos hgt]
   rw[e];have hgI:(200:Int)<(cs.length:Int):=(by omega);clear e;go_enter func90,ntmps90
   go_wp2_with fail
   refine(cZ _ l _ h hl).mono ?_;rintro e w1 ⟨A1,c1,rfl,own1,hb1⟩;go_wp2;go_ret2
   exact⟨A1,c1,rfl,own1,hb1⟩
 . have hgI : (cs.length : Int) <= 200 := by omega
   obtain⟨F1,hF1⟩:=Oy ((dD l cs).1);obtain⟨F2,hF2⟩:=Oy ((dD l cs).2);rw[<-hF1,<-hF2];have HF1:=OA hF1;have HF2:=OA hF2;have Hgt:=OA hgt;clear hF1 hF2 hgt;go_enter func90,ntmps90
   go_wp2_with fail
   refine(cZ _ l _ h hl).mono ?_;rintro e w1 ⟨A1,c1,rfl,own1,hb1⟩;go_wp2;go_loopw [6,20] (fun s6 s20 wr=>∃(k:Nat) (m:List Dm) (A6:Option Addr) (c6:Nat),k<=cs.length/\s20= .int .i64 k/\s6= .slice A6 m.length c6/\Hid (fJ m (cs.drop k)=fJ l cs)/\Hid (Small m.length)/\aC 60 3 aT w.heap.size wr (.slice A6 m.length c6) m/\Below w.heap.size w wr) (fun _ i _=>cs.length-(intOf i).toNat)
   case atStart=>exact⟨0,l,A1,c1,zero_le _,rfl,rfl,OA rfl,OA hl,own1,hb1⟩
   case round=>
    obtain⟨k,m,A6,c6,hk,rfl,rfl,Hg,Hs,hown,hbel⟩:=hrel;clear own1 hb1;by_cases hlt:k<cs.length
    . obtain⟨b,off,rfl,hb,q1,q2⟩:=(h2.Oz hbel).eZ hlt;have hg:=Hg.out;rw[drop_eq_getElem_cons hlt,sV]at hg;obtain⟨d,hd⟩:=Oy (cs[k]);rw[<-hd]at q1 q2 hg;obtain⟨cx,cy⟩:=d;simp only at q1 q2;have B1:=hbel.al (.cells #[.int .i64 cx,.int .i64 cy] 70);have own1:=hown.alloc (.cells #[.int .i64 cx,.int .i64 cy] 70);clear hd;by_cases hkd:kindOf m (cx,cy)=0
      . rw[if_pos hkd]at hg;have hfa:=wG Hgt.out hg.symm;have Hkd:=OA hkd;have Hfa:=OA hfa;clear hkd hg hfa;go_wp2_with fail
        refine(Ie _ m cx cy _ (own1.rd aB (by decide)) Hs.out Hkd.out).mono ?_;rintro e w2 ⟨A3,c3,rfl,own3,hb3⟩;go_wp2_with fail
        refine(cZ _ l _ (h.Oz (B1.tr hb3)) hl).mono ?_;rintro e w4 ⟨A5,c5,rfl,own5,hb5⟩;go_wp2;go_ret2
        have e1:F1=l:=(by rw[HF1.out,Hfa.out]);have e2:F2=false:=(by rw[HF2.out,Hfa.out]);rw[e1,e2];exact⟨A5,c5,rfl,own5.mono (B1.tr hb3).size,(B1.tr hb3).tr hb5⟩
      . rw[if_neg hkd]at hg;have Hkd:=OA hkd;have Hg2:=OA hg;clear hkd hg;go_wp2_with fail
        refine(sU _ m cx cy _ (own1.rd aB (by decide)) Hs.out Hkd.out).mono ?_;rintro e w2 ⟨A3,c3,rfl,own3,hb3⟩;go_wp2;go_roundw
        case rel=>exact⟨k+1,aS m (cx,cy),A3,c3,by omega,by go_num,rfl,Hg2,OA (qV _ _),own3.mono B1.size,B1.tr hb3⟩
        case measure=>simp[intOf];omega
    . obtain rfl : k = cs.length := by omega
      have hg:=Hg.out;rw[drop_of_length_le (le_refl _)]at hg;have hfa:=wF Hgt.out hg.symm;have Hfa:=OA hfa;clear hg hfa;go_wp2;go_ret2
      have e1:F1=m:=(by rw[HF1.out,Hfa.out]);have e2:F2=true:=(by rw[HF2.out,Hfa.out]);rw[e1,e2];exact⟨A6,c6,rfl,hown,hbel⟩
theorem qW (u v:Value) (l m:List Dm) (w:World) (h:Rd 3 aU w u l) (h':Rd 3 aU w v m):Calls prog 80 #[u,v] w (Ret (.bool (decide (l=m))) w):=by
 obtain⟨A,c,rfl,hc,hm⟩:=h.form;obtain⟨A',c',rfl,hc',hm'⟩:=h'.form;by_cases hlen:l.length=m.length
 . have hne : ((l.length : Int) != (m.length : Int)) = false := by simp [hlen]
   have Hlen:=OA hlen;clear hlen;go_enter func80,ntmps80
   go_wp2;go_loopw [13] (fun i wr=>∃k:Nat,k<=l.length/\i= .int .i64 k/\Hid (decide (l.drop k=m.drop k)=decide (l=m))/\Below w.heap.size w wr) (fun i _=>l.length-(intOf i).toNat)
   case atStart=>exact⟨0,zero_le _,rfl,OA rfl,Below.refl _ _⟩
   case round=>
    obtain⟨k,hk,rfl,Hg,hbel⟩:=hrel;by_cases hlt:k<l.length
    . have hlm : k < m.length := by have := Hlen.out; omega
      obtain⟨b,off,rfl,hb,q1,q2,q3⟩:=(h.Oz hbel).jJ hlt;obtain⟨b',off',rfl,hb',p1,p2,p3⟩:=(h'.Oz hbel).jJ hlm;have hlt':(k:Int)<(m.length:Int):=(by omega);obtain⟨d,hd⟩:=Oy (l[k]);obtain⟨e,he⟩:=Oy (m[k]);rw[<-hd]at q1 q2 q3;rw[<-he]at p1 p2 p3;obtain⟨dx,dy,dd⟩:=d;obtain⟨ex,ey,ed⟩:=e;simp only at q1 q2 q3 p1 p2 p3;by_cases hde:((dx,dy,dd):Dm)=(ex,ey,ed)
      . have Hg2 := Ma Hg hlt hlm (by rw [<- hd, <- he]; exact hde);simp only[Prod.mk.injEq]at hde;obtain⟨rfl,rfl,rfl⟩:=hde;clear hd he;go_wp2_with fail
        go_quiet (fail)
        go_wp2;go_roundw
        case rel=>exact⟨k+1,by omega,by go_num,Hg2,below_drewN hbel _⟩
        case measure=>simp[intOf];omega
      . have HR := OA (Mc Hg hlt hlm (by rw [<- hd, <- he]; exact hde)).symm;clear hd he;rcases iZ hde with p|⟨rfl,p⟩|⟨rfl,rfl,p⟩
        all_goals
          clear hde;go_wp2_with fail
          go_quiet (fail)
          go_wp2;go_ret;exact⟨kN HR.out,below_drewN hbel _⟩
    . go_wp2;go_ret;exact⟨kN (Je Hg (by omega) (by have:=Hlen.out;omega)).symm,hbel⟩
 . have hne : ((l.length : Int) != (m.length : Int)) = true := by simp; omega
   go_enter func80,ntmps80
   go_wp2;go_ret;exact⟨kN (by rw[eq_comm,decide_eq_false_iff_not];exact fun e=>hlen (by rw[e])),Below.refl _ _⟩
theorem qX (vr vf vn vc:Value) (rows:List Int) (f n:List Dm) (cs:List Cl) (w:World) (h1:Rd 1 bH w vr rows) (h2:Rd 3 aU w vf f) (h3:Rd 3 aU w vn n) (h4:Rd 2 bT w vc cs) (hl:Small f.length):
 Calls prog 38 #[.agg #[vr,vf,vn,vc]] w (Ret (.bool (dV rows f n cs)) w):=by
 obtain⟨A1,c1,rfl,hc1,hm1⟩:=h1.form;obtain⟨A2,c2,rfl,hc2,hm2⟩:=h2.form;obtain⟨A3,c3,rfl,hc3,hm3⟩:=h3.form;obtain⟨A4,c4,rfl,hc4,hm4⟩:=h4.form;have hA:=(Below.refl w.heap.size w).al (.cells #[.slice A1 rows.length c1,.slice A2 f.length c2,.slice A3 n.length c3,.slice A4 cs.length c4] 30);have bF:=Blk.bK w 30 #[.slice A1 rows.length c1,.slice A2 f.length c2,.slice A3 n.length c3,.slice A4 cs.length c4];have g1:=h1.Oz hA;have g2:=h2.Oz hA;have g3:=h3.Oz hA;have g4:=h4.Oz hA;clear hc1 hc2 hc3 hc4;rcases ht:dP rows f with _|_
 . have e : dV rows f n cs = false := by unfold dV; rw [ht]; rfl
   rw[e];have Ht:=OA ht;clear ht e;go_enter func38,ntmps38
   go_wp2_with fail
   refine(sP _ _ rows f _ g1 g2).mono ?_;rintro e w1 ⟨rfl,hb1⟩;rw[Ht.out];go_wp2;go_ret;exact⟨rfl,hA.tr hb1⟩
 . by_cases hn:cs.length<=60
   . have e : dV rows f n cs = ((dD f cs).2 && decide ((dD f cs).1 = n)) := by unfold dV; rw [ht, decide_eq_true hn]; rfl
     have hnI:(cs.length:Int)<=60:=(by omega);obtain⟨M,hM⟩:=Oy ((dD f cs).1);obtain⟨b,hb⟩:=Oy ((dD f cs).2);rw[<-hM,<-hb]at e;rw[e];have Ht:=OA ht;have HM:=OA hM;have Hb:=OA hb;clear ht e hM hb;go_enter func38,ntmps38
     go_wp2_with fail
     refine(sP _ _ rows f _ g1 g2).mono ?_;rintro e w1 ⟨rfl,hb1⟩;rw[Ht.out];have bF1:=bF.bl hb1;have z1:=bF1.cell 1;have z3:=bF1.cell 3;simp only[getElem?_toArray,getElem?_cons_zero,getElem?_cons_succ]at z1 z3;go_wp2_with fail
     refine(wH _ _ f cs _ (g2.Oz hb1) (g4.Oz hb1) hl).mono ?_;rintro e w2 ⟨Am,cm,rfl,ownm,hb2⟩;rw[<-HM.out]at ownm;rw[<-HM.out,<-Hb.out];have bF2:=bF1.bl hb2;clear z1 z3;have z2:=bF2.cell 2;simp only[getElem?_toArray,getElem?_cons_zero,getElem?_cons_succ]at z2;have B2:=(hA.tr hb1).tr hb2;cases b
     . go_wp2;go_ret;exact⟨rfl,B2⟩
     . go_wp2_with fail
       refine(qW _ _ M n _ (ownm.rd aB (by decide)) ((g3.Oz hb1).Oz hb2)).mono ?_;rintro e w3 ⟨rfl,hb3⟩;obtain⟨R,hR⟩:∃R,R=decide (M=n):=⟨_,rfl⟩;rw[<-hR];have hR2:(true&&decide (M=n))=R:=by rw[hR];rfl
       have HR2:=OA hR2;clear hR hR2;go_wp2;go_ret;exact⟨kN HR2.out.symm,B2.tr hb3⟩
   . have e : dV rows f n cs = false := by unfold dV; rw [ht, decide_eq_false hn]; rfl
     rw[e];have hnI:(60:Int)<(cs.length:Int):=(by omega);have Ht:=OA ht;clear ht e hn;go_enter func38,ntmps38
     go_wp2_with fail
     refine(sP _ _ rows f _ g1 g2).mono ?_;rintro e w1 ⟨rfl,hb1⟩;rw[Ht.out];have bF1:=bF.bl hb1;have z3:=bF1.cell 3;simp only[getElem?_toArray,getElem?_cons_zero,getElem?_cons_succ]at z3;go_wp2;go_ret;exact⟨rfl,hA.tr hb1⟩
end Go.Proofs.YtljfoohaapckeaaGreatDoor
