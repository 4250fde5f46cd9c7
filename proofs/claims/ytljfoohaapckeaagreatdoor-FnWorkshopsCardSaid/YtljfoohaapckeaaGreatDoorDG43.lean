/- Floors, workshops and boxes drawn; a number out of the code. Conditions: sizes. Valid floors are tiled; what acts do to the stock and the money. Plain laws; no program in sight. A broken domino is not in the repaired floor, and two tilings differ in two dominoes. Plain laws; no program in sight. -/
import Derived.Test.YtljfoohaapckeaaGreatDoorDDrawW
import Derived.Test.YtljfoohaapckeaaGreatDoorDG39
import Derived.Test.YtljfoohaapckeaaGreatDoorDG25
import Derived.Test.YtljfoohaapckeaaGreatDoorDBrk
namespace Go.Proofs.YtljfoohaapckeaaGreatDoor
open Go.ChangeShapes Go.WideShapes Go.ChangeAt Go.RowKit
set_option linter.unusedVariables false
set_option linter.unusedSimpArgs false
set_option maxHeartbeats 4000000
set_option maxRecDepth 100000
def sI (l:List Int) (i:Int):Int:=if l.length=0 then 0 else l.getD ((i*5+1)%(l.length:Int)).toNat 0
theorem EE {l : List Int} (ok : mO (fun x => 0 <= x /\ x <= 255) l) (i : Int) : 0 <= sI l i /\ sI l i <= 255 := by
 unfold sI;split
 . exact⟨Int.le_refl _,by decide⟩
 . rw[List.getD_eq_getElem?_getD];rcases h:l[((i*5+1)%(l.length:Int)).toNat]? with _|x
   . exact⟨Int.le_refl _,by decide⟩
   . exact ok x (List.mem_of_getElem? h)
theorem Ce (i : Int) (hi : 0 <= i /\ i <= 1000) (v : Value) (l : List Int) (w : World) (h : Rd 1 mM w v l) (Hok : Hid (mO (fun x => 0 <= x /\ x <= 255) l)) (hl : l.length <= 1048576) : Calls Tryz.prog 25 #[v, .int .i64 i] w (Pure (.int .i64 (sI l i)) w) := by
 obtain⟨A,c,rfl,hc,hm⟩:=h.form;obtain⟨R,hR⟩:=Oy (sI l i);rw[<-hR];by_cases h0:l.length=0
 . have h0I : (l.length : Int) = 0 := by omega
   obtain rfl:R=0:=by rw[hR];unfold sI;rw[if_pos h0]
   clear hR;go_enter Tryz.func25,Tryz.ntmps25
   go_wp2;go_ret;exact⟨rfl,rfl⟩
 . have h0I : ¬ (l.length : Int) = 0 := by omega
   have hpos:0<(l.length:Int):=(by omega);obtain⟨k,hk⟩:∃k:Nat,(i*5+1)%(l.length:Int)=(k:Int):=⟨((i*5+1)%(l.length:Int)).toNat,by have:=Int.emod_nonneg (i*5+1) h0I;omega⟩;have hkl:k<l.length:=by have:=Int.emod_lt_of_pos (i*5+1) hpos;omega
   have hki:(k:Int)<(l.length:Int):=(by omega);obtain⟨b,off,rfl,hb,h1⟩:=h.IW hkl;have hbyte:=Hok.out l[k] (List.getElem_mem hkl)
   have hRk:R=l[k]:=by
    rw[hR];unfold sI;rw[if_neg h0,hk,Int.toNat_natCast,List.getD_eq_getElem?_getD,List.getElem?_eq_getElem hkl];rfl
   rw[<-hRk]at h1 hbyte;have hy1:=hbyte.1;have hy2:=hbyte.2;have e1:IntKind.i64.wrap (i*5)=i*5:=IntWalk.i64_in _ (by omega);have e2:IntKind.i64.wrap (i*5+1)=i*5+1:=IntWalk.i64_in _ (by omega);have e3:IntKind.i64.wrap R=R:=IntWalk.i64_in _ (by omega);clear hR hRk hbyte;have hi0:0<=i*5+1:=(by omega);go_enter Tryz.func25,Tryz.ntmps25
   go_wp2;go_ret;exact⟨by simp_all,rfl⟩
def Oc (w:World) (e:Ending) (w':World):Prop:=∃(x:Fl) (s p r:Int) (V1 V2 V3 V4:Value),e= .returned (.agg #[V1,V2,V3,V4,.int .i64 s,.int .i64 p,.int .i64 r])/\aD w.heap.size w' V1 V2 V3 V4 x/\dB (x,s,p,r)=true/\nH 7 s p/\dZ x/\Below w.heap.size w w'
theorem ET (v : Value) (l : List Int) (w : World) (h : Rd 1 mM w v l) (ok : mO (fun x => 0 <= x /\ x <= 255) l) (hl : l.length <= 1048576) : Calls Tryz.prog 23 #[v] w (Oc w) := by
 have Hok:=OA ok;have hX:=Blk.bK w 32 #[.slice none 0 0,.slice none 0 0,.slice none 0 0,.slice none 0 0,.int .i64 0,.int .i64 0,.int .i64 0];have hA:=(Below.refl w.heap.size w).al (.cells #[.slice none 0 0,.slice none 0 0,.slice none 0 0,.slice none 0 0,.int .i64 0,.int .i64 0,.int .i64 0] 32);go_enter Tryz.func23,Tryz.ntmps23
 go_wp2_with fail
 refine(EW _ l _ (h.Oz hA) ok hl).mono ?_;rintro e w1 ⟨g,rfl,hg,hcur,hb1⟩;have hgw:w.heap.size<=g:=by simp at hg;omega
 have D:DS w w w1 g v l.length:=⟨hcur,hA.tr hb1,KI (World.grownBy.refl w (some g)) (hA.tr hb1)⟩;replace hX:=hX.bl hb1;have hW:w.heap.size<=w.heap.size:=Nat.le_refl _;clear hcur hb1 hA;obtain⟨gX,hgX'⟩:=Oy w.heap.size;have HgX:=OA hgX';rw[<-hgX']at hX;have hgX:w.heap.size<=gX:=(by omega);have hne:=(D.cur.ne hX (by decide)).symm;clear hgX' hg;go_wp2_with fail
 refine(Dp w g v l _ h Hok hgw D.B D.cur).mono ?_;rintro e w2 ⟨x,s,p,r,V1,V2,V3,V4,rfl,own,hf,hfw,hsm,D2⟩;replace hX:=hX.ds D.cur D2.gr (by decide);replace own:=own.mono (B':=w.heap.size) D.gr.size;replace D:=D.tr D2;have Hf:=OA hf;have Hs:=OA hsm;have Hw:=OA hfw;clear hf hsm hfw D2;go_wp2_with (rw[<-HgX.out];refine aA rfl 32 _ _ rfl gX #[V1,V2,V3,V4,.int .i64 s,.int .i64 p,.int .i64 r] rfl rfl _ _ hX (by kernel_rfl) rfl (Cb own.one) ?_;intro wE bE hgE)
 have oE:=aD.eD own hX (by decide) (by decide) (by decide) hgE;obtain⟨q_0,q_1,q_2,q_3,q_4,q_5,q_6⟩:=bE.n7;refine bodyPost_ret (v:= .agg #[V1,V2,V3,V4,.int .i64 s,.int .i64 p,.int .i64 r]) (by simp[results,Tryz.results23,go_sem,q_0,q_1,q_2,q_3,q_4,q_5,q_6]) rfl ⟨x,s,p,r,V1,V2,V3,V4,rfl,oE,Hf.out,Hw.out,Hs.out,(D.st hgE hgX hW hne).B⟩
def Od (w:World) (e:Ending) (w':World):Prop:=∃(bl:List (Int×Int)) (A:Option Addr) (c:Nat),e= .returned (.slice A bl.length c)/\aC 102 2 dE w.heap.size w' (.slice A bl.length c) bl/\1<=bl.length/\bl.length<=4/\(∀x∈bl,jE x)/\Below w.heap.size w w'
theorem IU (v : Value) (l : List Int) (w : World) (h : Rd 1 mM w v l) (ok : mO (fun x => 0 <= x /\ x <= 255) l) (hl : l.length <= 1048576) : Calls Tryz.prog 24 #[v] w (Od w) := by
 have Hok:=OA ok;go_enter Tryz.func24,Tryz.ntmps24
 go_wp2_with fail
 refine(EW _ l _ h ok hl).mono ?_;rintro e w1 ⟨g,rfl,hg,hcur,hb1⟩;have D:DS w w w1 g v l.length:=⟨hcur,hb1,KI (World.grownBy.refl w (some g)) hb1⟩;go_wp2_with fail
 refine(wI w g v l _ h Hok hg D.B D.cur).mono ?_;rintro e w2 ⟨bl,A,c,rfl,own,h1,h4,hb,D2⟩;have own':=own.mono (B':=w.heap.size) D.gr.size;have D3:=D.tr D2;clear own D2;go_wp2;go_ret;exact⟨bl,A,c,rfl,own',h1,h4,hb,D3.B⟩
theorem Oe (w:World) (x y:Int) (d:Bool):(Instr.buildSlice 27 1 #[(0,.agg #[.int .i64 x,.int .i64 y,.bool d])]).run Tryz.prog w= .ok (.slice (some ⟨w.heap.size,0,none⟩) 1 1) (w.alloc (.cells #[.int .i64 x,.int .i64 y,.bool d] 60)):=by
 obtain⟨ht,hinfo,hzs,hsz⟩:=aI;obtain⟨i0,hi,hz0,hz1,hz2⟩:=info_parts hinfo;simp[Instr.buildSlice,run_underlying ht,sizeOf,typeInfo,hi,hz1,hz0,newRow,Instr.fill,Value.cells,Array.range,Array.zipIdx];refine congrArg (fun cs=>w.alloc (Obj.cells cs 60)) (Array.ext (by simp[hz1]) (fun i h1 h2=> ?_));have h3:i=0∨i=1∨i=2:=by simp at h2;omega
 rw[<-Option.some_inj,<-Array.getElem?_eq_getElem,<-Array.getElem?_eq_getElem];rcases h3 with rfl|rfl|rfl<;>simp[Array.getElem?_setIfInBounds,hz1]
theorem Ga {ops:Array Oper} {o:Oper} {a:Act} {w:World} {K:Act->World->Prop} {Q:Exit->Act->World->Prop} {E':Prop} {x y:Int} {d:Bool} (p:Operand) (ho:o.op= .buildSlice 27 1 #[(0,p)]) (hp:a.eval p= .agg #[.int .i64 x,.int .i64 y,.bool d])
    (h:∀g w',Below w.heap.size w w'->aC 60 3 aT w.heap.size w' (.slice (some ⟨g,0,none⟩) 1 1) [(x,y,d)]->w.heap.size<=g->w.heap.size<=w'.heap.size->K (a.put o.dst (.slice (some ⟨g,0,none⟩) 1 1)) w') (hw:Region.wanted o (yielded ops a.tmps)=true:=by rfl):
    if Region.wanted o (yielded ops a.tmps)=true then Oper.wp Tryz.prog o a w K Q else E':=by
 rw[if_pos hw];have hrun:=Oe w x y d;unfold Oper.wp execOp;simp only[ho,Sem.run_bind,Sem.run_pure,Result.andThen_ok,List.map_toArray,List.map_cons,List.map_nil,hp,hrun];exact h _ _ ((Below.refl _ _).al _) ⟨by simp[aT],.inr ⟨w.heap.size,1,#[.int .i64 x,.int .i64 y,.bool d],rfl,Nat.le_refl _,heap_alloc_new w _,by simp,by simp[maxLen],by simp,by simp[aT]⟩⟩ (Nat.le_refl _) (by simp)
theorem Cf {rows:List Int} {l:List Dm} (h:dP rows l=true):dJ rows/\l∈gV (setOf rows):=by
 obtain⟨hr,hp⟩:=FK h;have hpart:isPartial rows l=true:=pG.2 ⟨hr,hp⟩;rw[nI hpart,decide_eq_true_eq]at h;refine⟨hr,zP hp fun j hj hs=> ?_⟩;rw[<-h,kG,List.any_eq_true]at hs;obtain⟨d,hd,e⟩:=hs;rw[Bool.and_eq_true]at e;exact⟨d,hd,e.2⟩
theorem Mr {s:Nat}:∀(cs:List Cl) {a b:List Dm},a∈gV s->fJ a cs=some b->b∈gV s
  | [], a, b, ha, h => by
   have e:a=b:=Option.some.inj h;exact e▸ha
  | c :: r, a, b, ha, h => by
   unfold fJ at h;split at h
   . cases h
   . rename_i q;exact Mr r (Gv ha q) h
theorem IV {x:Fl} (h:lH x=true):dP x.1 x.2.2.1=true:=by
 obtain⟨f1,f2,f3⟩:=lI.1 h;obtain⟨hr,ht⟩:=Cf f1;exact zN hr (Mr _ ht f3)
theorem KN {d:Dm} (h:aH d=true):(d=dW (dM d)/\fU d=dM d+1)∨(d=eY (dM d)/\fU d=dM d+8):=by
 obtain⟨a,⟨q,q7⟩|⟨q,q7⟩⟩:=Bi h
 . have:=(mR a q7).2.2;rw[<-q]at this;exact .inl ⟨q,this⟩
 . have:=(mU q7).2.2;rw[<-q]at this;exact .inr ⟨q,this⟩
theorem L9 {d e:Dm} (hd:aH d=true) (he:aH e=true) (h1:dM d=dM e) (h2:fU d=fU e):d=e:=by
 rcases KN hd with⟨q,q7⟩|⟨q,q7⟩<;>rcases KN he with⟨r,r7⟩|⟨r,r7⟩
 . rw[q,r,h1]
 . omega
 . omega
 . rw[q,r,h1]
theorem JV {s:Nat} {t:List Dm} (h:t∈gV s) {d e:Dm} (hd:d∈t) (he:e∈t) {j:Nat} (h1:dM d=j∨fU d=j) (h2:dM e=j∨fU e=j):d=e:=by
 have hap:=(lK.1 h).ap;have hok:=rV h;obtain⟨a,ha,ea⟩:=List.getElem_of_mem hd;obtain⟨b,hb,eb⟩:=List.getElem_of_mem he;rcases Nat.lt_trichotomy a b with q|q|q
 . have := (pW (hok _ hd) (hok _ he)).1 (by rw [<- ea, <- eb]; exact List.pairwise_iff_getElem.1 hap a b ha hb q);omega
 . subst q;rw[<-ea,<-eb]
 . have := (pW (hok _ he) (hok _ hd)).1 (by rw [<- ea, <- eb]; exact List.pairwise_iff_getElem.1 hap b a hb ha q);omega
theorem Nn {s:Nat} {t u:List Dm} (ht:t∈gV s) (hu:u∈gV s) {d:Dm} (hd:d∈t) (hn:d∉u):2<=chg t u:=by
 by_cases hlen:2<=chg t u
 . exact hlen
 . exfalso;have hF:∀x,x∈t->x∉u->x∈t.filter (fun d=> !u.contains d):=fun x h1 h2=>List.mem_filter.2 ⟨h1,by simp[h2]⟩
   have hdF:=hF d hd hn
   have hone : ∀ x ∈ t, x ∉ u -> x = d := fun x h1 h2 => by
    have hx:=hF x h1 h2;unfold chg at hlen;match hq:t.filter (fun d=> !u.contains d)with
    |[]=>rw[hq]at hx;cases hx
    |[y]=>
     rw[hq]at hx hdF;rw[List.mem_singleton.1 hx,List.mem_singleton.1 hdF]
    |y::z::r=>rw[hq]at hlen;simp at hlen
   have hdk:=rV ht d hd;obtain⟨_,_,hs1,hs2⟩:=(lK.1 ht).ok d hd;have hlt:=rT hdk;obtain⟨e,he,hei⟩:=(lK.1 hu).all (dM d) (Nat.zero_le _) hlt.1 hs1;have hek:=rV hu e he;obtain⟨_,_,es1,es2⟩:=(lK.1 hu).ok e he;have helt:=rT hek;have hed:e≠d:=fun q=>hn (q▸he)
   have dl:dM d<fU d:=by rcases KN hdk with⟨_,q⟩|⟨_,q⟩<;>omega
   have el:dM e<fU e:=by rcases KN hek with⟨_,q⟩|⟨_,q⟩<;>omega
   obtain⟨j,hj1,hj2,hj3,hj4,hj5⟩:∃j,(dM e=j∨fU e=j)/\j≠dM d/\j≠fU d/\j<64/\s.testBit j=true:=by
    rcases hei with q|q
    . refine⟨fU e,.inr rfl,by omega,fun r=>hed (L9 hek hdk q r),helt.2,es2⟩
    . exact⟨dM e,.inl rfl,by omega,by omega,helt.1,es1⟩
   obtain⟨f,hf,hfj⟩:=(lK.1 ht).all j (Nat.zero_le _) hj4 hj5
   have hfu:f∈u:=by
    by_cases q:f∈u
    . exact q
    . have:=hone f hf q;subst this;omega
   have hfe:=JV hu hfu he hfj hj1;subst hfe;exact hed (JV ht hf hd hei (.inl rfl))
theorem G5 {list:List Dm} {d:Dm}:∀(T:List (List Dm)) (b:Option (List Dm)) (m:List Dm),T.foldl (iH list d) b=some m->(∀m',b=some m'->m'.contains d=false)->m.contains d=false
  |[],b,m,h,hb=>hb m h
  | t :: T, b, m, h, hb => by
   rw[List.foldl_cons]at h;refine G5 T _ m h fun m' hm=> ?_
   unfold iH at hm;split at hm
   . exact hb m' hm
   . rename_i q;split at hm
     . injection hm with hm;rw[<-hm];simpa using q
     . rename_i m2;split at hm
       . injection hm with hm;rw[<-hm];simpa using q
       . injection hm with hm;rw[<-hm];exact hb m2 rfl
theorem EF {rows:List Int} {t:List Dm} (h:t∈aF rows):t∈gV (setOf rows):=by
 unfold aF at h;split at h
 . exact h
 . cases h
theorem KE {y:Wk} {i:Int} (h:uQ y i=true):iX y i=sG y i/\(∃k:Nat,i=k/\∃hk:k<y.1.2.2.1.length,y.1.2.2.1[k]=Ac y i)/\chg [Ac y i] (xU y i)=1/\2<=chg y.1.2.2.1 (xU y i)/\rX y i=(chg y.1.2.2.1 (xU y i):Nat):=by
 have e1:iX y i=sG y i:=by unfold iX;rw[if_pos h]
 have e2:rX y i=GZ y.1.1 y.1.2.2.1 (Ac y i):=by unfold rX;rw[if_pos h]
 unfold uQ at h;simp only[Bool.and_eq_true,Bool.not_eq_true',decide_eq_false_iff_not]at h;obtain⟨⟨⟨⟨⟨h1,h2⟩,h3⟩,h4⟩,h5⟩,h6⟩:=h;have hi:0<=i/\i<=(y.1.2.2.1.length:Int)-1:=(by simpa[inB]using h2);obtain⟨k,rfl⟩:=Int.eq_ofNat_of_zero_le hi.1;have hk:k<y.1.2.2.1.length:=by omega
 have hD:y.1.2.2.1[k]=Ac y (k:Int):=by
  unfold Ac;rw[Int.toNat_natCast,List.getElem?_eq_getElem hk];rfl
 obtain⟨m1,m2⟩:=BR h4;have hd:Ac y (k:Int)∈y.1.2.2.1:=by rw[<-hD];exact List.getElem_mem hk
 have hout:(xU y (k:Int)).contains (Ac y (k:Int))=false:=by
  unfold xU zS;rw[if_pos m1]
  have hs:(fH (aF y.1.1) y.1.2.2.1 (Ac y (k:Int))).isSome=true:=by
   unfold wK at h4;rw[Bool.and_eq_true]at h4;exact h4.2
  obtain⟨m,hm⟩:=Option.isSome_iff_exists.1 hs;rw[hm];exact G5 _ none m hm (fun m' q=>by cases q)
 have hno:Ac y (k:Int)∉xU y (k:Int):=(by simpa using hout);refine⟨e1,⟨k,rfl,hk,hD⟩,?_,Nn (EF m1) (EF m2) hd hno,?_⟩
 . unfold chg;rw[List.filter_cons_of_pos (by rw[hout];rfl)];rfl
 . rw[e2];unfold GZ;rw[if_pos h4];rfl
theorem Og {y:Wk} {i:Int} (h:uQ y i=false):iX y i=y/\rX y i= -1:=by
 unfold iX rX;rw[h];exact⟨rfl,rfl⟩
end Go.Proofs.YtljfoohaapckeaaGreatDoor
