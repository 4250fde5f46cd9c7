/- DoAct of the reference: the walk. Conditions: sizes. The laws FnExactUndoFlip and FnExactUndoAll: the walks. No conditions. What an act leaves: sizes; the same result in slices. Plain lemmas. Acts done one after another: plain laws, and the words that the walks share. A new floor, by the program: the walk. Conditions: sizes. A workshop stays valid: by acts, by purchases, by breaks, by turns. Plain laws; no program in sight. -/
import Derived.Test.YtljfoohaapckeaaGreatDoorZActPl
import Derived.Test.YtljfoohaapckeaaGreatDoorZG23
import Derived.Test.YtljfoohaapckeaaGreatDoorZG6
import Derived.Test.YtljfoohaapckeaaGreatDoorZDoActI
import Derived.Test.YtljfoohaapckeaaGreatDoorZFirstI
import Derived.Test.YtljfoohaapckeaaGreatDoorZG25
import Derived.Test.YtljfoohaapckeaaGreatDoorZG21
namespace Go.Proofs.YtljfoohaapckeaaGreatDoor
open Go.ChangeShapes Go.WideShapes Go.ChangeAt Go.RowKit
set_option linter.unusedVariables false
set_option linter.unusedSimpArgs false
set_option maxHeartbeats 4000000
set_option maxRecDepth 100000
theorem KE {x z:Fl} {b:Bool} (hs:dE x) (h:jO x=(z,b)):dE z:=by
 rcases b with _|_
 . unfold jO at h;split at h
   . cases h
   . injection h with h _;rw[<-h];exact hs
 . exact(FN hs h).2.2.2
theorem M5 {y:Wk} (a:Ac) (hs:dE y.1):dE (zZ y a).1:=by
 unfold zZ;repeat' split
 . exact nH _ hs
 . exact nN _ hs
 . exact hs
 . exact KE (b:=(jO y.1).2) hs rfl
 . exact hs
 . exact hs
noncomputable def goR (y:Wk) (ns:List Int):List Ac->Wk×List Int
  |[]=>(y,ns)
  |a::l=>goR (zZ y a) (ns++[Ec y a]) l
noncomputable def Gc (y:Wk) (l:List Ac):Wk×List Int:=if bT y=true/\l.length<=40 then goR y [] l else(y,[])
theorem OG {y:Wk} {ns:List Int} {l:List Ac} {k:Nat} (h:k<l.length):goR y ns (l.drop k)=goR (zZ y l[k]) (ns++[Ec y l[k]]) (l.drop (k+1)):=by rw[List.drop_eq_getElem_cons h];rfl
theorem Qv {y:Wk} {ns:List Int} {l:List Ac}:goR y ns (l.drop l.length)=(y,ns):=by rw[List.drop_of_length_le (Nat.le_refl _)];rfl
def Pt (R:Wk×List Int) (w:World) (e:Ending) (w':World):Prop:=∃u1 u2 u3 u4 A c,e= .returned (.tuple #[.agg #[u1,u2,u3,u4,.int .i64 R.1.2.1,.int .i64 R.1.2.2.1,.int .i64 R.1.2.2.2],.slice A R.2.length c])/\
  aB w.heap.size w' u1 u2 u3 u4 R.1.1/\aD 3 1 bH w.heap.size w' (.slice A R.2.length c) R.2/\(∀g,u1.ownBlock=some g->(Value.slice A R.2.length c).ownBlock≠some g)/\Below w.heap.size w w'
section
variable {W w w' : World} {gP gR : Nat} {cP cR : Array Value} {u1 u2 u3 u4 v : Value} {x : Fl} {B B' : Nat} {ns : List Int}
structure DB (W w:World) (gP gR:Nat) (cP cR:Array Value):Prop where
  B:Below W.heap.size W w
  p:Blk w gP 32 cP
  r:Blk w gR 32 cR
theorem DB.bl (h:DB W w gP gR cP cR) (hb:Below w.heap.size w w'):DB W w' gP gR cP cR:=⟨h.B.tr hb,h.p.bl hb,h.r.bl hb⟩
theorem DB.al (h:DB W w gP gR cP cR) (o:Obj):DB W (w.alloc o) gP gR cP cR:=⟨h.B.al o,h.p.alloc o,h.r.alloc o⟩
theorem DB.gr {g:Nat} (h:DB W w gP gR cP cR) (hg:w.grownBy w' (some g)) (hW:W.heap.size<=g) (h1:gP≠g) (h3:gR≠g):DB W w' gP gR cP cR:=
 ⟨h.B.grown hg h.B.size (fun k hk=>by injection hk with hk;subst hk;exact hW),h.p.grown hg (by simp;exact h1),h.r.grown hg (by simp;exact h3)⟩
theorem DB.alg {o:Obj} (h:DB W w gP gR cP cR) (hg:(w.alloc o).grownBy w' (some w.heap.size)):DB W w' gP gR cP cR:=
 (h.al o).gr hg h.B.size (Nat.ne_of_lt h.p.lt) (Nat.ne_of_lt h.r.lt)
theorem DB.app {o:Obj} (h:DB W w gP gR cP cR) (oS:aD 3 1 bH B' w v ns) (hg:(w.alloc o).grownBy w' v.ownBlock) (hB:Below W.heap.size W w'):DB W w' gP gR cP cR:=
 ⟨hB,(h.p.alloc o).grown hg (fun e=>oS.apart h.p (by decide) e.symm),(h.r.alloc o).grown hg (fun e=>oS.apart h.r (by decide) e.symm)⟩
theorem aB.R7 {o:Obj} (h:aB B w u1 u2 u3 u4 x) (oS:aD 3 1 bH B' w v ns) (ap:∀g,u1.ownBlock=some g->v.ownBlock≠some g) (hg:(w.alloc o).grownBy w' v.ownBlock):aB B w' u1 u2 u3 u4 x:=
 ⟨(h.a.alloc o).lK (Grown.of hg) (fun g q e=>ap g q e),(h.b.alloc o).lK (Grown.of hg) (fun g q=>h.b.Nn oS (by decide) q),(h.c.alloc o).lK (Grown.of hg) (fun g q=>h.c.Nn oS (by decide) q),(h.d.alloc o).lK (Grown.of hg) (fun g q=>h.d.Nn oS (by decide) q),h.ap⟩
theorem aD.RJ {t:TypeId} {cs:Array Value} (h:aD 3 1 bH B w v ns) (h1:3≠t) (hg:(w.alloc (.cells cs t)).grownBy w' (some w.heap.size)):aD 3 1 bH B w' v ns:=aD.xL (h.alloc _) (Blk.aZ w t cs) h1 hg
theorem aB.newer (h : aB B w' u1 u2 u3 u4 x) (oS : aD 3 1 bH B' w v ns) (hb : w.heap.size <= B) : ∀ g, u1.ownBlock = some g -> v.ownBlock ≠ some g := fun g q e => by
 have:=(h.lt (.inl q)).1;have:=(World.ownsRow.lt oS g e).2;omega
theorem Rs {v' : Value} {n : Nat} (h : aB B w u1 u2 u3 u4 x) (ap : ∀ g, u1.ownBlock = some g -> v.ownBlock ≠ some g) (hd : v'.ownBlock = v.ownBlock ∨ v'.ownBlock = some n) (hn : w.heap.size <= n) : ∀ g, u1.ownBlock = some g -> v'.ownBlock ≠ some g := fun g q e => by
 have h1:=(h.lt (.inl q)).2;rcases hd with d|d
 . exact ap g q (d.symm.trans e)
 . rw[e]at d;injection d with d;omega
end
def eH (rows:List Int):Fl:=if aY rows=0 then([],[],[],[])else(rows,dQ rows,dQ rows,[])
theorem mG {rows:List Int} (h:Small rows.length):dE (eH rows):=by
 have:=lL rows;unfold eH;split
 . exact⟨by unfold Small;simp,by unfold Small;simp,by unfold Small;simp,by unfold Small;simp⟩
 . exact⟨h,by unfold Small;simp only;omega,by unfold Small;simp only;omega,by unfold Small;simp⟩
theorem aO {P:Program} {ops:Array Oper} {rest:List Oper} {o:Oper} {a:Act} {w:World} {Q:Exit->Act->World->Prop} (hgd:o.guard=none) (ty:TypeId) (x y:Operand) (ho:o.op= .store ty x y)
    (g:Nat) (cells:Array Value) (hx:a.eval x= .pointer (some ⟨g,0,none⟩)) (hy:a.eval y= .agg cells)
    (t:TypeId) (old:Array Value) (hg:Blk w g t old) (hi:(P.info? ty).map (·.size)=some cells.size) (hold:old.size=cells.size) (h1:cells.all (·.oneCell')=true)
    (h:∀w',Blk w' g t cells->w.grownBy w' (some g)->wpList P ops Q rest (a.put o.dst undef) w'):wpList P ops Q (o::rest) a w:=
 wpList_store_row hgd ty x y ho g cells hx hy t old hg hi hold h1 (h _ (setRow_heap w g old cells t (0,0) hg) (G6 cells))
theorem oK (B:Nat) (w:World):aB B w (.slice none 0 0) (.slice none 0 0) (.slice none 0 0) (.slice none 0 0) ([],[],[],[]):=
 ⟨aD.Ct,aD.Ct,aD.Ct,aD.Ct,fun g q=>by simp[Value.ownBlock]at q⟩
theorem OH (v:Value) (rows:List Int) (w:World) (h:Rd 1 bG w v rows) (hl:Small rows.length):Calls Tryz.prog 37 #[.agg #[v]] w (mP (eH rows) (jM rows) w):=by
 obtain⟨A,c,rfl,hc,hm⟩:=h.form;have B0:=((Below.refl w.heap.size w).al (.cells #[.slice A rows.length c] 26)).al (.cells #[.slice none 0 0,.slice none 0 0,.slice none 0 0,.slice none 0 0] 30);have bX:=(Blk.aZ w 26 #[.slice A rows.length c]).alloc (.cells #[.slice none 0 0,.slice none 0 0,.slice none 0 0,.slice none 0 0] 30);have bR:=Blk.gI (w.alloc (.cells #[.slice A rows.length c] 26)) 30 #[.slice none 0 0,.slice none 0 0,.slice none 0 0,.slice none 0 0] (w.heap.size+1) (by simp);obtain⟨F,hF⟩:=R9 (dQ rows);obtain⟨b,hb⟩:=R9 (jM rows);have hFl:F.length<=64:=by rw[hF];exact lL rows
 have hFs:Small F.length:=by unfold Small;omega
 have CF:∀(u:Value) (w:World),Rd 1 bG w u rows->Calls Tryz.prog 86 #[.agg #[u]] w (Nk F b w):=fun u w k1=>by rw[hF,hb];exact IK u rows w k1
 have hN0 : b = false -> eH rows = ([], [], [], []) := fun q => by
  rw[hb]at q;unfold jM at q;unfold eH;rw[if_pos (by simpa using q)]
 have hN1 : b = true -> eH rows = (rows, F, F, []) := fun q => by
  rw[hb]at q;unfold jM at q;unfold eH;rw[if_neg (by simpa using q),<-hF]
 obtain⟨y,hy⟩:=R9 (eH rows);rw[<-hy]at hN0 hN1⊢;rw[<-hb];have HN0:=Sb hN0;have HN1:=Sb hN1;clear hF hb hN0 hN1 hy;go_enter Tryz.func37,Tryz.ntmps37
 go_wp2_with fail
 refine(CF _ _ (h.Sa B0)).mono ?_;rintro e w1 ⟨F1,f1,rfl,oF,hb1⟩;have B1:=B0.tr hb1;have bX1:=bX.bl hb1;have bR1:=bR.bl hb1;have oF:=oF.mono B0.size;obtain⟨gX,hgX⟩:=R9 w.heap.size;obtain⟨gR,hgR'⟩:=R9 (w.heap.size+1);have hgR:w.heap.size<=gR:=(by omega);rw[<-hgR']at bR1⊢;rw[<-hgX]at bX1⊢;clear hgX hgR' hb1 B0 bX bR;cases b
 . obtain rfl:([],[],[],[])=y:=(HN0.out rfl).symm;go_wp2_with (refine aO rfl 30 _ _ rfl gR #[.slice none 0 0,.slice none 0 0,.slice none 0 0,.slice none 0 0] rfl rfl _ _ bR1 (by kernel_rfl) rfl (by simp[Value.oneCell']) ?_;intro wE bE hgE)
   have BE:=B1.grown hgE B1.size (fun k hk=>by injection hk with hk;subst hk;exact hgR);obtain⟨q_0,q_1,q_2,q_3⟩:=bE.n4;refine bodyPost_ret (v:= .tuple #[.agg #[.slice none 0 0,.slice none 0 0,.slice none 0 0,.slice none 0 0],.bool false]) (by simp[results,Tryz.results37,go_sem,q_0,q_1,q_2,q_3]) rfl ⟨none,0,none,0,none,0,none,0,rfl,oK _ _,BE⟩
 . obtain rfl:(rows,F,F,[])=y:=(HN1.out rfl).symm;have z0:=bX1.c1;go_wp2_with fail
   refine(xB _ rows _ (h.Sa B1) hl).mono ?_;rintro e w2 ⟨D1,d1,rfl,o1,hb2⟩;have o1:=o1.mono B1.size;have oF2:=oF.below hb2;have B2:=B1.tr hb2;have bR2:=bR1.bl hb2;go_wp2_with fail
   refine(dF _ F _ (oF2.rd aC (by decide)) hFs).mono ?_;rintro e w3 ⟨D3,d3,rfl,o3,hb3⟩;have ap:∀g,(Value.slice F1 F.length f1).ownBlock=some g->(Value.slice D3 F.length d3).ownBlock≠some g:=fun g hg=>oF2.early o3 (Nat.le_refl _) hg
   have o3:=o3.mono B2.size;have B3:=(B2.tr hb3).al (.cells #[] 70);have bR3:=(bR2.bl hb3).alloc (.cells #[] 70);have o4:aD 70 2 dG w.heap.size (w3.alloc (.cells #[] 70)) (.slice (some ⟨w3.heap.size,0,none⟩) 0 0) ([]:List Cl):=(eZ w3).mono (B2.tr hb3).size
   have oA:aB w.heap.size (w3.alloc (.cells #[] 70)) (.slice D1 rows.length d1) (.slice F1 F.length f1) (.slice D3 F.length d3) (.slice (some ⟨w3.heap.size,0,none⟩) 0 0) (rows,F,F,[]):=
    ⟨(o1.below hb3).alloc _,(oF2.below hb3).alloc _,o3.alloc _,o4,ap⟩
   clear z0 hb2 hb3 o1 oF oF2 o3 o4 B1 B2 bX1 bR1 bR2;go_wp2_with (refine aO rfl 30 _ _ rfl gR #[.slice D1 rows.length d1,.slice F1 F.length f1,.slice D3 F.length d3,.slice (some ⟨w3.heap.size,0,none⟩) 0 0] rfl rfl _ _ bR3 (by kernel_rfl) rfl (by simp[Value.oneCell']) ?_;intro wE bE hgE)
   have oE:=aB.dB oA bR3 (by decide) (by decide) (by decide) hgE;have BE:=B3.grown hgE B3.size (fun k hk=>by injection hk with hk;subst hk;exact hgR);obtain⟨q_0,q_1,q_2,q_3⟩:=bE.n4;refine bodyPost_ret (v:= .tuple #[.agg #[.slice D1 rows.length d1,.slice F1 F.length f1,.slice D3 F.length d3,.slice (some ⟨w3.heap.size,0,none⟩) 0 0],.bool true]) (by simp[results,Tryz.results37,go_sem,q_0,q_1,q_2,q_3]) rfl ⟨D1,d1,F1,f1,D3,d3,some ⟨w3.heap.size,0,none⟩,0,rfl,oE,BE⟩
theorem Qw {x:Fl} (c:Cl) (h:lJ x=true):lJ (Cf x c).1=true:=by
 unfold Cf;split
 . rename_i q;obtain⟨h1,h2,h3⟩:=mQ.1 h;refine mQ.2 ⟨h1,?_,(by show iE x.2.1 (x.2.2.2++[c])=some (aV x.2.2.1 c);rw[Bc,h3,Option.bind_some,if_neg q.2.2])⟩;show(x.2.2.2++[c]).length<=60;rw[List.length_append,List.length_singleton];have:=q.2.1;omega
 . exact h
theorem lU {y:Wk}:bT y=true↔lJ y.1=true/\(inB y.2.1 0 10000&&inB y.2.2.1 0 10000&&inB y.2.2.2 0 10000)=true:=by
 unfold bT lJ;rw[Bool.and_eq_true]
theorem wP {y:Wk} (c:Cl) (h:bT y=true):bT (kD y c,y.2)=true:=by
 obtain⟨h1,h2⟩:=lU.1 h;refine lU.2 ⟨?_,h2⟩;show lJ (kD y c)=true;unfold kD;split
 . exact Qw c h1
 . exact h1
theorem Qx {y:Wk} (h:bT y=true):bT ((jO y.1).1,y.2)=true:=by
 obtain⟨h1,h2⟩:=lU.1 h;refine lU.2 ⟨?_,h2⟩;show lJ (jO y.1).1=true;unfold jO;split
 . exact Ld h1 _
 . exact h1
theorem EU {y:Wk} (l:List (Int×Int)) (n:Int) (h:bT y=true):bT (y.1,BB y l n,BC y l n,y.2.2.2)=true:=by
 unfold BB BC;by_cases q:uC y l n=true
 . rw[if_pos q,if_pos q];unfold uC at q;rw[Bool.and_eq_true]at q;exact q.2
 . rw[if_neg q,if_neg q];exact h
theorem yL {y:Wk} (i:Int) (h:bT y=true):bT (mJ y i)=true:=by
 unfold mJ;split
 . rename_i q;unfold DY at q;rw[Bool.and_eq_true]at q;exact q.2
 . exact h
theorem Rt {y:Wk} (a:Ac) (h:bT y=true):bT (zZ y a)=true:=by
 rcases q:(bT y&&jB a.1 a.2.1 a.2.2)with _|_
 . rw[(Pp q).1];exact h
 . rw[h,Bool.true_and]at q;rcases LY (k:=a.1) (a:=a.2.1) (b:=a.2.2) h q with⟨_,e,_⟩|⟨_,e,_⟩|⟨_,e,_⟩|⟨_,e,_⟩|⟨_,e,_⟩
   . rw[show a=(a.1,a.2.1,a.2.2) from rfl,e];exact wP _ h
   . rw[show a=(a.1,a.2.1,a.2.2) from rfl,e];exact yL _ h
   . rw[show a=(a.1,a.2.1,a.2.2) from rfl,e];exact EU _ _ h
   . rw[show a=(a.1,a.2.1,a.2.2) from rfl,e];exact Qx h
   . rw[show a=(a.1,a.2.1,a.2.2) from rfl,e];exact h
theorem Pv:∀(l:List Ac) {y:Wk} {ns:List Int},bT y=true->bT (goR y ns l).1=true
  |[],y,ns,h=>h
  |a::r,y,ns,h=>Pv r (Rt a h)
theorem LZ:∀(l:List Ac) (y:Wk) (ns:List Int),(goR y ns l).2.length=ns.length+l.length
  |[],y,ns=>rfl
  | a :: r, y, ns => by
   show(goR (zZ y a) (ns++[Ec y a]) r).2.length=_;rw[LZ r,List.length_append,List.length_singleton,List.length_cons];omega
theorem Qy {y:Wk} (l:List Ac) (h:bT y=true):bT (Gc y l).1=true:=by
 unfold Gc;split
 . exact Pv l h
 . exact h
theorem JI {y:Wk} {l:List Ac} (h:bT y=true) (hl:l.length<=40):(Gc y l).2.length=l.length:=by
 unfold Gc;rw[if_pos ⟨h,hl⟩,LZ];exact Nat.zero_add _
theorem KF {rows:List Int} (hr:dU rows) (h:yU rows):(eD rows).length<=58:=by
 unfold eD;rw[if_pos (aN.2 hr),xG]
 have hb : ∀ j, 58 <= j -> (setOf rows).testBit j = false := fun j hj => by
  rw[vS hr];by_cases hk:j/8<rows.length
  . have h7 : j / 8 = 7 := by have := hr.1; omega
    have hv:=h.2 _ hk (by omega);have hp:=hr.2 _ (List.getElem_mem hk);rw[List.getD_eq_getElem?_getD,List.getElem?_eq_getElem hk];obtain⟨n,hn⟩:∃n:Nat,n=(rows[j/8]).toNat:=⟨_,rfl⟩;show(rows[j/8]).toNat.testBit (j%8)=false;rw[<-hn];have hn3:n<2^2:=(by omega);refine Nat.testBit_lt_two_pow (Nat.lt_of_lt_of_le hn3 (Nat.pow_le_pow_right (by omega) (by omega)))
  . rw [List.getD_eq_getElem?_getD, List.getElem?_eq_none (by omega)];simp
 have hle : ∀ f : Nat -> Bool, ∀ k, cntF f k <= k := fun f k => by
  induction k with
  |zero=>exact Nat.le_refl _
  |succ k ih=>rw[iK];have:=Bool.toNat_le (f k);omega
 show cntF _ (58+1+1+1+1+1+1)<=58;simp only[iK _ (58+1+1+1+1+1),iK _ (58+1+1+1+1),iK _ (58+1+1+1),iK _ (58+1+1),iK _ (58+1),iK _ 58,hb 58 (by omega),hb (58+1) (by omega),hb (58+1+1) (by omega),hb (58+1+1+1) (by omega),hb (58+1+1+1+1) (by omega),hb (58+1+1+1+1+1) (by omega),Bool.toNat_false,Nat.add_zero];exact hle _ _
theorem Ru {rows:List Int} (h:dU rows):aY rows=fE (setOf rows):=by unfold aY;rw[if_pos (aN.2 h)]
theorem wQ {rows:List Int} (h:R12 rows):jM rows=true/\eH rows=(rows,dQ rows,dQ rows,[])/\eU rows (dQ rows)=true/\(dQ rows).length<=29:=by
 obtain⟨h1,h2,h3,h4⟩:=h;have hne:aY rows≠0:=by omega
 have ht:eU rows (dQ rows)=true:=by
  unfold dQ;rw[if_neg hne];exact Iy h1 (Ka (eB h1) (by rw[<-Ru h1];exact hne))
 refine⟨by unfold jM;exact decide_eq_true hne,by unfold eH;rw[if_neg hne],ht,?_⟩;have hc:=KF h1 h4;unfold eU at ht;rw[Bool.and_eq_true,decide_eq_true_iff]at ht;omega
theorem Pw {rows:List Int} (h:R12 rows):lJ (eH rows)=true:=by
 obtain⟨h1,h2,h3,h4⟩:=wQ h;rw[h2];exact mQ.2 ⟨h3,by simp,by simp[iE]⟩
theorem L6 {rows:List Int} {stock:Int} (h:R12 rows) (hs:30<=stock/\stock<=49):bT (eH rows,stock-((eH rows).2.2.1.length:Int),0,0)=true:=by
 have hf:=Pw h;obtain⟨h1,h2,h3,h4⟩:=wQ h;refine lU.2 ⟨hf,?_⟩;rw[h2];unfold inB;simp;omega
end Go.Proofs.YtljfoohaapckeaaGreatDoor
