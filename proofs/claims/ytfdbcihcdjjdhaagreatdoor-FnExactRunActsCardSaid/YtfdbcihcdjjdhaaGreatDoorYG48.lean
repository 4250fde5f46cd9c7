/- Acts done one after another: plain laws, and the words that the walks share. RunActs of the program: the walk. Conditions: sizes; the library's table of powers, as its text lays it. RunActs of the reference: the walk. Conditions: sizes. Lists of numbers compared, on all sides: the walks. No conditions. IsReplay, of both sides: the walks. Conditions: sizes; the library's table of powers, as its text lays it. -/
import Derived.Test.YtfdbcihcdjjdhaaGreatDoorYG45
import Derived.Test.YtfdbcihcdjjdhaaGreatDoorYK1
namespace Go.Proofs.YtfdbcihcdjjdhaaGreatDoor
open Go.ChangeShapes Go.WideShapes Go.ChangeAt Go.RowKit
set_option linter.unusedVariables false
set_option linter.unusedSimpArgs false
set_option maxHeartbeats 4000000
set_option maxRecDepth 100000
noncomputable def goR (y:Wk) (ns:List Int):List Ac→Wk×List Int
  |[]=>(y,ns)
  |a::l=>goR (actW y a) (ns++[actN y a]) l
noncomputable def runR (y:Wk) (l:List Ac):Wk×List Int:=if workOk y=true∧l.length≤40 then goR y [] l else(y,[])
theorem goR_step {y:Wk} {ns:List Int} {l:List Ac} {k:Nat} (h:k<l.length):goR y ns (l.drop k)=goR (actW y l[k]) (ns++[actN y l[k]]) (l.drop (k+1)):=by rw[List.drop_eq_getElem_cons h];rfl
theorem goR_end {y:Wk} {ns:List Int} {l:List Ac}:goR y ns (l.drop l.length)=(y,ns):=by rw[List.drop_of_length_le (Nat.le_refl _)];rfl
def RetRun (R:Wk×List Int) (w:World) (e:Ending) (w':World):Prop:=∃u1 u2 u3 u4 A c,e= .returned (.tuple #[.agg #[u1,u2,u3,u4,.int .i64 R.1.2.1,.int .i64 R.1.2.2.1,.int .i64 R.1.2.2.2],.slice A R.2.length c])∧
  OwnFl w.heap.size w' u1 u2 u3 u4 R.1.1∧OwnL 3 1 eInt w.heap.size w' (.slice A R.2.length c) R.2∧(∀g,u1.ownBlock=some g→(Value.slice A R.2.length c).ownBlock≠some g)∧Below w.heap.size w w'
section
variable {W w w' : World} {gP gR : Nat} {cP cR : Array Value} {u1 u2 u3 u4 v : Value} {x : Fl} {B B' : Nat} {ns : List Int}
structure DB (W w:World) (gP gR:Nat) (cP cR:Array Value):Prop where
  B:Below W.heap.size W w
  p:Blk w gP 38 cP
  r:Blk w gR 38 cR
theorem DB.bl (h:DB W w gP gR cP cR) (hb:Below w.heap.size w w'):DB W w' gP gR cP cR:=⟨h.B.tr hb,h.p.bl hb,h.r.bl hb⟩
theorem DB.al (h:DB W w gP gR cP cR) (o:Obj):DB W (w.alloc o) gP gR cP cR:=⟨h.B.al o,h.p.alloc o,h.r.alloc o⟩
theorem DB.gr {g:Nat} (h:DB W w gP gR cP cR) (hg:w.grownBy w' (some g)) (hW:W.heap.size≤g) (h1:gP≠g) (h3:gR≠g):DB W w' gP gR cP cR:=
 ⟨h.B.grown hg h.B.size (fun k hk=>by injection hk with hk;subst hk;exact hW),h.p.grown hg (by simp;exact h1),h.r.grown hg (by simp;exact h3)⟩
theorem DB.alg {o:Obj} (h:DB W w gP gR cP cR) (hg:(w.alloc o).grownBy w' (some w.heap.size)):DB W w' gP gR cP cR:=
 (h.al o).gr hg h.B.size (Nat.ne_of_lt h.p.lt) (Nat.ne_of_lt h.r.lt)
theorem DB.app {o:Obj} (h:DB W w gP gR cP cR) (oS:OwnL 3 1 eInt B' w v ns) (hg:(w.alloc o).grownBy w' v.ownBlock) (hB:Below W.heap.size W w'):DB W w' gP gR cP cR:=
 ⟨hB,(h.p.alloc o).grown hg (fun e=>oS.apart h.p (by decide) e.symm),(h.r.alloc o).grown hg (fun e=>oS.apart h.r (by decide) e.symm)⟩
theorem OwnFl.appI {o:Obj} (h:OwnFl B w u1 u2 u3 u4 x) (oS:OwnL 3 1 eInt B' w v ns) (ap:∀g,u1.ownBlock=some g→v.ownBlock≠some g) (hg:(w.alloc o).grownBy w' v.ownBlock):OwnFl B w' u1 u2 u3 u4 x:=
 ⟨(h.a.alloc o).grownS (Grown.of hg) (fun g q e=>ap g q e),(h.b.alloc o).grownS (Grown.of hg) (fun g q=>h.b.twoE oS (by decide) q),(h.c.alloc o).grownS (Grown.of hg) (fun g q=>h.c.twoE oS (by decide) q),(h.d.alloc o).grownS (Grown.of hg) (fun g q=>h.d.twoE oS (by decide) q),h.ap⟩
theorem OwnL.algI {t:TypeId} {cs:Array Value} (h:OwnL 3 1 eInt B w v ns) (h1:3≠t) (hg:(w.alloc (.cells cs t)).grownBy w' (some w.heap.size)):OwnL 3 1 eInt B w' v ns:=OwnL.rowL (h.alloc _) (Blk.new_ w t cs) h1 hg
theorem OwnFl.newer (h : OwnFl B w' u1 u2 u3 u4 x) (oS : OwnL 3 1 eInt B' w v ns) (hb : w.heap.size ≤ B) : ∀ g, u1.ownBlock = some g → v.ownBlock ≠ some g := fun g q e => by
 have:=(h.lt (.inl q)).1;have:=(World.ownsRow.lt oS g e).2;omega
theorem ap_app {v' : Value} {n : Nat} (h : OwnFl B w u1 u2 u3 u4 x) (ap : ∀ g, u1.ownBlock = some g → v.ownBlock ≠ some g) (hd : v'.ownBlock = v.ownBlock ∨ v'.ownBlock = some n) (hn : w.heap.size ≤ n) : ∀ g, u1.ownBlock = some g → v'.ownBlock ≠ some g := fun g q e => by
 have h1:=(h.lt (.inl q)).2;rcases hd with d|d
 · exact ap g q (d.symm.trans e)
 · rw[e]at d;injection d with d;omega
end
theorem runI_any (u1 u2 u3 u4 u5:Value) (x:Fl) (s p r:Int) (l:List Ac) (w:World) (h1:Rd 1 RInt w u1 x.1) (h2:Rd 3 RDom w u2 x.2.1) (h3:Rd 3 RDom w u3 x.2.2.1) (h4:Rd 2 RPair w u4 x.2.2.2) (h5:Rd 3 (RE eTrip) w u5 l) (hs:Small4 x) (ht:Tab w):
 Calls Tryz.prog 30 #[.agg #[u1,u2,u3,u4,.int .i64 s,.int .i64 p,.int .i64 r],u5] w (RetRun (runR (x,s,p,r) l) w):=by
 have HTB:=Lib.hid ht;clear ht;obtain⟨A5,c5,rfl,hc5,hm5⟩:=h5.form;obtain⟨R,hR0⟩:∃R,R=runR (x,s,p,r) l:=⟨_,rfl⟩;obtain⟨kk,hkk⟩:∃kk,kk=workOk (x,s,p,r):=⟨_,rfl⟩
 have hno : kk = false ∨ ¬ l.length ≤ 40 → R = ((x, s, p, r), []) := fun h => by
  rw[hR0];unfold runR;rw[←hkk,if_neg];rcases h with h|h
  · rw[h];exact fun e=>absurd e.1 (by decide)
  · exact fun e=>h e.2
 have hyes:kk=true→l.length≤40→goR (x,s,p,r) [] l=R:=fun h h'=>by rw[hR0];unfold runR;rw[←hkk,if_pos ⟨h,h'⟩]
 rw[←hR0];have CK:∀w,R4 w u1 u2 u3 u4 x→Calls Tryz.prog 55 #[.agg #[u1,u2,u3,u4,.int .i64 s,.int .i64 p,.int .i64 r]] w (Ret (.bool kk) w):=fun w h=>by rw[hkk];exact workOkI_any _ _ _ _ (x,s,p,r) w h.a h.b h.c h.d hs.2.1
 have CC:∀w,R4 w u1 u2 u3 u4 x→Calls Tryz.prog 87 #[.agg #[u1,u2,u3,u4,.int .i64 s,.int .i64 p,.int .i64 r]] w (RetW (fun v=>v) (x,s,p,r) w):=fun w h=>(copyWkI_any _ _ _ _ x s p r w h.a h.b h.c h.d hs).mono fun _ _=>retW_w
 have HN:=Lib.hid hno;have HY:=Lib.hid hyes;have hR:R4 w u1 u2 u3 u4 x:=⟨h1,h2,h3,h4⟩;clear hR0 hkk hno hyes h1 h2 h3 h4
 have D0:DB w ((w.alloc (.cells #[u1,u2,u3,u4,.int .i64 s,.int .i64 p,.int .i64 r] 38)).alloc (.cells #[.slice none 0 0,.slice none 0 0,.slice none 0 0,.slice none 0 0,.int .i64 0,.int .i64 0,.int .i64 0] 38)) w.heap.size (w.heap.size+1) #[u1,u2,u3,u4,.int .i64 s,.int .i64 p,.int .i64 r] #[.slice none 0 0,.slice none 0 0,.slice none 0 0,.slice none 0 0,.int .i64 0,.int .i64 0,.int .i64 0]:=
  ⟨((Below.refl w.heap.size w).al _).al _,(Blk.new_ w _ _).alloc _,Blk.new2 (w.alloc _) _ _ (w.heap.size+1) (by simp)⟩
 go_enter Tryz.func30,Tryz.ntmps30
 go_wp2_with fail
 obtain⟨W0,hW0⟩:∃W0,W0=(w.alloc (.cells #[u1,u2,u3,u4,.int .i64 s,.int .i64 p,.int .i64 r] 38)).alloc (.cells #[.slice none 0 0,.slice none 0 0,.slice none 0 0,.slice none 0 0,.int .i64 0,.int .i64 0,.int .i64 0] 38):=⟨_,rfl⟩;obtain⟨gP,hgP⟩:∃g,g=w.heap.size:=⟨_,rfl⟩;obtain⟨gR,hgR'⟩:∃g,g=w.heap.size+1:=⟨_,rfl⟩;rw[←hW0,←hgR',←hgP]at D0;rw[←hW0,←hgR',←hgP];have hgR:w.heap.size≤gR:=(by omega);have hgPR:gP≠gR:=(by omega);clear hW0 hgP hgR';refine(CC _ (hR.bl D0.B)).mono ?_;rintro e w3 ⟨C1,C2,C3,C4,rfl,oO,hb3⟩;have D3:=D0.bl hb3;have oO:=oO.mono D0.B.size;clear D0 hb3;go_upto_region 2 with(refine wpList_storeRow rfl 38 _ _ rfl w3.heap.size #[C1,C2,C3,C4,.int .i64 s,.int .i64 p,.int .i64 r] rfl rfl _ _ (Blk.new_ w3 38 #[.slice none 0 0,.slice none 0 0,.slice none 0 0,.slice none 0 0,.int .i64 0,.int .i64 0,.int .i64 0]) (by kernel_rfl) rfl (one7 oO.one) ?_;intro w0 bN0 hg4;have D0:=D3.alg hg4;have oO:=OwnFl.alg oO (by decide) (by decide) (by decide) hg4)
 obtain⟨gN,hgN'⟩:∃g,g=w3.heap.size:=⟨_,rfl⟩;have hPN:gP≠gN:=by have:=D3.p.lt;omega
 have hRN:gR≠gN:=by have:=D3.r.lt;omega
 have hgN:w.heap.size≤gN:=by have:=D3.B.size;omega
 rw[←hgN']at bN0⊢;clear hgN' hg4 D3;obtain⟨y_0,y_1,y_2,y_3,y_4,y_5,y_6⟩:=D0.p.n7;go_wp2_with fail
 refine(CK _ (hR.bl D0.B)).mono ?_;rintro e w1 ⟨rfl,hb1⟩;have D1:=D0.bl hb1;have bN1:=bN0.bl hb1;have oO1:=oO.below hb1;clear D0 bN0 oO hb1 y_0 y_1 y_2 y_3 y_4 y_5 y_6;cases kk
 · obtain rfl := HN.out (.inl (by first | rfl | trivial));obtain⟨y_0,y_1,y_2,y_3,y_4,y_5,y_6⟩:=bN1.n7;go_wp2_with (refine wpList_storeRow rfl 38 _ _ rfl gR #[C1,C2,C3,C4,.int .i64 s,.int .i64 p,.int .i64 r] rfl rfl _ _ D1.r (by kernel_rfl) rfl (one7 oO1.one) ?_;intro wE bE hgE)
   have oE:=OwnFl.rowI oO1 D1.r (by decide) (by decide) (by decide) hgE;have BE:=D1.B.grown hgE D1.B.size (fun k hk=>by injection hk with hk;subst hk;exact hgR);obtain⟨q_0,q_1,q_2,q_3,q_4,q_5,q_6⟩:=bE.n7;refine bodyPost_ret (v:= .tuple #[.agg #[C1,C2,C3,C4,.int .i64 s,.int .i64 p,.int .i64 r],.slice none 0 0]) (by simp[results,Tryz.results30,go_sem,q_0,q_1,q_2,q_3,q_4,q_5,q_6]) rfl ⟨_,_,_,_,_,_,rfl,oE,own_nil _,fun g q e=>by simp[Value.ownBlock]at e,BE⟩
 · by_cases h40:l.length≤40
   · have h40' : decide ((40 : Int) < (l.length : Int)) = false := decide_eq_false (by omega);have hy:=HY.out (by first|rfl|trivial) h40;have HG:=Lib.hid hy;clear hy;go_wp2;go_loopw [7,26] (fun s7 s26 wr=>∃(k:Nat) (x2:Fl) (s2 p2 r2:Int) (ns:List Int) (A7:Option Addr) (c7:Nat) (V1 V2 V3 V4:Value),k≤l.length∧s26= .int .i64 k∧s7= .slice A7 ns.length c7∧Hid (goR (x2,s2,p2,r2) ns (l.drop k)=R)∧Hid (Small4 x2)∧Hid (ns.length=k)∧DB w wr gP gR #[u1,u2,u3,u4,.int .i64 s,.int .i64 p,.int .i64 r] #[.slice none 0 0,.slice none 0 0,.slice none 0 0,.slice none 0 0,.int .i64 0,.int .i64 0,.int .i64 0]∧Blk wr gN 38 #[V1,V2,V3,V4,.int .i64 s2,.int .i64 p2,.int .i64 r2]∧OwnFl w.heap.size wr V1 V2 V3 V4 x2∧OwnL 3 1 eInt w.heap.size wr (.slice A7 ns.length c7) ns∧∀g,V1.ownBlock=some g→(Value.slice A7 ns.length c7).ownBlock≠some g) (fun _ i _=>l.length-(intOf i).toNat)
     case atStart=>exact⟨0,x,s,p,r,[],_,_,_,_,_,_,Nat.zero_le _,rfl,rfl,Lib.hid HG.out,Lib.hid hs,Lib.hid rfl,D1.al _,bN1.alloc _,oO1.alloc _,own_mt w1 _ rfl _ D1.B.size,fun g q e=>by have:=(oO1.lt (.inl q)).2;simp[Value.ownBlock]at e;omega⟩
     case round=>
      obtain⟨k,x2,s2,p2,r2,ns,A7,c7,V1,V2,V3,V4,hk,rfl,rfl,Hg,Hs2,Hn,D,bN,oW,oS,ap⟩:=hrel;clear D1 bN1 oO1;by_cases hlt:k<l.length
      · skip;obtain⟨b,off,rfl,hb,k0,k1,k2⟩:=(h5.below RE.stays D.B).atTrip hlt;have hg:=Hg.out;rw[goR_step hlt]at hg;have hsm:=act_small (y:=(x2,s2,p2,r2)) l[k] Hs2.out;obtain⟨⟨ka,kb,kc⟩,hx⟩:∃x,x=l[k]:=⟨_,rfl⟩;rw[←hx]at k0 k1 k2 hg hsm;simp only at k0 k1 k2;obtain⟨⟨z,zs,zp,zr⟩,hz⟩:∃z,z=actW (x2,s2,p2,r2) (ka,kb,kc):=⟨_,rfl⟩;obtain⟨m,hm⟩:∃m,m=actN (x2,s2,p2,r2) (ka,kb,kc):=⟨_,rfl⟩;rw[←hz,←hm]at hg;rw[←hz]at hsm;have Hg2:=Lib.hid hg;have HSm:=Lib.hid hsm;have HZ:=Lib.hid hz;have HM:=Lib.hid hm;have hn40:ns.length<40:=by have:=Hn.out;omega
        have H8:Hid ((ns.length+1)*8≤140737488355328):=Lib.hid (by omega);have HX:Hid (ns.length+1≤maxLen):=Lib.hid (by unfold maxLen;omega);clear hg hsm hx hz hm;obtain⟨y_0,y_1,y_2,y_3,y_4,y_5,y_6⟩:=bN.n7;have hNl:=bN.lt;go_wp2_with fail
        refine(doActI_any _ _ _ _ x2 s2 p2 r2 ka kb kc _ (oW.alloc _).ra (oW.alloc _).rb (oW.alloc _).rc (oW.alloc _).rd Hs2.out (HTB.out.below (D.B.al _))).mono ?_;rw[←HZ.out,←HM.out];rintro e w4 ⟨E1,E2,E3,E4,rfl,oT,hb4⟩;have D4:=(D.al _).bl hb4;have bN4:=(bN.alloc _).bl hb4;have oS4:=(oS.alloc _).below hb4;have ap4:=oT.newer (oS.alloc _) (Nat.le_refl _);have oT:=oT.mono (D.B.al _).size;clear y_0 y_1 y_2 y_3 y_4 y_5 y_6 hb4 D bN oW oS ap k0 k1 k2 hb;have hNl:=bN4.lt;go_upto_region 9 with(refine wpList_storeRow rfl 38 _ _ rfl w4.heap.size #[E1,E2,E3,E4,.int .i64 zs,.int .i64 zp,.int .i64 zr] rfl rfl _ _ (Blk.new_ w4 38 #[.slice none 0 0,.slice none 0 0,.slice none 0 0,.slice none 0 0,.int .i64 0,.int .i64 0,.int .i64 0]) (by kernel_rfl) rfl (one7 oT.one) ?_;intro w5 bM5 hg5)
        have D5:=D4.alg hg5;have bN5:=(bN4.alloc _).grown hg5 (by simp;omega);have oT5:=OwnFl.alg oT (by decide) (by decide) (by decide) hg5;have oS5:=oS4.algI (by decide) hg5;clear D4 bN4 oT oS4 hg5;obtain⟨y_0,y_1,y_2,y_3,y_4,y_5,y_6⟩:=bM5.n7;go_upto_region 10 with(refine wpList_storeRow rfl 38 _ _ rfl gN #[E1,E2,E3,E4,.int .i64 zs,.int .i64 zp,.int .i64 zr] rfl rfl _ _ bN5 (by kernel_rfl) rfl (one7 oT5.one) ?_;intro w6 bN6 hg6)
        have D6:=D5.gr hg6 hgN hPN hRN;have oT6:=OwnFl.rowI oT5 bN5 (by decide) (by decide) (by decide) hg6;have oS6:=OwnL.rowL oS5 bN5 (by decide) hg6;clear D5 bN5 oT5 oS5 hg6 y_0 y_1 y_2 y_3 y_4 y_5 y_6 bM5 hNl;go_wp2_with (at_builtin;go_must (refine wpList_app1 (enc:=eInt) rowInt lenInt oneInt D6.B oS6 (m:Int) H8.out HX.out rfl _ _ rfl rfl rfl ?_);intro v7 w7 own7 hb7 hg7 hd7;obtain⟨A8,c8,rfl,hc8,hm8⟩:=own7.form)
        go_roundw
        case rel=>exact⟨k+1,z,zs,zp,zr,ns++[m],A8,c8,E1,E2,E3,E4,by omega,by go_num,by rw[List.length_append,List.length_singleton],Hg2,HSm,Lib.hid (by rw[List.length_append,List.length_singleton,Hn.out]),D6.app oS6 hg7 hb7,(bN6.alloc _).grown hg7 (fun e=>oS6.apart bN6 (by decide) e.symm),oT6.appI oS6 ap4 hg7,own7,ap_app oT6 ap4 hd7 (by omega)⟩
        case measure=>simp[intOf];omega
      · obtain rfl : k = l.length := by omega
        have hg:=Hg.out;rw[goR_end]at hg;subst hg;obtain⟨y_0,y_1,y_2,y_3,y_4,y_5,y_6⟩:=bN.n7;go_wp2_with (refine wpList_storeRow rfl 38 _ _ rfl gR #[V1,V2,V3,V4,.int .i64 s2,.int .i64 p2,.int .i64 r2] rfl rfl _ _ D.r (by kernel_rfl) rfl (one7 oW.one) ?_;intro wE bE hgE)
        have oE:=OwnFl.rowI oW D.r (by decide) (by decide) (by decide) hgE;have oL:=OwnL.rowL oS D.r (by decide) hgE;have BE:=D.B.grown hgE D.B.size (fun k hk=>by injection hk with hk;subst hk;exact hgR);obtain⟨q_0,q_1,q_2,q_3,q_4,q_5,q_6⟩:=bE.n7;refine bodyPost_ret (v:= .tuple #[.agg #[V1,V2,V3,V4,.int .i64 s2,.int .i64 p2,.int .i64 r2],.slice A7 ns.length c7]) (by simp[results,Tryz.results30,go_sem,q_0,q_1,q_2,q_3,q_4,q_5,q_6]) rfl ⟨_,_,_,_,_,_,rfl,oE,oL,ap,BE⟩
   · have h40' : decide ((40 : Int) < (l.length : Int)) = true := decide_eq_true (by omega);obtain rfl:=HN.out (.inr h40);obtain⟨y_0,y_1,y_2,y_3,y_4,y_5,y_6⟩:=bN1.n7;go_wp2_with (refine wpList_storeRow rfl 38 _ _ rfl gR #[C1,C2,C3,C4,.int .i64 s,.int .i64 p,.int .i64 r] rfl rfl _ _ D1.r (by kernel_rfl) rfl (one7 oO1.one) ?_;intro wE bE hgE)
     have oE:=OwnFl.rowI oO1 D1.r (by decide) (by decide) (by decide) hgE;have BE:=D1.B.grown hgE D1.B.size (fun k hk=>by injection hk with hk;subst hk;exact hgR);obtain⟨q_0,q_1,q_2,q_3,q_4,q_5,q_6⟩:=bE.n7;refine bodyPost_ret (v:= .tuple #[.agg #[C1,C2,C3,C4,.int .i64 s,.int .i64 p,.int .i64 r],.slice none 0 0]) (by simp[results,Tryz.results30,go_sem,q_0,q_1,q_2,q_3,q_4,q_5,q_6]) rfl ⟨_,_,_,_,_,_,rfl,oE,own_nil _,fun g q e=>by simp[Value.ownBlock]at e,BE⟩
theorem runS_any (u1 u2 u3 u4 u5:Value) (x:Fl) (s p r:Int) (l:List Ac) (w:World) (h1:Rd 1 RInt w u1 x.1) (h2:Rd 3 RDom w u2 x.2.1) (h3:Rd 3 RDom w u3 x.2.2.1) (h4:Rd 2 RPair w u4 x.2.2.2) (h5:Rd 3 (RE eTrip) w u5 l) (hs:Small4 x):
 Calls Tryz.prog 28 #[.agg #[u1,u2,u3,u4,.int .i64 s,.int .i64 p,.int .i64 r],u5] w (RetRun (runR (x,s,p,r) l) w):=by
 obtain⟨A5,c5,rfl,hc5,hm5⟩:=h5.form;obtain⟨R,hR0⟩:∃R,R=runR (x,s,p,r) l:=⟨_,rfl⟩;obtain⟨kk,hkk⟩:∃kk,kk=workOk (x,s,p,r):=⟨_,rfl⟩
 have hno : kk = false ∨ ¬ l.length ≤ 40 → R = ((x, s, p, r), []) := fun h => by
  rw[hR0];unfold runR;rw[←hkk,if_neg];rcases h with h|h
  · rw[h];exact fun e=>absurd e.1 (by decide)
  · exact fun e=>h e.2
 have hyes:kk=true→l.length≤40→goR (x,s,p,r) [] l=R:=fun h h'=>by rw[hR0];unfold runR;rw[←hkk,if_pos ⟨h,h'⟩]
 rw[←hR0];have CK:∀w,R4 w u1 u2 u3 u4 x→Calls Tryz.prog 82 #[.agg #[u1,u2,u3,u4,.int .i64 s,.int .i64 p,.int .i64 r]] w (Ret (.bool kk) w):=fun w h=>by rw[hkk];exact workOkS_any _ _ _ _ (x,s,p,r) w h.a h.b h.c h.d hs.2.1
 have CC:∀w,R4 w u1 u2 u3 u4 x→Calls Tryz.prog 81 #[.agg #[u1,u2,u3,u4,.int .i64 s,.int .i64 p,.int .i64 r]] w (RetW (fun v=>v) (x,s,p,r) w):=fun w h=>(copyWkS_any _ _ _ _ x s p r w h.a h.b h.c h.d hs).mono fun _ _=>retW_w
 have HN:=Lib.hid hno;have HY:=Lib.hid hyes;have hR:R4 w u1 u2 u3 u4 x:=⟨h1,h2,h3,h4⟩;clear hR0 hkk hno hyes h1 h2 h3 h4
 have D0:DB w ((w.alloc (.cells #[u1,u2,u3,u4,.int .i64 s,.int .i64 p,.int .i64 r] 38)).alloc (.cells #[.slice none 0 0,.slice none 0 0,.slice none 0 0,.slice none 0 0,.int .i64 0,.int .i64 0,.int .i64 0] 38)) w.heap.size (w.heap.size+1) #[u1,u2,u3,u4,.int .i64 s,.int .i64 p,.int .i64 r] #[.slice none 0 0,.slice none 0 0,.slice none 0 0,.slice none 0 0,.int .i64 0,.int .i64 0,.int .i64 0]:=
  ⟨((Below.refl w.heap.size w).al _).al _,(Blk.new_ w _ _).alloc _,Blk.new2 (w.alloc _) _ _ (w.heap.size+1) (by simp)⟩
 go_enter Tryz.func28,Tryz.ntmps28
 go_wp2_with fail
 obtain⟨W0,hW0⟩:∃W0,W0=(w.alloc (.cells #[u1,u2,u3,u4,.int .i64 s,.int .i64 p,.int .i64 r] 38)).alloc (.cells #[.slice none 0 0,.slice none 0 0,.slice none 0 0,.slice none 0 0,.int .i64 0,.int .i64 0,.int .i64 0] 38):=⟨_,rfl⟩;obtain⟨gP,hgP⟩:∃g,g=w.heap.size:=⟨_,rfl⟩;obtain⟨gR,hgR'⟩:∃g,g=w.heap.size+1:=⟨_,rfl⟩;rw[←hW0,←hgR',←hgP]at D0;rw[←hW0,←hgR',←hgP];have hgR:w.heap.size≤gR:=(by omega);have hgPR:gP≠gR:=(by omega);clear hW0 hgP hgR';refine(CC _ (hR.bl D0.B)).mono ?_;rintro e w3 ⟨C1,C2,C3,C4,rfl,oO,hb3⟩;have D3:=D0.bl hb3;have oO:=oO.mono D0.B.size;clear D0 hb3;go_upto_region 2 with(refine wpList_storeRow rfl 38 _ _ rfl w3.heap.size #[C1,C2,C3,C4,.int .i64 s,.int .i64 p,.int .i64 r] rfl rfl _ _ (Blk.new_ w3 38 #[.slice none 0 0,.slice none 0 0,.slice none 0 0,.slice none 0 0,.int .i64 0,.int .i64 0,.int .i64 0]) (by kernel_rfl) rfl (one7 oO.one) ?_;intro w0 bN0 hg4;have D0:=D3.alg hg4;have oO:=OwnFl.alg oO (by decide) (by decide) (by decide) hg4)
 obtain⟨gN,hgN'⟩:∃g,g=w3.heap.size:=⟨_,rfl⟩;have hPN:gP≠gN:=by have:=D3.p.lt;omega
 have hRN:gR≠gN:=by have:=D3.r.lt;omega
 have hgN:w.heap.size≤gN:=by have:=D3.B.size;omega
 rw[←hgN']at bN0⊢;clear hgN' hg4 D3;obtain⟨y_0,y_1,y_2,y_3,y_4,y_5,y_6⟩:=D0.p.n7;have hPl:=D0.p.lt;have oS0:=own_mt w0 (E:=3) (enc:=eInt) (size:=1) _ rfl w.heap.size D0.B.size;have ap0:∀g,C1.ownBlock=some g→(Value.slice (some ⟨w0.heap.size,0,none⟩) 0 0).ownBlock≠some g:=fun g q e=>by have:=(oO.lt (.inl q)).2;simp[Value.ownBlock]at e;omega
 go_wp2_with fail
 refine(CK _ (hR.bl (D0.B.al _))).mono ?_;rintro e w1 ⟨rfl,hb1⟩;have D1:=(D0.al _).bl hb1;have bN1:=(bN0.alloc _).bl hb1;have oO1:=(oO.alloc _).below hb1;have oS1:=oS0.below hb1;clear D0 bN0 oO oS0 hb1 y_0 y_1 y_2 y_3 y_4 y_5 y_6 hPl;cases kk
 · obtain rfl := HN.out (.inl (by first | rfl | trivial));obtain⟨y_0,y_1,y_2,y_3,y_4,y_5,y_6⟩:=bN1.n7;go_wp2_with (refine wpList_storeRow rfl 38 _ _ rfl gR #[C1,C2,C3,C4,.int .i64 s,.int .i64 p,.int .i64 r] rfl rfl _ _ D1.r (by kernel_rfl) rfl (one7 oO1.one) ?_;intro wE bE hgE)
   have oE:=OwnFl.rowI oO1 D1.r (by decide) (by decide) (by decide) hgE;have oL:=OwnL.rowL oS1 D1.r (by decide) hgE;have BE:=D1.B.grown hgE D1.B.size (fun k hk=>by injection hk with hk;subst hk;exact hgR);obtain⟨q_0,q_1,q_2,q_3,q_4,q_5,q_6⟩:=bE.n7;refine bodyPost_ret (v:= .tuple #[.agg #[C1,C2,C3,C4,.int .i64 s,.int .i64 p,.int .i64 r],.slice (some ⟨w0.heap.size,0,none⟩) 0 0]) (by simp[results,Tryz.results28,go_sem,q_0,q_1,q_2,q_3,q_4,q_5,q_6]) rfl ⟨_,_,_,_,_,_,rfl,oE,oL,ap0,BE⟩
 · by_cases h40:l.length≤40
   · have h40' : decide ((40 : Int) < (l.length : Int)) = false := decide_eq_false (by omega);have hy:=HY.out (by first|rfl|trivial) h40;have HG:=Lib.hid hy;clear hy;go_wp2;go_loopw [7,8] (fun s7 s8 wr=>∃(k:Nat) (x2:Fl) (s2 p2 r2:Int) (ns:List Int) (A7:Option Addr) (c7:Nat) (V1 V2 V3 V4:Value),k≤l.length∧s8= .int .i64 k∧s7= .slice A7 ns.length c7∧Hid (goR (x2,s2,p2,r2) ns (l.drop k)=R)∧Hid (Small4 x2)∧Hid (ns.length=k)∧DB w wr gP gR #[u1,u2,u3,u4,.int .i64 s,.int .i64 p,.int .i64 r] #[.slice none 0 0,.slice none 0 0,.slice none 0 0,.slice none 0 0,.int .i64 0,.int .i64 0,.int .i64 0]∧Blk wr gN 38 #[V1,V2,V3,V4,.int .i64 s2,.int .i64 p2,.int .i64 r2]∧OwnFl w.heap.size wr V1 V2 V3 V4 x2∧OwnL 3 1 eInt w.heap.size wr (.slice A7 ns.length c7) ns∧∀g,V1.ownBlock=some g→(Value.slice A7 ns.length c7).ownBlock≠some g) (fun _ i _=>l.length-(intOf i).toNat)
     case atStart=>exact⟨0,x,s,p,r,[],_,_,_,_,_,_,Nat.zero_le _,rfl,rfl,Lib.hid HG.out,Lib.hid hs,Lib.hid rfl,D1,bN1,oO1,oS1,ap0⟩
     case round=>
      obtain⟨k,x2,s2,p2,r2,ns,A7,c7,V1,V2,V3,V4,hk,rfl,rfl,Hg,Hs2,Hn,D,bN,oW,oS,ap⟩:=hrel;clear D1 bN1 oO1;clear oS1;by_cases hlt:k<l.length
      · skip;obtain⟨b,off,rfl,hb,k0,k1,k2⟩:=(h5.below RE.stays D.B).atTrip hlt;have hg:=Hg.out;rw[goR_step hlt]at hg;have hsm:=act_small (y:=(x2,s2,p2,r2)) l[k] Hs2.out;obtain⟨⟨ka,kb,kc⟩,hx⟩:∃x,x=l[k]:=⟨_,rfl⟩;rw[←hx]at k0 k1 k2 hg hsm;simp only at k0 k1 k2;obtain⟨⟨z,zs,zp,zr⟩,hz⟩:∃z,z=actW (x2,s2,p2,r2) (ka,kb,kc):=⟨_,rfl⟩;obtain⟨m,hm⟩:∃m,m=actN (x2,s2,p2,r2) (ka,kb,kc):=⟨_,rfl⟩;rw[←hz,←hm]at hg;rw[←hz]at hsm;have Hg2:=Lib.hid hg;have HSm:=Lib.hid hsm;have HZ:=Lib.hid hz;have HM:=Lib.hid hm;have hn40:ns.length<40:=by have:=Hn.out;omega
        have H8:Hid ((ns.length+1)*8≤140737488355328):=Lib.hid (by omega);have HX:Hid (ns.length+1≤maxLen):=Lib.hid (by unfold maxLen;omega);clear hg hsm hx hz hm;obtain⟨y_0,y_1,y_2,y_3,y_4,y_5,y_6⟩:=bN.n7;have hNl:=bN.lt;have CD:∀w',Below wr.heap.size wr w'→Calls Tryz.prog 24 #[.agg #[V1,V2,V3,V4,.int .i64 s2,.int .i64 p2,.int .i64 r2],.agg #[.int .i64 ka,.int .i64 kb,.int .i64 kc]] w' (RetW (fun v=> .tuple #[v,.int .i64 m]) (z,zs,zp,zr) w'):=fun w' hb=>by rw[HZ.out,HM.out];exact doActS_any _ _ _ _ x2 s2 p2 r2 ka kb kc _ (oW.below hb).ra (oW.below hb).rb (oW.below hb).rc (oW.below hb).rd Hs2.out
        have hkI:(k:Int)<(l.length:Int):=(by omega);have hbl:=hb;have Bw:Below wr.heap.size wr wr.drew:=(Below.refl _ _).drew;have hz:wr.heap.size≤wr.drew.heap.size:=(by simp);go_wp2_with fail
        refine rB (fun w'=>w'.cell? ⟨gN,0,none⟩=some V1∧w'.cell? ⟨gN,1,none⟩=some V2∧w'.cell? ⟨gN,2,none⟩=some V3∧w'.cell? ⟨gN,3,none⟩=some V4∧w'.cell? ⟨gN,4,none⟩=some (.int .i64 s2)∧w'.cell? ⟨gN,5,none⟩=some (.int .i64 p2)∧w'.cell? ⟨gN,6,none⟩=some (.int .i64 r2)∧w'.cell? ⟨b,off+k*3,none⟩=some (.int .i64 ka)∧w'.cell? ⟨b,off+k*3+1,none⟩=some (.int .i64 kb)∧w'.cell? ⟨b,off+k*3+2,none⟩=some (.int .i64 kc)) fun hHeld=>(tW 0)<|(tW 1)<|(tW 2)<|(tW 3)<|(tW 4)<|(tR [5,9])<|tC (fun K hK=>?_) ?_
        go_simp
        (go_at_call 24;go_must (refine(CD _ Bw).mono ?_;rintro e wX ⟨E1,E2,E3,E4,rfl,oT,hbX⟩;have oT:=oT.mono hz;(try replace bM:=bM.bl hbX);obtain⟨hcX,hfX,hzX⟩:=bkn hbX wr.heap.size hz;have hz:=hzX;have Bw:=Bw.tr hbX))
        refine tK hK fun hHeld=>?_
        clear hK K;refine(tW 6)<|(tW 7)<|(tW 8)<|(tR [9])<|tL fun K hK=>?_
        (refine step_alloc rfl 38 _ rfl Tryz.zeroValue38 ?_;intro gM wX bM hbX hgN1 hgN2 hgN3;have hgM:wr.heap.size≤gM:=(by omega);obtain⟨hcX,hfX,hzX⟩:=bkn hbX wr.heap.size hz;replace hz:=hzX;replace Bw:=Bw.tr hbX;(try replace oT:=oT.below hbX))
        refine tK hK fun hHeld=>?_
        clear hK K;refine(tR [10])<|tL fun K hK=>?_
        (refine step_storeRow rfl 38 _ _ rfl gM #[E1,E2,E3,E4,.int .i64 zs,.int .i64 zp,.int .i64 zr] rfl rfl _ _ bM (by kernel_rfl) rfl (one7 oT.one) ?_;intro wX bM5 hgX;have oT5:=OwnFl.rowI oT bM (by decide) (by decide) (by decide) hgX;replace Bw:=Bw.grown hgX hz (fun k hk=>by injection hk with hk;subst hk;omega);obtain⟨hcX,hfX,hzX⟩:=bk Bw;have hz:=hzX)
        refine tK hK fun hHeld=>?_
        clear hK K;refine(tW 11)<|tD ?_
        rotate_left 1
        refine tL fun K hK=>?_
        (refine step_alloc rfl 38 _ rfl Tryz.zeroValue38 ?_;intro gM wX bM hbX hgN1 hgN2 hgN3;have hgM:wr.heap.size≤gM:=(by omega);obtain⟨hcX,hfX,hzX⟩:=bkn hbX wr.heap.size hz;replace hz:=hzX;replace Bw:=Bw.tr hbX;(try replace oT:=oT.below hbX))
        refine tK hK fun hHeld=>?_
        clear hK K;refine(tR [5])<|tL fun K hK=>?_
        go_simp
        (go_at_call 24;go_must (refine(CD _ Bw).mono ?_;rintro e wX ⟨E1,E2,E3,E4,rfl,oT,hbX⟩;have oT:=oT.mono hz;(try replace bM:=bM.bl hbX);obtain⟨hcX,hfX,hzX⟩:=bkn hbX wr.heap.size hz;have hz:=hzX;have Bw:=Bw.tr hbX))
        refine tK hK fun hHeld=>?_
        clear hK K;refine(tW 6)<|(tW 7)<|(tW 8)<|(tR [10])<|tL fun K hK=>?_
        (refine step_storeRow rfl 38 _ _ rfl gM #[E1,E2,E3,E4,.int .i64 zs,.int .i64 zp,.int .i64 zr] rfl rfl _ _ bM (by kernel_rfl) rfl (one7 oT.one) ?_;intro wX bM5 hgX;have oT5:=OwnFl.rowI oT bM (by decide) (by decide) (by decide) hgX;replace Bw:=Bw.grown hgX hz (fun k hk=>by injection hk with hk;subst hk;omega);obtain⟨hcX,hfX,hzX⟩:=bk Bw;have hz:=hzX)
        refine tK hK fun hHeld=>?_
        clear hK K;refine(tW 11)<|tD ?_
        all_goals
          have ap4:=oT.newer oS (Nat.le_refl _);have oT5:=oT5.mono D.B.size;have D5:=D.bl Bw;have bN5:=bN.bl Bw;have oS5:=oS.below Bw;clear y_0 y_1 y_2 y_3 y_4 y_5 y_6 k0 k1 k2 hb hbl hHeld hcX hfX hzX hz Bw D bN oW oS oT hNl;obtain⟨y_0,y_1,y_2,y_3,y_4,y_5,y_6⟩:=bM5.n7;go_wp2_with (first|(refine wpList_storeRow rfl 38 _ _ rfl gN #[E1,E2,E3,E4,.int .i64 zs,.int .i64 zp,.int .i64 zr] rfl rfl _ _ bN5 (by kernel_rfl) rfl (one7 oT5.one) ?_;intro w6 bN6 hg6;have D6:=D5.gr hg6 hgN hPN hRN;have oT6:=OwnFl.rowI oT5 bN5 (by decide) (by decide) (by decide) hg6;have oS6:=OwnL.rowL oS5 bN5 (by decide) hg6)|(at_builtin;go_must (refine wpList_app1 (enc:=eInt) rowInt lenInt oneInt D6.B oS6 (m:Int) H8.out HX.out rfl _ _ rfl rfl rfl ?_);intro v7 w7 own7 hb7 hg7 hd7;obtain⟨A8,c8,rfl,hc8,hm8⟩:=own7.form))
          go_roundw
          case rel=>exact⟨k+1,z,zs,zp,zr,ns++[m],A8,c8,E1,E2,E3,E4,by omega,by go_num,by rw[List.length_append,List.length_singleton],Hg2,HSm,Lib.hid (by rw[List.length_append,List.length_singleton,Hn.out]),D6.app oS6 hg7 hb7,(bN6.alloc _).grown hg7 (fun e=>oS6.apart bN6 (by decide) e.symm),oT6.appI oS6 ap4 hg7,own7,ap_app oT6 ap4 hd7 (by omega)⟩
          case measure=>simp[intOf];omega
      · obtain rfl : k = l.length := by omega
        have hg:=Hg.out;rw[goR_end]at hg;subst hg;obtain⟨y_0,y_1,y_2,y_3,y_4,y_5,y_6⟩:=bN.n7;go_wp2_with (refine wpList_storeRow rfl 38 _ _ rfl gR #[V1,V2,V3,V4,.int .i64 s2,.int .i64 p2,.int .i64 r2] rfl rfl _ _ D.r (by kernel_rfl) rfl (one7 oW.one) ?_;intro wE bE hgE)
        have oE:=OwnFl.rowI oW D.r (by decide) (by decide) (by decide) hgE;have oL:=OwnL.rowL oS D.r (by decide) hgE;have BE:=D.B.grown hgE D.B.size (fun k hk=>by injection hk with hk;subst hk;exact hgR);obtain⟨q_0,q_1,q_2,q_3,q_4,q_5,q_6⟩:=bE.n7;refine bodyPost_ret (v:= .tuple #[.agg #[V1,V2,V3,V4,.int .i64 s2,.int .i64 p2,.int .i64 r2],.slice A7 ns.length c7]) (by simp[results,Tryz.results28,go_sem,q_0,q_1,q_2,q_3,q_4,q_5,q_6]) rfl ⟨_,_,_,_,_,_,rfl,oE,oL,ap,BE⟩
   · have h40' : decide ((40 : Int) < (l.length : Int)) = true := decide_eq_true (by omega);obtain rfl:=HN.out (.inr h40);obtain⟨y_0,y_1,y_2,y_3,y_4,y_5,y_6⟩:=bN1.n7;go_wp2_with (refine wpList_storeRow rfl 38 _ _ rfl gR #[C1,C2,C3,C4,.int .i64 s,.int .i64 p,.int .i64 r] rfl rfl _ _ D1.r (by kernel_rfl) rfl (one7 oO1.one) ?_;intro wE bE hgE)
     have oE:=OwnFl.rowI oO1 D1.r (by decide) (by decide) (by decide) hgE;have oL:=OwnL.rowL oS1 D1.r (by decide) hgE;have BE:=D1.B.grown hgE D1.B.size (fun k hk=>by injection hk with hk;subst hk;exact hgR);obtain⟨q_0,q_1,q_2,q_3,q_4,q_5,q_6⟩:=bE.n7;refine bodyPost_ret (v:= .tuple #[.agg #[C1,C2,C3,C4,.int .i64 s,.int .i64 p,.int .i64 r],.slice (some ⟨w0.heap.size,0,none⟩) 0 0]) (by simp[results,Tryz.results28,go_sem,q_0,q_1,q_2,q_3,q_4,q_5,q_6]) rfl ⟨_,_,_,_,_,_,rfl,oE,oL,ap0,BE⟩
end Go.Proofs.YtfdbcihcdjjdhaaGreatDoor
namespace Go.Proofs.YtfdbcihcdjjdhaaGreatDoor
open Go.RowKit
set_option linter.unusedVariables false
set_option maxHeartbeats 4000000
set_option maxRecDepth 100000
theorem sameIntsI_any (u v:Value) (l m:List (Int)) (w:World) (h:Rd 1 (RE eInt) w u l) (h':Rd 1 (RE eInt) w v m):Calls Tryz.prog 106 #[u,v] w (Ret (.bool (l==m)) w):=by
 obtain⟨A,c,rfl,hc,hm⟩:=h.form;obtain⟨A',c',rfl,hc',hm'⟩:=h'.form;by_cases hlen:l.length=m.length
 · have hne : ((l.length : Int) != (m.length : Int)) = false := by simp [hlen]
   have Hlen:=Lib.hid hlen;clear hlen;go_enter Tryz.func106,Tryz.ntmps106
   go_wp2;go_loopw [13] (fun i wr=>∃k:Nat,k≤l.length∧i= .int .i64 k∧Hid ((l.drop k==m.drop k)=(l==m))∧Below w.heap.size w wr) (fun i _=>l.length-(intOf i).toNat)
   case atStart=>exact⟨0,Nat.zero_le _,rfl,Lib.hid rfl,Below.refl _ _⟩
   case round=>
    obtain⟨k,hk,rfl,Hg,hbel⟩:=hrel;by_cases hlt:k<l.length
    · have hlm : k < m.length := by have := Hlen.out; omega
      obtain⟨b,off,rfl,hb,h1⟩:=(h.below RE.stays hbel).atInt hlt;obtain⟨b',off',rfl,hb',q1⟩:=(h'.below RE.stays hbel).atInt hlm;have hlt':(k:Int)<(m.length:Int):=(by omega);go_wp2_with fail
      go_quiet (fail)
      go_wp2
      all_goals first
        | (go_roundw
           case rel=>exact⟨k+1,by omega,by go_num,eq_go Hg hlt hlm (by rename_i hx;simpa using hx),below_drewN hbel _⟩
           case measure=>simp[intOf];omega)
        | (go_ret
           exact⟨retB (eq_no Hg hlt hlm (by rename_i hx;simpa using hx)).symm,below_drewN hbel _⟩)
    · go_wp2;go_ret;exact⟨retB (eq_end Hg (by omega) (by have:=Hlen.out;omega)).symm,hbel⟩
 · have hne : ((l.length : Int) != (m.length : Int)) = true := by simp; omega
   go_enter Tryz.func106,Tryz.ntmps106
   go_wp2;go_ret;exact⟨retB (by rw[eq_comm,beq_eq_false_iff_ne];exact fun e=>hlen (by rw[e])),Below.refl _ _⟩
theorem sameIntsS_any (u v:Value) (l m:List (Int)) (w:World) (h:Rd 1 (RE eInt) w u l) (h':Rd 1 (RE eInt) w v m):Calls Tryz.prog 105 #[u,v] w (Ret (.bool (l==m)) w):=by
 obtain⟨A,c,rfl,hc,hm⟩:=h.form;obtain⟨A',c',rfl,hc',hm'⟩:=h'.form;by_cases hlen:l.length=m.length
 · have hne : ((l.length : Int) != (m.length : Int)) = false := by simp [hlen]
   have Hlen:=Lib.hid hlen;clear hlen;go_enter Tryz.func105,Tryz.ntmps105
   go_wp2;go_loopw [5] (fun i wr=>∃k:Nat,k≤l.length∧i= .int .i64 k∧Hid ((l.drop k==m.drop k)=(l==m))∧Below w.heap.size w wr) (fun i _=>l.length-(intOf i).toNat)
   case atStart=>exact⟨0,Nat.zero_le _,rfl,Lib.hid rfl,Below.refl _ _⟩
   case round=>
    obtain⟨k,hk,rfl,Hg,hbel⟩:=hrel;by_cases hlt:k<l.length
    · have hlm : k < m.length := by have := Hlen.out; omega
      obtain⟨b,off,rfl,hb,h1⟩:=(h.below RE.stays hbel).atInt hlt;obtain⟨b',off',rfl,hb',q1⟩:=(h'.below RE.stays hbel).atInt hlm;have hlt':(k:Int)<(m.length:Int):=(by omega);go_wp2_with fail
      go_quiet (fail)
      go_wp2
      all_goals first
        | (go_roundw
           case rel=>exact⟨k+1,by omega,by go_num,eq_go Hg hlt hlm (by rename_i hx;simpa using hx),below_drewN hbel _⟩
           case measure=>simp[intOf];omega)
        | (go_ret
           exact⟨retB (eq_no Hg hlt hlm (by rename_i hx;simpa using hx)).symm,below_drewN hbel _⟩)
    · go_wp2;go_ret;exact⟨retB (eq_end Hg (by omega) (by have:=Hlen.out;omega)).symm,hbel⟩
 · have hne : ((l.length : Int) != (m.length : Int)) = true := by simp; omega
   go_enter Tryz.func105,Tryz.ntmps105
   go_wp2;go_ret;exact⟨retB (by rw[eq_comm,beq_eq_false_iff_ne];exact fun e=>hlen (by rw[e])),Below.refl _ _⟩
end Go.Proofs.YtfdbcihcdjjdhaaGreatDoor
namespace Go.Proofs.YtfdbcihcdjjdhaaGreatDoor
open Go.ChangeShapes Go.WideShapes Go.ChangeAt Go.RowKit
set_option linter.unusedVariables false
set_option linter.unusedSimpArgs false
set_option maxHeartbeats 4000000
set_option maxRecDepth 100000
noncomputable def isRep (y:Wk) (l:List Ac) (ns:List Int):Bool:=workOk y&&decide (l.length≤40)&&((runR y l).2==ns)
theorem rplI_any (u1 u2 u3 u4 u5 u6:Value) (x:Fl) (s p r:Int) (l:List Ac) (ns:List Int) (w:World) (h1:Rd 1 RInt w u1 x.1) (h2:Rd 3 RDom w u2 x.2.1) (h3:Rd 3 RDom w u3 x.2.2.1) (h4:Rd 2 RPair w u4 x.2.2.2) (h5:Rd 3 (RE eTrip) w u5 l) (h6:Rd 1 RInt w u6 ns) (hs:Small4 x)(ht:Tab w):
 Calls Tryz.prog 38 #[.agg #[u1,u2,u3,u4,.int .i64 s,.int .i64 p,.int .i64 r],u5,u6] w (Ret (.bool (isRep (x,s,p,r) l ns)) w):=by
 obtain⟨A5,c5,rfl,hc5,hm5⟩:=h5.form;obtain⟨A6,c6,rfl,hc6,hm6⟩:=h6.form;obtain⟨kk,hkk⟩:∃kk,kk=workOk (x,s,p,r):=⟨_,rfl⟩;obtain⟨bb,hbb⟩:∃bb,bb=isRep (x,s,p,r) l ns:=⟨_,rfl⟩;obtain⟨R,hR0⟩:∃R,R=runR (x,s,p,r) l:=⟨_,rfl⟩;have hB:bb=(kk&&decide (l.length≤40)&&(R.2==ns)):=by rw[hbb];unfold isRep;rw[←hkk,←hR0]
 rw[←hbb];have CK:∀w,R4 w u1 u2 u3 u4 x→Calls Tryz.prog 55 #[.agg #[u1,u2,u3,u4,.int .i64 s,.int .i64 p,.int .i64 r]] w (Ret (.bool kk) w):=fun w h=>by rw[hkk];exact workOkI_any _ _ _ _ (x,s,p,r) w h.a h.b h.c h.d hs.2.1
 have CR:∀w,R4 w u1 u2 u3 u4 x→Rd 3 (RE eTrip) w (.slice A5 l.length c5) l→Tab w→Calls Tryz.prog 30 #[.agg #[u1,u2,u3,u4,.int .i64 s,.int .i64 p,.int .i64 r],.slice A5 l.length c5] w (RetRun R w):=fun w h h' ht=>by rw[hR0];exact runI_any _ _ _ _ _ x s p r l w h.a h.b h.c h.d h' hs ht
 have hR:R4 w u1 u2 u3 u4 x:=⟨h1,h2,h3,h4⟩;have HB:=Lib.hid hB;clear hB hbb hkk hR0 h1 h2 h3 h4;obtain⟨⟨x2,s2,p2,r2⟩,NS⟩:=R;have B0:=(Below.refl w.heap.size w).al (.cells #[u1,u2,u3,u4,.int .i64 s,.int .i64 p,.int .i64 r] 38);have bP:=Blk.new_ w 38 #[u1,u2,u3,u4,.int .i64 s,.int .i64 p,.int .i64 r];go_enter Tryz.func38,Tryz.ntmps38
 go_wp2_with fail
 refine(CK _ (hR.bl B0)).mono ?_;rintro e w1 ⟨rfl,hb1⟩;have B1:=B0.tr hb1;have bP1:=bP.bl hb1;cases kk
 · obtain rfl:bb=false:=HB.out;go_wp2;go_ret;exact⟨rfl,B1⟩
 · by_cases h40:l.length≤40
   · have h40' : decide ((40 : Int) < (l.length : Int)) = false := decide_eq_false (by omega);obtain⟨y_0,y_1,y_2,y_3,y_4,y_5,y_6⟩:=bP1.n7;go_wp2_with fail
     refine(CR _ (hR.bl B1) (h5.below RE.stays B1) (ht.below B1)).mono ?_;rintro e w2 ⟨E1,E2,E3,E4,A,c,rfl,oT,oN,ap,hb2⟩;have B2:=B1.tr hb2;go_upto_region 4 with(refine wpList_storeRow rfl 38 _ _ rfl w2.heap.size #[E1,E2,E3,E4,.int .i64 s2,.int .i64 p2,.int .i64 r2] rfl rfl _ _ (Blk.new_ w2 38 #[.slice none 0 0,.slice none 0 0,.slice none 0 0,.slice none 0 0,.int .i64 0,.int .i64 0,.int .i64 0]) (by kernel_rfl) rfl (one7 oT.one) ?_;intro w3 bM hg3)
     have oN3:=oN.algI (by decide) hg3;have B3:=(B2.al _).grown hg3 (B2.al _).size (fun k hk=>by injection hk with hk;subst hk;exact B2.size);go_wp2_with fail
     refine(sameIntsI_any _ _ NS ns _ (oN3.rd lenInt (by decide)) (h6.below RE.stays B3)).mono ?_;rintro e w4 ⟨rfl,hb4⟩;have hbb:bb=(NS==ns):=by rw[HB.out,decide_eq_true h40];rfl
     rw[←hbb];clear hbb;go_wp2;go_ret;exact⟨rfl,B3.tr hb4⟩
   · have h40' : decide ((40 : Int) < (l.length : Int)) = true := decide_eq_true (by omega);obtain rfl:bb=false:=by rw[HB.out,decide_eq_false h40];rfl
     go_wp2;go_ret;exact⟨rfl,B1⟩
theorem rplS_any (u1 u2 u3 u4 u5 u6:Value) (x:Fl) (s p r:Int) (l:List Ac) (ns:List Int) (w:World) (h1:Rd 1 RInt w u1 x.1) (h2:Rd 3 RDom w u2 x.2.1) (h3:Rd 3 RDom w u3 x.2.2.1) (h4:Rd 2 RPair w u4 x.2.2.2) (h5:Rd 3 (RE eTrip) w u5 l) (h6:Rd 1 RInt w u6 ns) (hs:Small4 x):
 Calls Tryz.prog 36 #[.agg #[u1,u2,u3,u4,.int .i64 s,.int .i64 p,.int .i64 r],u5,u6] w (Ret (.bool (isRep (x,s,p,r) l ns)) w):=by
 obtain⟨A5,c5,rfl,hc5,hm5⟩:=h5.form;obtain⟨A6,c6,rfl,hc6,hm6⟩:=h6.form;obtain⟨kk,hkk⟩:∃kk,kk=workOk (x,s,p,r):=⟨_,rfl⟩;obtain⟨bb,hbb⟩:∃bb,bb=isRep (x,s,p,r) l ns:=⟨_,rfl⟩;obtain⟨R,hR0⟩:∃R,R=runR (x,s,p,r) l:=⟨_,rfl⟩;have hB:bb=(kk&&decide (l.length≤40)&&(R.2==ns)):=by rw[hbb];unfold isRep;rw[←hkk,←hR0]
 rw[←hbb];have CK:∀w,R4 w u1 u2 u3 u4 x→Calls Tryz.prog 82 #[.agg #[u1,u2,u3,u4,.int .i64 s,.int .i64 p,.int .i64 r]] w (Ret (.bool kk) w):=fun w h=>by rw[hkk];exact workOkS_any _ _ _ _ (x,s,p,r) w h.a h.b h.c h.d hs.2.1
 have CR:∀w,R4 w u1 u2 u3 u4 x→Rd 3 (RE eTrip) w (.slice A5 l.length c5) l→Calls Tryz.prog 28 #[.agg #[u1,u2,u3,u4,.int .i64 s,.int .i64 p,.int .i64 r],.slice A5 l.length c5] w (RetRun R w):=fun w h h'=>by rw[hR0];exact runS_any _ _ _ _ _ x s p r l w h.a h.b h.c h.d h' hs
 have hR:R4 w u1 u2 u3 u4 x:=⟨h1,h2,h3,h4⟩;have HB:=Lib.hid hB;clear hB hbb hkk hR0 h1 h2 h3 h4;obtain⟨⟨x2,s2,p2,r2⟩,NS⟩:=R;have B0:=(Below.refl w.heap.size w).al (.cells #[u1,u2,u3,u4,.int .i64 s,.int .i64 p,.int .i64 r] 38);have bP:=Blk.new_ w 38 #[u1,u2,u3,u4,.int .i64 s,.int .i64 p,.int .i64 r];go_enter Tryz.func36,Tryz.ntmps36
 go_wp2_with fail
 refine(CK _ (hR.bl B0)).mono ?_;rintro e w1 ⟨rfl,hb1⟩;have B1:=B0.tr hb1;have bP1:=bP.bl hb1;cases kk
 · obtain rfl:bb=false:=HB.out;go_wp2;go_ret;exact⟨rfl,B1⟩
 · by_cases h40:l.length≤40
   · have h40' : decide ((40 : Int) < (l.length : Int)) = false := decide_eq_false (by omega);obtain⟨y_0,y_1,y_2,y_3,y_4,y_5,y_6⟩:=bP1.n7;go_wp2_with fail
     refine(CR _ (hR.bl B1) (h5.below RE.stays B1)).mono ?_;rintro e w2 ⟨E1,E2,E3,E4,A,c,rfl,oT,oN,ap,hb2⟩;have B2:=B1.tr hb2;go_upto_region 4 with(refine wpList_storeRow rfl 38 _ _ rfl w2.heap.size #[E1,E2,E3,E4,.int .i64 s2,.int .i64 p2,.int .i64 r2] rfl rfl _ _ (Blk.new_ w2 38 #[.slice none 0 0,.slice none 0 0,.slice none 0 0,.slice none 0 0,.int .i64 0,.int .i64 0,.int .i64 0]) (by kernel_rfl) rfl (one7 oT.one) ?_;intro w3 bM hg3)
     have oN3:=oN.algI (by decide) hg3;have B3:=(B2.al _).grown hg3 (B2.al _).size (fun k hk=>by injection hk with hk;subst hk;exact B2.size);go_wp2_with fail
     refine(sameIntsS_any _ _ NS ns _ (oN3.rd lenInt (by decide)) (h6.below RE.stays B3)).mono ?_;rintro e w4 ⟨rfl,hb4⟩;have hbb:bb=(NS==ns):=by rw[HB.out,decide_eq_true h40];rfl
     rw[←hbb];clear hbb;go_wp2;go_ret;exact⟨rfl,B3.tr hb4⟩
   · have h40' : decide ((40 : Int) < (l.length : Int)) = true := decide_eq_true (by omega);obtain rfl:bb=false:=by rw[HB.out,decide_eq_false h40];rfl
     go_wp2;go_ret;exact⟨rfl,B1⟩
end Go.Proofs.YtfdbcihcdjjdhaaGreatDoor
