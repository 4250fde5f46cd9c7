/- Draws that leave everything but the cursor ac it was: acts, boxes. No conditions but sizes. Slices of one and of three numbers made, in a drawn region. Plain laws of the model's operations. Floors copied, by the program: the walk. Conditions: sizes. -/
import Derived.Test.YtljfoohaapckeaaGreatDoorCDrawG
import Derived.Test.YtljfoohaapckeaaGreatDoorCG6
import Derived.Test.YtljfoohaapckeaaGreatDoorCK6
import Derived.Test.YtljfoohaapckeaaGreatDoorCK1
import Derived.Test.YtljfoohaapckeaaGreatDoorCK2
import Derived.RegionTactic
open _root_.Nat (le_trans le_refl)
open _root_.Go.Value (oneCell' cells)
open _root_.Go.Proofs.Tryz (prog results126)
namespace Go.Proofs.YtljfoohaapckeaaGreatDoor
open Go.ChangeShapes Go.WideShapes Go.ChangeAt Go.RowKit
set_option linter.unusedVariables false
set_option linter.unusedSimpArgs false
set_option maxHeartbeats 4000000
set_option maxRecDepth 100000
section
variable {W w0 w w' : World} {g : Nat} {v : Value} {n : Nat}
theorem RP {w1 w2:World} {r:Option Nat} {b:Nat} (h:w.grownBy w1 r) (k:w1.grownBy w2 (some b)) (hb:w.heap.size<=b):w.grownBy w2 r:=
 ⟨k.os.trans h.os,k.tape.trans h.tape,k.output.trans h.output,le_trans h.size k.size,fun i hi hne=>(k.block i (Nat.lt_of_lt_of_le hi h.size) (fun e=>by injection e with e;omega)).trans (h.block i hi hne)⟩
theorem NK {w1 w2:World} {r:Option Nat} (h:w.grownBy w1 r) (k:Below w1.heap.size w1 w2):w.grownBy w2 r:=
 ⟨k.os.trans h.os,k.tape.trans h.tape,k.output.trans h.output,le_trans h.size k.size,fun i hi hne=>(k.block i (Nat.lt_of_lt_of_le hi h.size)).trans (h.block i hi hne)⟩
structure DS (W w0 w:World) (g:Nat) (v:Value) (n:Nat):Prop where
  cur:Cur w g v n
  B:Below W.heap.size W w
  gr:w0.grownBy w (some g)
theorem DS.refl (hc:Cur w g v n) (hB:Below W.heap.size W w):DS W w w g v n:=⟨hc,hB,World.grownBy.refl _ _⟩
theorem DS.bl (h:DS W w0 w g v n) (hb:Below w.heap.size w w'):DS W w0 w' g v n:=⟨h.cur.bl hb,h.B.tr hb,NK h.gr hb⟩
theorem DS.al (h:DS W w0 w g v n) (o:Obj):DS W w0 (w.alloc o) g v n:=h.bl ((Below.refl _ _).al o)
theorem DS.dr (h:DS W w0 w g v n) (hc:Cur w' g v n) (hB:Below W.heap.size W w') (hg:w.grownBy w' (some g)):DS W w0 w' g v n:=⟨hc,hB,vY h.gr hg⟩
theorem DS.tr {w1:World} (h:DS W w0 w1 g v n) (k:DS W w1 w g v n):DS W w0 w g v n:=⟨k.cur,k.B,vY h.gr k.gr⟩
theorem DS.st {b:Nat} (h:DS W w0 w g v n) (hg:w.grownBy w' (some b)) (hb:w0.heap.size<=b) (hW:W.heap.size<=w0.heap.size) (hne:g≠b):DS W w0 w' g v n:=by
 obtain⟨i,x,hi,hk⟩:=h.cur;exact⟨⟨i,x,hi,hk.grown hg (by simp;exact hne)⟩,h.B.grown hg h.B.size (fun k hk=>by injection hk with hk;omega),RP h.gr hg hb⟩
theorem DS.stN {o:Obj} (h:DS W w0 w g v n) (hg:(w.alloc o).grownBy w' (some w.heap.size)) (hW:W.heap.size<=w0.heap.size):DS W w0 w' g v n:=by
 obtain⟨i,x,hi,hk⟩:=h.cur;exact(h.al o).st hg h.gr.size hW (Nat.ne_of_lt hk.lt)
theorem DS.app {α:Type} {E:TypeId} {size B:Nat} {enc:α->List Value} {u:Value} {l:List α} (h:DS W w0 w g v n) (own:aC E size enc B w u l) (ht:E≠135) (hB:w0.heap.size<=B) (hW:W.heap.size<=w0.heap.size) (hg:w.grownBy w' u.ownBlock):DS W w0 w' g v n:=by
 have hne:=h.cur.apart own ht;obtain⟨i,x,hi,hk⟩:=h.cur;refine⟨⟨i,x,hi,hk.grown hg (fun e=>hne e.symm)⟩,Below.app h.B own (le_trans hW hB) hg,⟨hg.os.trans h.gr.os,hg.tape.trans h.gr.tape,hg.output.trans h.gr.output,le_trans h.gr.size hg.size,fun i hi hn=>(hg.block i (Nat.lt_of_lt_of_le hi h.gr.size) (fun e=> ?_)).trans (h.gr.block i hi hn)⟩⟩;have:=(World.ownsRow.lt own i e.symm).1;omega
theorem Blk.ds {b:Nat} {t:TypeId} {cs:Array Value} (hb:Blk w b t cs) (hc:Cur w g v n) (hg:w.grownBy w' (some g)) (ht:t≠135):Blk w' b t cs:=hb.cur hc ht hg
theorem aF.cur {B:Nat} {u1 u2 u3 u4:Value} {x:Fl} (h:aF B w u1 u2 u3 u4 x) (hc:Cur w g v n) (hg:w.grownBy w' (some g)):aF B w' u1 u2 u3 u4 x:=by
 obtain⟨_,_,_,b⟩:=hc;exact aF.dZ h b (by decide) (by decide) (by decide) hg
end
def Qt (W:World) (g:Nat) (u:Value) (n:Nat) (w:World) (e:Ending) (w':World):Prop:=∃k a b:Int,e= .returned (.agg #[.int .i64 k,.int .i64 a,.int .i64 b])/\lF k a b=true/\DS W w w' g u n
theorem IW (W : World) (g : Nat) (v : Value) (l : List Int) (w : World) (h : Rd 1 kT W v l) (Hok : Hid (lV (fun x => 0 <= x /\ x <= 255) l)) (hg : W.heap.size <= g) (hbel : Below W.heap.size W w) (hcur : Cur w g v l.length) :
 Calls prog 126 #[.pointer (some ⟨g,0,none⟩)] w (Qt W g v l.length w):=by
 have bX:=Blk.aY w 73 #[.int .i64 0,.int .i64 0,.int .i64 0];have D:=(DS.refl hcur hbel).al (.cells #[.int .i64 0,.int .i64 0,.int .i64 0] 73);have hne:=(D.cur.ne bX (by decide)).symm;have hW:=hbel.size;go_enter Tryz.func126,Tryz.ntmps126
 go_wp2_with fail
 refine(aL 9 W g v l _ h Hok hg D.B D.cur (by decide)).mono ?_;rintro e w1 ⟨x,rfl,hx,c1,B1,g1⟩;have bX:=bX.ds D.cur g1 (by decide);have D:=D.dr c1 B1 g1;obtain⟨gX,hgX'⟩:=SL w.heap.size;rw[<-hgX']at bX hne⊢;have hgX:w.heap.size<=gX:=(by omega);have hxx:x=0∨x=1∨x=2∨x=3∨(x≠0/\x≠1/\x≠2/\x≠3):=(by omega);clear hx c1 B1 g1 hgX';rcases hxx with rfl|rfl|rfl|rfl|⟨e0,e1,e2,e3⟩
 . go_wp2_with fail
   refine(aL 8 W g v l _ h Hok hg D.B D.cur (by decide)).mono ?_;rintro e w2 ⟨y,rfl,hy,c1,B1,g1⟩;have bX:=bX.ds D.cur g1 (by decide);have D:=D.dr c1 B1 g1;go_wp2_with (refine aA rfl 73 _ _ rfl gX #[.int .i64 2,.int .i64 y,.int .i64 0] rfl rfl _ _ bX (by kernel_rfl) rfl (by simp[oneCell']) ?_;intro wE bE hgE)
   obtain⟨q_0,q_1,q_2⟩:=bE.n3;refine bodyPost_ret (v:= .agg #[.int .i64 2,.int .i64 y,.int .i64 0]) (by simp[results,results126,go_sem,q_0,q_1,q_2]) rfl ⟨_,_,_,rfl,(by unfold dV at hy;unfold lF inB;simp;omega),D.st hgE hgX hW hne⟩
 . go_wp2_with fail
   refine(aL 20 W g v l _ h Hok hg D.B D.cur (by decide)).mono ?_;rintro e w2 ⟨y,rfl,hy,c1,B1,g1⟩;have bX:=bX.ds D.cur g1 (by decide);have D:=D.dr c1 B1 g1;have hyr:0<=y/\y<=19:=by unfold dV at hy;omega
   have hwy:IntKind.i64.wrap (1+y)=1+y:=IntWalk.i64_in _ (by omega);go_wp2_with (refine aA rfl 73 _ _ rfl gX #[.int .i64 3,.int .i64 (1+y),.int .i64 0] rfl rfl _ _ bX (by kernel_rfl) rfl (by simp[oneCell']) ?_;intro wE bE hgE)
   obtain⟨q_0,q_1,q_2⟩:=bE.n3;refine bodyPost_ret (v:= .agg #[.int .i64 3,.int .i64 (1+y),.int .i64 0]) (by simp[results,results126,go_sem,q_0,q_1,q_2]) rfl ⟨_,_,_,rfl,(by unfold lF inB;simp;omega),D.st hgE hgX hW hne⟩
 . skip;go_wp2_with (refine aA rfl 73 _ _ rfl gX #[.int .i64 4,.int .i64 0,.int .i64 0] rfl rfl _ _ bX (by kernel_rfl) rfl (by simp[oneCell']) ?_;intro wE bE hgE)
   obtain⟨q_0,q_1,q_2⟩:=bE.n3;refine bodyPost_ret (v:= .agg #[.int .i64 4,.int .i64 0,.int .i64 0]) (by simp[results,results126,go_sem,q_0,q_1,q_2]) rfl ⟨_,_,_,rfl,(by decide),D.st hgE hgX hW hne⟩
 . skip;go_wp2_with (refine aA rfl 73 _ _ rfl gX #[.int .i64 5,.int .i64 0,.int .i64 0] rfl rfl _ _ bX (by kernel_rfl) rfl (by simp[oneCell']) ?_;intro wE bE hgE)
   obtain⟨q_0,q_1,q_2⟩:=bE.n3;refine bodyPost_ret (v:= .agg #[.int .i64 5,.int .i64 0,.int .i64 0]) (by simp[results,results126,go_sem,q_0,q_1,q_2]) rfl ⟨_,_,_,rfl,(by decide),D.st hgE hgX hW hne⟩
 . have f0:(x==0)=false:=beq_false_of_ne e0;have f1:(x==1)=false:=beq_false_of_ne e1;have f2:(x==2)=false:=beq_false_of_ne e2;have f3:(x==3)=false:=beq_false_of_ne e3;go_wp2_with fail
   refine(aL 3 W g v l _ h Hok hg D.B D.cur (by decide)).mono ?_;rintro e w2 ⟨y,rfl,hy,c1,B1,g1⟩;have bX:=bX.ds D.cur g1 (by decide);have D:=D.dr c1 B1 g1;clear c1 B1 g1;go_wp2_with fail
   refine(aL 3 W g v l _ h Hok hg D.B D.cur (by decide)).mono ?_;rintro e w3 ⟨z,rfl,hz,c1,B1,g1⟩;have bX:=bX.ds D.cur g1 (by decide);have D:=D.dr c1 B1 g1;go_wp2_with (refine aA rfl 73 _ _ rfl gX #[.int .i64 1,.int .i64 y,.int .i64 z] rfl rfl _ _ bX (by kernel_rfl) rfl (by simp[oneCell']) ?_;intro wE bE hgE)
   obtain⟨q_0,q_1,q_2⟩:=bE.n3;refine bodyPost_ret (v:= .agg #[.int .i64 1,.int .i64 y,.int .i64 z]) (by simp[results,results126,go_sem,q_0,q_1,q_2]) rfl ⟨_,_,_,rfl,(by unfold dV at hy hz;unfold lF inB;simp;omega),D.st hgE hgX hW hne⟩
def N8 (W:World) (g:Nat) (u:Value) (n:Nat) (w:World) (e:Ending) (w':World):Prop:=∃(l:List (Int×Int×Int)) (A:Option Addr) (c:Nat),e= .returned (.slice A l.length c)/\aC 73 3 Cm w.heap.size w' (.slice A l.length c) l/\l.length<=17/\(∀a∈l,lF a.1 a.2.1 a.2.2=true)/\DS W w w' g u n
theorem Gx (W : World) (g : Nat) (v : Value) (l : List Int) (w : World) (h : Rd 1 kT W v l) (Hok : Hid (lV (fun x => 0 <= x /\ x <= 255) l)) (hg : W.heap.size <= g) (hbel : Below W.heap.size W w) (hcur : Cur w g v l.length) :
 Calls prog 61 #[.pointer (some ⟨g,0,none⟩)] w (N8 W g v l.length w):=by
 have hW:=hbel.size;have D:=(DS.refl hcur hbel).al (.cells #[] 73);have own0:=iA w (E:=73) (size:=3) (enc:=Cm) w.heap.size rfl w.heap.size (le_refl _);go_enter Tryz.func61,Tryz.ntmps61
 go_wp2_with fail
 refine(aL 18 W g v l _ h Hok hg D.B D.cur (by decide)).mono ?_;rintro e w1 ⟨n,rfl,hn,c1,B1,g1⟩;have own1:=own0.cur D.cur (by decide) g1;have D1:=D.dr c1 B1 g1;have hnn:0<=n/\n<=17:=by unfold dV at hn;omega
 clear own0 D c1 B1 g1 hn;go_wp2;go_loopw [3,5] (fun s3 s5 wr=>∃(ac:List (Int×Int×Int)) (A:Option Addr) (c:Nat),(ac.length:Int)<=n/\s5= .int .i64 ac.length/\s3= .slice A ac.length c/\Hid (∀a∈ac,lF a.1 a.2.1 a.2.2=true)/\aC 73 3 Cm w.heap.size wr (.slice A ac.length c) ac/\DS W w wr g v l.length) (fun _ i _=>n.toNat-(intOf i).toNat)
 case atStart=>exact⟨[],_,_,by simp;omega,rfl,rfl,SQ (fun x hx=>by cases hx),own1,D1⟩
 case round=>
  obtain⟨ac,A,c,hk,rfl,rfl,Ha,hown,D⟩:=hrel;clear own1 D1;by_cases hlt:(ac.length:Int)<n
  . go_wp2_with fail
    refine(IW W g v l _ h Hok hg D.B D.cur).mono ?_;rintro e w2 ⟨x,y,z,rfl,hxy,D2⟩;have own2:=(hown.cur D.cur (by decide) D2.gr).alloc (.cells #[.int .i64 x,.int .i64 y,.int .i64 z] 73);have D2:=(D.tr D2).al (.cells #[.int .i64 x,.int .i64 y,.int .i64 z] 73);have H8:Hid ((ac.length+1)*24<=140737488355328):=SQ (by omega);have HM:Hid (ac.length+1<=maxLen):=SQ (by unfold maxLen;omega);obtain⟨W2,hW2⟩:=SL (w2.alloc (.cells #[.int .i64 x,.int .i64 y,.int .i64 z] 73));have bA:=Blk.aY w2 73 #[.int .i64 x,.int .i64 y,.int .i64 z];go_upto_region 7 with(fail)
    rw[<-hW2]at own2 D2 bA⊢;clear hW2;obtain⟨a_0,a_1,a_2⟩:=bA.n3;go_wp2_with (at_builtin;go_must (refine vH (enc:=Cm) RG RD RF (B:=w.heap.size) W2 (le_trans D2.gr.size (le_refl _)) own2 (x,y,z) rfl H8.out HM.out rfl _ _ rfl rfl rfl ?_);intro v4 w4 own4 hg4 hv4;obtain⟨A4,c4,rfl⟩:=hv4)
    have D4:=D2.app own2 (by decide) (le_refl _) hW hg4;go_roundw
    case rel=>exact⟨ac++[(x,y,z)],A4,c4,by simp;omega,by simp,by simp,SQ (fun q hq=>(List.mem_append.1 hq).elim (Ha.out q) (fun hq=>by rw[List.mem_singleton.1 hq];exact hxy)),by rw[List.length_append,List.length_singleton];exact own4,D4⟩
    case measure=>simp[intOf];omega
  . go_wp2;go_ret;exact⟨ac,A,c,rfl,hown,by omega,Ha.out,D⟩
def Ku (W:World) (g:Nat) (u:Value) (n:Nat) (w:World) (e:Ending) (w':World):Prop:=∃(l:List (Int×Int)) (A:Option Addr) (c:Nat),e= .returned (.slice A l.length c)/\aC 102 2 dH w.heap.size w' (.slice A l.length c) l/\1<=l.length/\l.length<=4/\(∀x∈l,ED x)/\DS W w w' g u n
theorem Gy (W : World) (g : Nat) (v : Value) (l : List Int) (w : World) (h : Rd 1 kT W v l) (Hok : Hid (lV (fun x => 0 <= x /\ x <= 255) l)) (hg : W.heap.size <= g) (hbel : Below W.heap.size W w) (hcur : Cur w g v l.length) :
 Calls prog 70 #[.pointer (some ⟨g,0,none⟩)] w (Ku W g v l.length w):=by
 have hW:=hbel.size;have D:=(DS.refl hcur hbel).al (.cells #[] 102);have own0:=iA w (E:=102) (size:=2) (enc:=dH) w.heap.size rfl w.heap.size (le_refl _);go_enter Tryz.func70,Tryz.ntmps70
 go_wp2_with fail
 refine(aL 4 W g v l _ h Hok hg D.B D.cur (by decide)).mono ?_;rintro e w1 ⟨n,rfl,hn,c1,B1,g1⟩;have own1:=own0.cur D.cur (by decide) g1;have D1:=D.dr c1 B1 g1;have hnn:0<=n/\n<=3:=by unfold dV at hn;omega
 clear own0 D c1 B1 g1 hn;go_wp2;go_loopw [3,5] (fun s3 s5 wr=>∃(bs:List (Int×Int)) (A:Option Addr) (c:Nat),(bs.length:Int)<=1+n/\s5= .int .i64 bs.length/\s3= .slice A bs.length c/\Hid (∀x∈bs,ED x)/\aC 102 2 dH w.heap.size wr (.slice A bs.length c) bs/\DS W w wr g v l.length) (fun _ i _=>(1+n).toNat-(intOf i).toNat)
 case atStart=>exact⟨[],_,_,by simp;omega,rfl,rfl,SQ (fun x hx=>by cases hx),own1,D1⟩
 case round=>
  obtain⟨bs,A,c,hk,rfl,rfl,Hb,hown,D⟩:=hrel;clear own1 D1;by_cases hlt:(bs.length:Int)<1+n
  . go_wp2_with fail
    refine(aL 12 W g v l _ h Hok hg D.B D.cur (by decide)).mono ?_;rintro e w2 ⟨s,rfl,hs,c2,B2,g2⟩;have own2:=hown.cur D.cur (by decide) g2;have D2:=D.dr c2 B2 g2;have hss:0<=s/\s<=11:=by unfold dV at hs;omega
    clear hs c2 B2 g2;go_wp2_with fail
    refine(aL 9 W g v l _ h Hok hg D2.B D2.cur (by decide)).mono ?_;rintro e w3 ⟨t,rfl,ht,c3,B3,g3⟩;have own3:=own2.cur D2.cur (by decide) g3;have D3:=D2.dr c3 B3 g3;have htt:0<=t/\t<=8:=by unfold dV at ht;omega
    clear ht c3 B3 g3;have H8:Hid ((bs.length+1)*16<=140737488355328):=SQ (by omega);have HM:Hid (bs.length+1<=maxLen):=SQ (by unfold maxLen;omega);go_wp2_with (at_builtin;go_must (refine vH (enc:=dH) PH mU RB (B:=w.heap.size) w3 (le_trans D3.gr.size (le_refl _)) own3 (1+s,1+s+1+t) rfl H8.out HM.out rfl _ _ rfl rfl rfl ?_);intro v4 w4 own4 hg4 hv4;obtain⟨A4,c4,rfl⟩:=hv4)
    have D4:=D3.app own3 (by decide) (le_refl _) hW hg4;go_roundw
    case rel=>exact⟨bs++[(1+s,1+s+1+t)],A4,c4,by simp;omega,by simp,by simp,SQ (fun x hx=>(List.mem_append.1 hx).elim (Hb.out x) (fun hx=>by rw[List.mem_singleton.1 hx];unfold ED;simp only;omega)),by rw[List.length_append,List.length_singleton];exact own4,D4⟩
    case measure=>simp[intOf];omega
  . go_wp2;go_ret;exact⟨bs,A,c,rfl,hown,by omega,by omega,Hb.out,D⟩
theorem RQ (w:World) (x:Int):(Instr.buildSlice 24 1 #[(0,.int .i64 x)]).run prog w= .ok (.slice (some ⟨w.heap.size,0,none⟩) 1 1) (w.alloc (.cells #[.int .i64 x] 3)):=by
 obtain⟨ht,hinfo,hzs,hsz⟩:=fU;obtain⟨i0,hi,hz0,hz1,hz2⟩:=info_parts hinfo;simp[Instr.buildSlice,run_underlying ht,sizeOf,typeInfo,hi,hz1,hz0,newRow,Instr.fill,cells,Array.range,Array.zipIdx];refine congrArg (fun cs=>w.alloc (Obj.cells cs 3)) (Array.ext (by simp[hz1]) (fun i h1 h2=> ?_));obtain rfl:i=0:=by simpa using h2
 simp
theorem kZ {ops:Array Oper} {o:Oper} {a:Act} {w:World} {K:Act->World->Prop} {Q:Exit->Act->World->Prop} {E':Prop} {x:Int} (hgd:o.guard=none) (y:Operand) (ho:o.op= .buildSlice 24 1 #[(0,y)]) (hy:a.eval y= .int .i64 x)
    (h:∀g w',Below w.heap.size w w'->Blk w' g 3 #[.int .i64 x]->w.heap.size<=g->K (a.put o.dst (.slice (some ⟨g,0,none⟩) 1 1)) w'):
    if Region.wanted o (yielded ops a.tmps)=true then Oper.wp prog o a w K Q else E':=by
 have hw:Region.wanted o (yielded ops a.tmps)=true:=(by simp[Region.wanted,hgd]);rw[if_pos hw];have hrun:=RQ w x;unfold Oper.wp execOp;simp only[ho,Sem.run_bind,Sem.run_pure,Result.andThen_ok,List.map_toArray,List.map_cons,List.map_nil,hy,hrun];exact h _ _ ((Below.refl _ _).al _) (Blk.aY w 3 #[.int .i64 x]) (le_refl _)
theorem RS (w:World) (x y z:Int):(Instr.buildSlice 24 3 #[(0,.int .i64 x),(1,.int .i64 y),(2,.int .i64 z)]).run prog w= .ok (.slice (some ⟨w.heap.size,0,none⟩) 3 3) (w.alloc (.cells #[.int .i64 x,.int .i64 y,.int .i64 z] 3)):=by
 obtain⟨ht,hinfo,hzs,hsz⟩:=fU;obtain⟨i0,hi,hz0,hz1,hz2⟩:=info_parts hinfo;simp[Instr.buildSlice,run_underlying ht,sizeOf,typeInfo,hi,hz1,hz0,newRow,Instr.fill,cells,Array.range,Array.zipIdx];refine congrArg (fun cs=>w.alloc (Obj.cells cs 3)) (Array.ext (by simp[hz1]) (fun i h1 h2=> ?_));have h3:i=0∨i=1∨i=2:=by simp at h2;omega
 rw[<-Option.some_inj,<-Array.getElem?_eq_getElem,<-Array.getElem?_eq_getElem];rcases h3 with rfl|rfl|rfl<;>simp[Array.getElem?_setIfInBounds,hz1]
theorem IX {ops:Array Oper} {o:Oper} {a:Act} {w:World} {K:Act->World->Prop} {Q:Exit->Act->World->Prop} {E':Prop} {x y z:Int} (hgd:o.guard=none) (p q r:Operand) (ho:o.op= .buildSlice 24 3 #[(0,p),(1,q),(2,r)]) (hp:a.eval p= .int .i64 x) (hq:a.eval q= .int .i64 y) (hr:a.eval r= .int .i64 z)
    (h:∀g w',Below w.heap.size w w'->aC 3 1 bT w.heap.size w' (.slice (some ⟨g,0,none⟩) 3 3) [x,y,z]->w.heap.size<=g->K (a.put o.dst (.slice (some ⟨g,0,none⟩) 3 3)) w'):
    if Region.wanted o (yielded ops a.tmps)=true then Oper.wp prog o a w K Q else E':=by
 have hw:Region.wanted o (yielded ops a.tmps)=true:=(by simp[Region.wanted,hgd]);rw[if_pos hw];have hrun:=RS w x y z;unfold Oper.wp execOp;simp only[ho,Sem.run_bind,Sem.run_pure,Result.andThen_ok,List.map_toArray,List.map_cons,List.map_nil,hp,hq,hr,hrun];exact h _ _ ((Below.refl _ _).al _) ⟨by simp[bT],.inr ⟨w.heap.size,3,#[.int .i64 x,.int .i64 y,.int .i64 z],rfl,le_refl _,heap_alloc_new w _,by simp,by simp[maxLen],by simp,by simp[bT]⟩⟩ (le_refl _)
theorem jG (v1 v2 v3 v4:Value) (x:Fl) (w:World) (h1:Rd 1 bV w v1 x.1) (h2:Rd 3 bG w v2 x.2.1) (h3:Rd 3 bG w v3 x.2.2.1) (h4:Rd 2 eD w v4 x.2.2.2) (hs:dG x):Calls prog 83 #[.agg #[v1,v2,v3,v4]] w (EG x w):=by
 obtain⟨rows,f,n,cs⟩:=x;simp only at h1 h2 h3 h4;obtain⟨s1,s2,s3,s4⟩:=hs;simp only at s1 s2 s3 s4;obtain⟨A1,c1,rfl,hc1,hm1⟩:=h1.form;obtain⟨A2,c2,rfl,hc2,hm2⟩:=h2.form;obtain⟨A3,c3,rfl,hc3,hm3⟩:=h3.form;obtain⟨A4,c4,rfl,hc4,hm4⟩:=h4.form;have B0:=((Below.refl w.heap.size w).al (.cells #[.slice A1 rows.length c1,.slice A2 f.length c2,.slice A3 n.length c3,.slice A4 cs.length c4] 30)).al (.cells #[.slice none 0 0,.slice none 0 0,.slice none 0 0,.slice none 0 0] 30);have bP:=(Blk.aY w 30 #[.slice A1 rows.length c1,.slice A2 f.length c2,.slice A3 n.length c3,.slice A4 cs.length c4]).alloc (.cells #[.slice none 0 0,.slice none 0 0,.slice none 0 0,.slice none 0 0] 30);have bR:=Blk.iX (w.alloc (.cells #[.slice A1 rows.length c1,.slice A2 f.length c2,.slice A3 n.length c3,.slice A4 cs.length c4] 30)) 30 #[.slice none 0 0,.slice none 0 0,.slice none 0 0,.slice none 0 0] (w.heap.size+1) (by simp);have H4:Hid (cs.length*16<=140737488355328):=SQ (by unfold Small at s4;omega);have M4:=SQ s4.max;go_enter Tryz.func83,Tryz.ntmps83
 go_wp2_with fail
 obtain⟨W0,hW0⟩:=SL ((w.alloc (.cells #[.slice A1 rows.length c1,.slice A2 f.length c2,.slice A3 n.length c3,.slice A4 cs.length c4] 30)).alloc (.cells #[.slice none 0 0,.slice none 0 0,.slice none 0 0,.slice none 0 0] 30));obtain⟨gP,hgP⟩:=SL w.heap.size;obtain⟨gR,hgR'⟩:=SL (w.heap.size+1);rw[<-hW0]at B0 bP bR⊢;rw[<-hgR']at bR⊢;rw[<-hgP]at bP⊢;have hgR:w.heap.size<=gR:=(by omega);have hPR:gP≠gR:=(by omega);have hw0:w.heap.size<=W0.heap.size:=B0.size;clear hW0 hgP hgR';obtain⟨z_0,z_1,z_2,z_3⟩:=bP.n4;have hp0:=bP.lt;have hr0:=bR.lt;have Bw:Below W0.heap.size W0 W0.drew:=(Below.refl _ _).drew;have hz:W0.heap.size<=W0.drew.heap.size:=(by simp);have bR:=bR.bl Bw;refine rB (fun w'=>w'.cell? ⟨gP,0,none⟩=some (.slice A1 rows.length c1)/\w'.cell? ⟨gP,1,none⟩=some (.slice A2 f.length c2)/\w'.cell? ⟨gP,2,none⟩=some (.slice A3 n.length c3)/\w'.cell? ⟨gP,3,none⟩=some (.slice A4 cs.length c4)) fun hHeld=>(tW 0)<|(tW 1)<|(tW 3)<|(tW 4)<|(tW 6)<|(tW 7)<|(tW 10)<|(tW 11)<|(tR [2,9])<|tC (fun K hK=>?_) ?_
 (go_simp;go_at_call 87;go_must (refine(xZ _ rows _ (h1.SN (B0.tr Bw)) s1).mono ?_;rintro e wX ⟨C1,e1,rfl,own1,hbX⟩;have own1:=own1.mono (show w.heap.size<=_ by omega);have hgy:=hbX.size;obtain⟨hcX,hfX,hzX⟩:=bkn hbX W0.heap.size hz;have hz:=hzX;have Bw:=Bw.tr hbX;have bR:=bR.bl hbX;(try have own1:=own1.below hbX);(try have own2:=own2.below hbX);(try have own3:=own3.below hbX);(try have own4:=own4.below hbX);(try have b3:=b3.bl hbX);(try have b7:=b7.bl hbX);(try have b11:=b11.bl hbX)))
 refine tK hK fun hHeld=>?_
 clear hK K;refine(tR [5,9])<|tC (fun K hK=>?_) ?_;(go_simp;go_at_call 88;go_must (refine(dE _ f _ (h2.SN (B0.tr Bw)) s2).mono ?_;rintro e wX ⟨C2,e2,rfl,own2,hbX⟩;have own2:=own2.mono (show w.heap.size<=_ by omega);have hgy:=hbX.size;obtain⟨hcX,hfX,hzX⟩:=bkn hbX W0.heap.size hz;have hz:=hzX;have Bw:=Bw.tr hbX;have bR:=bR.bl hbX;(try have own1:=own1.below hbX);(try have own2:=own2.below hbX);(try have own3:=own3.below hbX);(try have own4:=own4.below hbX);(try have b3:=b3.bl hbX);(try have b7:=b7.bl hbX);(try have b11:=b11.bl hbX)))
 refine tK hK fun hHeld=>?_
 clear hK K;refine(tR [8,9])<|tC (fun K hK=>?_) ?_;(go_simp;go_at_call 88;go_must (refine(dE _ n _ (h3.SN (B0.tr Bw)) s3).mono ?_;rintro e wX ⟨C3,e3,rfl,own3,hbX⟩;have ap23:∀k,(Value.slice C2 f.length e2).ownBlock=some k->(Value.slice C3 n.length e3).ownBlock≠some k:=fun k q=>own2.early own3 (le_refl _) q;have own3:=own3.mono (show w.heap.size<=_ by omega);have hgy:=hbX.size;obtain⟨hcX,hfX,hzX⟩:=bkn hbX W0.heap.size hz;have hz:=hzX;have Bw:=Bw.tr hbX;have bR:=bR.bl hbX;(try have own1:=own1.below hbX);(try have own2:=own2.below hbX);(try have own3:=own3.below hbX);(try have own4:=own4.below hbX);(try have b3:=b3.bl hbX);(try have b7:=b7.bl hbX);(try have b11:=b11.bl hbX)))
 refine tK hK fun hHeld=>?_
 clear hK K;refine(tR [9])<|tL fun K hK=>?_
 (refine gZ iY rfl rfl ?_;intro g11 wX b11 hbX hg11a hg11b hgz;have hgy:=hbX.size;obtain⟨hcX,hfX,hzX⟩:=bkn hbX W0.heap.size hz;have hz:=hzX;have Bw:=Bw.tr hbX;have bR:=bR.bl hbX;(try have own1:=own1.below hbX);(try have own2:=own2.below hbX);(try have own3:=own3.below hbX);(try have own4:=own4.below hbX);(try have b3:=b3.bl hbX);(try have b7:=b7.bl hbX);(try have b11:=b11.bl hbX))
 refine tK hK fun hHeld=>?_
 clear hK K;refine(tR [12])<|tL fun K hK=>?_
 (refine iO iY dY oneCell (B:=w.heap.size) b11 (by omega) (h4.SN (B0.tr Bw)) H4.out M4.out rfl _ _ rfl rfl rfl ?_;intro C4 e4 wX own4 hbX hk4 hgz;have hgy:=hbX.size;obtain⟨hcX,hfX,hzX⟩:=bkn hbX W0.heap.size hz;have hz:=hzX;have Bw:=Bw.tr hbX;have bR:=bR.bl hbX;(try have own1:=own1.below hbX);(try have own2:=own2.below hbX);(try have own3:=own3.below hbX);(try have own4:=own4.below hbX);(try have b3:=b3.bl hbX);(try have b7:=b7.bl hbX);(try have b11:=b11.bl hbX))
 refine tK hK fun hHeld=>?_
 clear hK K;refine(tW 13)<|(tR [14])<|tL fun K hK=>?_
 (refine aI rfl 30 _ _ rfl gR _ rfl rfl _ _ bR (by kernel_rfl) rfl (by simp[oneCell']) ?_;intro wX bX hgX;have oF:aF w.heap.size wX _ _ _ _ (rows,f,n,cs):=aF.dZ ⟨own1,own2,own3,own4,ap23⟩ bR (by decide) (by decide) (by decide) hgX;have BX:=(B0.tr Bw).grown hgX (B0.tr Bw).size (fun k hk=>by injection hk with hk;subst hk;exact hgR);have bPX:=(bP.bl Bw).grown hgX (by simp;omega);obtain⟨c_0,c_1,c_2,c_3⟩:=bPX.n4;clear own1 own2 own3 own4)
 refine tK hK fun hHeld=>?_
 clear hK K;refine tD ?_
 rotate_left 1
 refine tL fun K hK=>?_
 (refine gZ iY rfl rfl ?_;intro g11 wX b11 hbX hg11a hg11b hgz;have hgy:=hbX.size;obtain⟨hcX,hfX,hzX⟩:=bkn hbX W0.heap.size hz;have hz:=hzX;have Bw:=Bw.tr hbX;have bR:=bR.bl hbX;(try have own1:=own1.below hbX);(try have own2:=own2.below hbX);(try have own3:=own3.below hbX);(try have own4:=own4.below hbX);(try have b3:=b3.bl hbX);(try have b7:=b7.bl hbX);(try have b11:=b11.bl hbX))
 refine tK hK fun hHeld=>?_
 clear hK K;refine(tR [8])<|tL fun K hK=>?_
 (go_simp;go_at_call 88;go_must (refine(dE _ n _ (h3.SN (B0.tr Bw)) s3).mono ?_;rintro e wX ⟨C3,e3,rfl,own3,hbX⟩;have ap23:∀k,(Value.slice C2 f.length e2).ownBlock=some k->(Value.slice C3 n.length e3).ownBlock≠some k:=fun k q=>own2.early own3 (le_refl _) q;have own3:=own3.mono (show w.heap.size<=_ by omega);have hgy:=hbX.size;obtain⟨hcX,hfX,hzX⟩:=bkn hbX W0.heap.size hz;have hz:=hzX;have Bw:=Bw.tr hbX;have bR:=bR.bl hbX;(try have own1:=own1.below hbX);(try have own2:=own2.below hbX);(try have own3:=own3.below hbX);(try have own4:=own4.below hbX);(try have b3:=b3.bl hbX);(try have b7:=b7.bl hbX);(try have b11:=b11.bl hbX)))
 refine tK hK fun hHeld=>?_
 clear hK K;refine(tR [12])<|tL fun K hK=>?_
 (refine iO iY dY oneCell (B:=w.heap.size) b11 (by omega) (h4.SN (B0.tr Bw)) H4.out M4.out rfl _ _ rfl rfl rfl ?_;intro C4 e4 wX own4 hbX hk4 hgz;have hgy:=hbX.size;obtain⟨hcX,hfX,hzX⟩:=bkn hbX W0.heap.size hz;have hz:=hzX;have Bw:=Bw.tr hbX;have bR:=bR.bl hbX;(try have own1:=own1.below hbX);(try have own2:=own2.below hbX);(try have own3:=own3.below hbX);(try have own4:=own4.below hbX);(try have b3:=b3.bl hbX);(try have b7:=b7.bl hbX);(try have b11:=b11.bl hbX))
 refine tK hK fun hHeld=>?_
 clear hK K;refine(tW 13)<|(tR [14])<|tL fun K hK=>?_
 (refine aI rfl 30 _ _ rfl gR _ rfl rfl _ _ bR (by kernel_rfl) rfl (by simp[oneCell']) ?_;intro wX bX hgX;have oF:aF w.heap.size wX _ _ _ _ (rows,f,n,cs):=aF.dZ ⟨own1,own2,own3,own4,ap23⟩ bR (by decide) (by decide) (by decide) hgX;have BX:=(B0.tr Bw).grown hgX (B0.tr Bw).size (fun k hk=>by injection hk with hk;subst hk;exact hgR);have bPX:=(bP.bl Bw).grown hgX (by simp;omega);obtain⟨c_0,c_1,c_2,c_3⟩:=bPX.n4;clear own1 own2 own3 own4)
 refine tK hK fun hHeld=>?_
 clear hK K;refine tD ?_
 rotate_left 1
 refine tL fun K hK=>?_
 (refine gZ iY rfl rfl ?_;intro g11 wX b11 hbX hg11a hg11b hgz;have hgy:=hbX.size;obtain⟨hcX,hfX,hzX⟩:=bkn hbX W0.heap.size hz;have hz:=hzX;have Bw:=Bw.tr hbX;have bR:=bR.bl hbX;(try have own1:=own1.below hbX);(try have own2:=own2.below hbX);(try have own3:=own3.below hbX);(try have own4:=own4.below hbX);(try have b3:=b3.bl hbX);(try have b7:=b7.bl hbX);(try have b11:=b11.bl hbX))
 refine tK hK fun hHeld=>?_
 clear hK K;refine(tR [5])<|tL fun K hK=>?_
 (go_simp;go_at_call 88;go_must (refine(dE _ f _ (h2.SN (B0.tr Bw)) s2).mono ?_;rintro e wX ⟨C2,e2,rfl,own2,hbX⟩;have own2:=own2.mono (show w.heap.size<=_ by omega);have hgy:=hbX.size;obtain⟨hcX,hfX,hzX⟩:=bkn hbX W0.heap.size hz;have hz:=hzX;have Bw:=Bw.tr hbX;have bR:=bR.bl hbX;(try have own1:=own1.below hbX);(try have own2:=own2.below hbX);(try have own3:=own3.below hbX);(try have own4:=own4.below hbX);(try have b3:=b3.bl hbX);(try have b7:=b7.bl hbX);(try have b11:=b11.bl hbX)))
 refine tK hK fun hHeld=>?_
 clear hK K;refine(tR [8])<|tL fun K hK=>?_
 (go_simp;go_at_call 88;go_must (refine(dE _ n _ (h3.SN (B0.tr Bw)) s3).mono ?_;rintro e wX ⟨C3,e3,rfl,own3,hbX⟩;have ap23:∀k,(Value.slice C2 f.length e2).ownBlock=some k->(Value.slice C3 n.length e3).ownBlock≠some k:=fun k q=>own2.early own3 (le_refl _) q;have own3:=own3.mono (show w.heap.size<=_ by omega);have hgy:=hbX.size;obtain⟨hcX,hfX,hzX⟩:=bkn hbX W0.heap.size hz;have hz:=hzX;have Bw:=Bw.tr hbX;have bR:=bR.bl hbX;(try have own1:=own1.below hbX);(try have own2:=own2.below hbX);(try have own3:=own3.below hbX);(try have own4:=own4.below hbX);(try have b3:=b3.bl hbX);(try have b7:=b7.bl hbX);(try have b11:=b11.bl hbX)))
 refine tK hK fun hHeld=>?_
 clear hK K;refine(tR [12])<|tL fun K hK=>?_
 (refine iO iY dY oneCell (B:=w.heap.size) b11 (by omega) (h4.SN (B0.tr Bw)) H4.out M4.out rfl _ _ rfl rfl rfl ?_;intro C4 e4 wX own4 hbX hk4 hgz;have hgy:=hbX.size;obtain⟨hcX,hfX,hzX⟩:=bkn hbX W0.heap.size hz;have hz:=hzX;have Bw:=Bw.tr hbX;have bR:=bR.bl hbX;(try have own1:=own1.below hbX);(try have own2:=own2.below hbX);(try have own3:=own3.below hbX);(try have own4:=own4.below hbX);(try have b3:=b3.bl hbX);(try have b7:=b7.bl hbX);(try have b11:=b11.bl hbX))
 refine tK hK fun hHeld=>?_
 clear hK K;refine(tW 13)<|(tR [14])<|tL fun K hK=>?_
 (refine aI rfl 30 _ _ rfl gR _ rfl rfl _ _ bR (by kernel_rfl) rfl (by simp[oneCell']) ?_;intro wX bX hgX;have oF:aF w.heap.size wX _ _ _ _ (rows,f,n,cs):=aF.dZ ⟨own1,own2,own3,own4,ap23⟩ bR (by decide) (by decide) (by decide) hgX;have BX:=(B0.tr Bw).grown hgX (B0.tr Bw).size (fun k hk=>by injection hk with hk;subst hk;exact hgR);have bPX:=(bP.bl Bw).grown hgX (by simp;omega);obtain⟨c_0,c_1,c_2,c_3⟩:=bPX.n4;clear own1 own2 own3 own4)
 refine tK hK fun hHeld=>?_
 clear hK K;refine tD ?_
 rotate_left 1
 refine tL fun K hK=>?_
 (refine gZ iY rfl rfl ?_;intro g11 wX b11 hbX hg11a hg11b hgz;have hgy:=hbX.size;obtain⟨hcX,hfX,hzX⟩:=bkn hbX W0.heap.size hz;have hz:=hzX;have Bw:=Bw.tr hbX;have bR:=bR.bl hbX;(try have own1:=own1.below hbX);(try have own2:=own2.below hbX);(try have own3:=own3.below hbX);(try have own4:=own4.below hbX);(try have b3:=b3.bl hbX);(try have b7:=b7.bl hbX);(try have b11:=b11.bl hbX))
 refine tK hK fun hHeld=>?_
 clear hK K;refine(tR [2])<|tL fun K hK=>?_
 (go_simp;go_at_call 87;go_must (refine(xZ _ rows _ (h1.SN (B0.tr Bw)) s1).mono ?_;rintro e wX ⟨C1,e1,rfl,own1,hbX⟩;have own1:=own1.mono (show w.heap.size<=_ by omega);have hgy:=hbX.size;obtain⟨hcX,hfX,hzX⟩:=bkn hbX W0.heap.size hz;have hz:=hzX;have Bw:=Bw.tr hbX;have bR:=bR.bl hbX;(try have own1:=own1.below hbX);(try have own2:=own2.below hbX);(try have own3:=own3.below hbX);(try have own4:=own4.below hbX);(try have b3:=b3.bl hbX);(try have b7:=b7.bl hbX);(try have b11:=b11.bl hbX)))
 refine tK hK fun hHeld=>?_
 clear hK K;refine(tR [5])<|tL fun K hK=>?_
 (go_simp;go_at_call 88;go_must (refine(dE _ f _ (h2.SN (B0.tr Bw)) s2).mono ?_;rintro e wX ⟨C2,e2,rfl,own2,hbX⟩;have own2:=own2.mono (show w.heap.size<=_ by omega);have hgy:=hbX.size;obtain⟨hcX,hfX,hzX⟩:=bkn hbX W0.heap.size hz;have hz:=hzX;have Bw:=Bw.tr hbX;have bR:=bR.bl hbX;(try have own1:=own1.below hbX);(try have own2:=own2.below hbX);(try have own3:=own3.below hbX);(try have own4:=own4.below hbX);(try have b3:=b3.bl hbX);(try have b7:=b7.bl hbX);(try have b11:=b11.bl hbX)))
 refine tK hK fun hHeld=>?_
 clear hK K;refine(tR [8])<|tL fun K hK=>?_
 (go_simp;go_at_call 88;go_must (refine(dE _ n _ (h3.SN (B0.tr Bw)) s3).mono ?_;rintro e wX ⟨C3,e3,rfl,own3,hbX⟩;have ap23:∀k,(Value.slice C2 f.length e2).ownBlock=some k->(Value.slice C3 n.length e3).ownBlock≠some k:=fun k q=>own2.early own3 (le_refl _) q;have own3:=own3.mono (show w.heap.size<=_ by omega);have hgy:=hbX.size;obtain⟨hcX,hfX,hzX⟩:=bkn hbX W0.heap.size hz;have hz:=hzX;have Bw:=Bw.tr hbX;have bR:=bR.bl hbX;(try have own1:=own1.below hbX);(try have own2:=own2.below hbX);(try have own3:=own3.below hbX);(try have own4:=own4.below hbX);(try have b3:=b3.bl hbX);(try have b7:=b7.bl hbX);(try have b11:=b11.bl hbX)))
 refine tK hK fun hHeld=>?_
 clear hK K;refine(tR [12])<|tL fun K hK=>?_
 (refine iO iY dY oneCell (B:=w.heap.size) b11 (by omega) (h4.SN (B0.tr Bw)) H4.out M4.out rfl _ _ rfl rfl rfl ?_;intro C4 e4 wX own4 hbX hk4 hgz;have hgy:=hbX.size;obtain⟨hcX,hfX,hzX⟩:=bkn hbX W0.heap.size hz;have hz:=hzX;have Bw:=Bw.tr hbX;have bR:=bR.bl hbX;(try have own1:=own1.below hbX);(try have own2:=own2.below hbX);(try have own3:=own3.below hbX);(try have own4:=own4.below hbX);(try have b3:=b3.bl hbX);(try have b7:=b7.bl hbX);(try have b11:=b11.bl hbX))
 refine tK hK fun hHeld=>?_
 clear hK K;refine(tW 13)<|(tR [14])<|tL fun K hK=>?_
 (refine aI rfl 30 _ _ rfl gR _ rfl rfl _ _ bR (by kernel_rfl) rfl (by simp[oneCell']) ?_;intro wX bX hgX;have oF:aF w.heap.size wX _ _ _ _ (rows,f,n,cs):=aF.dZ ⟨own1,own2,own3,own4,ap23⟩ bR (by decide) (by decide) (by decide) hgX;have BX:=(B0.tr Bw).grown hgX (B0.tr Bw).size (fun k hk=>by injection hk with hk;subst hk;exact hgR);have bPX:=(bP.bl Bw).grown hgX (by simp;omega);obtain⟨c_0,c_1,c_2,c_3⟩:=bPX.n4;clear own1 own2 own3 own4)
 refine tK hK fun hHeld=>?_
 clear hK K;refine tD ?_
 all_goals
   go_wp2_with fail
   obtain⟨q_0,q_1,q_2,q_3⟩:=bX.n4;refine bodyPost_ret (v:= .agg #[.slice C1 rows.length e1,.slice C2 f.length e2,.slice C3 n.length e3,.slice C4 cs.length e4]) (by simp[results,Tryz.results83,go_sem,q_0,q_1,q_2,q_3]) rfl ⟨C1,e1,C2,e2,C3,e3,C4,e4,rfl,oF,BX⟩
end Go.Proofs.YtljfoohaapckeaaGreatDoor
