/- Draws that leave everything but the cursor ac it was: acts, boxes. No conditions but sizes. Slices of one and of three numbers made, in a drawn region. Plain laws of the model's operations. -/
import Derived.Test.YtljfoohaapckeaaGreatDoorDDrawG
import Derived.Test.YtljfoohaapckeaaGreatDoorDG6
import Derived.Test.YtljfoohaapckeaaGreatDoorDK6
import Derived.Test.YtljfoohaapckeaaGreatDoorDK1
import Derived.Test.YtljfoohaapckeaaGreatDoorDK2
import Derived.RegionTactic
open _root_.Nat (le_trans le_refl)
namespace Go.Proofs.YtljfoohaapckeaaGreatDoor
open Go.ChangeShapes Go.WideShapes Go.ChangeAt Go.RowKit
set_option linter.unusedVariables false
set_option linter.unusedSimpArgs false
set_option maxHeartbeats 4000000
set_option maxRecDepth 100000
section
variable {W w0 w w' : World} {g : Nat} {v : Value} {n : Nat}
theorem NN {w1 w2:World} {r:Option Nat} {b:Nat} (h:w.grownBy w1 r) (k:w1.grownBy w2 (some b)) (hb:w.heap.size<=b):w.grownBy w2 r:=
 ⟨k.os.trans h.os,k.tape.trans h.tape,k.output.trans h.output,le_trans h.size k.size,fun i hi hne=>(k.block i (Nat.lt_of_lt_of_le hi h.size) (fun e=>by injection e with e;omega)).trans (h.block i hi hne)⟩
theorem KI {w1 w2:World} {r:Option Nat} (h:w.grownBy w1 r) (k:Below w1.heap.size w1 w2):w.grownBy w2 r:=
 ⟨k.os.trans h.os,k.tape.trans h.tape,k.output.trans h.output,le_trans h.size k.size,fun i hi hne=>(k.block i (Nat.lt_of_lt_of_le hi h.size)).trans (h.block i hi hne)⟩
structure DS (W w0 w:World) (g:Nat) (v:Value) (n:Nat):Prop where
  cur:Cur w g v n
  B:Below W.heap.size W w
  gr:w0.grownBy w (some g)
theorem DS.refl (hc:Cur w g v n) (hB:Below W.heap.size W w):DS W w w g v n:=⟨hc,hB,World.grownBy.refl _ _⟩
theorem DS.bl (h:DS W w0 w g v n) (hb:Below w.heap.size w w'):DS W w0 w' g v n:=⟨h.cur.bl hb,h.B.tr hb,KI h.gr hb⟩
theorem DS.al (h:DS W w0 w g v n) (o:Obj):DS W w0 (w.alloc o) g v n:=h.bl ((Below.refl _ _).al o)
theorem DS.dr (h:DS W w0 w g v n) (hc:Cur w' g v n) (hB:Below W.heap.size W w') (hg:w.grownBy w' (some g)):DS W w0 w' g v n:=⟨hc,hB,tZ h.gr hg⟩
theorem DS.tr {w1:World} (h:DS W w0 w1 g v n) (k:DS W w1 w g v n):DS W w0 w g v n:=⟨k.cur,k.B,tZ h.gr k.gr⟩
theorem DS.st {b:Nat} (h:DS W w0 w g v n) (hg:w.grownBy w' (some b)) (hb:w0.heap.size<=b) (hW:W.heap.size<=w0.heap.size) (hne:g≠b):DS W w0 w' g v n:=by
 obtain⟨i,x,hi,hk⟩:=h.cur;exact⟨⟨i,x,hi,hk.grown hg (by simp;exact hne)⟩,h.B.grown hg h.B.size (fun k hk=>by injection hk with hk;omega),NN h.gr hg hb⟩
theorem DS.stN {o:Obj} (h:DS W w0 w g v n) (hg:(w.alloc o).grownBy w' (some w.heap.size)) (hW:W.heap.size<=w0.heap.size):DS W w0 w' g v n:=by
 obtain⟨i,x,hi,hk⟩:=h.cur;exact(h.al o).st hg h.gr.size hW (Nat.ne_of_lt hk.lt)
theorem DS.app {α:Type} {E:TypeId} {size B:Nat} {enc:α->List Value} {u:Value} {l:List α} (h:DS W w0 w g v n) (own:aC E size enc B w u l) (ht:E≠135) (hB:w0.heap.size<=B) (hW:W.heap.size<=w0.heap.size) (hg:w.grownBy w' u.ownBlock):DS W w0 w' g v n:=by
 have hne:=h.cur.apart own ht;obtain⟨i,x,hi,hk⟩:=h.cur;refine⟨⟨i,x,hi,hk.grown hg (fun e=>hne e.symm)⟩,Below.app h.B own (le_trans hW hB) hg,⟨hg.os.trans h.gr.os,hg.tape.trans h.gr.tape,hg.output.trans h.gr.output,le_trans h.gr.size hg.size,fun i hi hn=>(hg.block i (Nat.lt_of_lt_of_le hi h.gr.size) (fun e=> ?_)).trans (h.gr.block i hi hn)⟩⟩;have:=(World.ownsRow.lt own i e.symm).1;omega
theorem Blk.ds {b:Nat} {t:TypeId} {cs:Array Value} (hb:Blk w b t cs) (hc:Cur w g v n) (hg:w.grownBy w' (some g)) (ht:t≠135):Blk w' b t cs:=hb.cur hc ht hg
theorem aD.cur {B:Nat} {u1 u2 u3 u4:Value} {x:Fl} (h:aD B w u1 u2 u3 u4 x) (hc:Cur w g v n) (hg:w.grownBy w' (some g)):aD B w' u1 u2 u3 u4 x:=by
 obtain⟨_,_,_,b⟩:=hc;exact aD.eD h b (by decide) (by decide) (by decide) hg
end
def Ig (W:World) (g:Nat) (u:Value) (n:Nat) (w:World) (e:Ending) (w':World):Prop:=∃(l:List (Int×Int)) (A:Option Addr) (c:Nat),e= .returned (.slice A l.length c)/\aC 102 2 dE w.heap.size w' (.slice A l.length c) l/\1<=l.length/\l.length<=4/\(∀x∈l,jE x)/\DS W w w' g u n
theorem wI (W : World) (g : Nat) (v : Value) (l : List Int) (w : World) (h : Rd 1 mM W v l) (Hok : Hid (mO (fun x => 0 <= x /\ x <= 255) l)) (hg : W.heap.size <= g) (hbel : Below W.heap.size W w) (hcur : Cur w g v l.length) :
 Calls Tryz.prog 70 #[.pointer (some ⟨g,0,none⟩)] w (Ig W g v l.length w):=by
 have hW:=hbel.size;have D:=(DS.refl hcur hbel).al (.cells #[] 102);have own0:=iK w (E:=102) (size:=2) (enc:=dE) w.heap.size rfl w.heap.size (le_refl _);go_enter Tryz.func70,Tryz.ntmps70
 go_wp2_with fail
 refine(aQ 4 W g v l _ h Hok hg D.B D.cur (by decide)).mono ?_;rintro e w1 ⟨n,rfl,hn,c1,B1,g1⟩;have own1:=own0.cur D.cur (by decide) g1;have D1:=D.dr c1 B1 g1;have hnn:0<=n/\n<=3:=by unfold dR at hn;omega
 clear own0 D c1 B1 g1 hn;go_wp2;go_loopw [3,5] (fun s3 s5 wr=>∃(bs:List (Int×Int)) (A:Option Addr) (c:Nat),(bs.length:Int)<=1+n/\s5= .int .i64 bs.length/\s3= .slice A bs.length c/\Hid (∀x∈bs,jE x)/\aC 102 2 dE w.heap.size wr (.slice A bs.length c) bs/\DS W w wr g v l.length) (fun _ i _=>(1+n).toNat-(intOf i).toNat)
 case atStart=>exact⟨[],_,_,by simp;omega,rfl,rfl,OA (fun x hx=>by cases hx),own1,D1⟩
 case round=>
  obtain⟨bs,A,c,hk,rfl,rfl,Hb,hown,D⟩:=hrel;clear own1 D1;by_cases hlt:(bs.length:Int)<1+n
  . go_wp2_with fail
    refine(aQ 12 W g v l _ h Hok hg D.B D.cur (by decide)).mono ?_;rintro e w2 ⟨s,rfl,hs,c2,B2,g2⟩;have own2:=hown.cur D.cur (by decide) g2;have D2:=D.dr c2 B2 g2;have hss:0<=s/\s<=11:=by unfold dR at hs;omega
    clear hs c2 B2 g2;go_wp2_with fail
    refine(aQ 9 W g v l _ h Hok hg D2.B D2.cur (by decide)).mono ?_;rintro e w3 ⟨t,rfl,ht,c3,B3,g3⟩;have own3:=own2.cur D2.cur (by decide) g3;have D3:=D2.dr c3 B3 g3;have htt:0<=t/\t<=8:=by unfold dR at ht;omega
    clear ht c3 B3 g3;have H8:Hid ((bs.length+1)*16<=140737488355328):=OA (by omega);have HM:Hid (bs.length+1<=maxLen):=OA (by unfold maxLen;omega);go_wp2_with (at_builtin;go_must (refine yP (enc:=dE) IY mZ ND (B:=w.heap.size) w3 (le_trans D3.gr.size (le_refl _)) own3 (1+s,1+s+1+t) rfl H8.out HM.out rfl _ _ rfl rfl rfl ?_);intro v4 w4 own4 hg4 hv4;obtain⟨A4,c4,rfl⟩:=hv4)
    have D4:=D3.app own3 (by decide) (le_refl _) hW hg4;go_roundw
    case rel=>exact⟨bs++[(1+s,1+s+1+t)],A4,c4,by simp;omega,by simp,by simp,OA (fun x hx=>(List.mem_append.1 hx).elim (Hb.out x) (fun hx=>by rw[List.mem_singleton.1 hx];unfold jE;simp only;omega)),by rw[List.length_append,List.length_singleton];exact own4,D4⟩
    case measure=>simp[intOf];omega
  . go_wp2;go_ret;exact⟨bs,A,c,rfl,hown,by omega,by omega,Hb.out,D⟩
theorem NP (w:World) (x:Int):(Instr.buildSlice 24 1 #[(0,.int .i64 x)]).run Tryz.prog w= .ok (.slice (some ⟨w.heap.size,0,none⟩) 1 1) (w.alloc (.cells #[.int .i64 x] 3)):=by
 obtain⟨ht,hinfo,hzs,hsz⟩:=fA;obtain⟨i0,hi,hz0,hz1,hz2⟩:=info_parts hinfo;simp[Instr.buildSlice,run_underlying ht,sizeOf,typeInfo,hi,hz1,hz0,newRow,Instr.fill,Value.cells,Array.range,Array.zipIdx];refine congrArg (fun cs=>w.alloc (Obj.cells cs 3)) (Array.ext (by simp[hz1]) (fun i h1 h2=> ?_));obtain rfl:i=0:=by simpa using h2
 simp
theorem sW {ops:Array Oper} {o:Oper} {a:Act} {w:World} {K:Act->World->Prop} {Q:Exit->Act->World->Prop} {E':Prop} {x:Int} (hgd:o.guard=none) (y:Operand) (ho:o.op= .buildSlice 24 1 #[(0,y)]) (hy:a.eval y= .int .i64 x)
    (h:∀g w',Below w.heap.size w w'->Blk w' g 3 #[.int .i64 x]->w.heap.size<=g->K (a.put o.dst (.slice (some ⟨g,0,none⟩) 1 1)) w'):
    if Region.wanted o (yielded ops a.tmps)=true then Oper.wp Tryz.prog o a w K Q else E':=by
 have hw:Region.wanted o (yielded ops a.tmps)=true:=(by simp[Region.wanted,hgd]);rw[if_pos hw];have hrun:=NP w x;unfold Oper.wp execOp;simp only[ho,Sem.run_bind,Sem.run_pure,Result.andThen_ok,List.map_toArray,List.map_cons,List.map_nil,hy,hrun];exact h _ _ ((Below.refl _ _).al _) (Blk.bK w 3 #[.int .i64 x]) (le_refl _)
theorem NQ (w:World) (x y z:Int):(Instr.buildSlice 24 3 #[(0,.int .i64 x),(1,.int .i64 y),(2,.int .i64 z)]).run Tryz.prog w= .ok (.slice (some ⟨w.heap.size,0,none⟩) 3 3) (w.alloc (.cells #[.int .i64 x,.int .i64 y,.int .i64 z] 3)):=by
 obtain⟨ht,hinfo,hzs,hsz⟩:=fA;obtain⟨i0,hi,hz0,hz1,hz2⟩:=info_parts hinfo;simp[Instr.buildSlice,run_underlying ht,sizeOf,typeInfo,hi,hz1,hz0,newRow,Instr.fill,Value.cells,Array.range,Array.zipIdx];refine congrArg (fun cs=>w.alloc (Obj.cells cs 3)) (Array.ext (by simp[hz1]) (fun i h1 h2=> ?_));have h3:i=0∨i=1∨i=2:=by simp at h2;omega
 rw[<-Option.some_inj,<-Array.getElem?_eq_getElem,<-Array.getElem?_eq_getElem];rcases h3 with rfl|rfl|rfl<;>simp[Array.getElem?_setIfInBounds,hz1]
theorem FL {ops:Array Oper} {o:Oper} {a:Act} {w:World} {K:Act->World->Prop} {Q:Exit->Act->World->Prop} {E':Prop} {x y z:Int} (hgd:o.guard=none) (p q r:Operand) (ho:o.op= .buildSlice 24 3 #[(0,p),(1,q),(2,r)]) (hp:a.eval p= .int .i64 x) (hq:a.eval q= .int .i64 y) (hr:a.eval r= .int .i64 z)
    (h:∀g w',Below w.heap.size w w'->aC 3 1 aY w.heap.size w' (.slice (some ⟨g,0,none⟩) 3 3) [x,y,z]->w.heap.size<=g->K (a.put o.dst (.slice (some ⟨g,0,none⟩) 3 3)) w'):
    if Region.wanted o (yielded ops a.tmps)=true then Oper.wp Tryz.prog o a w K Q else E':=by
 have hw:Region.wanted o (yielded ops a.tmps)=true:=(by simp[Region.wanted,hgd]);rw[if_pos hw];have hrun:=NQ w x y z;unfold Oper.wp execOp;simp only[ho,Sem.run_bind,Sem.run_pure,Result.andThen_ok,List.map_toArray,List.map_cons,List.map_nil,hp,hq,hr,hrun];exact h _ _ ((Below.refl _ _).al _) ⟨by simp[aY],.inr ⟨w.heap.size,3,#[.int .i64 x,.int .i64 y,.int .i64 z],rfl,le_refl _,heap_alloc_new w _,by simp,by simp[maxLen],by simp,by simp[aY]⟩⟩ (le_refl _)
end Go.Proofs.YtljfoohaapckeaaGreatDoor
