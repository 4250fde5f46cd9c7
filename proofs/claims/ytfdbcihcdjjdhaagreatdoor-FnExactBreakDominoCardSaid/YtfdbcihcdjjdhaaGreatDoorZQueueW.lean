/- A list of waiting places that is cut at its head and appended to: the steps of a walk. Plain lemmas; no conditions. -/
import Derived.Test.YtfdbcihcdjjdhaaGreatDoorZK2
import Derived.ArgAppend
namespace Go.Proofs.YtfdbcihcdjjdhaaGreatDoor
open Go.ChangeShapes Go.WideShapes Go.ChangeAt Go.RowKit
set_option linter.unusedVariables false
set_option linter.unusedSimpArgs false
def Qu (B:Nat) (w:World) (v:Value) (l:List Int):Prop:=
 ∃(g off c:Nat) (cs:Array Value),v= .slice (some ⟨g,off,none⟩) l.length c∧B≤g∧Blk w g 3 cs∧l.length≤c∧c≤maxLen∧off+c≤cs.size∧∀(j:Nat) (x:Int),l[j]? =some x→cs[off+j]? =some (.int .i64 x)
theorem Qu.of_own {B:Nat} {w:World} {v:Value} {l:List Int} (h:OwnL 3 1 eInt B w v l) (hl:0<l.length):Qu B w v l:=by
 have h':=h
 rcases h.2 with⟨_,h0⟩|⟨g,cap,cur,e,hg,hh,hc,hm,hsz,hx⟩
 · omega
 · refine ⟨g, 0, cap, cur, e, hg, hh, hc, hm, by omega, fun j x hj => ?_⟩
   have hk:=(List.getElem?_eq_some_iff.1 hj).1
   subst e
   have h1 := World.ownsRow.cells h' (g := g) rfl j (.int .i64 x) (by
    have:=flat_at (enc:=eInt) lenInt (by decide) l j x hj 0 _ rfl
    simpa using this)
   have h2:=cell_of_row w g j cur 3 (0,0) hh
   rw[Nat.zero_add,←h2]
   have e2:(Addr.mk g 0 none).add j=⟨g,j,none⟩:=by rw[Addr.add_lit,Nat.zero_add]
   rw[←e2];exact h1
theorem Qu.below {B:Nat} {w w':World} {v:Value} {l:List Int} (h:Qu B w v l) (hb:Below w.heap.size w w'):Qu B w' v l:=by
 obtain⟨g,off,c,cs,e,h1,h2,h3⟩:=h
 exact⟨g,off,c,cs,e,h1,h2.below hb h2.lt,h3⟩
theorem Qu.kept {B:Nat} {w w':World} {v:Value} {l:List Int} {row:Option Nat} (h:Qu B w v l) (hg:w.grownBy w' row) (hne:v.ownBlock≠row):Qu B w' v l:=by
 obtain⟨g,off,c,cs,e,h1,h2,h3⟩:=h
 subst e
 exact⟨g,off,c,cs,rfl,h1,h2.grown hg hne,h3⟩
theorem Qu.form {B:Nat} {w:World} {v:Value} {l:List Int} (h:Qu B w v l):∃g off c,v= .slice (some ⟨g,off,none⟩) l.length c∧B≤g∧g<w.heap.size∧l.length≤c∧c≤maxLen:=by
 obtain⟨g,off,c,cs,e,h1,h2,h3,h4,_⟩:=h
 exact⟨g,off,c,e,h1,h2.lt,h3,h4⟩
theorem Qu.head {B g off c:Nat} {w:World} {x:Int} {l:List Int} {n:Nat} (h:Qu B w (.slice (some ⟨g,off,none⟩) n c) (x::l)):w.cell? ⟨g,off,none⟩=some (.int .i64 x):=by
 obtain⟨g',off',c',cs,e,h1,h2,h3,h4,h5,h6⟩:=h
 injection e with e1 e2 e3
 injection e1 with e1
 injection e1 with e1 e4
 subst e1;subst e4
 rw[h2.cell]
 exact h6 0 x rfl
theorem Qu.rd {B:Nat} {w:World} {v:Value} {l:List Int} (h:Qu B w v l):Rd 1 RInt w v l:=by
 obtain⟨g,off,c,cs,e,h1,h2,h3,h4,h5,h6⟩:=h
 refine⟨_,c,e,h3,h4,fun _=>⟨g,off,rfl,h2.lt,fun i x hx=>⟨eInt x,lenInt x,rfl,fun j u hu=> ?_⟩⟩⟩
 obtain rfl:j=0:=by
  have:=(List.getElem?_eq_some_iff.1 hu).1
  rw[lenInt]at this;omega
 rw[h2.cell,Nat.mul_one,Nat.add_zero,h6 i x hx]
 exact hu
theorem Qu.tail {B g off c c' n:Nat} {A':Option Addr} {w:World} {x:Int} {l:List Int} (h:Qu B w (.slice (some ⟨g,off,none⟩) n c) (x::l)) (hs:sliced (some ⟨g,off,none⟩) 1 n c 1= .slice A' (n-1) c'):Qu B w (.slice A' (n-1) c') l:=by
 obtain⟨g',off',c0,cs,e,h1,h2,h3,h4,h5,h6⟩:=h
 injection e with e1 e2 e3
 injection e1 with e1
 injection e1 with e1 e4
 subst e1;subst e4;subst e3
 rw[List.length_cons]at h3 e2
 unfold sliced at hs
 injection hs with s1 s2 s3
 subst s3
 have hn:n-1=l.length:=by omega
 by_cases hc:c=1
 · subst hc
   rw[if_pos rfl]at s1
   subst s1
   refine⟨g,off,1-1,cs,by rw[hn],h1,h2,by omega,by omega,by omega,fun j y hj=> ?_⟩
   have:=(List.getElem?_eq_some_iff.1 hj).1
   omega
 · rw[if_neg hc]at s1
   simp only[Option.map_some,Addr.add_lit]at s1
   subst s1
   refine⟨g,off+1*1,c-1,cs,by rw[hn],h1,h2,by omega,by omega,by omega,fun j y hj=> ?_⟩
   have:=h6 (j+1) y (by simpa using hj)
   rw[←this]
   congr 1
   omega
theorem Qu.mono {B B':Nat} {w:World} {v:Value} {l:List Int} (h:Qu B w v l) (hb:B'≤B):Qu B' w v l:=by
 obtain⟨g,off,c,cs,e,h1,h2⟩:=h
 exact⟨g,off,c,cs,e,by omega,h2⟩
theorem cut_own {g off n c c':Nat} {A':Option Addr} (hs:sliced (some ⟨g,off,none⟩) 1 n c 1= .slice A' (n-1) c'):(Value.slice A' (n-1) c').ownBlock=some g:=by
 unfold sliced at hs
 injection hs with s1 s2 s3
 by_cases hc:c=1
 · rw[if_pos hc]at s1;subst s1;rfl
 · rw[if_neg hc]at s1
   simp only[Option.map_some,Addr.add_lit]at s1
   subst s1;rfl
theorem flat_int (l : List Int) : l.flatMap eInt = l.map fun x => Value.int .i64 x := by
 induction l with
 |nil=>rfl
 |cons y l ih=>rw[List.flatMap_cons,ih];rfl
section
variable {P : Program} {t : TypeId}
theorem wpList_appQ {ops:Array Oper} {rest:List Oper} {o:Oper} {a:Act} {Q:Exit→Act→World→Prop} (R:Row P t 3 (.int .i64 0) 1 8) {B:Nat} {w:World} (hB:B≤w.heap.size) {v:Value} {l:List Int} (hown:Qu B w v l) (x:Int) {g0:Nat} (hg0:g0=w.heap.size)
    (hlen:(l.length+1)*8≤140737488355328) (hlen2:l.length+1≤maxLen) (hgd:o.guard=none)
    (s y:Operand) (ho:o.op= .call {callee:= .builtin .append,args:= #[s,y],argTypes:= #[t,t]})
    (hs:a.eval s=v) (hy:a.eval y= .slice (some ⟨g0,0,none⟩) 1 1)
    (h:∀g c off w',(some g=v.ownBlock∨w.heap.size≤g)→Qu B w' (.slice (some ⟨g,off,none⟩) (l.length+1) c) (l++[x])→(w.alloc (.cells #[.int .i64 x] 3)).grownBy w' v.ownBlock→wpList P ops Q rest (a.put o.dst (.slice (some ⟨g,off,none⟩) (l.length+1) c)) w'):
    wpList P ops Q (o::rest) a (w.alloc (.cells #[.int .i64 x] 3)):=by
 subst hg0
 obtain⟨ht,hinfo,hzs,hsz⟩:=R
 obtain⟨i0,hi,hz0,hz1,hz2⟩:=info_parts hinfo
 obtain⟨g,off,c,cs,e,h1,h2,h3,h4,h5,h6⟩:=hown
 subst e
 have h2':Blk (w.alloc (.cells #[.int .i64 x] 3)) g 3 cs:=h2.alloc _
 refine wpList_append_arg _ hgd s y t ho 3 i0 (.int .i64 0) 1 8 ht hi hz0 hz1 hz2 hzs hsz g off l.length c (l.map fun x => Value.int .i64 x) hs (by simp) (fun j u hj => ?_)
   ⟨w.heap.size,0,none⟩ 1 1 [.int .i64 x] hy rfl (fun j u hj=> ?_) (by simp[Value.oneCell']) (fun hr j hj=> ?_) hlen2 hlen (fun hr=> ?_) (fun hg v' w' ho' hg'=> ?_)
 · rw[h2'.cell]
   rw[List.getElem?_map]at hj
   cases hx:l[j]? with
   |none=>rw[hx]at hj;cases hj
   |some z=>rw[hx]at hj;injection hj with hj;subst hj;exact h6 j z hx
 · obtain rfl:j=0:=by
    have:=(List.getElem?_eq_some_iff.1 hj).1
    simp at this;omega
   rw[Addr.add_lit,Blk.cell (Blk.new_ w 3 #[.int .i64 x])]
   exact hj
 · obtain rfl : j = 0 := by simp at hj; omega
   refine⟨?_,h2'.frozen _⟩
   rw[h2'.cell,Nat.mul_one,Nat.add_zero,Array.getElem?_eq_getElem (by omega)]
   rfl
 · refine h g c off _ (.inl rfl) ⟨g, off, c, cs.setIfInBounds (off + l.length) (.int .i64 x), by rw [List.length_append]; rfl, h1, ?_, by rw [List.length_append]; exact hr, h4, by rw [Array.size_setIfInBounds]; exact h5, fun j z hj => ?_⟩ ?_
   · have:=h2'.set_ (off+l.length) (.int .i64 x)
     rw[Nat.mul_one]
     exact this
   · by_cases hl:j<l.length
     · rw[List.getElem?_append_left hl]at hj
       rw[Array.getElem?_setIfInBounds,if_neg (by omega)]
       exact h6 j z hj
     · rw [List.getElem?_append_right (by omega)] at hj
       have hj1:=(List.getElem?_eq_some_iff.1 hj).1
       simp at hj1
       obtain rfl:j=l.length:=by omega
       rw[Nat.sub_self]at hj
       injection hj with hj
       subst hj
       rw[Array.getElem?_setIfInBounds,if_pos rfl,if_pos (by omega)]
   · have:=gr_set (World.grownBy.refl (w.alloc (.cells #[.int .i64 x] 3)) (some g)) (off+l.length) (.int .i64 x)
     rw[Nat.mul_one]
     exact this
 · have hO:OwnL 3 1 eInt (w.alloc (.cells #[.int .i64 x] 3)).heap.size w' v' (l++[x]):=by
    unfold OwnL
    rw[List.length_append,List.flatMap_append]
    rw[flat_int l]
    exact ho'
   have hq:=(Qu.of_own hO (by simp))
   obtain⟨g',off',c',cs',e',q1,q2,q3⟩:=hq
   subst e'
   rw[List.length_append]
   have q4:B≤g':=by simp at q1;omega
   exact h g' c' off' w' (.inr (by simp at q1;omega)) ⟨g',off',c',cs',by rw[List.length_append];rfl,q4,q2,q3⟩ ⟨hg'.os,hg'.tape,hg'.output,hg'.size,fun k hk _=>hg'.block k hk (by simp)⟩
theorem wpList_cut {ops:Array Oper} {rest:List Oper} {o:Oper} {a:Act} {Q:Exit→Act→World→Prop} {E:TypeId} {z:Value} {bytes:Nat} (R:Row P t E z 1 bytes)
    {w:World} {A:Option Addr} {n c:Nat} (j:Nat) (hj:j≤n) (hn:n≤c) (hm:c≤maxLen) {J:Int} (hJ:J=j)
    (hgd:o.guard=none) (s x:Operand) (hop:o.op=Op.slice t s (some x) none none) (hs:a.eval s= .slice A n c) (hx:a.eval x= .int .i64 J)
    (hK:∀A' c',sliced A j n c 1= .slice A' (n-j) c'→wpList P ops Q rest (a.put o.dst (.slice A' (n-j) c')) w):
    wpList P ops Q (o::rest) a w:=by
 subst hJ
 obtain⟨ht,hinfo,hzs,hsz⟩:=R
 obtain⟨i0,hi,hz0,hz1,hz2⟩:=info_parts hinfo
 have he:P.elem t=E:=by simp[Program.elem,ht]
 have ht':P.underlying t=some (.slice (P.elem t)):=by rw[he];exact ht
 obtain⟨A',c',e⟩:∃A' c',sliced A j n c 1= .slice A' (n-j) c':=⟨_,_,rfl⟩
 have hrun:(Instr.sliceAt t (.slice A n c) (some (.int .i64 j)) none none).run P w= .ok (.slice A' (n-j) c') w:=by
  rw[run_sliceAt_slice w t _ _ _ _ ht',run_slice_l w t A n c ht' .i64 j (by omega) (by omega),he,←e]
  simp[sizeOf,typeInfo,hi,hz1,Result.andThen]
 refine wpList_plain hgd fun K hK'=> ?_
 unfold Oper.wp
 simp[execOp,hop,hs,hx,hrun,Result.andThen]
 exact hK' _ _ (hK A' c' e)
end
end Go.Proofs.YtfdbcihcdjjdhaaGreatDoor
