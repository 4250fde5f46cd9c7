/- Prices of dominoes and floors: the walks and the law FnExactFloorPrice. No conditions. Prices of the reference. FloorPrice and FnExactFloorPrice. No conditions. The profile over the cells of a set: the states' numbers from cell to cell. Plain laws. The count by profiles is the number of tilings. Plain laws. The tilings that are listed are all tilings. Plain laws. Counts of a set, of a region, with a domino; the first tiling, step by step. Plain laws. Forced dominoes and the region without them: plain laws. The cheapest price by profiles is the least price of a tiling. Plain laws.. Conditions, where there are any, stand in the statements. -/
import Derived.Test.YtfdbcihcdjjdhaaGreatDoorYK2
import Derived.Test.YtfdbcihcdjjdhaaGreatDoorYK4
import Derived.Test.YtfdbcihcdjjdhaaGreatDoorYK5
namespace Go.Proofs.YtfdbcihcdjjdhaaGreatDoor
open Go.ChangeShapes Go.WideShapes Go.ChangeAt Go.RowKit
set_option linter.unusedVariables false
set_option maxHeartbeats 4000000
set_option maxRecDepth 100000
def hasDn (s i:Nat):Bool:=decide (i<56)&&s.testBit (i+8)
def hasRt (s i:Nat):Bool:=decide (i%8<7)&&s.testBit (i+1)
def domDn (i:Nat):Dm:=(((i%8:Nat):Int),((i/8:Nat):Int),true)
def domRt (i:Nat):Dm:=(((i%8:Nat):Int),((i/8:Nat):Int),false)
def dpPut (no:Int) (add:Int→Int→Int) (nx:List Int) (k:Nat) (n:Int):List Int:=nx.set k (if nx.getD k 0=no then n else add (nx.getD k 0) n)
def dpDn (s:Nat) (no:Int) (add:Int→Int→Int) (wt:Int→Dm→Int) (i:Nat) (nx:List Int) (k:Nat) (n:Int):List Int:=if hasDn s i then dpPut no add nx (k|||2^(i%8)) (wt n (domDn i))else nx
def dpRt (s:Nat) (no:Int) (add:Int→Int→Int) (wt:Int→Dm→Int) (i:Nat) (nx:List Int) (k:Nat) (n:Int):List Int:=if hasRt s i&& !k.testBit (i%8+1)then dpPut no add nx (k|||2^(i%8+1)) (wt n (domRt i))else nx
def dpOne (s:Nat) (no:Int) (add:Int→Int→Int) (wt:Int→Dm→Int) (i:Nat) (nx:List Int) (k:Nat) (n:Int):List Int:=
 if n=no then nx
 else if s.testBit i then
   if k.testBit (i%8)then dpPut no add nx (k-2^(i%8)) n
   else dpRt s no add wt i (dpDn s no add wt i nx k n) k n
 else if k.testBit (i%8)then nx else dpPut no add nx k n
def dpRow (s:Nat) (no:Int) (add:Int→Int→Int) (wt:Int→Dm→Int) (now:List Int) (i K:Nat):List Int:=(List.range K).foldl (fun nx k=>dpOne s no add wt i nx k (now.getD k 0)) (List.replicate 256 no)
def dp (s:Nat) (no:Int) (add:Int→Int→Int) (wt:Int→Dm→Int) (st:Int):Nat→List Int
  |0=>(List.replicate 256 no).set 0 st
  |i+1=>dpRow s no add wt (dp s no add wt st i) i 256
section
variable {s : Nat} {no : Int} {add : Int → Int → Int} {wt : Int → Dm → Int} {st : Int}
theorem dpPut_len (nx:List Int) (k:Nat) (n:Int):(dpPut no add nx k n).length=nx.length:=by simp[dpPut]
theorem dpDn_len (i:Nat) (nx:List Int) (k:Nat) (n:Int):(dpDn s no add wt i nx k n).length=nx.length:=by unfold dpDn;split<;>simp[dpPut_len]
theorem dpRt_len (i:Nat) (nx:List Int) (k:Nat) (n:Int):(dpRt s no add wt i nx k n).length=nx.length:=by unfold dpRt;split<;>simp[dpPut_len]
theorem dpOne_len (i:Nat) (nx:List Int) (k:Nat) (n:Int):(dpOne s no add wt i nx k n).length=nx.length:=by
 unfold dpOne;split
 · rfl
 · split
   · split
     · exact dpPut_len _ _ _
     · rw[dpRt_len,dpDn_len]
   · split
     · rfl
     · exact dpPut_len _ _ _
theorem dpRow_succ (now:List Int) (i K:Nat):dpRow s no add wt now i (K+1)=dpOne s no add wt i (dpRow s no add wt now i K) K (now.getD K 0):=by
 unfold dpRow;rw[List.range_succ,List.foldl_append];rfl
theorem dpRow_len (now:List Int) (i:Nat):∀K,(dpRow s no add wt now i K).length=256
  |0=>by unfold dpRow;rw[List.range_zero,List.foldl_nil,List.length_replicate]
  |K+1=>by rw[dpRow_succ,dpOne_len];exact dpRow_len now i K
theorem dp_len:∀i,(dp s no add wt st i).length=256
  |0=>by unfold dp;rw[List.length_set,List.length_replicate]
  |i+1=>dpRow_len _ _ _
theorem dpPut_all {P:Nat→Int→Prop} {nx:List Int} (h:∀k v,nx[k]? =some v→P k v) {k:Nat} {n:Int} (hk:k<nx.length) (hp:nx[k]? =some no→P k n) (ha:∀v,nx[k]? =some v→v≠no→P k (add v n)):∀j v,(dpPut no add nx k n)[j]? =some v→P j v:=by
 intro j v hj;unfold dpPut at hj;by_cases e:k=j
 · subst e;rw[List.getElem?_set_self hk]at hj;injection hj with hj;have hg:nx.getD k 0=nx[k]:=(by rw[List.getD_eq_getElem?_getD,List.getElem?_eq_getElem hk,Option.getD_some]);rw[hg]at hj;by_cases e:nx[k]=no
   · rw[if_pos e]at hj;rw[←hj];exact hp (by rw[List.getElem?_eq_getElem hk,e])
   · rw[if_neg e]at hj;rw[←hj];exact ha _ (List.getElem?_eq_getElem hk) e
 · rw[List.getElem?_set_ne e]at hj;exact h j v hj
end
theorem sub_bits:∀k<256,∀x<8,k.testBit x=true→k-2^x<256∧2^x≤k∧∀j<8,(k-2^x).testBit j=(k.testBit j&& !decide (x=j)):=by decide+kernel
theorem or_lt:∀k<256,∀x<8,k|||2^x<256:=by decide+kernel
theorem and_bit:∀k<256,∀x<8,(decide (k&&&2^x=0))= !k.testBit x:=by decide+kernel
def bitCell (i x:Nat):Nat:=if i%8≤x then i-i%8+x else i-i%8+8+x
theorem bitCell_self (i:Nat):bitCell i (i%8)=i:=by unfold bitCell;rw[if_pos (Nat.le_refl _)];omega
theorem bitCell_right (i:Nat):bitCell i (i%8+1)=i+1:=by unfold bitCell;rw[if_pos (by omega)];omega
theorem bitCell_next (i:Nat):bitCell (i+1) (i%8)=i+8:=by
 unfold bitCell;by_cases h:i%8=7
 · rw[if_pos (by omega)];omega
 · rw[if_neg (by omega)];omega
theorem bitCell_same {i x:Nat} (hx:x<8) (h:x≠i%8):bitCell (i+1) x=bitCell i x:=by
 unfold bitCell;by_cases h7:i%8=7
 · rw[if_pos (by omega),if_neg (by omega)];omega
 · by_cases h2:i%8≤x
   · rw[if_pos (by omega),if_pos h2];omega
   · rw[if_neg (by omega),if_neg h2];omega
def OverSet (s i k:Nat):Prop:=∀x,x<8→k.testBit x=true→s.testBit (bitCell i x)=true
theorem over_bit {s i k:Nat} (h:OverSet s i k) (hb:k.testBit (i%8)=true):s.testBit i=true:=by
 have:=h (i%8) (by omega) hb;rwa [bitCell_self]at this
theorem over_same {s i k:Nat} (h:OverSet s i k) (hb:k.testBit (i%8)=false):OverSet s (i+1) k:=by
 intro x hx hk;have hne:x≠i%8:=fun e=>by rw[e,hb]at hk;cases hk
 rw[bitCell_same hx hne];exact h x hx hk
theorem over_sub {s i k:Nat} (hk8:k<256) (h:OverSet s i k) (hb:k.testBit (i%8)=true):OverSet s (i+1) (k-2^(i%8)):=by
 intro x hx hk;rw[(sub_bits k hk8 (i%8) (by omega) hb).2.2 x hx,Bool.and_eq_true]at hk;have hne:x≠i%8:=fun e=>by rw[e]at hk;simp at hk
 rw[bitCell_same hx hne];exact h x hx hk.1
theorem over_dn {s i k:Nat} (h:OverSet s i k) (hd:hasDn s i=true):OverSet s (i+1) (k|||2^(i%8)):=by
 intro x hx hk;by_cases e:x=i%8
 · rw[e,bitCell_next];unfold hasDn at hd;rw[Bool.and_eq_true]at hd;exact hd.2
 · rw[Nat.testBit_or,Nat.testBit_two_pow]at hk;have:decide (i%8=x)=false:=by simp;omega
   rw[this,Bool.or_false]at hk;rw[bitCell_same hx e];exact h x hx hk
theorem over_rt {s i k:Nat} (h:OverSet s i k) (hb:k.testBit (i%8)=false) (hd:hasRt s i=true):OverSet s (i+1) (k|||2^(i%8+1)):=by
 unfold hasRt at hd;rw[Bool.and_eq_true,decide_eq_true_iff]at hd;intro x hx hk;by_cases e:x=i%8+1
 · rw[e,bitCell_same (by omega) (by omega),bitCell_right];exact hd.2
 · rw[Nat.testBit_or,Nat.testBit_two_pow]at hk;have:decide (i%8+1=x)=false:=by simp;omega
   rw[this,Bool.or_false]at hk;have hne:x≠i%8:=fun e2=>by rw[e2,hb]at hk;cases hk
   rw[bitCell_same hx hne];exact h x hx hk
def tl:Nat→Nat→(Nat→Bool)→List (List Dm)
  |0,_,_=>[[]]
  | n + 1, i, S => if S i then
      (if decide (i%8<7)&&S (i+1)then(tl n (i+1) (fun j=>S j&& !decide (j=i+1))).map (domRt i::·)else[])++
      (if decide (i<56)&&S (i+8)then(tl n (i+1) (fun j=>S j&& !decide (j=i+8))).map (domDn i::·)else[])
   else tl n (i+1) S
theorem tl_succ (n i:Nat) (S:Nat→Bool):tl (n+1) i S=if S i then
      (if decide (i%8<7)&&S (i+1)then(tl n (i+1) (fun j=>S j&& !decide (j=i+1))).map (domRt i::·)else[])++
      (if decide (i<56)&&S (i+8)then(tl n (i+1) (fun j=>S j&& !decide (j=i+8))).map (domDn i::·)else[])
 else tl n (i+1) S:=rfl
theorem tl_congr:∀(n i:Nat) (S T:Nat→Bool),(∀j,i≤j→S j=T j)→tl n i S=tl n i T
  |0,_,_,_,_=>rfl
  | n + 1, i, S, T, h => by
   rw [tl_succ, tl_succ, h i (Nat.le_refl _), h (i + 1) (by omega), h (i + 8) (by omega),
     tl_congr n (i+1) (fun j=>S j&& !decide (j=i+1)) (fun j=>T j&& !decide (j=i+1)) (fun j hj=>by simp only[h j (by omega)]),
     tl_congr n (i+1) (fun j=>S j&& !decide (j=i+8)) (fun j=>T j&& !decide (j=i+8)) (fun j hj=>by simp only[h j (by omega)]),
     tl_congr n (i+1) S T (fun j hj=>h j (by omega))]
def covK (i k j:Nat):Bool:=(List.range 8).any fun x=>k.testBit x&&decide (bitCell i x=j)
theorem covK_iff {i k j:Nat}:covK i k j=true↔∃x,x<8∧k.testBit x=true∧bitCell i x=j:=by
 unfold covK;rw[List.any_eq_true];constructor
 · rintro⟨x,hx,h⟩;rw[Bool.and_eq_true,decide_eq_true_eq]at h;exact⟨x,List.mem_range.1 hx,h.1,h.2⟩
 · rintro⟨x,hx,h1,h2⟩;exact⟨x,List.mem_range.2 hx,by rw[h1,decide_eq_true h2];rfl⟩
theorem bitCell_inj {i x y:Nat} (hx:x<8) (hy:y<8) (h:bitCell i x=bitCell i y):x=y:=by
 unfold bitCell at h;split at h<;>split at h<;>omega
def restOf (s i k j:Nat):Bool:=s.testBit j&& !covK i k j
theorem covK_at {i k x:Nat} (hx:x<8):covK i k (bitCell i x)=k.testBit x:=by
 rw[Bool.eq_iff_iff,covK_iff];constructor
 · rintro⟨y,hy,h1,h2⟩;rw[←bitCell_inj hy hx h2];exact h1
 · intro h;exact⟨x,hx,h,rfl⟩
theorem covK_below {i k:Nat}:covK i k (i+8)=false:=by
 rcases q:covK i k (i+8)with _|_
 · rfl
 · obtain⟨x,hx,_,h⟩:=covK_iff.1 q;unfold bitCell at h;split at h<;>omega
theorem covK_next {i k k' j:Nat} (hj:i+1≤j) (h:∀x,x<8→x≠i%8→k'.testBit x=k.testBit x):covK (i+1) k' j=(covK i k j||(k'.testBit (i%8)&&decide (i+8=j))):=by
 rw[Bool.eq_iff_iff,Bool.or_eq_true,Bool.and_eq_true,decide_eq_true_eq,covK_iff,covK_iff];constructor
 · rintro⟨x,hx,h1,h2⟩;by_cases e:x=i%8
   · subst e;rw[bitCell_next]at h2;exact .inr ⟨h1,h2⟩
   · rw[bitCell_same hx e]at h2;rw[h x hx e]at h1;exact .inl ⟨x,hx,h1,h2⟩
 · rintro(⟨x,hx,h1,h2⟩|⟨h1,h2⟩)
   · have e : x ≠ i % 8 := fun e => by subst e; rw [bitCell_self] at h2; omega
     exact⟨x,hx,by rw[h x hx e];exact h1,by rw[bitCell_same hx e];exact h2⟩
   · exact⟨i%8,by omega,h1,by rw[bitCell_next];exact h2⟩
def nOf (s i k:Nat):Int:=((tl (64-i) i (restOf s i k)).length:Nat)
def gives (s i k:Nat):Int:=
 if s.testBit i then
   if k.testBit (i%8)then nOf s (i+1) (k-2^(i%8))
   else(if hasDn s i then nOf s (i+1) (k|||2^(i%8))else 0)+(if hasRt s i&& !k.testBit (i%8+1)then nOf s (i+1) (k|||2^(i%8+1))else 0)
 else if k.testBit (i%8)then 0 else nOf s (i+1) k
theorem or_bits (k x j:Nat):(k|||2^x).testBit j=(k.testBit j||decide (x=j)):=by rw[Nat.testBit_or,Nat.testBit_two_pow]
theorem gives_is {s i k:Nat} (hi:i<64) (hk:k<256) (ho:OverSet s i k):gives s i k=nOf s i k:=by
 have hself:covK i k i=k.testBit (i%8):=by
  have:=covK_at (i:=i) (k:=k) (x:=i%8) (by omega);rwa [bitCell_self]at this
 have h64:64-i=(64-(i+1))+1:=(by omega);unfold gives;conv=>rhs;unfold nOf;rw[h64,tl_succ]
 rcases hs:s.testBit i with _|_
 · have hS : restOf s i k i = false := by unfold restOf; rw [hs]; rfl
   rw[hS];simp only[Bool.false_eq_true,if_false];rcases hb:k.testBit (i%8)with _|_
   · simp only[Bool.false_eq_true,if_false];unfold nOf;rw[tl_congr _ (i+1) (restOf s (i+1) k) (restOf s i k) (fun j hj=>by unfold restOf;rw[covK_next hj (fun _ _ _=>rfl),hb];simp)]
   · have:=over_bit ho hb;rw[hs]at this;cases this
 · simp only[if_true];rcases hb:k.testBit (i%8)with _|_
   · have hS : restOf s i k i = true := by unfold restOf; rw [hs, hself, hb]; rfl
     rw[hS];simp only[Bool.false_eq_true,if_false,if_true,List.length_append];have hdn:(decide (i<56)&&restOf s i k (i+8))=hasDn s i:=by unfold restOf hasDn;rw[covK_below];simp
     rw[hdn]
     have hrt:(decide (i%8<7)&&restOf s i k (i+1))=(hasRt s i&& !k.testBit (i%8+1)):=by
      unfold hasRt restOf;by_cases h7:i%8<7
      · have := covK_at (i := i) (k := k) (x := i % 8 + 1) (by omega);rw[bitCell_right]at this;rw[this,Bool.and_assoc]
      · simp[h7]
     rw[hrt]
     have ed : hasDn s i = true → nOf s (i + 1) (k ||| 2 ^ (i % 8)) = ((tl (64 - (i + 1)) (i + 1) (fun j => restOf s i k j && !decide (j = i + 8))).length : Nat) := fun _ => by
      unfold nOf
      rw [tl_congr _ (i + 1) _ (fun j => restOf s i k j && !decide (j = i + 8)) (fun j hj => by
       unfold restOf;rw[covK_next (k:=k) hj (fun x hx hne=>by rw[or_bits];simp;omega),or_bits];simp[Bool.and_assoc,eq_comm])]
     have er : (hasRt s i && !k.testBit (i % 8 + 1)) = true → nOf s (i + 1) (k ||| 2 ^ (i % 8 + 1)) = ((tl (64 - (i + 1)) (i + 1) (fun j => restOf s i k j && !decide (j = i + 1))).length : Nat) := fun hr => by
      have h7:i%8<7:=by
       rw[Bool.and_eq_true]at hr;have:=hr.1;unfold hasRt at this;rw[Bool.and_eq_true,decide_eq_true_iff]at this;exact this.1
      unfold nOf
      rw [tl_congr _ (i + 1) _ (fun j => restOf s i k j && !decide (j = i + 1)) (fun j hj => by
       unfold restOf
       have e1:covK (i+1) (k|||2^(i%8+1)) j=(covK i k j||decide (j=i+1)):=by
        rw[Bool.eq_iff_iff,Bool.or_eq_true,decide_eq_true_eq,covK_iff,covK_iff];constructor
        · rintro⟨x,hx,h1,h2⟩;rw[or_bits,Bool.or_eq_true,decide_eq_true_eq]at h1;by_cases e:x=i%8
          · subst e;rcases h1 with h1|h1
            · rw[hb]at h1;cases h1
            · omega
          · rw[bitCell_same hx e]at h2;rcases h1 with h1|h1
            · exact .inl ⟨x,hx,h1,h2⟩
            · subst h1;rw[bitCell_right]at h2;exact .inr h2.symm
        · rintro(⟨x,hx,h1,h2⟩|h2)
          · have e : x ≠ i % 8 := fun e => by subst e; rw [hb] at h1; cases h1
            exact⟨x,hx,by rw[or_bits,h1];rfl,by rw[bitCell_same hx e];exact h2⟩
          · refine ⟨i % 8 + 1, by omega, by rw [or_bits]; simp, ?_⟩;rw[bitCell_same (by omega) (by omega),bitCell_right];exact h2.symm
       rw[e1,Bool.not_or,Bool.and_assoc])]
     rcases hd:hasDn s i with _|_<;>rcases hr:(hasRt s i&& !k.testBit (i%8+1))with _|_
     · simp
     · simp[er hr]
     · simp[ed hd]
     · simp[ed hd,er hr];omega
   · have hS : restOf s i k i = false := by unfold restOf; rw [hself, hb]; simp
     rw[hS];simp only[Bool.false_eq_true,if_false,if_true];unfold nOf
     rw [tl_congr _ (i + 1) (restOf s (i + 1) (k - 2 ^ (i % 8))) (restOf s i k) (fun j hj => by
      have hsb:=(sub_bits k hk (i%8) (by omega) hb).2.2;unfold restOf;rw[covK_next (k:=k) hj (fun x hx hne=>by rw[hsb x hx];simp;omega),hsb _ (by omega)];simp)]
def wsum (f:Nat→Int) (l:List Int):Nat→Int
  |0=>0
  |K+1=>wsum f l K+l.getD K 0*f K
theorem wsum_succ (f:Nat→Int) (l:List Int) (K:Nat):wsum f l (K+1)=wsum f l K+l.getD K 0*f K:=rfl
theorem wsum_set (f:Nat→Int) (l:List Int) {j:Nat} (hj:j<l.length) (v:Int):∀K,wsum f (l.set j v) K=wsum f l K+if j<K then(v-l.getD j 0)*f j else 0
  |0=>by simp[wsum]
  | K + 1 => by
   rw[wsum_succ,wsum_succ,wsum_set f l hj v K];by_cases e:j=K
   · subst e;have h1:(l.set j v).getD j 0=v:=by rw[List.getD_eq_getElem?_getD,List.getElem?_set_self hj];rfl
     rw[h1,if_neg (by omega),if_pos (by omega),Int.sub_mul];omega
   · have h1 : (l.set j v).getD K 0 = l.getD K 0 := by rw [List.getD_eq_getElem?_getD, List.getElem?_set_ne e, List.getD_eq_getElem?_getD]
     rw[h1];by_cases h:j<K
     · rw[if_pos h,if_pos (by omega)];omega
     · rw[if_neg h,if_neg (by omega)];omega
theorem wsum_zero (f:Nat→Int) (l:List Int):∀K,(∀k,k<K→l.getD k 0=0∨f k=0)→wsum f l K=0
  |0,_=>rfl
  | K + 1, h => by
   rw[wsum_succ,wsum_zero f l K (fun k hk=>h k (by omega))];rcases h K (by omega)with e|e<;>rw[e]<;>simp
theorem wsum_congr {f g:Nat→Int} (l:List Int):∀K,(∀k,k<K→l.getD k 0=0∨f k=g k)→wsum f l K=wsum g l K
  |0,_=>rfl
  | K + 1, h => by
   rw[wsum_succ,wsum_succ,wsum_congr l K (fun k hk=>h k (by omega))];rcases h K (by omega)with e|e
   · rw[e];simp
   · rw[e]
theorem wsum_put (f : Nat → Int) {nx : List Int} (hl : nx.length = 256) {k : Nat} (hk : k < 256) (n : Int) : wsum f (dpPut 0 (fun a b => a + b) nx k n) 256 = wsum f nx 256 + n * f k := by
 unfold dpPut;rw[wsum_set f nx (by omega),if_pos hk];by_cases h:nx.getD k 0=0
 · rw[if_pos h,h];simp
 · rw[if_neg h];congr 1;congr 1;show nx.getD k 0+n-nx.getD k 0=n;omega
def cntDp (s:Nat):Nat→List Int:=dp s 0 (fun a b=>a+b) (fun n _=>n) 1
theorem wsum_one {s i k : Nat} {nx : List Int} {n : Int} (hl : nx.length = 256) (hk : k < 256) : wsum (nOf s (i + 1)) (dpOne s 0 (fun a b => a + b) (fun n _ => n) i nx k n) 256 = wsum (nOf s (i + 1)) nx 256 + n * gives s i k := by
 unfold dpOne gives;by_cases h0:n=0
 · rw[if_pos h0,h0];simp
 · rw[if_neg h0];rcases hs:s.testBit i with _|_
   · simp only[Bool.false_eq_true,if_false];rcases hb:k.testBit (i%8)with _|_
     · simp only[Bool.false_eq_true,if_false];exact wsum_put _ hl hk n
     · simp
   · simp only[if_true];rcases hb:k.testBit (i%8)with _|_
     · simp only[Bool.false_eq_true,if_false]
       have hd : wsum (nOf s (i + 1)) (dpDn s 0 (fun a b => a + b) (fun n _ => n) i nx k n) 256 = wsum (nOf s (i + 1)) nx 256 + n * (if hasDn s i then nOf s (i + 1) (k ||| 2 ^ (i % 8)) else 0) := by
        unfold dpDn;rcases q:hasDn s i with _|_
        · simp
        · simp only[if_true];exact wsum_put _ hl (or_lt k hk _ (by omega)) n
       have hr : wsum (nOf s (i + 1)) (dpRt s 0 (fun a b => a + b) (fun n _ => n) i (dpDn s 0 (fun a b => a + b) (fun n _ => n) i nx k n) k n) 256 = wsum (nOf s (i + 1)) (dpDn s 0 (fun a b => a + b) (fun n _ => n) i nx k n) 256 + n * (if hasRt s i && !k.testBit (i % 8 + 1) then nOf s (i + 1) (k ||| 2 ^ (i % 8 + 1)) else 0) := by
        unfold dpRt;rcases q:(hasRt s i&& !k.testBit (i%8+1))with _|_
        · simp
        · have h7:i%8<7:=by
           rw[Bool.and_eq_true]at q;have:=q.1;unfold hasRt at this;rw[Bool.and_eq_true,decide_eq_true_iff]at this;exact this.1
          simp only[if_true];exact wsum_put _ (by rw[dpDn_len];exact hl) (or_lt k hk _ (by omega)) n
       rw[hr,hd,Int.mul_add,Int.add_assoc]
     · simp only[if_true];exact wsum_put _ hl (sub_bits k hk _ (by omega) hb).1 n
theorem wsum_row {s i : Nat} (now : List Int) : ∀ K, K ≤ 256 → wsum (nOf s (i + 1)) (dpRow s 0 (fun a b => a + b) (fun n _ => n) now i K) 256 = wsum (gives s i) now K
  | 0, _ => by
   rw[show wsum (gives s i) now 0=0 from rfl];refine wsum_zero _ _ _ fun k hk=> .inl ?_
   simp only[dpRow,List.range_zero,List.foldl_nil];rw[List.getD_eq_getElem?_getD,List.getElem?_replicate,if_pos hk];rfl
  | K + 1, hK => by
   rw[dpRow_succ,wsum_one (dpRow_len _ _ _) (by omega),wsum_row now K (by omega),wsum_succ]
theorem ov_put {s i k : Nat} {nx : List Int} {n : Int} (hl : nx.length = 256) (h : ∀ k v, nx[k]? = some v → v = 0 ∨ OverSet s i k) (hk : k < 256) (ho : OverSet s i k) : ∀ j v, (dpPut 0 (fun a b => a + b) nx k n)[j]? = some v → v = 0 ∨ OverSet s i j :=
 dpPut_all h (by omega) (fun _=> .inr ho) (fun v hv hne=> .inr ho)
theorem ov_one {s i k : Nat} {nx : List Int} {n : Int} (hl : nx.length = 256) (h : ∀ k v, nx[k]? = some v → v = 0 ∨ OverSet s (i + 1) k) (hk : k < 256) (hn : n = 0 ∨ OverSet s i k) : ∀ j v, (dpOne s 0 (fun a b => a + b) (fun n _ => n) i nx k n)[j]? = some v → v = 0 ∨ OverSet s (i + 1) j := by
 unfold dpOne;by_cases e:n=0
 · rw[if_pos e];exact h
 · rw[if_neg e];have ho:=hn.resolve_left e;rcases hs:s.testBit i with _|_
   · rw [if_neg (by simp)];rcases hb:k.testBit (i%8)with _|_
     · rw[if_neg (by simp)];exact ov_put hl h hk (over_same ho hb)
     · rw[if_pos rfl];exact h
   · rw[if_pos rfl];rcases hb:k.testBit (i%8)with _|_
     · rw [if_neg (by simp)]
       have hdn : ∀ j v, (dpDn s 0 (fun a b => a + b) (fun n _ => n) i nx k n)[j]? = some v → v = 0 ∨ OverSet s (i + 1) j := by
        unfold dpDn;rcases hd:hasDn s i with _|_
        · rw[if_neg (by simp)];exact h
        · rw[if_pos rfl];exact ov_put hl h (or_lt k hk _ (by omega)) (over_dn ho hd)
       unfold dpRt;rcases hr:(hasRt s i&& !k.testBit (i%8+1))with _|_
       · rw[if_neg (by simp)];exact hdn
       · rw[if_pos rfl];rw[Bool.and_eq_true]at hr;have hx:i%8<7:=by have:=hr.1;unfold hasRt at this;rw[Bool.and_eq_true,decide_eq_true_iff]at this;exact this.1
         exact ov_put (by rw[dpDn_len];exact hl) hdn (or_lt k hk _ (by omega)) (over_rt ho hb hr.1)
     · rw[if_pos rfl];exact ov_put hl h (sub_bits k hk _ (by omega) hb).1 (over_sub hk ho hb)
theorem ov_row {s i : Nat} {now : List Int} (hn : ∀ k v, now[k]? = some v → v = 0 ∨ OverSet s i k) (hl : now.length = 256) : ∀ K, K ≤ 256 → ∀ j v, (dpRow s 0 (fun a b => a + b) (fun n _ => n) now i K)[j]? = some v → v = 0 ∨ OverSet s (i + 1) j
  | 0, _ => by
   intro j v hj;simp only[dpRow,List.range_zero,List.foldl_nil]at hj;rw[List.getElem?_replicate]at hj;split at hj
   · injection hj with hj;exact .inl hj.symm
   · cases hj
  | K + 1, hK => by
   rw[dpRow_succ];refine ov_one (dpRow_len _ _ _) (ov_row hn hl K (by omega)) (by omega) ?_;rw[List.getD_eq_getElem?_getD,List.getElem?_eq_getElem (by omega),Option.getD_some];exact hn K _ (List.getElem?_eq_getElem (by omega))
theorem ov_dp (s:Nat):∀i,∀k v,(cntDp s i)[k]? =some v→v=0∨OverSet s i k
  | 0 => by
   intro k v hk;unfold cntDp dp at hk;by_cases e:0=k
   · subst e;exact .inr (fun x _ h=>by simp at h)
   · rw[List.getElem?_set_ne e,List.getElem?_replicate]at hk;split at hk
     · injection hk with hk;exact .inl hk.symm
     · cases hk
  |i+1=>fun k v hk=>ov_row (ov_dp s i) (dp_len i) 256 (Nat.le_refl _) k v hk
theorem ov_getD (s i k:Nat) (hk:k<256):(cntDp s i).getD k 0=0∨OverSet s i k:=by
 have hl:k<(cntDp s i).length:=by unfold cntDp;rw[dp_len];exact hk
 rw[List.getD_eq_getElem?_getD,List.getElem?_eq_getElem hl,Option.getD_some];exact ov_dp s i k _ (List.getElem?_eq_getElem hl)
theorem count_row (s:Nat):∀i,i≤64→wsum (nOf s i) (cntDp s i) 256=((tl 64 0 s.testBit).length:Nat)
  | 0, _ => by
   have h0:cntDp s 0=(List.replicate 256 (0:Int)).set 0 1:=rfl;rw[h0,wsum_set _ _ (by rw[List.length_replicate];decide),if_pos (by omega),wsum_zero _ _ _ (fun k hk=> .inl (by rw[List.getD_eq_getElem?_getD,List.getElem?_replicate,if_pos hk];rfl))];have h1:(List.replicate 256 (0:Int)).getD 0 0=0:=by rw[List.getD_eq_getElem?_getD,List.getElem?_replicate,if_pos (by decide)];rfl
   rw[h1];unfold nOf
   rw [tl_congr 64 0 (restOf s 0 0) s.testBit (fun j _ => by
    unfold restOf
    have:covK 0 0 j=false:=by
     rcases q:covK 0 0 j with _|_
     · rfl
     · obtain⟨x,_,h,_⟩:=covK_iff.1 q;simp at h
    rw[this];simp)]
   simp
  | i + 1, hi => by
   have h1:cntDp s (i+1)=dpRow s 0 (fun a b=>a+b) (fun n _=>n) (cntDp s i) i 256:=rfl;rw[h1,wsum_row _ 256 (Nat.le_refl _),←count_row s i (by omega)];refine wsum_congr _ _ fun k hk=> ?_
   rcases ov_getD s i k hk with h|h
   · exact .inl h
   · exact .inr (gives_is (by omega) hk h)
theorem count_is {s:Nat} (hs:s<U64):(cntDp s 64).getD 0 0=((tl 64 0 s.testBit).length:Nat):=by
 rw[←count_row s 64 (Nat.le_refl _)];have h1:∀k,nOf s 64 k=1:=fun k=>rfl
 have h2 : ∀ k, k < 256 → k ≠ 0 → (cntDp s 64).getD k 0 = 0 := fun k hk hne => by
  rcases ov_getD s 64 k hk with h|h
  · exact h
  · exfalso
    have hx:∃x,x<8∧k.testBit x=true:=by
     obtain⟨x,hx⟩:=Nat.exists_testBit_of_ne_zero hne;refine⟨x,?_,hx⟩;by_cases h8:x<8
     · exact h8
     · have : k < 2 ^ x := Nat.lt_of_lt_of_le hk (Nat.pow_le_pow_right (n := 2) (by decide) (show 8 ≤ x by omega));rw[Nat.testBit_lt_two_pow this]at hx;cases hx
    obtain⟨x,hx8,hx⟩:=hx;have:=h x hx8 hx;rw[Nat.testBit_lt_two_pow]at this
    · cases this
    · unfold U64 at hs;refine Nat.lt_of_lt_of_le hs ?_;unfold bitCell;have:64≤(if 64%8≤x then 64-64%8+x else 64-64%8+8+x):=by split<;>omega
      exact Nat.pow_le_pow_right (n:=2) (by decide) this
 have h3:∀K,K≤255→wsum (nOf s 64) (cntDp s 64) (K+1)=(cntDp s 64).getD 0 0:=by
  intro K;induction K with
  |zero=>intro _;rw[wsum_succ,h1];simp[wsum]
  |succ K ih=>intro hK;rw[wsum_succ,ih (by omega),h2 (K+1) (by omega) (by omega)];simp
 exact(h3 255 (Nat.le_refl _)).symm
def two (i:Nat):Int:=if i<56∧i%8<7 then 2 else 1
def capOf:Nat→Int
  |0=>1
  |i+1=>capOf i*two i
theorem two_in (i:Nat):1≤two i∧two i≤2:=by unfold two;split<;>omega
theorem cap_pos:∀i,1≤capOf i
  |0=>by unfold capOf;omega
  | i + 1 => by
   have h1:=cap_pos i;have h2:=(two_in i).1;show 1≤capOf i*two i
   calc (1 : Int) ≤ capOf i := h1
     _=capOf i*1:=by omega
     _≤capOf i*two i:=Int.mul_le_mul_of_nonneg_left h2 (by omega)
theorem cap_mono:∀i d,capOf i≤capOf (i+d)
  |i,0=>Int.le_refl _
  | i, d + 1 => by
   refine Int.le_trans (cap_mono i d) ?_;show capOf (i+d)≤capOf (i+d)*two (i+d)
   calc capOf (i + d) = capOf (i + d) * 1 := by omega
     _≤capOf (i+d)*two (i+d):=Int.mul_le_mul_of_nonneg_left (two_in _).1 (by have:=cap_pos (i+d);omega)
theorem cap_64:capOf 64=562949953421312:=by decide+kernel
theorem nn_put {k : Nat} {nx : List Int} {n : Int} (hl : nx.length = 256) (h : ∀ (k : Nat) (v : Int), nx[k]? = some v → 0 ≤ v) (hk : k < 256) (hn : 0 ≤ n) : ∀ (j : Nat) (v : Int), (dpPut 0 (fun a b => a + b) nx k n)[j]? = some v → 0 ≤ v :=
 dpPut_all (P:=fun _ v=>0≤v) h (by omega) (fun _=>hn) (fun v hv _=>by have:=h k v hv;show 0≤v+n;omega)
theorem nn_one {s i k:Nat} {nx:List Int} {n:Int} (hl:nx.length=256) (h:∀(k:Nat) (v:Int),nx[k]? =some v→0≤v) (hk:k<256) (hn:0≤n):
 (∀(j:Nat) (v:Int),(dpOne s 0 (fun a b=>a+b) (fun n _=>n) i nx k n)[j]? =some v→0≤v)∧wsum (fun _=>1) (dpOne s 0 (fun a b=>a+b) (fun n _=>n) i nx k n) 256≤wsum (fun _=>1) nx 256+n*two i:=by
 have ht:=two_in i
 have hn1:n≤n*two i:=by
  calc n = n * 1 := by omega
    _≤n*two i:=Int.mul_le_mul_of_nonneg_left ht.1 hn
 have hp:∀(nx:List Int) (k:Nat),nx.length=256→k<256→wsum (fun _=>1) (dpPut 0 (fun a b=>a+b) nx k n) 256=wsum (fun _=>1) nx 256+n:=fun nx k hl hk=>by rw[wsum_put _ hl hk];omega
 unfold dpOne;by_cases e:n=0
 · rw[if_pos e];exact⟨h,by rw[e];omega⟩
 · rw[if_neg e];rcases hs:s.testBit i with _|_
   · rw [if_neg (by simp)];rcases hb:k.testBit (i%8)with _|_
     · rw[if_neg (by simp)];exact⟨nn_put hl h hk hn,by rw[hp nx k hl hk];omega⟩
     · rw[if_pos rfl];exact⟨h,by omega⟩
   · rw[if_pos rfl];rcases hb:k.testBit (i%8)with _|_
     · rw [if_neg (by simp)]
       have hdn : (∀ (j : Nat) (v : Int), (dpDn s 0 (fun a b => a + b) (fun n _ => n) i nx k n)[j]? = some v → 0 ≤ v) ∧ wsum (fun _ => 1) (dpDn s 0 (fun a b => a + b) (fun n _ => n) i nx k n) 256 = wsum (fun _ => 1) nx 256 + if hasDn s i then n else 0 := by
        unfold dpDn;rcases hd:hasDn s i with _|_
        · rw[if_neg (by simp),if_neg (by simp)];exact⟨h,by omega⟩
        · rw[if_pos rfl,if_pos rfl];exact⟨nn_put hl h (or_lt k hk _ (by omega)) hn,hp nx _ hl (or_lt k hk _ (by omega))⟩
       have hdt:hasDn s i=true→i<56:=fun q=>by unfold hasDn at q;rw[Bool.and_eq_true,decide_eq_true_iff]at q;exact q.1
       unfold dpRt;rcases hr:(hasRt s i&& !k.testBit (i%8+1))with _|_
       · rw [if_neg (by simp)];refine⟨hdn.1,?_⟩;rw[hdn.2];split<;>omega
       · rw[if_pos rfl];rw[Bool.and_eq_true]at hr;have hx:i%8<7:=by have:=hr.1;unfold hasRt at this;rw[Bool.and_eq_true,decide_eq_true_iff]at this;exact this.1
         refine⟨nn_put (by rw[dpDn_len];exact hl) hdn.1 (or_lt k hk _ (by omega)) hn,?_⟩;rw[hp _ _ (by rw[dpDn_len];exact hl) (or_lt k hk _ (by omega)),hdn.2];rcases hd:hasDn s i with _|_
         · rw[if_neg (by simp)];omega
         · rw[if_pos rfl];have h2:two i=2:=by unfold two;rw[if_pos ⟨hdt hd,hx⟩]
           rw[h2];omega
     · rw[if_pos rfl];exact⟨nn_put hl h (sub_bits k hk _ (by omega) hb).1 hn,by rw[hp nx _ hl (sub_bits k hk _ (by omega) hb).1];omega⟩
theorem nn_row {s i:Nat} {now:List Int} (hn:∀(k:Nat) (v:Int),now[k]? =some v→0≤v) (hl:now.length=256):∀K,K≤256→
    (∀(j:Nat) (v:Int),(dpRow s 0 (fun a b=>a+b) (fun n _=>n) now i K)[j]? =some v→0≤v)∧wsum (fun _=>1) (dpRow s 0 (fun a b=>a+b) (fun n _=>n) now i K) 256≤wsum (fun _=>1) now K*two i
 | 0, _ => by
  refine⟨fun j v hj=> ?_,?_⟩
  · simp only[dpRow,List.range_zero,List.foldl_nil]at hj;rw[List.getElem?_replicate]at hj;split at hj
    · injection hj with hj;omega
    · cases hj
  · rw [show wsum (fun _ => 1) now 0 = 0 from rfl, wsum_zero _ _ _ (fun k hk => .inl (by
     simp only[dpRow,List.range_zero,List.foldl_nil];rw[List.getD_eq_getElem?_getD,List.getElem?_replicate,if_pos hk];rfl))]
    omega
 | K + 1, hK => by
  obtain⟨a,b⟩:=nn_row hn hl K (by omega)
  have hv:0≤now.getD K 0:=by
   rw[List.getD_eq_getElem?_getD,List.getElem?_eq_getElem (by omega),Option.getD_some];exact hn K _ (List.getElem?_eq_getElem (by omega))
  rw[dpRow_succ];obtain⟨c,d⟩:=nn_one (s:=s) (i:=i) (k:=K) (dpRow_len now i K) a (by omega) hv;refine⟨c,Int.le_trans d ?_⟩;have e:wsum (fun _=>1) now (K+1)*two i=wsum (fun _=>1) now K*two i+now.getD K 0*two i:=by rw[wsum_succ,Int.add_mul];simp
  rw[e];omega
theorem nn_dp (s : Nat) : ∀ i, (∀ (k : Nat) (v : Int), (cntDp s i)[k]? = some v → 0 ≤ v) ∧ wsum (fun _ => 1) (cntDp s i) 256 ≤ capOf i
  | 0 => by
   have h0:cntDp s 0=(List.replicate 256 (0:Int)).set 0 1:=rfl;refine⟨fun k v hk=> ?_,?_⟩
   · rw[h0]at hk;by_cases e:0=k
     · subst e;rw[List.getElem?_set_self (by rw[List.length_replicate];decide)]at hk;injection hk with hk;omega
     · rw[List.getElem?_set_ne e,List.getElem?_replicate]at hk;split at hk
       · injection hk with hk;omega
       · cases hk
   · rw [h0, wsum_set _ _ (by rw [List.length_replicate]; decide), if_pos (by omega), wsum_zero _ _ _ (fun k hk => .inl (by rw [List.getD_eq_getElem?_getD, List.getElem?_replicate, if_pos hk]; rfl))];have h1:(List.replicate 256 (0:Int)).getD 0 0=0:=by rw[List.getD_eq_getElem?_getD,List.getElem?_replicate,if_pos (by decide)];rfl
     rw[h1];unfold capOf;omega
  | i + 1 => by
   obtain⟨a,b⟩:=nn_dp s i;obtain⟨c,d⟩:=nn_row (s:=s) (i:=i) a (dp_len i) 256 (Nat.le_refl _);refine⟨c,Int.le_trans d ?_⟩;show _≤capOf i*two i;exact Int.mul_le_mul_of_nonneg_right b (by have:=(two_in i).1;omega)
theorem wsum_ge {l : List Int} (hn : ∀ (k : Nat) (v : Int), l[k]? = some v → 0 ≤ v) : ∀ K k, k < K → l.getD k 0 ≤ wsum (fun _ => 1) l K ∧ 0 ≤ wsum (fun _ => 1) l K
  |0,k,h=>by omega
  | K + 1, k, h => by
   have hg : ∀ j, 0 ≤ l.getD j 0 := fun j => by
    rw[List.getD_eq_getElem?_getD];rcases q:l[j]? with _|v
    · simp
    · exact hn j v q
   have h0 : 0 ≤ wsum (fun _ => 1) l K := by
    cases K with
    |zero=>exact Int.le_refl _
    |succ K=>exact(wsum_ge hn (K+1) K (by omega)).2
   rw[wsum_succ];have hK:=hg K;by_cases e:k=K
   · subst e;omega
   · have:=(wsum_ge hn K k (by omega)).1;omega
theorem cnt_in (s i k:Nat) (hi:i≤64) (hk:k<256):0≤(cntDp s i).getD k 0∧(cntDp s i).getD k 0≤562949953421312:=by
 obtain⟨a,b⟩:=nn_dp s i;have h1:=(wsum_ge a 256 k hk).1;have h2:=cap_mono i (64-i);rw[show i+(64-i)=64 by omega,cap_64]at h2;refine⟨?_,by omega⟩;rw[List.getD_eq_getElem?_getD];rcases q:(cntDp s i)[k]? with _|v
 · simp
 · exact a k v q
theorem ixc2 (x y:Nat) (hx:x<8) (hy:y<8):cellOk ((x:Int),(y:Int))=true∧(cellIx ((x:Int),(y:Int))).toNat=8*y+x:=by
 have h:cellOk ((x:Int),(y:Int))=true:=cellOk_iff.2 (by simp only;omega);refine⟨h,?_⟩;rw[(cellIx_in h).1];simp only;omega
theorem rt_facts {i:Nat} (hi:i<64) (h7:i%8<7):domOk (domRt i)=true∧domI (domRt i)=i∧domJ (domRt i)=i+1:=by
 obtain⟨a,b⟩:=ixc2 (i%8) (i/8) (by omega) (by omega);obtain⟨c,d⟩:=ixc2 (i%8+1) (i/8) (by omega) (by omega)
 have hs:sec (domRt i)=(((i%8+1:Nat):Int),((i/8:Nat):Int)):=by
  unfold sec domRt;simp only[Bool.false_eq_true,if_false,Prod.mk.injEq,and_true];unfold wrap64;omega
 refine⟨?_,?_,?_⟩
 · unfold domOk;rw[hs,c];unfold domRt;simp only[a,Bool.and_true]
 · unfold domI domRt;simp only;rw[b];omega
 · unfold domJ;rw[hs,d];omega
theorem dn_facts {i:Nat} (hi:i<56):domOk (domDn i)=true∧domI (domDn i)=i∧domJ (domDn i)=i+8:=by
 obtain⟨a,b⟩:=ixc2 (i%8) (i/8) (by omega) (by omega);obtain⟨c,d⟩:=ixc2 (i%8) (i/8+1) (by omega) (by omega)
 have hs:sec (domDn i)=(((i%8:Nat):Int),((i/8+1:Nat):Int)):=by
  unfold sec domDn;simp only[if_true,Prod.mk.injEq,true_and];unfold wrap64;omega
 refine⟨?_,?_,?_⟩
 · unfold domOk;rw[hs,c];unfold domDn;simp only[a,Bool.and_true]
 · unfold domI domDn;simp only;rw[b];omega
 · unfold domJ;rw[hs,d];omega
theorem dom_two {d:Dm} (h:domOk d=true):domI d<64∧((d=domRt (domI d)∧domI d%8<7)∨(d=domDn (domI d)∧domI d<56)):=by
 have D1:=domOk_fst h;have D2:=domOk_sec h;obtain⟨x,y,b⟩:=d;simp only at D1;obtain⟨x,rfl⟩:=Int.eq_ofNat_of_zero_le D1.1.1;obtain⟨y,rfl⟩:=Int.eq_ofNat_of_zero_le D1.2.1;have hx:x<8:=(by omega);have hy:y<8:=(by omega);have hI:domI ((x:Int),(y:Int),b)=8*y+x:=(ixc2 x y hx hy).2;rw[hI];refine⟨by omega,?_⟩;have e1:(8*y+x)%8=x:=(by omega);have e2:(8*y+x)/8=y:=(by omega);cases b
 · left;unfold domRt;rw[e1,e2];refine⟨rfl,?_⟩;have:=D2.1;unfold sec at this;simp only[Bool.false_eq_true,if_false]at this;unfold wrap64 at this;omega
 · right;unfold domDn;rw[e1,e2];refine⟨rfl,?_⟩;have:=D2.2;unfold sec at this;simp only[if_true]at this;unfold wrap64 at this;omega
theorem domJ_gt {d:Dm} (h:domOk d=true):domI d<domJ d:=by
 obtain⟨hi,(⟨e,h7⟩|⟨e,h7⟩)⟩:=dom_two h
 · have:=(rt_facts hi h7).2.2;rw[←e]at this;omega
 · have:=(dn_facts h7).2.2;rw[←e]at this;omega
theorem ord_ix {d:Dm} (h:domOk d=true):2*(domI d:Int)≤domOrd d∧domOrd d≤2*(domI d:Int)+1:=by
 have h1:=(cellIx_in (domOk_cells h).1).1;have h2:=(cellIx_in (domOk_cells h).1).2;have:(domI d:Int)=d.2.1*8+d.1:=by unfold domI;rw[←h1];omega
 unfold domOrd;rw[this];split<;>omega
structure Til (i:Nat) (S:Nat→Bool) (t:List Dm):Prop where
  ok:∀d∈t,domOk d=true∧i≤domI d∧S (domI d)=true∧S (domJ d)=true
  ord:t.Pairwise fun a b=>domOrd a<domOrd b
  ap:t.Pairwise Apart
  all:∀j,i≤j→j<64→S j=true→∃d∈t,domI d=j∨domJ d=j
theorem apart_iff {a b:Dm} (ha:domOk a=true) (hb:domOk b=true):Apart a b↔domI a≠domI b∧domI a≠domJ b∧domJ a≠domI b∧domJ a≠domJ b:=by
 unfold Apart;constructor
 · intro h;have h1:=h (domI a) (by rw[domSet_bit ha];simp);have h2:=h (domJ a) (by rw[domSet_bit ha];simp);rw[domSet_bit hb,Bool.or_eq_false_iff,decide_eq_false_iff_not,decide_eq_false_iff_not]at h1 h2;exact⟨fun e=>h1.1 e.symm,fun e=>h1.2 e.symm,fun e=>h2.1 e.symm,fun e=>h2.2 e.symm⟩
 · rintro⟨h1,h2,h3,h4⟩ j hj;rw[domSet_bit ha,Bool.or_eq_true,decide_eq_true_eq,decide_eq_true_eq]at hj;rw[domSet_bit hb,Bool.or_eq_false_iff,decide_eq_false_iff_not,decide_eq_false_iff_not];rcases hj with rfl|rfl
   · exact⟨fun e=>h1 e.symm,fun e=>h2 e.symm⟩
   · exact⟨fun e=>h3 e.symm,fun e=>h4 e.symm⟩
theorem til_cons {i m : Nat} {S : Nat → Bool} {d : Dm} {t : List Dm} (hd : domOk d = true) (hI : domI d = i) (hJ : domJ d = m) (hS : S i = true) (hm : S m = true) : Til i S (d :: t) ↔ Til (i + 1) (fun j => S j && !decide (j = m)) t := by
 have hlt:=domJ_gt hd;have hdo:=ord_ix hd;constructor
 · intro h;have ho:=List.pairwise_cons.1 h.ord;have ha:=List.pairwise_cons.1 h.ap;refine⟨fun e he=> ?_,ho.2,ha.2,fun j h1 h2 h3=> ?_⟩
   · obtain⟨e1,e2,e3,e4⟩:=h.ok e (List.mem_cons_of_mem _ he);obtain⟨a1,a2,a3,a4⟩:=(apart_iff hd e1).1 (ha.1 e he);have n3:decide (domI e=m)=false:=by simp;omega
     have n4:decide (domJ e=m)=false:=by simp;omega
     exact⟨e1,by omega,by simp only[e3,n3];rfl,by simp only[e4,n4];rfl⟩
   · rw[Bool.and_eq_true,Bool.not_eq_true',decide_eq_false_iff_not]at h3;obtain⟨e,he,h4⟩:=h.all j (by omega) h2 h3.1;rcases List.mem_cons.1 he with rfl|he
     · omega
     · exact⟨e,he,h4⟩
 · intro h;refine⟨fun e he=> ?_,List.pairwise_cons.2 ⟨fun e he=> ?_,h.ord⟩,List.pairwise_cons.2 ⟨fun e he=> ?_,h.ap⟩,fun j h1 h2 h3=> ?_⟩
   · rcases List.mem_cons.1 he with rfl|he
     · exact⟨hd,by omega,by rw[hI];exact hS,by rw[hJ];exact hm⟩
     · obtain⟨e1,e2,e3,e4⟩:=h.ok e he;rw[Bool.and_eq_true]at e3 e4;exact⟨e1,by omega,e3.1,e4.1⟩
   · obtain⟨e1,e2,_,_⟩:=h.ok e he;have:=ord_ix e1;omega
   · obtain⟨e1,e2,e3,e4⟩:=h.ok e he;have hej:=domJ_gt e1;rw[Bool.and_eq_true,Bool.not_eq_true',decide_eq_false_iff_not]at e3 e4;exact(apart_iff hd e1).2 ⟨by omega,by omega,by have:=e3.2;omega,by have:=e4.2;omega⟩
   · by_cases e:j=i
     · exact⟨d,List.mem_cons_self ..,.inl (by omega)⟩
     · by_cases e2:j=m
       · exact⟨d,List.mem_cons_self ..,.inr (by omega)⟩
       · obtain ⟨f, hf, h4⟩ := h.all j (by omega) h2 (by rw [h3]; simp [e2]);exact⟨f,List.mem_cons_of_mem _ hf,h4⟩
theorem tl_til:∀(n i:Nat) (S:Nat→Bool) (t:List Dm),i+n=64→(t∈tl n i S↔Til i S t)
  | 0, i, S, t, hn => by
   show t∈[[]]↔_;rw[List.mem_singleton];constructor
   · rintro rfl;exact⟨by simp,List.Pairwise.nil,List.Pairwise.nil,fun j h1 h2=>by omega⟩
   · intro h;cases t with
     |nil=>rfl
     |cons d r=>
      obtain⟨a,b,_,_⟩:=h.ok d (List.mem_cons_self ..);have:=(dom_two a).1;omega
  | n + 1, i, S, t, hn => by
   rw[tl_succ];rcases hS:S i with _|_
   · simp only[Bool.false_eq_true,if_false];rw[tl_til n (i+1) S t (by omega)];constructor
     · intro h
       exact ⟨fun d hd => by obtain ⟨a, b, c, e⟩ := h.ok d hd; exact ⟨a, by omega, c, e⟩, h.ord, h.ap, fun j h1 h2 h3 => h.all j (by
        by_cases e:j=i
        · subst e;rw[hS]at h3;cases h3
        · omega) h2 h3⟩
     · intro h
       exact ⟨fun d hd => by
        obtain⟨a,b,c,e⟩:=h.ok d hd;refine⟨a,?_,c,e⟩;by_cases q:domI d=i
        · rw[q,hS]at c;cases c
        · omega,h.ord,h.ap,fun j h1 h2 h3=>h.all j (by omega) h2 h3⟩
   · simp only[if_true];rw[List.mem_append];constructor
     · rintro(h|h)
       · split at h
         · rename_i q;rw[Bool.and_eq_true,decide_eq_true_eq]at q;obtain⟨t',h1,rfl⟩:=List.mem_map.1 h;obtain⟨a,b,c⟩:=rt_facts (i:=i) (by omega) q.1;exact(til_cons a b c hS q.2).2 ((tl_til n (i+1) _ t' (by omega)).1 h1)
         · cases h
       · split at h
         · rename_i q;rw[Bool.and_eq_true,decide_eq_true_eq]at q;obtain⟨t',h1,rfl⟩:=List.mem_map.1 h;obtain⟨a,b,c⟩:=dn_facts q.1;exact(til_cons a b c hS q.2).2 ((tl_til n (i+1) _ t' (by omega)).1 h1)
         · cases h
     · intro h;obtain⟨d,hd,hdi⟩:=h.all i (Nat.le_refl _) (by omega) hS;obtain⟨d1,d2,d3,d4⟩:=h.ok d hd;have hlt:=domJ_gt d1;have hI:domI d=i:=(by omega);cases t with
       |nil=>cases hd
       |cons e r=>
        have he:e=d:=by
         rcases List.mem_cons.1 hd with q|q
         · exact q.symm
         · exfalso;have:=(List.pairwise_cons.1 h.ord).1 d q;obtain⟨e1,e2,_,_⟩:=h.ok e (List.mem_cons_self ..);have o1:=ord_ix e1;have o2:=ord_ix d1;have hei:domI e=i:=(by omega);exact((apart_iff e1 d1).1 ((List.pairwise_cons.1 h.ap).1 d q)).1 (by omega)
        subst he;obtain⟨_,(⟨q,h7⟩|⟨q,h7⟩)⟩:=dom_two d1
        · rw[hI]at q h7;obtain⟨a,b,c⟩:=rt_facts (i:=i) (by omega) h7;rw[←q]at a b c;left;rw[if_pos (by rw[decide_eq_true h7,←c,d4];rfl),q];exact List.mem_map.2 ⟨r,(tl_til n (i+1) _ r (by omega)).2 ((til_cons a b c hS (by rw[←c];exact d4)).1 h),rfl⟩
        · rw[hI]at q h7;obtain⟨a,b,c⟩:=dn_facts h7;rw[←q]at a b c;right;rw[if_pos (by rw[decide_eq_true h7,←c,d4];rfl),q];exact List.mem_map.2 ⟨r,(tl_til n (i+1) _ r (by omega)).2 ((til_cons a b c hS (by rw[←c];exact d4)).1 h),rfl⟩
def cntSet (s:Nat):Int:=(cntDp s 64).getD 0 0
def tils (s:Nat):List (List Dm):=tl 64 0 s.testBit
def cntRows (rows:List Int):Int:=if regionOk rows then cntSet (setOf rows)else 0
def fitsD (s:Nat) (d:Dm):Bool:=domOk d&&decide (s&&&domSet d=domSet d)
theorem cntSet_is {s:Nat} (hs:s<U64):cntSet s=((tils s).length:Nat):=count_is hs
theorem tl_skip:∀(d n i:Nat) (S:Nat→Bool),(∀j,i≤j→j<i+d→S j=false)→tl (d+n) i S=tl n (i+d) S
  |0,n,i,S,_=>by rw[Nat.zero_add];rfl
  | d + 1, n, i, S, h => by
   rw[show d+1+n=d+n+1 by omega,tl_succ,h i (Nat.le_refl _) (by omega),if_neg (by simp),tl_skip d n (i+1) S (fun j a b=>h j (by omega) (by omega)),show i+1+d=i+(d+1) by omega]
theorem tl_len:∀(n i:Nat) (S:Nat→Bool) (t:List Dm),t∈tl n i S→t.length≤n
  | 0, i, S, t, h => by
   have:t=[]:=List.mem_singleton.1 h;rw[this];exact Nat.le_refl _
  | n + 1, i, S, t, h => by
   rw[tl_succ]at h;split at h
   · rcases List.mem_append.1 h with h|h
     · split at h
       · obtain⟨u,hu,rfl⟩:=List.mem_map.1 h;have:=tl_len n _ _ u hu;rw[List.length_cons];omega
       · cases h
     · split at h
       · obtain⟨u,hu,rfl⟩:=List.mem_map.1 h;have:=tl_len n _ _ u hu;rw[List.length_cons];omega
       · cases h
   · have:=tl_len n _ _ t h;omega
def LowBit (s i:Nat):Prop:=i<64∧s.testBit i=true∧∀j,j<i→s.testBit j=false
theorem low_some {s:Nat} (hs:s<U64) (h0:s≠0):∃i,LowBit s i:=by
 have hex:∃i,s.testBit i=true:=Nat.exists_testBit_of_ne_zero h0
 have key:∀n,s.testBit n=true→∃i,i≤n∧s.testBit i=true∧∀j,j<i→s.testBit j=false:=by
  intro n;induction n using Nat.strongRecOn with
  |_ n ih=>
   intro hn;by_cases q:∃m,m<n∧s.testBit m=true
   · obtain⟨m,hm,hb⟩:=q;obtain⟨i,a,b,c⟩:=ih m hm hb;exact⟨i,by omega,b,c⟩
   · refine ⟨n, Nat.le_refl _, hn, fun j hj => ?_⟩;rcases e:s.testBit j with _|_
     · rfl
     · exact absurd ⟨j,hj,e⟩ q
 obtain⟨n,hn⟩:=hex;obtain⟨i,_,b,c⟩:=key n hn;refine⟨i,?_,b,c⟩;rcases Nat.lt_or_ge i 64 with q|q
 · exact q
 · exfalso;have:s<2^i:=Nat.lt_of_lt_of_le hs (by unfold U64;exact Nat.pow_le_pow_right (by decide) q);rw[Nat.testBit_lt_two_pow this]at b;cases b
theorem rt_ok {i:Nat} (hi:i<64):domOk (domRt i)=decide (i%8<7):=by
 by_cases h:i%8<7
 · rw[decide_eq_true h];exact(rt_facts hi h).1
 · rw[decide_eq_false h];rcases e:domOk (domRt i)with _|_
   · rfl
   · exfalso;have:=(domOk_sec e).1;unfold sec domRt at this;simp only[Bool.false_eq_true,if_false]at this;unfold wrap64 at this;omega
theorem dn_ok {i:Nat} (hi:i<64):domOk (domDn i)=decide (i<56):=by
 by_cases h:i<56
 · rw[decide_eq_true h];exact(dn_facts h).1
 · rw[decide_eq_false h];rcases e:domOk (domDn i)with _|_
   · rfl
   · exfalso;have:=(domOk_sec e).2;unfold sec domDn at this;simp only[if_true]at this;unfold wrap64 at this;omega
theorem fits_rt {s i:Nat} (hs:s<U64) (hi:i<64) (hb:s.testBit i=true):fitsD s (domRt i)=(decide (i%8<7)&&s.testBit (i+1)):=by
 unfold fitsD;rw[rt_ok hi];by_cases h:i%8<7
 · obtain⟨a,b,c⟩:=rt_facts hi h;rw[sub_iff hs a,b,c,hb];simp
 · rw[decide_eq_false h];rfl
theorem fits_dn {s i:Nat} (hs:s<U64) (hi:i<64) (hb:s.testBit i=true):fitsD s (domDn i)=(decide (i<56)&&s.testBit (i+8)):=by
 unfold fitsD;rw[dn_ok hi];by_cases h:i<56
 · obtain⟨a,b,c⟩:=dn_facts h;rw[sub_iff hs a,b,c,hb];simp
 · rw[decide_eq_false h];rfl
theorem tils_less {s i : Nat} {d : Dm} (hs : s < U64) (hl : LowBit s i) (hd : domOk d = true) (hI : domI d = i) : tils (sDiff s (domSet d)) = tl (64 - (i + 1)) (i + 1) (fun j => s.testBit j && !decide (j = domJ d)) := by
 have hi:=hl.1;unfold tils;rw[show 64=(i+1)+(64-(i+1)) by omega,tl_skip (i+1) (64-(i+1)) 0,Nat.zero_add]
 · rw [show i + 1 + (64 - (i + 1)) - (i + 1) = 64 - (i + 1) by omega];refine tl_congr _ _ _ _ fun j hj=> ?_
   rw[testBit_sDiff (domSet_lt hd) hs,domSet_bit hd,hI,decide_eq_false (show¬i=j by omega),Bool.false_or];congr 2
   exact decide_eq_decide.2 ⟨fun e=>e.symm,fun e=>e.symm⟩
 · intro j _ hj;rw[testBit_sDiff (domSet_lt hd) hs,domSet_bit hd,hI];by_cases e:j=i
   · rw[e];simp
   · rw[hl.2.2 j (by omega)];rfl
theorem tils_step {s i:Nat} (hs:s<U64) (hl:LowBit s i):tils s=
    (if fitsD s (domRt i)then(tils (sDiff s (domSet (domRt i)))).map (domRt i::·)else[])++(if fitsD s (domDn i)then(tils (sDiff s (domSet (domDn i)))).map (domDn i::·)else[]):=by
 have hi:=hl.1
 have e0:tils s=tl (64-i) i s.testBit:=by
  unfold tils;rw[show 64=i+(64-i) by omega,tl_skip i (64-i) 0 s.testBit (fun j _ hj=>hl.2.2 j (by omega)),Nat.zero_add,show i+(64-i)-i=64-i by omega]
 rw[e0,show 64-i=(64-(i+1))+1 by omega,tl_succ,if_pos hl.2.1,fits_rt hs hi hl.2.1,fits_dn hs hi hl.2.1];congr 1
 · by_cases h:(decide (i%8<7)&&s.testBit (i+1))=true
   · rw[if_pos h,if_pos h];rw[Bool.and_eq_true,decide_eq_true_iff]at h;obtain⟨a,b,c⟩:=rt_facts hi h.1;rw[tils_less hs hl a b,c]
   · rw[if_neg h,if_neg h]
 · by_cases h:(decide (i<56)&&s.testBit (i+8))=true
   · rw[if_pos h,if_pos h];rw[Bool.and_eq_true,decide_eq_true_iff]at h;obtain⟨a,b,c⟩:=dn_facts h.1;rw[tils_less hs hl a b,c]
   · rw[if_neg h,if_neg h]
theorem tils_zero:tils 0=[[]]:=by
 unfold tils;rw[show 64=64+0 from rfl,tl_skip 64 0 0 _ (fun j _ _=>Nat.zero_testBit j)];rfl
theorem cells_head {s i:Nat} (hl:LowBit s i):∃r,cellsTo s 64=ixCell i::r:=by
 have hsp:List.range 64=List.range i++(List.range (64-i)).map (i+·):=by
  rw[show 64=i+(64-i) by have:=hl.1;omega,List.range_add,show i+(64-i)-i=64-i by omega]
 unfold cellsTo;rw[hsp,List.filter_append,List.map_append]
 have h1 : (List.range i).filter (fun i => s.testBit i) = [] := by
  rw[List.filter_eq_nil_iff];intro j hj;rw[hl.2.2 j (List.mem_range.1 hj)];simp
 rw[h1,List.map_nil,List.nil_append];obtain⟨m,hm⟩:∃m,64-i=m+1:=⟨63-i,by have:=hl.1;omega⟩;rw[hm,List.range_succ_eq_map,List.map_cons,List.filter_cons,Nat.add_zero,if_pos hl.2.1,List.map_cons];exact⟨_,rfl⟩
theorem cells_none:cellsTo 0 64=[]:=by
 unfold cellsTo;rw[List.filter_eq_nil_iff.2 (fun j _=>by rw[Nat.zero_testBit];simp)];rfl
theorem cells_none_iff {s:Nat} (hs:s<U64):(cellsTo s 64).length=0↔s=0:=by
 constructor
 · intro h;rcases Nat.eq_zero_or_pos s with q|q
   · exact q
   · obtain ⟨i, hl⟩ := low_some hs (by omega);obtain⟨r,hr⟩:=cells_head hl;rw[hr]at h;cases h
 · intro h;rw[h,cells_none];rfl
end Go.Proofs.YtfdbcihcdjjdhaaGreatDoor
