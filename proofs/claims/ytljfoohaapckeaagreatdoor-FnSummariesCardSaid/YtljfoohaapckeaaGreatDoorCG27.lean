/- Numbers and lines as texts: FormatInt of both sides, lineOf. Conditions: numbers from 0 on; the library's table of powers, as its text lays it. FormatAct of both sides: the walks, and the law's. Conditions: the library's table of powers, as its text lays it. Lines cut at blanks, numbers and acts as texts, read back: plain laws. No program in sight. Dominoes as text: plain laws. No program in sight. The links of a list of tilings, as both sides hold them: plain laws. No program in sight. A list of waiting places that is cut at its head and appended to: the steps of a walk. Plain lemmas; no conditions. -/
import Derived.Test.YtljfoohaapckeaaGreatDoorCK1
import Derived.Test.YtljfoohaapckeaaGreatDoorCShelf
import Derived.Laws.BytesArg
import Derived.Lib.ItoaLen
import Derived.Lib.Join
import Derived.Lib.AppendIntMem
import Derived.Test.YtljfoohaapckeaaGreatDoorCK2
import Derived.Lib.Atoi
import Derived.Test.YtljfoohaapckeaaGreatDoorCK5
import Derived.Test.YtljfoohaapckeaaGreatDoorCG25
import Derived.Maps.Views
import Derived.ArgAppend
open _root_.List (map_cons mem_cons_of_mem mem_cons_self length_cons map_append getElem_mem length_append take_length getElem?_toArray getElem?_cons_succ getElem?_cons_zero foldl_append mem_cons range range_succ)
open _root_.Go.Lib (TabIs decDigits itoa join joinTail decDigits_one decFrom atoi)
open _root_.ByteArray (ext size_append empty)
open _root_.Go.Proofs.Tryz (prog func51 ntmps51 results51)
namespace Go.Proofs.YtljfoohaapckeaaGreatDoor
open Go.ChangeShapes Go.WideShapes Go.ChangeAt Go.RowKit
set_option linter.unusedVariables false
set_option linter.unusedSimpArgs false
set_option maxHeartbeats 4000000
set_option maxRecDepth 100000
def Tab (w:World):Prop:=TabIs prog w "internal/strconv.uint64pow10" .u64 Lib.pow10Tab
theorem Tab.below {w w':World} (h:Tab w) (hb:Below w.heap.size w w'):Tab w':=by
 unfold Tab TabIs World.var? at h⊢;have hg:Tryz.prog.globalNamed "internal/strconv.uint64pow10" =some 0:=(by kernel_rfl);rw[hg]at h⊢;simp only[Option.bind_some]at h⊢
 have hlt:0<w.heap.size:=by
  rcases Nat.lt_or_ge 0 w.heap.size with h'|h'
  . exact h'
  . rw[Array.getElem?_eq_none h']at h;cases h
 rw[hb.block 0 hlt];exact h
def jE (n:Int):ByteArray:=⟨(decDigits n.toNat).toArray⟩
theorem JF {n:Int} (h:0<=n):itoa n=decDigits n.toNat:=by unfold itoa;rw[if_neg (by omega)]
theorem Gf {n:Int} (h0:0<=n) (h1:n<=9223372036854775807):(jE n).size<=21:=by
 have:=Lib.itoa_length_le n (by omega) h1;rw[JF h0]at this;simpa[jE,ByteArray.size]using this
theorem KM (w:World) (k:Nat) (os:Array Obj):Below w.heap.size w (Sort.grow (w.drewN k) os):=Lib.below_grow w.heap.size w (Nat.le_refl _) k os
theorem Ox (n:Int) (w:World) (h0:0<=n) (h1:n<=9223372036854775807) (ht:Tab w):Calls prog 113 #[.int .i64 n] w (Ret (.string (jE n)) w):=by
 refine(Tryz.strconv_Itoa n (by omega) h1 w ht).mono ?_;rintro e w' ⟨rfl,k,os,rfl⟩;exact⟨by rw[JF h0];rfl,KM w k os⟩
theorem qV (n:Int) (w:World) (h0:0<=n) (h1:n<=9223372036854775807) (ht:Tab w):Calls prog 50 #[.int .i64 n] w (Ret (.string (jE n)) w):=by
 go_enter Tryz.func50,Tryz.ntmps50
 go_wp2_with fail
 refine(Ox n _ h0 h1 ht).mono ?_;rintro e w1 ⟨rfl,hb1⟩;go_wp2;go_ret;exact⟨rfl,hb1⟩
def nL (word:ByteArray) (l:List Int):ByteArray:=l.foldl (fun s x=>s++(⟨#[32]⟩:ByteArray)++jE x) word
theorem Ef : ∀ (l : List Int) (word : ByteArray), (nL word l).data.toList = word.data.toList ++ (l.map fun x => (32 : UInt8) :: decDigits x.toNat).flatten
  |[],word=>by simp[nL]
  | x :: l, word => by
   have e:nL word (x::l)=nL (word++(⟨#[32]⟩:ByteArray)++jE x) l:=rfl;rw[e,Ef l];simp[ByteArray.data_append,jE]
theorem Eg (word:ByteArray) (l:List Int):(⟨(join ((word::l.map jE).map (·.data.toList)) [32]).toArray⟩:ByteArray)=nL word l:=by
 apply ext;apply Array.toList_inj.1;rw[Ef,map_cons,Lib.join_cons];simp[joinTail,jE,Function.comp_def]
theorem qH:∀(l:List Int) (word:ByteArray),(∀x∈l,0<=x/\x<=9223372036854775807)->(nL word l).size<=word.size+22*l.length
  |[],word,_=>by simp[nL]
  | x :: l, word, h => by
   have e:nL word (x::l)=nL (word++(⟨#[32]⟩:ByteArray)++jE x) l:=rfl;have h1:=qH l (word++(⟨#[32]⟩:ByteArray)++jE x) (fun y hy=>h y (mem_cons_of_mem _ hy));have h2:=Gf (h x mem_cons_self).1 (h x mem_cons_self).2;rw[e];rw[size_append,size_append]at h1;have h3:(⟨#[32]⟩:ByteArray).size=1:=rfl;rw[length_cons];omega
theorem Az {α:Type} {E:TypeId} {enc:α->List Value} (w:World) (x:α) {u:Value} (h:enc x=[u]):aC E 1 enc w.heap.size (w.alloc (.cells #[u] E)) (.slice (some ⟨w.heap.size,0,none⟩) 1 1) [x]:=by
 have e:[x].flatMap enc=[u]:=(by simp[h]);unfold aC;rw[e];exact⟨by simp,.inr ⟨w.heap.size,1,#[u],rfl,Nat.le_refl _,heap_alloc_new w _,by simp,by simp[maxLen],by simp,by simp⟩⟩
def sD (word:ByteArray) (l:List Int) (k:Nat):List ByteArray:=word::(l.take k).map jE
theorem Gg {word:ByteArray} {l:List Int} {k:Nat} (h:k<=l.length):(sD word l k).length=k+1:=by simp[sD];omega
theorem KN {word:ByteArray} {l:List Int} {k:Nat} (h:k<l.length):sD word l k++[jE l[k]]=sD word l (k+1):=by
 unfold sD;rw[List.take_succ_eq_append_getElem h,map_append];rfl
theorem rJ (word:ByteArray) (v:Value) (l:List Int) (w:World) (h:Rd 1 bV w v l) (hw:word.size<=100) (hl:l.length<=100) (Hp:Hid (∀x∈l,0<=x/\x<=9223372036854775807)) (ht:Tab w):Calls prog 68 #[.string word,v] w (Ret (.string (nL word l)) w):=by
 obtain⟨A,c,rfl,hc,hm⟩:=h.form;have own0:=Az (E:=9) (enc:=kP) w word rfl;have HT:=SQ ht;clear ht;go_enter Tryz.func68,Tryz.ntmps68
 go_wp2;go_loopw [5,7,12] (fun s5 s7 s12 wr=>∃(k:Nat) (D:Option Addr) (d:Nat) (z:Value),s7=z/\k<=l.length/\s12= .int .i64 k/\s5= .slice D (k+1) d/\aC 9 1 kP w.heap.size wr (.slice D (k+1) d) (sD word l k)/\Below w.heap.size w wr) (fun _ _ i _=>l.length-(intOf i).toNat)
 case atStart=>exact⟨0,_,_,_,rfl,Nat.zero_le _,rfl,rfl,own0,(Below.refl _ _).al _⟩
 case round=>
  obtain⟨k,D,d,z,rfl,hk,rfl,rfl,hown,hbel⟩:=hrel;clear own0;by_cases hlt:k<l.length
  . obtain⟨b,off,rfl,hb,k1⟩:=(h.SN hbel).wL hlt;have hp:=Hp.out l[k] (getElem_mem hlt);obtain⟨x,hx⟩:=SL (l[k]);rw[<-hx]at k1 hp;have HX:=SQ hx;clear hx;have HH:=SQ hp;clear hp;go_wp2_with fail
    refine(qV x _ HH.out.1 HH.out.2 (HT.out.below hbel)).mono ?_;rintro e w1 ⟨rfl,hb1⟩;have own1:=hown.below hb1;have B1:=hbel.tr hb1;have hll:=Gg (word:=word) hk;have H8:Hid (((sD word l k).length+1)*16<=140737488355328):=SQ (by rw[hll];omega);have HM:Hid ((sD word l k).length+1<=maxLen):=SQ (by rw[hll];unfold maxLen;omega);have hts:=KN (word:=word) hlt;have Hts:=SQ hts;have Htl:=SQ hll;clear hts hll;go_wp2_with (at_builtin;go_must (refine aH (enc:=kP) xA kG zU B1 own1 (jE x) H8.out HM.out rfl _ _ rfl rfl rfl ?_);intro v4 w4 own4 hb4 hg4 hd4;obtain⟨A4,c4,rfl,hc4,hm4⟩:=own4.form)
    have own5:aC 9 1 kP w.heap.size w4 (.slice A4 (k+1+1) c4) (sD word l (k+1)):=by
     have e:(sD word l k++[jE x]).length=k+1+1:=by rw[length_append,Htl.out];rfl
     rw[<-Hts.out,<-HX.out,<-e];exact own4
    go_roundw
    case rel=>exact⟨k+1,A4,c4,_,rfl,by omega,by go_num,by simp[Htl.out],own5,hb4⟩
    case measure=>simp[intOf];omega
  . obtain rfl : k = l.length := by omega
    have hll:=Gg (word:=word) hk;obtain⟨g,rfl,hB,hgl⟩:=hown.split (k:=0) (by rw[hll];omega);have e1:sD word l l.length=word::l.map jE:=by unfold sD;rw[take_length]
    have hsz:=qH l word Hp.out;have hjn:=Eg word l
    have hcl := Tryz.strings_Join g 0 d (sD word l l.length) (⟨#[32]⟩ : ByteArray) wr (fun j x hj => by
     have hjl:j<(sD word l l.length).length:=(List.getElem?_eq_some_iff.1 hj).1;have:=hown.slot kG (by decide) hjl 0 (.string (sD word l l.length)[j]) rfl;rw[(List.getElem?_eq_some_iff.1 hj).2]at this
     simpa using this) hgl (by rw [hll]; omega) (by have := hown.form; obtain ⟨A', c', e, h1, h2⟩ := this; injection e with e1 e2 e3; omega) (by
      rw[e1];have e3:(join ((word::l.map jE).map (·.data.toList)) [32]).length=(nL word l).size:=by rw[<-hjn];simp[ByteArray.size]
      show(join ((word::l.map jE).map (·.data.toList)) [32]).length<=_;rw[e3];omega)
    rw[hll,e1]at hcl
    have hcl2:Calls prog 116 #[.slice (some ⟨g,0,none⟩) (l.length+1) d,.string ⟨#[32]⟩] wr (Ret (.string (nL word l)) wr):=by
     refine hcl.mono ?_;rintro e w' ⟨rfl,hb⟩;exact⟨by rw[<-hjn],hb⟩
    clear hcl hll e1 hjn;go_wp2_with fail
    refine hcl2.mono ?_;rintro e w5 ⟨rfl,hb5⟩;go_wp2;go_ret;exact⟨rfl,hbel.tr hb5⟩
theorem R3 {α:Type} {E:TypeId} {enc:α->List Value} (w:World) (x y:α) {u v:Value} (h:enc x=[u]) (h':enc y=[v]):aC E 1 enc w.heap.size (w.alloc (.cells #[u,v] E)) (.slice (some ⟨w.heap.size,0,none⟩) 2 2) [x,y]:=by
 have e:[x,y].flatMap enc=[u,v]:=(by simp[h,h']);unfold aC;rw[e];exact⟨by simp,.inr ⟨w.heap.size,2,#[u,v],rfl,Nat.le_refl _,heap_alloc_new w _,by simp,by simp[maxLen],by simp,by simp⟩⟩
def mW:ByteArray:=⟨#[102,108,105,112]⟩
def jZ:ByteArray:=⟨#[98,114,101,97,107]⟩
def wH:ByteArray:=⟨#[98,117,121]⟩
def mX:ByteArray:=⟨#[117,110,100,111]⟩
def kC:ByteArray:=⟨#[97,117,100,105,116]⟩
def rM (k a b:Int):ByteArray:=
 if k=1 then nL mW [a,b]else if k=2 then nL jZ [a]else if k=3 then nL wH [a]else if k=4 then mX else kC
def iJ (k a b:Int):ByteArray:=if lF k a b=true then rM k a b else empty
theorem mJ {k a b:Int} (h:lF k a b=true):(k=1/\0<=a/\a<=7/\0<=b/\b<=7)∨(k=2/\0<=a/\a<=31/\b=0)∨(k=3/\1<=a/\a<=100/\b=0)∨(k=4/\a=0/\b=0)∨(k=5/\a=0/\b=0):=by
 unfold lF inB at h;by_cases h1:k=1
 . subst h1;simp at h;omega
 . by_cases h2:k=2
   . subst h2;simp at h;omega
   . by_cases h3:k=3
     . subst h3;simp at h;omega
     . simp[h1,h2,h3]at h;omega
theorem Ca (k a b:Int) (w:World) (ht:Tab w):Calls prog 51 #[.agg #[.int .i64 k,.int .i64 a,.int .i64 b]] w (Ret (.tuple #[.string (iJ k a b),.bool (lF k a b)]) w):=by
 have hA:=(Below.refl w.heap.size w).al (.cells #[.int .i64 k,.int .i64 a,.int .i64 b] 73);have HT:=SQ ht;clear ht;rcases hok:lF k a b with _|_
 . have e : iJ k a b = empty := by unfold iJ; rw [hok]; rfl
   rw[e];have Hok:=SQ hok;clear hok e;go_enter func51,ntmps51
   go_wp2_with fail
   refine(nD _ _ _ _).mono ?_;rintro e w1 ⟨rfl,hb1⟩;obtain⟨hc1,hf1,hz1⟩:=bk hb1;(try simp at hz1)
   have hy1_0:w.heap.size<w1.heap.size:=(by omega);rw[Hok.out];go_wp2;refine bodyPost_ret (v:= .tuple #[.string (⟨#[]⟩:ByteArray),.bool false]) (by simp[results,results51,go_sem]) rfl ⟨rfl,hA.tr hb1⟩
 . have e : iJ k a b = rM k a b := by unfold iJ; rw [hok]; rfl
   rw[e];have Hok:=SQ hok;have hx:=Blk.aY w 73 #[.int .i64 k,.int .i64 a,.int .i64 b];rcases mJ hok with⟨rfl,h1,h2,h3,h4⟩|⟨rfl,h1,h2,rfl⟩|⟨rfl,h1,h2,rfl⟩|⟨rfl,rfl,rfl⟩|⟨rfl,rfl,rfl⟩
   . skip;go_enter func51,ntmps51
     go_wp2_with fail
     refine(nD _ _ _ _).mono ?_;rintro e w1 ⟨rfl,hb1⟩;obtain⟨hc1,hf1,hz1⟩:=bk hb1;(try simp at hz1)
     have hy1_0:w.heap.size<w1.heap.size:=(by omega);rw[Hok.out];have hx1:=hx.below hb1 hx.lt;have q0:w1.cell? ⟨w.heap.size,0,none⟩=some (.int .i64 1):=hx1.cell 0;have q1:=hx1.cell 1;have q2:=hx1.cell 2;simp only[getElem?_toArray,getElem?_cons_succ,getElem?_cons_zero]at q1 q2;have own1:=R3 (E:=3) (enc:=bT) w1 a b rfl rfl;have B1:=(hA.tr hb1).al (.cells ([a,b].map fun x=>Value.int .i64 x).toArray 3);go_wp2_with fail
     refine(rJ mW _ [a,b] _ (own1.rd aN (by decide)) (by decide) (by simp) (SQ (by simp<;>omega)) (HT.out.below B1)).mono ?_;rintro e w2 ⟨rfl,hb2⟩;go_wp2;refine bodyPost_ret (v:= .tuple #[.string (nL mW [a,b]),.bool true]) (by simp[results,results51,go_sem]) rfl ⟨rfl,B1.tr hb2⟩
   . skip;go_enter func51,ntmps51
     go_wp2_with fail
     refine(nD _ _ _ _).mono ?_;rintro e w1 ⟨rfl,hb1⟩;obtain⟨hc1,hf1,hz1⟩:=bk hb1;(try simp at hz1)
     have hy1_0:w.heap.size<w1.heap.size:=(by omega);rw[Hok.out];have hx1:=hx.below hb1 hx.lt;have q0:w1.cell? ⟨w.heap.size,0,none⟩=some (.int .i64 2):=hx1.cell 0;have q1:=hx1.cell 1;have q2:=hx1.cell 2;simp only[getElem?_toArray,getElem?_cons_succ,getElem?_cons_zero]at q1 q2;have own1:=Az (E:=3) (enc:=bT) w1 a rfl;have B1:=(hA.tr hb1).al (.cells ([a].map fun x=>Value.int .i64 x).toArray 3);go_wp2_with fail
     refine(rJ jZ _ [a] _ (own1.rd aN (by decide)) (by decide) (by simp) (SQ (by simp<;>omega)) (HT.out.below B1)).mono ?_;rintro e w2 ⟨rfl,hb2⟩;go_wp2;refine bodyPost_ret (v:= .tuple #[.string (nL jZ [a]),.bool true]) (by simp[results,results51,go_sem]) rfl ⟨rfl,B1.tr hb2⟩
   . skip;go_enter func51,ntmps51
     go_wp2_with fail
     refine(nD _ _ _ _).mono ?_;rintro e w1 ⟨rfl,hb1⟩;obtain⟨hc1,hf1,hz1⟩:=bk hb1;(try simp at hz1)
     have hy1_0:w.heap.size<w1.heap.size:=(by omega);rw[Hok.out];have hx1:=hx.below hb1 hx.lt;have q0:w1.cell? ⟨w.heap.size,0,none⟩=some (.int .i64 3):=hx1.cell 0;have q1:=hx1.cell 1;have q2:=hx1.cell 2;simp only[getElem?_toArray,getElem?_cons_succ,getElem?_cons_zero]at q1 q2;have own1:=Az (E:=3) (enc:=bT) w1 a rfl;have B1:=(hA.tr hb1).al (.cells ([a].map fun x=>Value.int .i64 x).toArray 3);go_wp2_with fail
     refine(rJ wH _ [a] _ (own1.rd aN (by decide)) (by decide) (by simp) (SQ (by simp<;>omega)) (HT.out.below B1)).mono ?_;rintro e w2 ⟨rfl,hb2⟩;go_wp2;refine bodyPost_ret (v:= .tuple #[.string (nL wH [a]),.bool true]) (by simp[results,results51,go_sem]) rfl ⟨rfl,B1.tr hb2⟩
   . skip;go_enter func51,ntmps51
     go_wp2_with fail
     refine(nD _ _ _ _).mono ?_;rintro e w1 ⟨rfl,hb1⟩;obtain⟨hc1,hf1,hz1⟩:=bk hb1;(try simp at hz1)
     have hy1_0:w.heap.size<w1.heap.size:=(by omega);rw[Hok.out];have hx1:=hx.below hb1 hx.lt;have q0:=hx1.cell 0;simp only[getElem?_toArray,getElem?_cons_succ,getElem?_cons_zero]at q0;go_wp2;refine bodyPost_ret (v:= .tuple #[.string mX,.bool true]) (by simp[results,results51,go_sem,mX]) rfl ⟨rfl,hA.tr hb1⟩
   . skip;go_enter func51,ntmps51
     go_wp2_with fail
     refine(nD _ _ _ _).mono ?_;rintro e w1 ⟨rfl,hb1⟩;obtain⟨hc1,hf1,hz1⟩:=bk hb1;(try simp at hz1)
     have hy1_0:w.heap.size<w1.heap.size:=(by omega);rw[Hok.out];have hx1:=hx.below hb1 hx.lt;have q0:=hx1.cell 0;simp only[getElem?_toArray,getElem?_cons_succ,getElem?_cons_zero]at q0;go_wp2;refine bodyPost_ret (v:= .tuple #[.string kC,.bool true]) (by simp[results,results51,go_sem,kC]) rfl ⟨rfl,hA.tr hb1⟩
end Go.Proofs.YtljfoohaapckeaaGreatDoor
namespace Go.Proofs.YtljfoohaapckeaaGreatDoor
open Go.RowKit
set_option linter.unusedVariables false
set_option linter.unusedSimpArgs false
set_option maxHeartbeats 4000000
set_option maxRecDepth 100000
abbrev Bs:=List UInt8
def fg:Bs->Bs->List Bs
  |cur,[]=>if cur=[]then[]else[cur]
  |cur,c::r=>if c=32 then(if cur=[]then fg [] r else cur::fg [] r)else fg (cur++[c]) r
def xO (l:Bs):Prop:=∀b∈l,b≠32
theorem H7:∀(x cur r:Bs),xO x->fg cur (x++r)=fg (cur++x) r
  |[],cur,r,_=>by simp
  | c :: x, cur, r, h => by
   rw[List.cons_append,fg,if_neg (h c mem_cons_self),H7 x (cur++[c]) r (fun b hb=>h b (mem_cons_of_mem _ hb)),List.append_assoc];rfl
theorem Md:∀(xs:List Bs) (cur:Bs),cur≠[]->(∀x∈xs,x≠[]/\xO x)->fg cur (joinTail [32] xs)=cur::xs
  | [], cur, hc, _ => by
   show fg cur []=[cur];rw[fg,if_neg hc]
  | y :: xs, cur, hc, h => by
   have e:joinTail [32] (y::xs)=32::(y++joinTail [32] xs):=(by simp[joinTail]);have hy:=h y mem_cons_self;rw[e,fg,if_pos rfl,if_neg hc,H7 y [] _ hy.2,List.nil_append,Md xs y hy.1 (fun x hx=>h x (mem_cons_of_mem _ hx))]
theorem AA:∀(xs:List Bs),(∀x∈xs,x≠[]/\xO x)->fg [] (join xs [32])=xs
  |[],_=>rfl
  | y :: xs, h => by
   have hy:=h y mem_cons_self;rw[Lib.join_cons,H7 y [] _ hy.2,List.nil_append,Md xs y hy.1 (fun x hx=>h x (mem_cons_of_mem _ hx))]
theorem Iz:∀(l cur:Bs),xO cur->∀x∈fg cur l,x≠[]/\xO x
  | [], cur, hc, x, hx => by
   rw[fg]at hx;by_cases h:cur=[]
   . rw[if_pos h]at hx;cases hx
   . rw[if_neg h]at hx;obtain rfl:x=cur:=by simpa using hx
     exact⟨h,hc⟩
  | c :: r, cur, hc, x, hx => by
   rw[fg]at hx;by_cases h32:c=32
   . rw[if_pos h32]at hx;by_cases h:cur=[]
     . rw[if_pos h]at hx;exact Iz r [] (fun _ h=>by cases h) x hx
     . rw[if_neg h]at hx;rcases List.mem_cons.1 hx with rfl|hx
       . exact⟨h,hc⟩
       . exact Iz r [] (fun _ h=>by cases h) x hx
   . rw[if_neg h32]at hx;refine Iz r (cur++[c]) (fun b hb=> ?_) x hx;rcases List.mem_append.1 hb with hb|hb
     . exact hc b hb
     . obtain rfl : b = c := by simpa using hb
       exact h32
theorem uL (u:Nat):∀b∈decDigits u,48<=b.toNat/\b.toNat<=57:=by
 induction u using Nat.strongRecOn with
 |_ u ih=>
  intro b hb
  have one:∀d:Nat,d<10->48<=(UInt8.ofNat (48+d)).toNat/\(UInt8.ofNat (48+d)).toNat<=57:=by
   intro d hd;rw[UInt8.toNat_ofNat'];omega
  by_cases h:u<10
  . rw[decDigits_one h]at hb;rw[List.mem_singleton.1 hb];exact one u h
  . rw[Lib.decDigits.eq_1 u,dif_neg h]at hb;rcases List.mem_append.1 hb with hb|hb
    . exact ih (u/10) (by omega) b hb
    . rw[List.mem_singleton.1 hb];exact one (u%10) (by omega)
theorem IA (u:Nat):decDigits u≠[]:=by
 intro h;have:=Lib.decDigits_length u;have h2:=Lib.nDigits_pos u;rw[h]at this;simp at this;omega
def dv (a:Nat) (l:Bs):Nat:=l.foldl (fun a b=>10*a+(b.toNat-48)) a
theorem Ls (u:Nat):dv 0 (decDigits u)=u:=by
 induction u using Nat.strongRecOn with
 |_ u ih=>
  by_cases h:u<10
  . rw[decDigits_one h];show 10*0+((UInt8.ofNat (48+u)).toNat-48)=u;rw[UInt8.toNat_ofNat'];omega
  . rw[Lib.decDigits.eq_1 u,dif_neg h];unfold dv at ih⊢;rw[foldl_append,ih (u/10) (by omega)];show 10*(u/10)+((UInt8.ofNat (48+u%10)).toNat-48)=u;rw[UInt8.toNat_ofNat'];omega
theorem Eh {u v:Nat} (h:decDigits u=decDigits v):u=v:=by rw[<-Ls u,h,Ls]
theorem Oy {a b:Int} (ha:0<=a) (hb:0<=b) (h:jE a=jE b):a=b:=by
 have h1:decDigits a.toNat=decDigits b.toNat:=by
  have:=congrArg (fun x:ByteArray=>x.data.toList) h;simpa[jE]using this
 have:=Eh h1;omega
theorem Oz {b:UInt8} (h:48<=b.toNat/\b.toNat<=57):Lib.digitVal b=some (b.toNat-48):=by
 unfold Lib.digitVal;split
 . rfl
 . rename_i h2;exact absurd h (by simpa using h2)
theorem Ei:∀(l:Bs) (a:Nat),(∀b∈l,48<=b.toNat/\b.toNat<=57)->decFrom a l=some (dv a l)
  |[],a,_=>rfl
  | b :: l, a, h => by
   have hb:=Oz (h b mem_cons_self);have ih:=Ei l (10*a+(b.toNat-48)) (fun x hx=>h x (mem_cons_of_mem _ hx));unfold decFrom;rw[hb];show decFrom (a*10+(b.toNat-48)) l=_;rw[Nat.mul_comm a 10,ih];rfl
theorem OA (u:Nat):atoi (decDigits u)=some (u:Int):=by
 have hd:=uL u;have hv:=Ls u;have hn:=IA u;cases h:decDigits u with
 |nil=>exact absurd h hn
 |cons b r=>
  rw[h]at hd hv;have hb:=hd b mem_cons_self
  have n45:(b==45)=false:=by
   rw[beq_eq_false_iff_ne];intro e;rw[e]at hb;exact absurd hb (by decide)
  have n43:(b==43)=false:=by
   rw[beq_eq_false_iff_ne];intro e;rw[e]at hb;exact absurd hb (by decide)
  unfold atoi;simp only[n45,n43,Bool.false_eq_true,if_false]
  have:Lib.decNat (b::r)=some u:=by
   show decFrom 0 (b::r)=some u;rw[Ei _ _ hd,hv]
  rw[this];rfl
theorem Ej:∀(k u:Nat),u<10^(k+1)->Lib.nDigits u<=k+1
  |0,u,h=>by rw[Lib.nDigits_small (by simpa using h)];exact Nat.le_refl _
  | k + 1, u, h => by
   by_cases h10:u<10
   . rw[Lib.nDigits_small h10];omega
   . rw[Lib.nDigits_big h10];have:=Ej k (u/10) (by rw[Nat.pow_succ]at h;omega);omega
theorem I6 {n:Int} (h0:0<=n) (h1:n<=1000000000):(jE n).size<=10:=by
 have h2:=Ej 9 n.toNat (by omega);rw[<-Lib.decDigits_length]at h2;simpa[jE,ByteArray.size]using h2
open Classical in
noncomputable def puN (s:ByteArray):Int:=if h:∃n:Int,(0<=n/\n<=1000000000)/\jE n=s then h.choose else 0
open Classical in
noncomputable def puB (s:ByteArray):Bool:=decide (∃n:Int,(0<=n/\n<=1000000000)/\jE n=s)
theorem PV {n:Int} {s:ByteArray} (h0:0<=n) (h1:n<=1000000000) (hs:jE n=s):puN s=n/\puB s=true:=by
 have hx:∃n:Int,(0<=n/\n<=1000000000)/\jE n=s:=⟨n,⟨h0,h1⟩,hs⟩;refine⟨?_,?_⟩
 . unfold puN;rw[dif_pos hx];exact Oy hx.choose_spec.1.1 h0 (hx.choose_spec.2.trans hs.symm)
 . unfold puB;simp only[decide_eq_true_eq];exact hx
theorem KO {s:ByteArray} (h:∀n:Int,0<=n->n<=1000000000->jE n≠s):puN s=0/\puB s=false:=by
 have hx:¬∃n:Int,(0<=n/\n<=1000000000)/\jE n=s:=fun⟨n,hn,e⟩=>h n hn.1 hn.2 e
 refine⟨?_,?_⟩
 . unfold puN;rw[dif_neg hx]
 . unfold puB;simp only[decide_eq_false_iff_not];exact hx
def toB (l:Bs):ByteArray:=⟨l.toArray⟩
theorem wI (l:Bs):(toB l).data.toList=l:=rfl
theorem Me {a b:Bs} (h:toB a=toB b):a=b:=by
 have:=congrArg (fun x:ByteArray=>x.data.toList) h;exact this
theorem JG (s:ByteArray):toB s.data.toList=s:=by cases s;rfl
def vF (k a b:Int):List Bs:=
 if k=1 then[mW.data.toList,decDigits a.toNat,decDigits b.toNat]else if k=2 then[jZ.data.toList,decDigits a.toNat]else if k=3 then[wH.data.toList,decDigits a.toNat]
 else if k=4 then[mX.data.toList]else[kC.data.toList]
theorem yO (word : ByteArray) (l : List Int) : nL word l = toB (join (word.data.toList :: l.map fun x => decDigits x.toNat) [32]) := by
 rw[<-Eg];unfold toB;simp[jE,Function.comp_def]
theorem yP {k a b:Int} (h:lF k a b=true):rM k a b=toB (join (vF k a b) [32]):=by
 rcases mJ h with⟨rfl,_⟩|⟨rfl,_⟩|⟨rfl,_⟩|⟨rfl,_⟩|⟨rfl,_⟩
 . exact yO mW [a,b]
 . exact yO jZ [a]
 . exact yO wH [a]
 . show mX=toB (join [mX.data.toList] [32]);rw[Lib.join_one];rfl
 . show kC=toB (join [kC.data.toList] [32]);rw[Lib.join_one];rfl
theorem PW (u:Nat):decDigits u≠[]/\xO (decDigits u):=by
 refine⟨IA u,fun b hb e=> ?_⟩;have:=uL u b hb;rw[e]at this;exact absurd this (by decide)
theorem Mf (k a b:Int):∀x∈vF k a b,x≠[]/\xO x:=by
 have w1:mW.data.toList≠[]/\xO mW.data.toList:=⟨by decide,by unfold xO;decide⟩;have w2:jZ.data.toList≠[]/\xO jZ.data.toList:=⟨by decide,by unfold xO;decide⟩;have w3:wH.data.toList≠[]/\xO wH.data.toList:=⟨by decide,by unfold xO;decide⟩;have w4:mX.data.toList≠[]/\xO mX.data.toList:=⟨by decide,by unfold xO;decide⟩;have w5:kC.data.toList≠[]/\xO kC.data.toList:=⟨by decide,by unfold xO;decide⟩;have da:=PW a.toNat;have db:=PW b.toNat;intro x hx;unfold vF at hx;split at hx
 . rcases List.mem_cons.1 hx with rfl|hx
   . exact w1
   . rcases List.mem_cons.1 hx with rfl|hx
     . exact da
     . obtain rfl : x = _ := by simpa using hx
       exact db
 . split at hx
   . rcases List.mem_cons.1 hx with rfl|hx
     . exact w2
     . obtain rfl : x = _ := by simpa using hx
       exact da
   . split at hx
     . rcases List.mem_cons.1 hx with rfl|hx
       . exact w3
       . obtain rfl : x = _ := by simpa using hx
         exact da
     . split at hx
       . obtain rfl : x = _ := by simpa using hx
         exact w4
       . obtain rfl : x = _ := by simpa using hx
         exact w5
theorem ET {k a b:Int} (h:lF k a b=true) {xs:List Bs} (hx:∀x∈xs,x≠[]/\xO x) (e:rM k a b=toB (join xs [32])):xs=vF k a b:=by
 rw[yP h]at e;have:=congrArg (fg []) (Me e);rw[AA _ (Mf k a b),AA _ hx]at this;exact this.symm
theorem OB {k a b k' a' b':Int} (h:lF k a b=true) (h':lF k' a' b'=true) (e:vF k a b=vF k' a' b'):k=k'/\a=a'/\b=b':=by
 have wd:∀{x y:ByteArray} {l m:List Bs},x.data.toList::l=y.data.toList::m->x.data.toList=y.data.toList:=fun e=>(List.cons.inj e).1
 rcases mJ h with⟨rfl,q1,q2,q3,q4⟩|⟨rfl,q1,q2,rfl⟩|⟨rfl,q1,q2,rfl⟩|⟨rfl,rfl,rfl⟩|⟨rfl,rfl,rfl⟩<;>
 rcases mJ h' with⟨rfl,p1,p2,p3,p4⟩|⟨rfl,p1,p2,rfl⟩|⟨rfl,p1,p2,rfl⟩|⟨rfl,rfl,rfl⟩|⟨rfl,rfl,rfl⟩<;>
 first
   |exact absurd (wd e) (by decide)
   |exact⟨rfl,rfl,rfl⟩
   | (have e1 := (List.cons.inj e).2
      have e2:=Eh (List.cons.inj e1).1;have e3:=Eh (List.cons.inj (List.cons.inj e1).2).1;exact⟨rfl,by omega,by omega⟩)
   | (have e1 := (List.cons.inj e).2
      have e2:=Eh (List.cons.inj e1).1;exact⟨rfl,by omega,rfl⟩)
end Go.Proofs.YtljfoohaapckeaaGreatDoor
namespace Go.Proofs.YtljfoohaapckeaaGreatDoor
set_option linter.unusedVariables false
set_option linter.unusedSimpArgs false
set_option maxHeartbeats 4000000
set_option maxRecDepth 100000
def Fq (d:Dm):Bs:=decDigits d.1.toNat++44::(decDigits d.2.1.toNat++[if d.2.2=true then 100 else 114])
def qK (d:Dm):ByteArray:=toB (Fq d)
def JH (l:List Dm):ByteArray:=toB (join (l.map Fq) [32])
theorem Fs {d:Dm} (h:aJ d=true):(0<=d.1/\d.1<=7)/\(0<=d.2.1/\d.2.1<=7):=by
 have h1:=(dQ (dU h).1).2;have h2:=(dU h).1;unfold aX inB at h2;simp at h2;omega
theorem Ak {d:Dm} (h:aJ d=true):Fq d=[UInt8.ofNat (48+d.1.toNat),44,UInt8.ofNat (48+d.2.1.toNat),if d.2.2=true then 100 else 114]:=by
 have h1:=Fs h;unfold Fq;rw[decDigits_one (by omega),decDigits_one (by omega)];rfl
theorem JI {a b:Nat} (ha:a<=7) (hb:b<=7) (h:UInt8.ofNat (48+a)=UInt8.ofNat (48+b)):a=b:=by
 have:=congrArg UInt8.toNat h;rw[UInt8.toNat_ofNat',UInt8.toNat_ofNat']at this;omega
theorem OC {d e:Dm} (hd:aJ d=true) (he:aJ e=true) (h:Fq d=Fq e):d=e:=by
 rw[Ak hd,Ak he]at h;have h1:=Fs hd;have h2:=Fs he;obtain⟨x,y,s⟩:=d;obtain⟨x',y',s'⟩:=e;simp only[List.cons.injEq,and_true,true_and]at h h1 h2;obtain⟨a,b,c⟩:=h;have e1:=JI (by omega) (by omega) a;have e2:=JI (by omega) (by omega) b;have e3:x=x':=(by omega);have e4:y=y':=(by omega);subst e3;subst e4
 have e5:s=s':=by
  cases s<;>cases s'
  . rfl
  . exact absurd (show(114:UInt8)=100 from c) (by decide)
  . exact absurd (show(100:UInt8)=114 from c) (by decide)
  . rfl
 rw[e5]
theorem Mg {d:Dm} (h:aJ d=true):Fq d≠[]/\xO (Fq d):=by
 have h1:=Fs h;rw[Ak h];refine⟨by simp,fun b hb e=> ?_⟩;subst e
 have n32 : ∀ a : Nat, a <= 7 -> (32 : UInt8) ≠ UInt8.ofNat (48 + a) := fun a ha q => by
  have:=congrArg UInt8.toNat q;rw[UInt8.toNat_ofNat']at this;have e:(32:UInt8).toNat=32:=rfl;omega
 simp only[mem_cons,List.not_mem_nil,or_false]at hb;rcases hb with hb|hb|hb|hb
 . exact n32 _ (by omega) hb
 . exact absurd hb (by decide)
 . exact n32 _ (by omega) hb
 . split at hb<;>exact absurd hb (by decide)
theorem map_inj:∀{l m:List Dm},(∀d∈l,aJ d=true)->(∀d∈m,aJ d=true)->l.map Fq=m.map Fq->l=m
  |[],[],_,_,_=>rfl
  |[],_::_,_,_,h=>by simp at h
  |_::_,[],_,_,h=>by simp at h
  | d :: l, e :: m, hl, hm, h => by
   rw[map_cons,map_cons]at h;obtain⟨h1,h2⟩:=List.cons.inj h;rw[OC (hl d mem_cons_self) (hm e mem_cons_self) h1,map_inj (fun x hx=>hl x (mem_cons_of_mem _ hx)) (fun x hx=>hm x (mem_cons_of_mem _ hx)) h2]
theorem OD {l m:List Dm} (hl:∀d∈l,aJ d=true) (hm:∀d∈m,aJ d=true) (h:JH l=JH m):l=m:=by
 have h1:=congrArg (fg []) (Me h);rw[AA _ (fun x hx=>by obtain⟨d,hd,rfl⟩:=List.mem_map.1 hx;exact Mg (hl d hd)),AA _ (fun x hx=>by obtain⟨d,hd,rfl⟩:=List.mem_map.1 hx;exact Mg (hm d hd))]at h1;exact map_inj hl hm h1
theorem Gh {d:Dm} (h:aJ d=true):(qK d).size=4:=by
 have:(qK d).size=(Fq d).length:=rfl;rw[this,Ak h];rfl
def uT (n:Int):List Int->List Int
  |[]=>[n]
  |x::r=>if n<=x then n::x::r else x::uT n r
theorem JJ (n:Int):∀(l:List Int) (x:Int),x∈uT n l↔x=n∨x∈l
  |[],x=>by simp[uT]
  | y :: r, x => by
   unfold uT;split
   . simp
   . rw[mem_cons,JJ n r x,mem_cons];constructor
     . rintro(h|h|h)
       . exact .inr (.inl h)
       . exact .inl h
       . exact .inr (.inr h)
     . rintro(h|h|h)
       . exact .inr (.inl h)
       . exact .inl h
       . exact .inr (.inr h)
theorem EU (n:Int):∀l:List Int,(uT n l).length=l.length+1
  |[]=>rfl
  | y :: r => by
   unfold uT;split
   . rfl
   . rw[length_cons,EU n r,length_cons]
def vD (T:List (List Dm)) (j:Nat) (c:Cl):Int:=((ix T (aR (til T j) c):Nat):Int)
def nM (T:List (List Dm)) (j k:Nat):List Int:=((dP (til T j)).take k).foldl (fun own c=>uT (vD T j c) own) []
def IB (T:List (List Dm)) (j:Nat):List Int:=nM T j (dP (til T j)).length
def iB (T:List (List Dm)) (j k:Nat):List Int:=((dP (til T j)).take k).map (vD T j)
def sF (T:List (List Dm)) (j:Nat):List Int:=(dP (til T j)).map (vD T j)
theorem wV (l:List Dm):(dP l).length<=64:=by
 unfold dP;refine Nat.le_trans (List.length_filter_le _ _) ?_;simp
theorem Cb {T:List (List Dm)} {j k:Nat} (h:k<(dP (til T j)).length):nM T j (k+1)=uT (vD T j (dP (til T j))[k]) (nM T j k):=by
 unfold nM;rw[List.take_succ_eq_append_getElem h,foldl_append];rfl
theorem El {T:List (List Dm)} {j:Nat}:∀k,k<=(dP (til T j)).length->(nM T j k).length=k
  |0,_=>rfl
  |k+1,h=>by rw[Cb (by omega),EU,El k (by omega)]
theorem I7 {T:List (List Dm)} {j k:Nat} (h:k<(dP (til T j)).length):iB T j k++[vD T j (dP (til T j))[k]]=iB T j (k+1):=by
 unfold iB;rw[List.take_succ_eq_append_getElem h,map_append];rfl
theorem KP {T:List (List Dm)} {j k:Nat} (h:k<=(dP (til T j)).length):(iB T j k).length=k:=by
 unfold iB;rw[List.length_map,List.length_take];omega
theorem KQ (T:List (List Dm)) (j:Nat):iB T j (dP (til T j)).length=sF T j:=by unfold iB sF;rw[take_length]
theorem JK (g : Cl -> Int) : ∀ (l : List Cl) (own : List Int) (x : Int), x ∈ l.foldl (fun own c => uT (g c) own) own ↔ x ∈ own ∨ ∃ c ∈ l, x = g c
  |[],own,x=>by simp
  | c :: l, own, x => by
   rw[List.foldl_cons,JK g l,JJ];constructor
   . rintro((h|h)|⟨d,hd,e⟩)
     . exact .inr ⟨c,mem_cons_self,h⟩
     . exact .inl h
     . exact .inr ⟨d,mem_cons_of_mem _ hd,e⟩
   . rintro(h|⟨d,hd,e⟩)
     . exact .inl (.inr h)
     . rcases List.mem_cons.1 hd with rfl|hd
       . exact .inl (.inl e)
       . exact .inr ⟨d,hd,e⟩
structure Adj (T:List (List Dm)) (near:List (List Int)):Prop where
  len:near.length=T.length
  mem:∀(j:Nat) (h:j<near.length) (x:Int),x∈near[j]↔∃i:Nat,x=i/\Edge T j i
def pU (T:List (List Dm)) (k:Nat):List (List Int):=(range k).map (IB T)
def mK (T:List (List Dm)) (k:Nat):List (List Int):=(range k).map (sF T)
theorem I8 (T:List (List Dm)) (k:Nat):pU T k++[IB T k]=pU T (k+1):=by unfold pU;rw[range_succ,map_append];rfl
theorem I9 (T:List (List Dm)) (k:Nat):mK T k++[sF T k]=mK T (k+1):=by unfold mK;rw[range_succ,map_append];rfl
theorem qL (T:List (List Dm)) (k:Nat):(pU T k).length=k:=by simp[pU]
theorem nN (T:List (List Dm)) (k:Nat):(mK T k).length=k:=by simp[mK]
theorem OE (T:List (List Dm)):Adj T (pU T T.length) where
  len:=qL T _
  mem := fun j h x => by
   rw[qL]at h;have e:(pU T T.length)[j]'(by rw[qL];exact h)=IB T j:=(by simp[pU]);rw[e];unfold IB nM;rw[take_length,JK];constructor
   . rintro(h|⟨c,hc,e⟩)
     . cases h
     . exact⟨_,e,h,List.mem_map.2 ⟨c,hc,rfl⟩⟩
   . rintro⟨i,rfl,_,hi⟩;obtain⟨c,hc,rfl⟩:=List.mem_map.1 hi;exact .inr ⟨c,hc,rfl⟩
theorem OG (T:List (List Dm)):Adj T (mK T T.length) where
  len:=nN T _
  mem := fun j h x => by
   rw[nN]at h;have e:(mK T T.length)[j]'(by rw[nN];exact h)=sF T j:=(by simp[mK]);rw[e];unfold sF;constructor
   . intro hx;obtain⟨c,hc,rfl⟩:=List.mem_map.1 hx;exact⟨_,rfl,h,List.mem_map.2 ⟨c,hc,rfl⟩⟩
   . rintro⟨i,rfl,_,hi⟩;obtain⟨c,hc,rfl⟩:=List.mem_map.1 hi;exact List.mem_map.2 ⟨c,hc,rfl⟩
def H9 (l:List Dm):Lit:= .string (JH l).data.toList
theorem Nh (s:Bs):WideAt.IsKeyLit (.string s):=by unfold WideAt.IsKeyLit;trivial
def JL (T:List (List Dm)) (k:Nat):DataW Unit:=(range k).foldl (fun D i=>D.put (H9 (til T i)) (.lit (.int .i64 (i:Int)))) (.map [])
theorem Bo (T:List (List Dm)) (k:Nat):JL T (k+1)=(JL T k).put (H9 (til T k)) (.lit (.int .i64 (k:Int))):=by
 unfold JL;rw[range_succ,foldl_append];rfl
theorem Mh (T:List (List Dm)):∀k,Go.Maps.IsMap (JL T k)
  |0=>Go.Maps.isMap_empty
  |k+1=>by rw[Bo];exact(Mh T k).put _ _
theorem QM {l m : List Dm} (hl : ∀ d ∈ l, aJ d = true) (hm : ∀ d ∈ m, aJ d = true) (h : l ≠ m) : H9 l ≠ H9 m := fun e => h (OD hl hm (by
 unfold H9 at e;injection e with e;exact ext (Array.toList_inj.1 e)))
theorem Mi {T:List (List Dm)} (hd:T.Nodup) (hok:∀t∈T,∀d∈t,aJ d=true) {i:Nat} (z:DataW Unit):∀k,k<=T.length->i<k->(JL T k).atKey (H9 (til T i)) z= .lit (.int .i64 (i:Int))
  |0,_,h=>by omega
  | k + 1, hk, h => by
   rw[Bo];by_cases e:i=k
   . subst e;exact Go.Maps.atKey_put_same (Mh T i) (by unfold H9;exact Nh _) _ _
   . have hi : i < T.length := by omega
     have hk':k<T.length:=(by omega);rw[Go.Maps.atKey_put_other]
     . exact Mi hd hok z k (by omega) (by omega)
     . rw[fI hi,fI hk'];refine QM (hok _ (getElem_mem hi)) (hok _ (getElem_mem hk')) fun q=>e ?_
       exact(List.getElem_inj hd).1 q
end Go.Proofs.YtljfoohaapckeaaGreatDoor
namespace Go.Proofs.YtljfoohaapckeaaGreatDoor
open Go.ChangeShapes Go.WideShapes Go.ChangeAt Go.RowKit
set_option linter.unusedVariables false
set_option linter.unusedSimpArgs false
set_option maxHeartbeats 4000000
set_option maxRecDepth 100000
def Qu (B:Nat) (w:World) (v:Value) (l:List Int):Prop:=
 ∃(g off c:Nat) (cs:Array Value),v= .slice (some ⟨g,off,none⟩) l.length c/\B<=g/\Blk w g 3 cs/\l.length<=c/\c<=maxLen/\off+c<=cs.size/\∀(j:Nat) (x:Int),l[j]? =some x->cs[off+j]? =some (.int .i64 x)
theorem Qu.PX {B:Nat} {w:World} {v:Value} {l:List Int} (h:aC 3 1 bT B w v l) (hl:0<l.length):Qu B w v l:=by
 have h':=h;rcases h.2 with⟨_,h0⟩|⟨g,cap,cur,e,hg,hh,hc,hm,hsz,hx⟩
 . omega
 . refine ⟨g, 0, cap, cur, e, hg, hh, hc, hm, by omega, fun j x hj => ?_⟩;have hk:=(List.getElem?_eq_some_iff.1 hj).1;subst e
   have h1 := World.ownsRow.cells h' (g := g) rfl j (.int .i64 x) (by
    have:=GQ (enc:=bT) aN (by decide) l j x hj 0 _ rfl;simpa using this)
   have h2:=cell_of_row w g j cur 3 (0,0) hh;rw[Nat.zero_add,<-h2];have e2:(Addr.mk g 0 none).add j=⟨g,j,none⟩:=(by rw[Addr.add_lit,Nat.zero_add]);rw[<-e2];exact h1
theorem Qu.below {B:Nat} {w w':World} {v:Value} {l:List Int} (h:Qu B w v l) (hb:Below w.heap.size w w'):Qu B w' v l:=by
 obtain⟨g,off,c,cs,e,h1,h2,h3⟩:=h;exact⟨g,off,c,cs,e,h1,h2.below hb h2.lt,h3⟩
theorem Qu.kept {B:Nat} {w w':World} {v:Value} {l:List Int} {row:Option Nat} (h:Qu B w v l) (hg:w.grownBy w' row) (hne:v.ownBlock≠row):Qu B w' v l:=by
 obtain⟨g,off,c,cs,e,h1,h2,h3⟩:=h;subst e;exact⟨g,off,c,cs,rfl,h1,h2.grown hg hne,h3⟩
theorem Qu.form {B:Nat} {w:World} {v:Value} {l:List Int} (h:Qu B w v l):∃g off c,v= .slice (some ⟨g,off,none⟩) l.length c/\B<=g/\g<w.heap.size/\l.length<=c/\c<=maxLen:=by
 obtain⟨g,off,c,cs,e,h1,h2,h3,h4,_⟩:=h;exact⟨g,off,c,e,h1,h2.lt,h3,h4⟩
theorem Qu.head {B g off c:Nat} {w:World} {x:Int} {l:List Int} {n:Nat} (h:Qu B w (.slice (some ⟨g,off,none⟩) n c) (x::l)):w.cell? ⟨g,off,none⟩=some (.int .i64 x):=by
 obtain⟨g',off',c',cs,e,h1,h2,h3,h4,h5,h6⟩:=h;injection e with e1 e2 e3;injection e1 with e1;injection e1 with e1 e4;subst e1;subst e4;rw[h2.cell];exact h6 0 x rfl
theorem Qu.rd {B:Nat} {w:World} {v:Value} {l:List Int} (h:Qu B w v l):Rd 1 bV w v l:=by
 obtain⟨g,off,c,cs,e,h1,h2,h3,h4,h5,h6⟩:=h;refine⟨_,c,e,h3,h4,fun _=>⟨g,off,rfl,h2.lt,fun i x hx=>⟨bT x,aN x,rfl,fun j u hu=> ?_⟩⟩⟩
 obtain rfl:j=0:=by
  have:=(List.getElem?_eq_some_iff.1 hu).1;rw[aN]at this;omega
 rw[h2.cell,Nat.mul_one,Nat.add_zero,h6 i x hx];exact hu
theorem Qu.tail {B g off c c' n:Nat} {A':Option Addr} {w:World} {x:Int} {l:List Int} (h:Qu B w (.slice (some ⟨g,off,none⟩) n c) (x::l)) (hs:sliced (some ⟨g,off,none⟩) 1 n c 1= .slice A' (n-1) c'):Qu B w (.slice A' (n-1) c') l:=by
 obtain⟨g',off',c0,cs,e,h1,h2,h3,h4,h5,h6⟩:=h;injection e with e1 e2 e3;injection e1 with e1;injection e1 with e1 e4;subst e1;subst e4;subst e3;rw[length_cons]at h3 e2;unfold sliced at hs;injection hs with s1 s2 s3;subst s3;have hn:n-1=l.length:=(by omega);by_cases hc:c=1
 . subst hc;rw[if_pos rfl]at s1;subst s1;refine⟨g,off,1-1,cs,by rw[hn],h1,h2,by omega,by omega,by omega,fun j y hj=> ?_⟩;have:=(List.getElem?_eq_some_iff.1 hj).1;omega
 . rw[if_neg hc]at s1;simp only[Option.map_some,Addr.add_lit]at s1;subst s1;refine⟨g,off+1*1,c-1,cs,by rw[hn],h1,h2,by omega,by omega,by omega,fun j y hj=> ?_⟩;have:=h6 (j+1) y (by simpa using hj);rw[<-this];congr 1
   omega
theorem Qu.mono {B B':Nat} {w:World} {v:Value} {l:List Int} (h:Qu B w v l) (hb:B'<=B):Qu B' w v l:=by
 obtain⟨g,off,c,cs,e,h1,h2⟩:=h;exact⟨g,off,c,cs,e,by omega,h2⟩
theorem QN {g off n c c':Nat} {A':Option Addr} (hs:sliced (some ⟨g,off,none⟩) 1 n c 1= .slice A' (n-1) c'):(Value.slice A' (n-1) c').ownBlock=some g:=by
 unfold sliced at hs;injection hs with s1 s2 s3;by_cases hc:c=1
 . rw[if_pos hc]at s1;subst s1;rfl
 . rw[if_neg hc]at s1;simp only[Option.map_some,Addr.add_lit]at s1;subst s1;rfl
theorem OH (l : List Int) : l.flatMap bT = l.map fun x => Value.int .i64 x := by
 induction l with
 |nil=>rfl
 |cons y l ih=>rw[List.flatMap_cons,ih];rfl
section
variable {P : Program} {t : TypeId}
theorem Ja {ops:Array Oper} {rest:List Oper} {o:Oper} {a:Act} {Q:Exit->Act->World->Prop} (R:Row P t 3 (.int .i64 0) 1 8) {B:Nat} {w:World} (hB:B<=w.heap.size) {v:Value} {l:List Int} (hown:Qu B w v l) (x:Int) {g0:Nat} (hg0:g0=w.heap.size)
    (hlen:(l.length+1)*8<=140737488355328) (hlen2:l.length+1<=maxLen) (hgd:o.guard=none)
    (s y:Operand) (ho:o.op= .call {callee:= .builtin .append,args:= #[s,y],argTypes:= #[t,t]})
    (hs:a.eval s=v) (hy:a.eval y= .slice (some ⟨g0,0,none⟩) 1 1)
    (h:∀g c off w',(some g=v.ownBlock∨w.heap.size<=g)->Qu B w' (.slice (some ⟨g,off,none⟩) (l.length+1) c) (l++[x])->(w.alloc (.cells #[.int .i64 x] 3)).grownBy w' v.ownBlock->wpList P ops Q rest (a.put o.dst (.slice (some ⟨g,off,none⟩) (l.length+1) c)) w'):
    wpList P ops Q (o::rest) a (w.alloc (.cells #[.int .i64 x] 3)):=by
 subst hg0;obtain⟨ht,hinfo,hzs,hsz⟩:=R;obtain⟨i0,hi,hz0,hz1,hz2⟩:=info_parts hinfo;obtain⟨g,off,c,cs,e,h1,h2,h3,h4,h5,h6⟩:=hown;subst e;have h2':Blk (w.alloc (.cells #[.int .i64 x] 3)) g 3 cs:=h2.alloc _
 refine wpList_append_arg _ hgd s y t ho 3 i0 (.int .i64 0) 1 8 ht hi hz0 hz1 hz2 hzs hsz g off l.length c (l.map fun x => Value.int .i64 x) hs (by simp) (fun j u hj => ?_)
   ⟨w.heap.size,0,none⟩ 1 1 [.int .i64 x] hy rfl (fun j u hj=> ?_) (by simp[Value.oneCell']) (fun hr j hj=> ?_) hlen2 hlen (fun hr=> ?_) (fun hg v' w' ho' hg'=> ?_)
 . rw[h2'.cell];rw[List.getElem?_map]at hj;cases hx:l[j]? with
   |none=>rw[hx]at hj;cases hj
   |some z=>rw[hx]at hj;injection hj with hj;subst hj;exact h6 j z hx
 . obtain rfl:j=0:=by
    have:=(List.getElem?_eq_some_iff.1 hj).1;simp at this;omega
   rw[Addr.add_lit,Blk.cell (Blk.aY w 3 #[.int .i64 x])];exact hj
 . obtain rfl : j = 0 := by simp at hj; omega
   refine⟨?_,h2'.frozen _⟩;rw[h2'.cell,Nat.mul_one,Nat.add_zero,Array.getElem?_eq_getElem (by omega)];rfl
 . refine h g c off _ (.inl rfl) ⟨g, off, c, cs.setIfInBounds (off + l.length) (.int .i64 x), by rw [length_append]; rfl, h1, ?_, by rw [length_append]; exact hr, h4, by rw [Array.size_setIfInBounds]; exact h5, fun j z hj => ?_⟩ ?_
   . have:=h2'.E5 (off+l.length) (.int .i64 x);rw[Nat.mul_one];exact this
   . by_cases hl:j<l.length
     . rw[List.getElem?_append_left hl]at hj;rw[Array.getElem?_setIfInBounds,if_neg (by omega)];exact h6 j z hj
     . rw [List.getElem?_append_right (by omega)] at hj;have hj1:=(List.getElem?_eq_some_iff.1 hj).1;simp at hj1;obtain rfl:j=l.length:=by omega
       rw[Nat.sub_self]at hj;injection hj with hj;subst hj;rw[Array.getElem?_setIfInBounds,if_pos rfl,if_pos (by omega)]
   . have:=eF (World.grownBy.refl (w.alloc (.cells #[.int .i64 x] 3)) (some g)) (off+l.length) (.int .i64 x);rw[Nat.mul_one];exact this
 . have hO:aC 3 1 bT (w.alloc (.cells #[.int .i64 x] 3)).heap.size w' v' (l++[x]):=by
    unfold aC;rw[length_append,List.flatMap_append];rw[OH l];exact ho'
   have hq:=(Qu.PX hO (by simp));obtain⟨g',off',c',cs',e',q1,q2,q3⟩:=hq;subst e';rw[length_append];have q4:B<=g':=by simp at q1;omega
   exact h g' c' off' w' (.inr (by simp at q1;omega)) ⟨g',off',c',cs',by rw[length_append];rfl,q4,q2,q3⟩ ⟨hg'.os,hg'.tape,hg'.output,hg'.size,fun k hk _=>hg'.block k hk (by simp)⟩
theorem KR {ops:Array Oper} {rest:List Oper} {o:Oper} {a:Act} {Q:Exit->Act->World->Prop} {E:TypeId} {z:Value} {bytes:Nat} (R:Row P t E z 1 bytes)
    {w:World} {A:Option Addr} {n c:Nat} (j:Nat) (hj:j<=n) (hn:n<=c) (hm:c<=maxLen) {J:Int} (hJ:J=j)
    (hgd:o.guard=none) (s x:Operand) (hop:o.op=Op.slice t s (some x) none none) (hs:a.eval s= .slice A n c) (hx:a.eval x= .int .i64 J)
    (hK:∀A' c',sliced A j n c 1= .slice A' (n-j) c'->wpList P ops Q rest (a.put o.dst (.slice A' (n-j) c')) w):
    wpList P ops Q (o::rest) a w:=by
 subst hJ;obtain⟨ht,hinfo,hzs,hsz⟩:=R;obtain⟨i0,hi,hz0,hz1,hz2⟩:=info_parts hinfo;have he:P.elem t=E:=(by simp[Program.elem,ht]);have ht':P.underlying t=some (.slice (P.elem t)):=by rw[he];exact ht
 obtain⟨A',c',e⟩:∃A' c',sliced A j n c 1= .slice A' (n-j) c':=⟨_,_,rfl⟩
 have hrun:(Instr.sliceAt t (.slice A n c) (some (.int .i64 j)) none none).run P w= .ok (.slice A' (n-j) c') w:=by
  rw[run_sliceAt_slice w t _ _ _ _ ht',run_slice_l w t A n c ht' .i64 j (by omega) (by omega),he,<-e];simp[sizeOf,typeInfo,hi,hz1,Result.andThen]
 refine wpList_plain hgd fun K hK'=> ?_
 unfold Oper.wp;simp[execOp,hop,hs,hx,hrun,Result.andThen];exact hK' _ _ (hK A' c' e)
end
end Go.Proofs.YtljfoohaapckeaaGreatDoor
