import Derived.Test.YtjijonhkofhikaaGreatDoorFK1
import Derived.Test.YtjijonhkofhikaaGreatDoorFShelf
import Derived.Lib.ItoaLen
import Derived.Lib.AppendIntMem
open _root_.Nat renaming le_refl->Tm
open _root_.Go.Lib renaming decDigits->Tn
open _root_.ByteArray (empty ext)
open _root_.ByteArray renaming data_append->Tp,size_append->Tq
open _root_.Go.Proofs.Tryz (prog func37 ntmps37)
set_option linter.unusedVariables false
set_option linter.unusedSimpArgs false
set_option maxHeartbeats 4000000
set_option maxRecDepth 100000
namespace Go.Proofs.YtjijonhkofhikaaGreatDoor
open Go.ChangeShapes Go.WideShapes Go.ChangeAt Go.RowKit
def Tab (w:World):Prop:=Lib.TabIs prog w "internal/strconv.uint64pow10" .u64 Lib.pow10Tab
theorem Tab.below {w w':World} (h:Tab w) (hb:Below w.heap.size w w'):Tab w':=by
 unfold Tab Lib.TabIs World.var? at h⊢;have hg:Tryz.prog.globalNamed "internal/strconv.uint64pow10" =some 1:=(by kernel_rfl);rw[hg]at h⊢;simp only[Option.bind_some]at h⊢
 have hlt:1<w.heap.size:=by
  rcases Nat.lt_or_ge 1 w.heap.size with h'|h'
  . exact h'
  . rw[Array.getElem?_eq_none h']at h;cases h
 rw[hb.block 1 hlt];exact h
def iJ (n:Int):ByteArray:=⟨(Tn n.toNat).toArray⟩
theorem EX {n:Int} (h:0<=n):Lib.itoa n=Tn n.toNat:=by unfold Lib.itoa;rw[if_neg (by omega)]
theorem tH {n:Int} (h0:0<=n) (h1:n<=9223372036854775807):(iJ n).size<=21:=by
 have:=Lib.itoa_length_le n (by omega) h1;rw[EX h0]at this;simpa[iJ,ByteArray.size]using this
theorem Dr (w:World) (k:Nat) (os:Array Obj):Below w.heap.size w (Sort.grow (w.drewN k) os):=Lib.below_grow w.heap.size w (Tm _) k os
theorem OU (n:Int) (w:World) (h0:0<=n) (h1:n<=9223372036854775807) (ht:Tab w):Calls prog 30 #[.int .i64 n] w (Ret (.string (iJ n)) w):=by
 refine(Tryz.strconv_Itoa n (by omega) h1 w ht).mono ?_;rintro e w' ⟨rfl,k,os,rfl⟩;exact⟨by rw[EX h0];rfl,Dr w k os⟩
theorem uC (n:Int) (w:World) (h0:0<=n) (h1:n<=9223372036854775807) (ht:Tab w):Calls prog 11 #[.int .i64 n] w (Ret (.string (iJ n)) w):=by
 go_enter Tryz.func11,Tryz.ntmps11
 go_wp2_with fail
 refine(OU n _ h0 h1 ht).mono ?_;rintro e w1 ⟨rfl,hb1⟩;go_wp2;go_ret;exact⟨rfl,hb1⟩
theorem JY (d:Int) (w:World) (h0:0<=d) (h1:d<10):Calls prog 73 #[.int .i64 d] w (Ret (.int .u8 (48+d)) w):=by
 have hw:IntKind.u8.wrap (48+d)=48+d:=by rw[IntKind.wrap_u8];omega
 go_enter Tryz.func73,Tryz.ntmps73
 go_wp2;go_ret;exact⟨rfl,Below.refl _ _⟩
def JZ (n:Nat):ByteArray:=strOfNums [((48+n%10:Nat):Int)]
def dz (m:Nat):ByteArray:=if m=0 then empty else iJ m
theorem Nr (n:Nat):(JZ n).size=1:=by unfold JZ;rw[strOfNums_size];rfl
theorem Q3 {n:Nat} (h:0<n) (o:ByteArray):dz (n/10)++(JZ n++o)=dz n++o:=by
 rw[<-ByteArray.append_assoc];congr 1
 apply ext;rw[Tp];apply Array.toList_inj.1;rw[Array.toList_append];have e:(JZ n).data.toList=[UInt8.ofNat (48+n%10)]:=by unfold JZ;rw[strOfNums_data];rfl
 rw[e];unfold dz;rw[if_neg (by omega:¬n=0)];by_cases h10:n<10
 . rw [if_pos (by omega)];unfold iJ;rw[Int.toNat_natCast,Lib.decDigits_one h10,Nat.mod_eq_of_lt h10];rfl
 . rw [if_neg (by omega)];unfold iJ;simp only[Int.toNat_natCast];rw[Lib.decDigits.eq_1 n,dif_neg h10]
theorem Ns:iJ 0=(⟨#[48]⟩:ByteArray):=by
 unfold iJ;rw[show Int.toNat 0=0 from rfl,Lib.decDigits_one (by decide)];rfl
theorem nN (x:Int) (w:World) (h0:0<=x) (h1:x<=9223372036854775807):Calls prog 37 #[.int .i64 x] w (Ret (.string (iJ x)) w):=by
 obtain⟨k,rfl⟩:∃k:Nat,x=k:=⟨x.toNat,by omega⟩;rcases Nat.eq_zero_or_pos k with hz|a8
 . subst hz;rw[show((0:Nat):Int)=0 from rfl,Ns];go_enter func37,ntmps37
   go_wp2;go_ret;exact⟨rfl,Below.refl _ _⟩
 . obtain⟨R,hR⟩:=Ti (iJ k);have hd:dz k=R:=by rw[hR];unfold dz;rw[if_neg (by omega)]
   rw[<-hR];have HR:=Tk hd;clear hd hR;have bD:¬((k:Int)=0):=(by omega);have bE:¬((k:Int)<0):=(by omega);go_enter func37,ntmps37
   go_wp2;go_loopw [0,4,5] (fun s0 s4 s5 wr=>∃(f n:Nat) (o:ByteArray) (z:Value),s5=z/\Hid (n<10^f)/\n<=k/\o.size+f<=19/\s0= .int .i64 n/\s4= .string o/\Hid (dz n++o=R)/\Below w.heap.size w wr) (fun i _ _ _=>(intOf i).toNat)
   case atStart=>exact⟨19,k,empty,_,rfl,Tk (by omega),Tm _,by decide,rfl,rfl,Tk (by rw[HR.out];exact ByteArray.append_empty),Below.refl _ _⟩
   case round=>
    obtain⟨f,n,o,z,rfl,Hn,hn,hf,rfl,rfl,Hg,a6⟩:=hrel;have bF:o.size<=19:=(by omega);by_cases hlt:0<n
    . obtain ⟨f, rfl⟩ : ∃ f', f = f' + 1 := ⟨f - 1, by have := Hn.out; rcases f with _ | f <;> simp at *; omega⟩;have hg:dz (n/10)++(JZ n++o)=R:=by rw[<-Hg.out];exact Q3 hlt o
      have HG:=Tk hg;clear hg;have bA:=Nr n;have bJ:¬((n:Int)%10<0):=(by omega);have bK:¬((n:Int)=0):=(by omega);have hsz:(JZ n++o).size=1+o.size:=(by rw[Tq,bA]);have bB:Hid (n/10<10^f):=Tk (by have:=Hn.out;rw[Nat.pow_succ]at this;omega);have bC:=Tk hsz;clear hsz;go_wp2_with fail
      refine(JY ((n:Int)%10) _ (by omega) (by omega)).mono ?_;rintro e w1 ⟨rfl,hb1⟩
      have a7 := run_convert_bytes_arg (P := prog) (w1.alloc (.cells #[.int .u8 (48 + (n : Int) % 10)] 5)) 22 5 Tryz.underlying22 Tryz.underlying5 w1.heap.size 0 1 1 [48 + (n : Int) % 10] rfl (fun i hi => by
       obtain rfl:i=0:=by omega
       exact(cell_of_row _ _ 0 #[.int .u8 (48+(n:Int)%10)] 5 (0,0) (heap_alloc_new w1 _))) 9 Tryz.underlying9
      have hd:strOfNums [48+(n:Int)%10]=JZ n:=by unfold JZ;congr 2
      rw[hd]at a7;clear hd;go_wp2;go_roundw
      case rel=>exact⟨f,n/10,JZ n++o,_,rfl,bB,by omega,by rw[bC.out];omega,by go_num,rfl,HG,(a6.tr hb1).al _⟩
      case measure=>simp[intOf];omega
    . obtain rfl : n = 0 := by omega
      have HG:Hid (o=R):=Tk (by rw[<-Hg.out];unfold dz;rw[if_pos rfl];exact ByteArray.empty_append.symm);go_wp2;go_ret;exact⟨by rw[HG.out];rfl,a6⟩
def iA (word:ByteArray) (l:List Int):ByteArray:=l.foldl (fun s x=>s++(⟨#[32]⟩:ByteArray)++iJ x) word
theorem Dt : ∀ (l : List Int) (word : ByteArray), (iA word l).data.toList = word.data.toList ++ (l.map fun x => (32 : UInt8) :: Tn x.toNat).flatten
  |[],word=>by simp[iA]
  | x :: l, word => by
   have e:iA word (x::l)=iA (word++(⟨#[32]⟩:ByteArray)++iJ x) l:=rfl;rw[e,Dt l];simp[Tp,iJ]
theorem Du (word:ByteArray) (l:List Int):(⟨(Lib.join ((word::l.map iJ).map (·.data.toList)) [32]).toArray⟩:ByteArray)=iA word l:=by
 apply ext;apply Array.toList_inj.1;rw[Dt,List.map_cons,Lib.join_cons];simp[Lib.joinTail,iJ,Function.comp_def]
theorem qR:∀(l:List Int) (word:ByteArray),(∀x∈l,0<=x/\x<=9223372036854775807)->(iA word l).size<=word.size+22*l.length
  |[],word,_=>by simp[iA]
  | x :: l, word, h => by
   have e:iA word (x::l)=iA (word++(⟨#[32]⟩:ByteArray)++iJ x) l:=rfl;have h1:=qR l (word++(⟨#[32]⟩:ByteArray)++iJ x) (fun y hy=>h y (List.mem_cons_of_mem _ hy));have h2:=tH (h x List.mem_cons_self).1 (h x List.mem_cons_self).2;rw[e];rw[Tq,Tq]at h1;have h3:(⟨#[32]⟩:ByteArray).size=1:=rfl;rw[List.length_cons];omega
theorem AJ {α:Type} {E:TypeId} {enc:α->List Value} (w:World) (x:α) {u:Value} (h:enc x=[u]):aD E 1 enc w.heap.size (w.alloc (.cells #[u] E)) (.slice (some ⟨w.heap.size,0,none⟩) 1 1) [x]:=by
 have e:[x].flatMap enc=[u]:=(by simp[h]);unfold aD;rw[e];exact⟨by simp,.inr ⟨w.heap.size,1,#[u],rfl,Tm _,heap_alloc_new w _,by simp,by simp[maxLen],by simp,by simp⟩⟩
def sU (word:ByteArray) (l:List Int) (k:Nat):List ByteArray:=word::(l.take k).map iJ
theorem FX {word:ByteArray} {l:List Int} {k:Nat} (h:k<=l.length):(sU word l k).length=k+1:=by simp[sU];omega
theorem KV {word:ByteArray} {l:List Int} {k:Nat} (h:k<l.length):sU word l k++[iJ l[k]]=sU word l (k+1):=by
 unfold sU;rw[List.take_succ_eq_append_getElem h,List.map_append];rfl
theorem rR (word:ByteArray) (v:Value) (l:List Int) (w:World) (h:Rd 1 aZ w v l) (hw:word.size<=100) (hl:l.length<=100) (Hp:Hid (∀x∈l,0<=x/\x<=9223372036854775807)) (ht:Tab w):Calls prog 32 #[.string word,v] w (Ret (.string (iA word l)) w):=by
 obtain⟨A,c,rfl,hc,hm⟩:=h.form;have a8:=AJ (E:=9) (enc:=fJ) w word rfl;have HT:=Tk ht;clear ht;go_enter Tryz.func32,Tryz.ntmps32
 go_wp2;go_loopw [5,7,12] (fun s5 s7 s12 wr=>∃(k:Nat) (D:Option Addr) (d:Nat) (z:Value),s7=z/\k<=l.length/\s12= .int .i64 k/\s5= .slice D (k+1) d/\aD 9 1 fJ w.heap.size wr (.slice D (k+1) d) (sU word l k)/\Below w.heap.size w wr) (fun _ _ i _=>l.length-(intOf i).toNat)
 case atStart=>exact⟨0,_,_,_,rfl,Nat.zero_le _,rfl,rfl,a8,(Below.refl _ _).al _⟩
 case round=>
  obtain⟨k,D,d,z,rfl,hk,rfl,rfl,hown,a6⟩:=hrel;clear a8;by_cases hlt:k<l.length
  . obtain⟨b,off,rfl,hb,k1⟩:=(h.Tj a6).uX hlt;have hp:=Hp.out l[k] (List.getElem_mem hlt);obtain⟨x,hx⟩:=Ti (l[k]);rw[<-hx]at k1 hp;have HX:=Tk hx;clear hx;have HH:=Tk hp;clear hp;go_wp2_with fail
    refine(uC x _ HH.out.1 HH.out.2 (HT.out.below a6)).mono ?_;rintro e w1 ⟨rfl,hb1⟩;have bB:=hown.below hb1;have B1:=a6.tr hb1;have a7:=FX (word:=word) hk;have H8:Hid (((sU word l k).length+1)*16<=140737488355328):=Tk (by rw[a7];omega);have HM:Hid ((sU word l k).length+1<=maxLen):=Tk (by rw[a7];unfold maxLen;omega);have bJ:=KV (word:=word) hlt;have bL:=Tk bJ;have bK:=Tk a7;clear bJ a7;go_wp2_with (at_builtin;go_must (refine aF (enc:=fJ) mW eZ nM B1 bB (iJ x) H8.out HM.out rfl _ _ rfl rfl rfl ?_);intro v4 w4 bA hb4 hg4 bP;obtain⟨A4,c4,rfl,bR,bS⟩:=bA.form)
    have bC:aD 9 1 fJ w.heap.size w4 (.slice A4 (k+1+1) c4) (sU word l (k+1)):=by
     have e:(sU word l k++[iJ x]).length=k+1+1:=by rw[List.length_append,bK.out];rfl
     rw[<-bL.out,<-HX.out,<-e];exact bA
    go_roundw
    case rel=>exact⟨k+1,A4,c4,_,rfl,by omega,by go_num,by simp[bK.out],bC,hb4⟩
    case measure=>simp[intOf];omega
  . obtain rfl : k = l.length := by omega
    have a7:=FX (word:=word) hk;obtain⟨g,rfl,hB,bM⟩:=hown.split (k:=0) (by rw[a7];omega);have e1:sU word l l.length=word::l.map iJ:=by unfold sU;rw[List.take_length]
    have hsz:=qR l word Hp.out;have bD:=Du word l
    have bE := Tryz.strings_Join g 0 d (sU word l l.length) (⟨#[32]⟩ : ByteArray) wr (fun j x hj => by
     have bN:j<(sU word l l.length).length:=(List.getElem?_eq_some_iff.1 hj).1;have:=hown.slot eZ (by decide) bN 0 (.string (sU word l l.length)[j]) rfl;rw[(List.getElem?_eq_some_iff.1 hj).2]at this
     simpa using this) bM (by rw [a7]; omega) (by have := hown.form; obtain ⟨A', c', e, h1, h2⟩ := this; injection e with e1 e2 e3; omega) (by
      rw[e1];have e3:(Lib.join ((word::l.map iJ).map (·.data.toList)) [32]).length=(iA word l).size:=by rw[<-bD];simp[ByteArray.size]
      show(Lib.join ((word::l.map iJ).map (·.data.toList)) [32]).length<=_;rw[e3];omega)
    rw[a7,e1]at bE
    have bF:Calls prog 48 #[.slice (some ⟨g,0,none⟩) (l.length+1) d,.string ⟨#[32]⟩] wr (Ret (.string (iA word l)) wr):=by
     refine bE.mono ?_;rintro e w' ⟨rfl,hb⟩;exact⟨by rw[<-bD],hb⟩
    clear bE a7 e1 bD;go_wp2_with fail
    refine bF.mono ?_;rintro e w5 ⟨rfl,bO⟩;go_wp2;go_ret;exact⟨rfl,a6.tr bO⟩
end Go.Proofs.YtjijonhkofhikaaGreatDoor
