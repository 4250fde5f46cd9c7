import Derived.Test.YtjijonhkofhikaaGreatDoorEShelf
import Derived.Lib.ItoaLen
import Derived.Lib.AppendIntMem
import Derived.Test.YtjijonhkofhikaaGreatDoorEK2
open _root_.List renaming mem_cons_of_mem->TZ,mem_cons_self->T9,getElem?_toArray->Ua,getElem?_cons_succ->Ub,getElem?_cons_zero->Uc
open _root_.Nat renaming le_refl->Ud
open _root_.Go.Lib (TabIs itoa join atoi)
open _root_.Go.Lib renaming decDigits->Ue,joinTail->Uf,decFrom->Ug
open _root_.ByteArray renaming size_append->Uh
open _root_.Go.Proofs.Tryz (prog func47)
open _root_.Go.Proofs.Tryz renaming func21->Ui,ntmps21->Uj,results21->Uk,ntmps47->Ul,results47->Um
set_option linter.unusedVariables false
set_option linter.unusedSimpArgs false
set_option maxHeartbeats 4000000
set_option maxRecDepth 100000
namespace Go.Proofs.YtjijonhkofhikaaGreatDoor
open Go.ChangeShapes Go.WideShapes Go.ChangeAt Go.RowKit
def Tab (w:World):Prop:=TabIs prog w "internal/strconv.uint64pow10" .u64 Lib.pow10Tab
theorem Tab.below {w w':World} (h:Tab w) (hb:Below w.heap.size w w'):Tab w':=by
 unfold Tab TabIs World.var? at h⊢;have hg:Tryz.prog.globalNamed "internal/strconv.uint64pow10" =some 1:=(by kernel_rfl);rw[hg]at h⊢;simp only[Option.bind_some]at h⊢
 have hlt:1<w.heap.size:=by
  rcases Nat.lt_or_ge 1 w.heap.size with h'|h'
  . exact h'
  . rw[Array.getElem?_eq_none h']at h;cases h
 rw[hb.block 1 hlt];exact h
def kR (n:Int):ByteArray:=⟨(Ue n.toNat).toArray⟩
theorem Ke {n:Int} (h:0<=n):itoa n=Ue n.toNat:=by unfold itoa;rw[if_neg (by omega)]
theorem NF {n:Int} (h0:0<=n) (h1:n<=9223372036854775807):(kR n).size<=21:=by
 have:=Lib.itoa_length_le n (by omega) h1;rw[Ke h0]at this;simpa[kR,ByteArray.size]using this
theorem DV (w:World) (k:Nat) (os:Array Obj):Below w.heap.size w (Sort.grow (w.drewN k) os):=Lib.below_grow w.heap.size w (Ud _) k os
theorem OY (n:Int) (w:World) (h0:0<=n) (h1:n<=9223372036854775807) (ht:Tab w):Calls prog 30 #[.int .i64 n] w (Ret (.string (kR n)) w):=by
 refine(Tryz.strconv_Itoa n (by omega) h1 w ht).mono ?_;rintro e w' ⟨rfl,k,os,rfl⟩;exact⟨by rw[Ke h0];rfl,DV w k os⟩
theorem uA (n:Int) (w:World) (h0:0<=n) (h1:n<=9223372036854775807) (ht:Tab w):Calls prog 11 #[.int .i64 n] w (Ret (.string (kR n)) w):=by
 go_enter Tryz.func11,Tryz.ntmps11
 go_wp2_with fail
 refine(OY n _ h0 h1 ht).mono ?_;rintro e w1 ⟨rfl,hb1⟩;go_wp2;go_ret;exact⟨rfl,hb1⟩
def nU (word:ByteArray) (l:List Int):ByteArray:=l.foldl (fun s x=>s++(⟨#[32]⟩:ByteArray)++kR x) word
theorem DW : ∀ (l : List Int) (word : ByteArray), (nU word l).data.toList = word.data.toList ++ (l.map fun x => (32 : UInt8) :: Ue x.toNat).flatten
  |[],word=>by simp[nU]
  | x :: l, word => by
   have e:nU word (x::l)=nU (word++(⟨#[32]⟩:ByteArray)++kR x) l:=rfl;rw[e,DW l];simp[ByteArray.data_append,kR]
theorem DX (word:ByteArray) (l:List Int):(⟨(join ((word::l.map kR).map (·.data.toList)) [32]).toArray⟩:ByteArray)=nU word l:=by
 apply ByteArray.ext;apply Array.toList_inj.1;rw[DW,List.map_cons,Lib.join_cons];simp[Uf,kR,Function.comp_def]
theorem qU:∀(l:List Int) (word:ByteArray),(∀x∈l,0<=x/\x<=9223372036854775807)->(nU word l).size<=word.size+22*l.length
  |[],word,_=>by simp[nU]
  | x :: l, word, h => by
   have e:nU word (x::l)=nU (word++(⟨#[32]⟩:ByteArray)++kR x) l:=rfl;have h1:=qU l (word++(⟨#[32]⟩:ByteArray)++kR x) (fun y hy=>h y (TZ _ hy));have h2:=NF (h x T9).1 (h x T9).2;rw[e];rw[Uh,Uh]at h1;have h3:(⟨#[32]⟩:ByteArray).size=1:=rfl;rw[List.length_cons];omega
theorem AQ {α:Type} {E:TypeId} {enc:α->List Value} (w:World) (x:α) {u:Value} (h:enc x=[u]):aD E 1 enc w.heap.size (w.alloc (.cells #[u] E)) (.slice (some ⟨w.heap.size,0,none⟩) 1 1) [x]:=by
 have e:[x].flatMap enc=[u]:=(by simp[h]);unfold aD;rw[e];exact⟨by simp,.inr ⟨w.heap.size,1,#[u],rfl,Ud _,heap_alloc_new w _,by simp,by simp[maxLen],by simp,by simp⟩⟩
def sQ (word:ByteArray) (l:List Int) (k:Nat):List ByteArray:=word::(l.take k).map kR
theorem Gi {word:ByteArray} {l:List Int} {k:Nat} (h:k<=l.length):(sQ word l k).length=k+1:=by simp[sQ];omega
theorem K5 {word:ByteArray} {l:List Int} {k:Nat} (h:k<l.length):sQ word l k++[kR l[k]]=sQ word l (k+1):=by
 unfold sQ;rw[List.take_succ_eq_append_getElem h,List.map_append];rfl
theorem rR (word:ByteArray) (v:Value) (l:List Int) (w:World) (h:Rd 1 bG w v l) (hw:word.size<=100) (hl:l.length<=100) (Hp:Hid (∀x∈l,0<=x/\x<=9223372036854775807)) (ht:Tab w):Calls prog 32 #[.string word,v] w (Ret (.string (nU word l)) w):=by
 obtain⟨A,c,rfl,hc,hm⟩:=h.form;have a8:=AQ (E:=9) (enc:=iX) w word rfl;have HT:=TY ht;clear ht;go_enter Tryz.func32,Tryz.ntmps32
 go_wp2;go_loopw [5,7,12] (fun s5 s7 s12 wr=>∃(k:Nat) (D:Option Addr) (d:Nat) (z:Value),s7=z/\k<=l.length/\s12= .int .i64 k/\s5= .slice D (k+1) d/\aD 9 1 iX w.heap.size wr (.slice D (k+1) d) (sQ word l k)/\Below w.heap.size w wr) (fun _ _ i _=>l.length-(intOf i).toNat)
 case atStart=>exact⟨0,_,_,_,rfl,Nat.zero_le _,rfl,rfl,a8,(Below.refl _ _).al _⟩
 case round=>
  obtain⟨k,D,d,z,rfl,hk,rfl,rfl,hown,a6⟩:=hrel;clear a8;by_cases hlt:k<l.length
  . obtain⟨b,off,rfl,hb,k1⟩:=(h.TW a6).sP hlt;have hp:=Hp.out l[k] (List.getElem_mem hlt);obtain⟨x,hx⟩:=TV (l[k]);rw[<-hx]at k1 hp;have HX:=TY hx;clear hx;have HH:=TY hp;clear hp;go_wp2_with fail
    refine(uA x _ HH.out.1 HH.out.2 (HT.out.below a6)).mono ?_;rintro e w1 ⟨rfl,hb1⟩;have bB:=hown.below hb1;have B1:=a6.tr hb1;have a7:=Gi (word:=word) hk;have H8:Hid (((sQ word l k).length+1)*16<=140737488355328):=TY (by rw[a7];omega);have HM:Hid ((sQ word l k).length+1<=maxLen):=TY (by rw[a7];unfold maxLen;omega);have bJ:=K5 (word:=word) hlt;have bL:=TY bJ;have bK:=TY a7;clear bJ a7;go_wp2_with (at_builtin;go_must (refine aF (enc:=iX) qG jA sF B1 bB (kR x) H8.out HM.out rfl _ _ rfl rfl rfl ?_);intro v4 w4 bA hb4 hg4 bU;obtain⟨A4,c4,rfl,bW,bX⟩:=bA.form)
    have bC:aD 9 1 iX w.heap.size w4 (.slice A4 (k+1+1) c4) (sQ word l (k+1)):=by
     have e:(sQ word l k++[kR x]).length=k+1+1:=by rw[List.length_append,bK.out];rfl
     rw[<-bL.out,<-HX.out,<-e];exact bA
    go_roundw
    case rel=>exact⟨k+1,A4,c4,_,rfl,by omega,by go_num,by simp[bK.out],bC,hb4⟩
    case measure=>simp[intOf];omega
  . obtain rfl : k = l.length := by omega
    have a7:=Gi (word:=word) hk;obtain⟨g,rfl,hB,bN⟩:=hown.split (k:=0) (by rw[a7];omega);have e1:sQ word l l.length=word::l.map kR:=by unfold sQ;rw[List.take_length]
    have hsz:=qU l word Hp.out;have bD:=DX word l
    have bE := Tryz.strings_Join g 0 d (sQ word l l.length) (⟨#[32]⟩ : ByteArray) wr (fun j x hj => by
     have bO:j<(sQ word l l.length).length:=(List.getElem?_eq_some_iff.1 hj).1;have:=hown.slot jA (by decide) bO 0 (.string (sQ word l l.length)[j]) rfl;rw[(List.getElem?_eq_some_iff.1 hj).2]at this
     simpa using this) bN (by rw [a7]; omega) (by have := hown.form; obtain ⟨A', c', e, h1, h2⟩ := this; injection e with e1 e2 e3; omega) (by
      rw[e1];have e3:(join ((word::l.map kR).map (·.data.toList)) [32]).length=(nU word l).size:=by rw[<-bD];simp[ByteArray.size]
      show(join ((word::l.map kR).map (·.data.toList)) [32]).length<=_;rw[e3];omega)
    rw[a7,e1]at bE
    have bF:Calls prog 48 #[.slice (some ⟨g,0,none⟩) (l.length+1) d,.string ⟨#[32]⟩] wr (Ret (.string (nU word l)) wr):=by
     refine bE.mono ?_;rintro e w' ⟨rfl,hb⟩;exact⟨by rw[<-bD],hb⟩
    clear bE a7 e1 bD;go_wp2_with fail
    refine bF.mono ?_;rintro e w5 ⟨rfl,bR⟩;go_wp2;go_ret;exact⟨rfl,a6.tr bR⟩
theorem SH {α:Type} {E:TypeId} {enc:α->List Value} (w:World) (x y:α) {u v:Value} (h:enc x=[u]) (h':enc y=[v]):aD E 1 enc w.heap.size (w.alloc (.cells #[u,v] E)) (.slice (some ⟨w.heap.size,0,none⟩) 2 2) [x,y]:=by
 have e:[x,y].flatMap enc=[u,v]:=(by simp[h,h']);unfold aD;rw[e];exact⟨by simp,.inr ⟨w.heap.size,2,#[u,v],rfl,Ud _,heap_alloc_new w _,by simp,by simp[maxLen],by simp,by simp⟩⟩
def nH:ByteArray:=⟨#[102,108,105,112]⟩
def jX:ByteArray:=⟨#[98,114,101,97,107]⟩
def wP:ByteArray:=⟨#[98,117,121]⟩
def nI:ByteArray:=⟨#[117,110,100,111]⟩
def jY:ByteArray:=⟨#[97,117,100,105,116]⟩
def rT (k a b:Int):ByteArray:=
 if k=1 then nU nH [a,b]else if k=2 then nU jX [a]else if k=3 then nU wP [a]else if k=4 then nI else jY
def iN (k a b:Int):ByteArray:=if iP k a b=true then rT k a b else ByteArray.empty
theorem mR {k a b:Int} (h:iP k a b=true):(k=1/\0<=a/\a<=7/\0<=b/\b<=7)∨(k=2/\0<=a/\a<=31/\b=0)∨(k=3/\1<=a/\a<=100/\b=0)∨(k=4/\a=0/\b=0)∨(k=5/\a=0/\b=0):=by
 unfold iP inB at h;by_cases h1:k=1
 . subst h1;simp at h;omega
 . by_cases h2:k=2
   . subst h2;simp at h;omega
   . by_cases h3:k=3
     . subst h3;simp at h;omega
     . simp[h1,h2,h3]at h;omega
theorem BP (k a b:Int) (w:World) (ht:Tab w):Calls prog 21 #[.agg #[.int .i64 k,.int .i64 a,.int .i64 b]] w (Ret (.tuple #[.string (iN k a b),.bool (iP k a b)]) w):=by
 have hA:=(Below.refl w.heap.size w).al (.cells #[.int .i64 k,.int .i64 a,.int .i64 b] 54);have HT:=TY ht;clear ht;rcases bA:iP k a b with _|_
 . have e : iN k a b = ByteArray.empty := by unfold iN; rw [bA]; rfl
   rw[e];have a8:=TY bA;clear bA e;go_enter Ui,Uj
   go_wp2_with fail
   refine(mO _ _ _ _).mono ?_;rintro e w1 ⟨rfl,hb1⟩;obtain⟨hc1,bB,hz1⟩:=bk hb1;(try simp at hz1)
   have a6:w.heap.size<w1.heap.size:=(by omega);rw[a8.out];go_wp2;refine bodyPost_ret (v:= .tuple #[.string (⟨#[]⟩:ByteArray),.bool false]) (by simp[results,Uk,go_sem]) rfl ⟨rfl,hA.tr hb1⟩
 . have e : iN k a b = rT k a b := by unfold iN; rw [bA]; rfl
   rw[e];have a8:=TY bA;have hx:=Blk.aZ w 54 #[.int .i64 k,.int .i64 a,.int .i64 b];rcases mR bA with⟨rfl,h1,h2,h3,h4⟩|⟨rfl,h1,h2,rfl⟩|⟨rfl,h1,h2,rfl⟩|⟨rfl,rfl,rfl⟩|⟨rfl,rfl,rfl⟩
   . skip;go_enter Ui,Uj
     go_wp2_with fail
     refine(mO _ _ _ _).mono ?_;rintro e w1 ⟨rfl,hb1⟩;obtain⟨hc1,bB,hz1⟩:=bk hb1;(try simp at hz1)
     have a6:w.heap.size<w1.heap.size:=(by omega);rw[a8.out];have hx1:=hx.below hb1 hx.lt;have q0:w1.cell? ⟨w.heap.size,0,none⟩=some (.int .i64 1):=hx1.cell 0;have q1:=hx1.cell 1;have q2:=hx1.cell 2;simp only[Ua,Ub,Uc]at q1 q2;have a7:=SH (E:=3) (enc:=bH) w1 a b rfl rfl;have B1:=(hA.tr hb1).al (.cells ([a,b].map fun x=>Value.int .i64 x).toArray 3);go_wp2_with fail
     refine(rR nH _ [a,b] _ (a7.rd aJ (by decide)) (by decide) (by simp) (TY (by simp<;>omega)) (HT.out.below B1)).mono ?_;rintro e w2 ⟨rfl,hb2⟩;go_wp2;refine bodyPost_ret (v:= .tuple #[.string (nU nH [a,b]),.bool true]) (by simp[results,Uk,go_sem]) rfl ⟨rfl,B1.tr hb2⟩
   . skip;go_enter Ui,Uj
     go_wp2_with fail
     refine(mO _ _ _ _).mono ?_;rintro e w1 ⟨rfl,hb1⟩;obtain⟨hc1,bB,hz1⟩:=bk hb1;(try simp at hz1)
     have a6:w.heap.size<w1.heap.size:=(by omega);rw[a8.out];have hx1:=hx.below hb1 hx.lt;have q0:w1.cell? ⟨w.heap.size,0,none⟩=some (.int .i64 2):=hx1.cell 0;have q1:=hx1.cell 1;have q2:=hx1.cell 2;simp only[Ua,Ub,Uc]at q1 q2;have a7:=AQ (E:=3) (enc:=bH) w1 a rfl;have B1:=(hA.tr hb1).al (.cells ([a].map fun x=>Value.int .i64 x).toArray 3);go_wp2_with fail
     refine(rR jX _ [a] _ (a7.rd aJ (by decide)) (by decide) (by simp) (TY (by simp<;>omega)) (HT.out.below B1)).mono ?_;rintro e w2 ⟨rfl,hb2⟩;go_wp2;refine bodyPost_ret (v:= .tuple #[.string (nU jX [a]),.bool true]) (by simp[results,Uk,go_sem]) rfl ⟨rfl,B1.tr hb2⟩
   . skip;go_enter Ui,Uj
     go_wp2_with fail
     refine(mO _ _ _ _).mono ?_;rintro e w1 ⟨rfl,hb1⟩;obtain⟨hc1,bB,hz1⟩:=bk hb1;(try simp at hz1)
     have a6:w.heap.size<w1.heap.size:=(by omega);rw[a8.out];have hx1:=hx.below hb1 hx.lt;have q0:w1.cell? ⟨w.heap.size,0,none⟩=some (.int .i64 3):=hx1.cell 0;have q1:=hx1.cell 1;have q2:=hx1.cell 2;simp only[Ua,Ub,Uc]at q1 q2;have a7:=AQ (E:=3) (enc:=bH) w1 a rfl;have B1:=(hA.tr hb1).al (.cells ([a].map fun x=>Value.int .i64 x).toArray 3);go_wp2_with fail
     refine(rR wP _ [a] _ (a7.rd aJ (by decide)) (by decide) (by simp) (TY (by simp<;>omega)) (HT.out.below B1)).mono ?_;rintro e w2 ⟨rfl,hb2⟩;go_wp2;refine bodyPost_ret (v:= .tuple #[.string (nU wP [a]),.bool true]) (by simp[results,Uk,go_sem]) rfl ⟨rfl,B1.tr hb2⟩
   . skip;go_enter Ui,Uj
     go_wp2_with fail
     refine(mO _ _ _ _).mono ?_;rintro e w1 ⟨rfl,hb1⟩;obtain⟨hc1,bB,hz1⟩:=bk hb1;(try simp at hz1)
     have a6:w.heap.size<w1.heap.size:=(by omega);rw[a8.out];have hx1:=hx.below hb1 hx.lt;have q0:=hx1.cell 0;simp only[Ua,Ub,Uc]at q0;go_wp2;refine bodyPost_ret (v:= .tuple #[.string nI,.bool true]) (by simp[results,Uk,go_sem,nI]) rfl ⟨rfl,hA.tr hb1⟩
   . skip;go_enter Ui,Uj
     go_wp2_with fail
     refine(mO _ _ _ _).mono ?_;rintro e w1 ⟨rfl,hb1⟩;obtain⟨hc1,bB,hz1⟩:=bk hb1;(try simp at hz1)
     have a6:w.heap.size<w1.heap.size:=(by omega);rw[a8.out];have hx1:=hx.below hb1 hx.lt;have q0:=hx1.cell 0;simp only[Ua,Ub,Uc]at q0;go_wp2;refine bodyPost_ret (v:= .tuple #[.string jY,.bool true]) (by simp[results,Uk,go_sem,jY]) rfl ⟨rfl,hA.tr hb1⟩
end Go.Proofs.YtjijonhkofhikaaGreatDoor
namespace Go.Proofs.YtjijonhkofhikaaGreatDoor
open Go.RowKit
abbrev Bs:=List UInt8
def fg:Bs->Bs->List Bs
  |cur,[]=>if cur=[]then[]else[cur]
  |cur,c::r=>if c=32 then(if cur=[]then fg [] r else cur::fg [] r)else fg (cur++[c]) r
def xS (l:Bs):Prop:=∀b∈l,b≠32
theorem IM:∀(x cur r:Bs),xS x->fg cur (x++r)=fg (cur++x) r
  |[],cur,r,_=>by simp
  | c :: x, cur, r, h => by
   rw[List.cons_append,fg,if_neg (h c T9),IM x (cur++[c]) r (fun b hb=>h b (TZ _ hb)),List.append_assoc];rfl
theorem ME:∀(xs:List Bs) (cur:Bs),cur≠[]->(∀x∈xs,x≠[]/\xS x)->fg cur (Uf [32] xs)=cur::xs
  | [], cur, hc, _ => by
   show fg cur []=[cur];rw[fg,if_neg hc]
  | y :: xs, cur, hc, h => by
   have e:Uf [32] (y::xs)=32::(y++Uf [32] xs):=(by simp[Uf]);have hy:=h y T9;rw[e,fg,if_pos rfl,if_neg hc,IM y [] _ hy.2,List.nil_append,ME xs y hy.1 (fun x hx=>h x (TZ _ hx))]
theorem AR:∀(xs:List Bs),(∀x∈xs,x≠[]/\xS x)->fg [] (join xs [32])=xs
  |[],_=>rfl
  | y :: xs, h => by
   have hy:=h y T9;rw[Lib.join_cons,IM y [] _ hy.2,List.nil_append,ME xs y hy.1 (fun x hx=>h x (TZ _ hx))]
theorem Ja:∀(l cur:Bs),xS cur->∀x∈fg cur l,x≠[]/\xS x
  | [], cur, hc, x, hx => by
   rw[fg]at hx;by_cases h:cur=[]
   . rw[if_pos h]at hx;cases hx
   . rw[if_neg h]at hx;obtain rfl:x=cur:=by simpa using hx
     exact⟨h,hc⟩
  | c :: r, cur, hc, x, hx => by
   rw[fg]at hx;by_cases a6:c=32
   . rw[if_pos a6]at hx;by_cases h:cur=[]
     . rw[if_pos h]at hx;exact Ja r [] (fun _ h=>by cases h) x hx
     . rw[if_neg h]at hx;rcases List.mem_cons.1 hx with rfl|hx
       . exact⟨h,hc⟩
       . exact Ja r [] (fun _ h=>by cases h) x hx
   . rw[if_neg a6]at hx;refine Ja r (cur++[c]) (fun b hb=> ?_) x hx;rcases List.mem_append.1 hb with hb|hb
     . exact hc b hb
     . obtain rfl : b = c := by simpa using hb
       exact a6
theorem uW (u:Nat):∀b∈Ue u,48<=b.toNat/\b.toNat<=57:=by
 induction u using Nat.strongRecOn with
 |_ u ih=>
  intro b hb
  have one:∀d:Nat,d<10->48<=(UInt8.ofNat (48+d)).toNat/\(UInt8.ofNat (48+d)).toNat<=57:=by
   intro d hd;rw[UInt8.toNat_ofNat'];omega
  by_cases h:u<10
  . rw[Lib.decDigits_one h]at hb;rw[List.mem_singleton.1 hb];exact one u h
  . rw[Lib.decDigits.eq_1 u,dif_neg h]at hb;rcases List.mem_append.1 hb with hb|hb
    . exact ih (u/10) (by omega) b hb
    . rw[List.mem_singleton.1 hb];exact one (u%10) (by omega)
theorem Jb (u:Nat):Ue u≠[]:=by
 intro h;have:=Lib.decDigits_length u;have h2:=Lib.nDigits_pos u;rw[h]at this;simp at this;omega
def dv (a:Nat) (l:Bs):Nat:=l.foldl (fun a b=>10*a+(b.toNat-48)) a
theorem Ml (u:Nat):dv 0 (Ue u)=u:=by
 induction u using Nat.strongRecOn with
 |_ u ih=>
  by_cases h:u<10
  . rw[Lib.decDigits_one h];show 10*0+((UInt8.ofNat (48+u)).toNat-48)=u;rw[UInt8.toNat_ofNat'];omega
  . rw[Lib.decDigits.eq_1 u,dif_neg h];unfold dv at ih⊢;rw[List.foldl_append,ih (u/10) (by omega)];show 10*(u/10)+((UInt8.ofNat (48+u%10)).toNat-48)=u;rw[UInt8.toNat_ofNat'];omega
theorem DY {u v:Nat} (h:Ue u=Ue v):u=v:=by rw[<-Ml u,h,Ml]
theorem OZ {a b:Int} (ha:0<=a) (hb:0<=b) (h:kR a=kR b):a=b:=by
 have h1:Ue a.toNat=Ue b.toNat:=by
  have:=congrArg (fun x:ByteArray=>x.data.toList) h;simpa[kR]using this
 have:=DY h1;omega
theorem O0 {b:UInt8} (h:48<=b.toNat/\b.toNat<=57):Lib.digitVal b=some (b.toNat-48):=by
 unfold Lib.digitVal;split
 . rfl
 . rename_i h2;exact absurd h (by simpa using h2)
theorem DZ:∀(l:Bs) (a:Nat),(∀b∈l,48<=b.toNat/\b.toNat<=57)->Ug a l=some (dv a l)
  |[],a,_=>rfl
  | b :: l, a, h => by
   have hb:=O0 (h b T9);have ih:=DZ l (10*a+(b.toNat-48)) (fun x hx=>h x (TZ _ hx));unfold Ug;rw[hb];show Ug (a*10+(b.toNat-48)) l=_;rw[Nat.mul_comm a 10,ih];rfl
theorem O3 (u:Nat):atoi (Ue u)=some (u:Int):=by
 have hd:=uW u;have hv:=Ml u;have hn:=Jb u;cases h:Ue u with
 |nil=>exact absurd h hn
 |cons b r=>
  rw[h]at hd hv;have hb:=hd b T9
  have a6:(b==45)=false:=by
   rw[beq_eq_false_iff_ne];intro e;rw[e]at hb;exact absurd hb (by decide)
  have a7:(b==43)=false:=by
   rw[beq_eq_false_iff_ne];intro e;rw[e]at hb;exact absurd hb (by decide)
  unfold atoi;simp only[a6,a7,Bool.false_eq_true,if_false]
  have:Lib.decNat (b::r)=some u:=by
   show Ug 0 (b::r)=some u;rw[DZ _ _ hd,hv]
  rw[this];rfl
theorem Ea:∀(k u:Nat),u<10^(k+1)->Lib.nDigits u<=k+1
  |0,u,h=>by rw[Lib.nDigits_small (by simpa using h)];exact Ud _
  | k + 1, u, h => by
   by_cases h10:u<10
   . rw[Lib.nDigits_small h10];omega
   . rw[Lib.nDigits_big h10];have:=Ea k (u/10) (by rw[Nat.pow_succ]at h;omega);omega
theorem JB {n:Int} (h0:0<=n) (h1:n<=1000000000):(kR n).size<=10:=by
 have h2:=Ea 9 n.toNat (by omega);rw[<-Lib.decDigits_length]at h2;simpa[kR,ByteArray.size]using h2
open Classical in
noncomputable def puN (s:ByteArray):Int:=if h:∃n:Int,(0<=n/\n<=1000000000)/\kR n=s then h.choose else 0
open Classical in
noncomputable def puB (s:ByteArray):Bool:=decide (∃n:Int,(0<=n/\n<=1000000000)/\kR n=s)
theorem QD {n:Int} {s:ByteArray} (h0:0<=n) (h1:n<=1000000000) (hs:kR n=s):puN s=n/\puB s=true:=by
 have hx:∃n:Int,(0<=n/\n<=1000000000)/\kR n=s:=⟨n,⟨h0,h1⟩,hs⟩;refine⟨?_,?_⟩
 . unfold puN;rw[dif_pos hx];exact OZ hx.choose_spec.1.1 h0 (hx.choose_spec.2.trans hs.symm)
 . unfold puB;simp only[decide_eq_true_eq];exact hx
theorem K6 {s:ByteArray} (h:∀n:Int,0<=n->n<=1000000000->kR n≠s):puN s=0/\puB s=false:=by
 have hx:¬∃n:Int,(0<=n/\n<=1000000000)/\kR n=s:=fun⟨n,hn,e⟩=>h n hn.1 hn.2 e
 refine⟨?_,?_⟩
 . unfold puN;rw[dif_neg hx]
 . unfold puB;simp only[decide_eq_false_iff_not];exact hx
def toB (l:Bs):ByteArray:=⟨l.toArray⟩
theorem wQ (l:Bs):(toB l).data.toList=l:=rfl
theorem MF {a b:Bs} (h:toB a=toB b):a=b:=by
 have:=congrArg (fun x:ByteArray=>x.data.toList) h;exact this
theorem Fb (s:ByteArray):toB s.data.toList=s:=by cases s;rfl
def uX (k a b:Int):List Bs:=
 if k=1 then[nH.data.toList,Ue a.toNat,Ue b.toNat]else if k=2 then[jX.data.toList,Ue a.toNat]else if k=3 then[wP.data.toList,Ue a.toNat]
 else if k=4 then[nI.data.toList]else[jY.data.toList]
theorem yM (word : ByteArray) (l : List Int) : nU word l = toB (join (word.data.toList :: l.map fun x => Ue x.toNat) [32]) := by
 rw[<-DX];unfold toB;simp[kR,Function.comp_def]
theorem yN {k a b:Int} (h:iP k a b=true):rT k a b=toB (join (uX k a b) [32]):=by
 rcases mR h with⟨rfl,_⟩|⟨rfl,_⟩|⟨rfl,_⟩|⟨rfl,_⟩|⟨rfl,_⟩
 . exact yM nH [a,b]
 . exact yM jX [a]
 . exact yM wP [a]
 . show nI=toB (join [nI.data.toList] [32]);rw[Lib.join_one];rfl
 . show jY=toB (join [jY.data.toList] [32]);rw[Lib.join_one];rfl
theorem QE (u:Nat):Ue u≠[]/\xS (Ue u):=by
 refine⟨Jb u,fun b hb e=> ?_⟩;have:=uW u b hb;rw[e]at this;exact absurd this (by decide)
theorem MG (k a b:Int):∀x∈uX k a b,x≠[]/\xS x:=by
 have w1:nH.data.toList≠[]/\xS nH.data.toList:=⟨by decide,by unfold xS;decide⟩;have w2:jX.data.toList≠[]/\xS jX.data.toList:=⟨by decide,by unfold xS;decide⟩;have w3:wP.data.toList≠[]/\xS wP.data.toList:=⟨by decide,by unfold xS;decide⟩;have w4:nI.data.toList≠[]/\xS nI.data.toList:=⟨by decide,by unfold xS;decide⟩;have w5:jY.data.toList≠[]/\xS jY.data.toList:=⟨by decide,by unfold xS;decide⟩;have da:=QE a.toNat;have db:=QE b.toNat;intro x hx;unfold uX at hx;split at hx
 . rcases List.mem_cons.1 hx with rfl|hx
   . exact w1
   . rcases List.mem_cons.1 hx with rfl|hx
     . exact da
     . obtain rfl : x = _ := by simpa using hx
       exact db
 . split at hx
   . rcases List.mem_cons.1 hx with rfl|hx
     . exact w2
     . obtain rfl : x = _ := by simpa using hx
       exact da
   . split at hx
     . rcases List.mem_cons.1 hx with rfl|hx
       . exact w3
       . obtain rfl : x = _ := by simpa using hx
         exact da
     . split at hx
       . obtain rfl : x = _ := by simpa using hx
         exact w4
       . obtain rfl : x = _ := by simpa using hx
         exact w5
theorem Fe {k a b:Int} (h:iP k a b=true) {xs:List Bs} (hx:∀x∈xs,x≠[]/\xS x) (e:rT k a b=toB (join xs [32])):xs=uX k a b:=by
 rw[yN h]at e;have:=congrArg (fg []) (MF e);rw[AR _ (MG k a b),AR _ hx]at this;exact this.symm
theorem O5 {k a b k' a' b':Int} (h:iP k a b=true) (h':iP k' a' b'=true) (e:uX k a b=uX k' a' b'):k=k'/\a=a'/\b=b':=by
 have wd:∀{x y:ByteArray} {l m:List Bs},x.data.toList::l=y.data.toList::m->x.data.toList=y.data.toList:=fun e=>(List.cons.inj e).1
 rcases mR h with⟨rfl,q1,q2,q3,q4⟩|⟨rfl,q1,q2,rfl⟩|⟨rfl,q1,q2,rfl⟩|⟨rfl,rfl,rfl⟩|⟨rfl,rfl,rfl⟩<;>
 rcases mR h' with⟨rfl,p1,p2,p3,p4⟩|⟨rfl,p1,p2,rfl⟩|⟨rfl,p1,p2,rfl⟩|⟨rfl,rfl,rfl⟩|⟨rfl,rfl,rfl⟩<;>
 first
   |exact absurd (wd e) (by decide)
   |exact⟨rfl,rfl,rfl⟩
   | (have e1 := (List.cons.inj e).2
      have e2:=DY (List.cons.inj e1).1;have e3:=DY (List.cons.inj (List.cons.inj e1).2).1;exact⟨rfl,by omega,by omega⟩)
   | (have e1 := (List.cons.inj e).2
      have e2:=DY (List.cons.inj e1).1;exact⟨rfl,by omega,rfl⟩)
end Go.Proofs.YtjijonhkofhikaaGreatDoor
namespace Go.Proofs.YtjijonhkofhikaaGreatDoor
open Go.ChangeShapes Go.WideShapes Go.ChangeAt Go.RowKit
def Syn (w:World):Prop:=∃ev:Value,w.cell? ⟨4,0,none⟩=some ev/\(ev= .nilIface∨∃te pe,ev= .iface te pe)
theorem Syn.below {w w':World} (h:Syn w) (hb:Below w.heap.size w w'):Syn w':=by
 obtain⟨ev,h1,h2⟩:=h;exact⟨ev,(hb.cell (show(⟨4,0,none⟩:Addr).block<w.heap.size from Lib.lt_of_cell h1)).trans h1,h2⟩
theorem Rh {s : ByteArray} (h : 10 < s.size) : puN s = 0 /\ puB s = false := K6 fun n h0 h1 e => by
 have:=JB h0 h1;rw[e]at this;omega
theorem Bp {n:Int} {s:ByteArray} (h0:0<=n) (e:kR n=s):atoi s.data.toList=some n:=by
 rw[<-e];have:=O3 n.toNat;rw[Int.toNat_of_nonneg h0]at this;exact this
theorem SI {s : ByteArray} (h : atoi s.data.toList = none) : puN s = 0 /\ puB s = false := K6 fun n h0 h1 e => by
 rw[Bp h0 e]at h;cases h
theorem SK {s : ByteArray} {n : Int} (h : atoi s.data.toList = some n) (hn : inB n 0 1000000000 = false) : puN s = 0 /\ puB s = false := K6 fun m h0 h1 e => by
 rw[Bp h0 e]at h;cases h;simp[inB]at hn;omega
theorem TH {s : ByteArray} {n : Int} (h : atoi s.data.toList = some n) (hn : kR n ≠ s) : puN s = 0 /\ puB s = false := K6 fun m h0 h1 e => by
 have h2:=Bp h0 e;rw[h]at h2;cases h2;exact hn e
theorem Ff {a b:ByteArray} (h:a=b):(a.toList==b.toList)=true:=by rw[h];exact beq_self_eq_true _
theorem Fg {a b:ByteArray} (h:a≠b):(a.toList==b.toList)=false:=by
 rw[beq_eq_false_iff_ne];exact fun e=>h (str_inj.1 e)
theorem MH (s:ByteArray) (w:World) (ht:Tab w) (hs:Syn w):Calls prog 47 #[.string s] w (Ret (.tuple #[.int .i64 (puN s),.bool (puB s)]) w):=by
 have HT:=TY ht;clear ht;by_cases h10:s.size<=10
 . have n10 : ¬ ((10 : Int) < (s.size : Int)) := by omega
   rcases ha:atoi s.data.toList with _|n
   . obtain⟨ev,hv,a7⟩:=hs;have Hp:=TY (SI ha);go_enter func47,Ul
     go_wp2_with fail
     refine(Tryz.strconv_Atoi_err s (by omega) ha ev _ hv a7).mono ?_;rintro e w1 ⟨N,rfl,_,_,hb1⟩;go_wp2;refine bodyPost_ret (v:= .tuple #[.int .i64 0,.bool false]) (by simp[results,Um,go_sem]) rfl ⟨by rw[Hp.out.1,Hp.out.2],hb1⟩
   . have Ha:=TY ha;go_enter func47,Ul
     go_wp2_with fail
     refine(Tryz.strconv_Atoi s n (by omega) ha _).mono ?_;rintro e w1 ⟨rfl,t,a6⟩;have hb1:Below w.heap.size w w1:=by rw[a6];exact Lib.bytesWorld_below _ _ _
     clear a6 ha;rcases hi:inB n 0 1000000000 with _|_
     . have Hp:=TY (SK Ha.out hi);go_wp2_with fail
       refine(dI n 0 1000000000 _).mono ?_;rintro e w2 ⟨rfl,rfl⟩;rw[hi];go_wp2;refine bodyPost_ret (v:= .tuple #[.int .i64 0,.bool false]) (by simp[results,Um,go_sem]) rfl ⟨by rw[Hp.out.1,Hp.out.2],hb1⟩
     . have hr : 0 <= n /\ n <= 1000000000 := by simp [inB] at hi; exact hi
       go_wp2_with fail
       refine(dI n 0 1000000000 _).mono ?_;rintro e w2 ⟨rfl,rfl⟩;rw[hi];clear hi;go_wp2_with fail
       refine(uA n _ hr.1 (by omega) (HT.out.below hb1)).mono ?_;rintro e w3 ⟨rfl,hb2⟩;by_cases he:kR n=s
       . have Hp:=TY (QD hr.1 hr.2 he);have neq:=Ff he;clear he;go_wp2;refine bodyPost_ret (v:= .tuple #[.int .i64 n,.bool true]) (by simp[results,Um,go_sem]) rfl ⟨by rw[Hp.out.1,Hp.out.2],hb1.tr hb2⟩
       . have Hp:=TY (TH Ha.out he);have neq:=Fg he;clear he;go_wp2;refine bodyPost_ret (v:= .tuple #[.int .i64 0,.bool false]) (by simp[results,Um,go_sem]) rfl ⟨by rw[Hp.out.1,Hp.out.2],hb1.tr hb2⟩
 . have n10 : (10 : Int) < (s.size : Int) := by omega
   have Hp:=TY (Rh (s:=s) (by omega));go_enter func47,Ul
   go_wp2;refine bodyPost_ret (v:= .tuple #[.int .i64 0,.bool false]) (by simp[results,Um,go_sem]) rfl ⟨by rw[Hp.out.1,Hp.out.2],Below.refl _ _⟩
end Go.Proofs.YtjijonhkofhikaaGreatDoor
