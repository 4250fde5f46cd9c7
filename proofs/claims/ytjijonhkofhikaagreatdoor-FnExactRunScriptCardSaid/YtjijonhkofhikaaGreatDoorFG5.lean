import Derived.Test.YtjijonhkofhikaaGreatDoorFFmtAct
open _root_.List renaming mem_cons_self->Tm,mem_cons_of_mem->Tn
open _root_.Go.Lib (join atoi)
open _root_.Go.Lib renaming joinTail->Tp,decDigits->Tq,decFrom->Tt
open _root_.Go.Proofs.Tryz renaming ntmps47->Tu,results47->Tv,results110->Tw
set_option linter.unusedVariables false
set_option linter.unusedSimpArgs false
set_option maxHeartbeats 4000000
set_option maxRecDepth 100000
namespace Go.Proofs.YtjijonhkofhikaaGreatDoor
open Go.RowKit
abbrev Bs:=List UInt8
def fg:Bs->Bs->List Bs
  |cur,[]=>if cur=[]then[]else[cur]
  |cur,c::r=>if c=32 then(if cur=[]then fg [] r else cur::fg [] r)else fg (cur++[c]) r
def xU (l:Bs):Prop:=∀b∈l,b≠32
theorem Ik:∀(x cur r:Bs),xU x->fg cur (x++r)=fg (cur++x) r
  |[],cur,r,_=>by simp
  | c :: x, cur, r, h => by
   rw[List.cons_append,fg,if_neg (h c Tm),Ik x (cur++[c]) r (fun b hb=>h b (Tn _ hb)),List.append_assoc];rfl
theorem Mi:∀(xs:List Bs) (cur:Bs),cur≠[]->(∀x∈xs,x≠[]/\xU x)->fg cur (Tp [32] xs)=cur::xs
  | [], cur, hc, _ => by
   show fg cur []=[cur];rw[fg,if_neg hc]
  | y :: xs, cur, hc, h => by
   have e:Tp [32] (y::xs)=32::(y++Tp [32] xs):=(by simp[Tp]);have hy:=h y Tm;rw[e,fg,if_pos rfl,if_neg hc,Ik y [] _ hy.2,List.nil_append,Mi xs y hy.1 (fun x hx=>h x (Tn _ hx))]
theorem Dv:∀(xs:List Bs),(∀x∈xs,x≠[]/\xU x)->fg [] (join xs [32])=xs
  |[],_=>rfl
  | y :: xs, h => by
   have hy:=h y Tm;rw[Lib.join_cons,Ik y [] _ hy.2,List.nil_append,Mi xs y hy.1 (fun x hx=>h x (Tn _ hx))]
theorem IQ:∀(l cur:Bs),xU cur->∀x∈fg cur l,x≠[]/\xU x
  | [], cur, hc, x, hx => by
   rw[fg]at hx;by_cases h:cur=[]
   . rw[if_pos h]at hx;cases hx
   . rw[if_neg h]at hx;obtain rfl:x=cur:=by simpa using hx
     exact⟨h,hc⟩
  | c :: r, cur, hc, x, hx => by
   rw[fg]at hx;by_cases a6:c=32
   . rw[if_pos a6]at hx;by_cases h:cur=[]
     . rw[if_pos h]at hx;exact IQ r [] (fun _ h=>by cases h) x hx
     . rw[if_neg h]at hx;rcases List.mem_cons.1 hx with rfl|hx
       . exact⟨h,hc⟩
       . exact IQ r [] (fun _ h=>by cases h) x hx
   . rw[if_neg a6]at hx;refine IQ r (cur++[c]) (fun b hb=> ?_) x hx;rcases List.mem_append.1 hb with hb|hb
     . exact hc b hb
     . obtain rfl : b = c := by simpa using hb
       exact a6
theorem uZ (u:Nat):∀b∈Tq u,48<=b.toNat/\b.toNat<=57:=by
 induction u using Nat.strongRecOn with
 |_ u ih=>
  intro b hb
  have one:∀d:Nat,d<10->48<=(UInt8.ofNat (48+d)).toNat/\(UInt8.ofNat (48+d)).toNat<=57:=by
   intro d hd;rw[UInt8.toNat_ofNat'];omega
  by_cases h:u<10
  . rw[Lib.decDigits_one h]at hb;rw[List.mem_singleton.1 hb];exact one u h
  . rw[Lib.decDigits.eq_1 u,dif_neg h]at hb;rcases List.mem_append.1 hb with hb|hb
    . exact ih (u/10) (by omega) b hb
    . rw[List.mem_singleton.1 hb];exact one (u%10) (by omega)
theorem IU (u:Nat):Tq u≠[]:=by
 intro h;have:=Lib.decDigits_length u;have h2:=Lib.nDigits_pos u;rw[h]at this;simp at this;omega
def dv (a:Nat) (l:Bs):Nat:=l.foldl (fun a b=>10*a+(b.toNat-48)) a
theorem IV (u:Nat):dv 0 (Tq u)=u:=by
 induction u using Nat.strongRecOn with
 |_ u ih=>
  by_cases h:u<10
  . rw[Lib.decDigits_one h];show 10*0+((UInt8.ofNat (48+u)).toNat-48)=u;rw[UInt8.toNat_ofNat'];omega
  . rw[Lib.decDigits.eq_1 u,dif_neg h];unfold dv at ih⊢;rw[List.foldl_append,ih (u/10) (by omega)];show 10*(u/10)+((UInt8.ofNat (48+u%10)).toNat-48)=u;rw[UInt8.toNat_ofNat'];omega
theorem Dw {u v:Nat} (h:Tq u=Tq v):u=v:=by rw[<-IV u,h,IV]
theorem OV {a b:Int} (ha:0<=a) (hb:0<=b) (h:iJ a=iJ b):a=b:=by
 have h1:Tq a.toNat=Tq b.toNat:=by
  have:=congrArg (fun x:ByteArray=>x.data.toList) h;simpa[iJ]using this
 have:=Dw h1;omega
theorem OW {b:UInt8} (h:48<=b.toNat/\b.toNat<=57):Lib.digitVal b=some (b.toNat-48):=by
 unfold Lib.digitVal;split
 . rfl
 . rename_i h2;exact absurd h (by simpa using h2)
theorem Dx:∀(l:Bs) (a:Nat),(∀b∈l,48<=b.toNat/\b.toNat<=57)->Tt a l=some (dv a l)
  |[],a,_=>rfl
  | b :: l, a, h => by
   have hb:=OW (h b Tm);have ih:=Dx l (10*a+(b.toNat-48)) (fun x hx=>h x (Tn _ hx));unfold Tt;rw[hb];show Tt (a*10+(b.toNat-48)) l=_;rw[Nat.mul_comm a 10,ih];rfl
theorem OX (u:Nat):atoi (Tq u)=some (u:Int):=by
 have hd:=uZ u;have hv:=IV u;have hn:=IU u;cases h:Tq u with
 |nil=>exact absurd h hn
 |cons b r=>
  rw[h]at hd hv;have hb:=hd b Tm
  have a6:(b==45)=false:=by
   rw[beq_eq_false_iff_ne];intro e;rw[e]at hb;exact absurd hb (by decide)
  have a7:(b==43)=false:=by
   rw[beq_eq_false_iff_ne];intro e;rw[e]at hb;exact absurd hb (by decide)
  unfold atoi;simp only[a6,a7,Bool.false_eq_true,if_false]
  have:Lib.decNat (b::r)=some u:=by
   show Tt 0 (b::r)=some u;rw[Dx _ _ hd,hv]
  rw[this];rfl
theorem Dy:∀(k u:Nat),u<10^(k+1)->Lib.nDigits u<=k+1
  |0,u,h=>by rw[Lib.nDigits_small (by simpa using h)];exact Nat.le_refl _
  | k + 1, u, h => by
   by_cases h10:u<10
   . rw[Lib.nDigits_small h10];omega
   . rw[Lib.nDigits_big h10];have:=Dy k (u/10) (by rw[Nat.pow_succ]at h;omega);omega
theorem Js {n:Int} (h0:0<=n) (h1:n<=1000000000):(iJ n).size<=10:=by
 have h2:=Dy 9 n.toNat (by omega);rw[<-Lib.decDigits_length]at h2;simpa[iJ,ByteArray.size]using h2
open Classical in
noncomputable def puN (s:ByteArray):Int:=if h:∃n:Int,(0<=n/\n<=1000000000)/\iJ n=s then h.choose else 0
open Classical in
noncomputable def puB (s:ByteArray):Bool:=decide (∃n:Int,(0<=n/\n<=1000000000)/\iJ n=s)
theorem IW {n:Int} {s:ByteArray} (h0:0<=n) (h1:n<=1000000000) (hs:iJ n=s):puN s=n/\puB s=true:=by
 have hx:∃n:Int,(0<=n/\n<=1000000000)/\iJ n=s:=⟨n,⟨h0,h1⟩,hs⟩;refine⟨?_,?_⟩
 . unfold puN;rw[dif_pos hx];exact OV hx.choose_spec.1.1 h0 (hx.choose_spec.2.trans hs.symm)
 . unfold puB;simp only[decide_eq_true_eq];exact hx
theorem Dz {s:ByteArray} (h:∀n:Int,0<=n->n<=1000000000->iJ n≠s):puN s=0/\puB s=false:=by
 have hx:¬∃n:Int,(0<=n/\n<=1000000000)/\iJ n=s:=fun⟨n,hn,e⟩=>h n hn.1 hn.2 e
 refine⟨?_,?_⟩
 . unfold puN;rw[dif_neg hx]
 . unfold puB;simp only[decide_eq_false_iff_not];exact hx
theorem SK (s:ByteArray):0<=puN s/\puN s<=1000000000:=by
 by_cases hx:∃n:Int,(0<=n/\n<=1000000000)/\iJ n=s
 . obtain⟨n,hn,e⟩:=hx;rw[(IW hn.1 hn.2 e).1];exact hn
 . rw[(Dz (fun n h0 h1 e=>hx ⟨n,⟨h0,h1⟩,e⟩)).1];omega
def toB (l:Bs):ByteArray:=⟨l.toArray⟩
theorem rD (l:Bs):(toB l).data.toList=l:=rfl
theorem Mj {a b:Bs} (h:toB a=toB b):a=b:=by
 have:=congrArg (fun x:ByteArray=>x.data.toList) h;exact this
theorem Ai (s:ByteArray):toB s.data.toList=s:=by cases s;rfl
def KW (k a b:Int):List Bs:=
 if k=1 then[mF.data.toList,Tq a.toNat,Tq b.toNat]else if k=2 then[jB.data.toList,Tq a.toNat]else if k=3 then[tJ.data.toList,Tq a.toNat]
 else if k=4 then[nI.data.toList]else[kD.data.toList]
theorem yN (word : ByteArray) (l : List Int) : iA word l = toB (join (word.data.toList :: l.map fun x => Tq x.toNat) [32]) := by
 rw[<-Du];unfold toB;simp[iJ,Function.comp_def]
theorem KX {k a b:Int} (h:jW k a b=true):sV k a b=toB (join (KW k a b) [32]):=by
 rcases mY h with⟨rfl,_⟩|⟨rfl,_⟩|⟨rfl,_⟩|⟨rfl,_⟩|⟨rfl,_⟩
 . exact yN mF [a,b]
 . exact yN jB [a]
 . exact yN tJ [a]
 . show nI=toB (join [nI.data.toList] [32]);rw[Lib.join_one];rfl
 . show kD=toB (join [kD.data.toList] [32]);rw[Lib.join_one];rfl
theorem Qq (u:Nat):Tq u≠[]/\xU (Tq u):=by
 refine⟨IU u,fun b hb e=> ?_⟩;have:=uZ u b hb;rw[e]at this;exact absurd this (by decide)
theorem Q4 (k a b:Int):∀x∈KW k a b,x≠[]/\xU x:=by
 have w1:mF.data.toList≠[]/\xU mF.data.toList:=⟨by decide,by unfold xU;decide⟩;have w2:jB.data.toList≠[]/\xU jB.data.toList:=⟨by decide,by unfold xU;decide⟩;have w3:tJ.data.toList≠[]/\xU tJ.data.toList:=⟨by decide,by unfold xU;decide⟩;have w4:nI.data.toList≠[]/\xU nI.data.toList:=⟨by decide,by unfold xU;decide⟩;have w5:kD.data.toList≠[]/\xU kD.data.toList:=⟨by decide,by unfold xU;decide⟩;have da:=Qq a.toNat;have db:=Qq b.toNat;intro x hx;unfold KW at hx;split at hx
 . rcases List.mem_cons.1 hx with rfl|hx
   . exact w1
   . rcases List.mem_cons.1 hx with rfl|hx
     . exact da
     . obtain rfl : x = _ := by simpa using hx
       exact db
 . split at hx
   . rcases List.mem_cons.1 hx with rfl|hx
     . exact w2
     . obtain rfl : x = _ := by simpa using hx
       exact da
   . split at hx
     . rcases List.mem_cons.1 hx with rfl|hx
       . exact w3
       . obtain rfl : x = _ := by simpa using hx
         exact da
     . split at hx
       . obtain rfl : x = _ := by simpa using hx
         exact w4
       . obtain rfl : x = _ := by simpa using hx
         exact w5
theorem EY {k a b:Int} (h:jW k a b=true) {xs:List Bs} (hx:∀x∈xs,x≠[]/\xU x) (e:sV k a b=toB (join xs [32])):xs=KW k a b:=by
 rw[KX h]at e;have:=congrArg (fg []) (Mj e);rw[Dv _ (Q4 k a b),Dv _ hx]at this;exact this.symm
theorem OY {k a b k' a' b':Int} (h:jW k a b=true) (h':jW k' a' b'=true) (e:KW k a b=KW k' a' b'):k=k'/\a=a'/\b=b':=by
 have wd:∀{x y:ByteArray} {l m:List Bs},x.data.toList::l=y.data.toList::m->x.data.toList=y.data.toList:=fun e=>(List.cons.inj e).1
 rcases mY h with⟨rfl,q1,q2,q3,q4⟩|⟨rfl,q1,q2,rfl⟩|⟨rfl,q1,q2,rfl⟩|⟨rfl,rfl,rfl⟩|⟨rfl,rfl,rfl⟩<;>
 rcases mY h' with⟨rfl,p1,p2,p3,p4⟩|⟨rfl,p1,p2,rfl⟩|⟨rfl,p1,p2,rfl⟩|⟨rfl,rfl,rfl⟩|⟨rfl,rfl,rfl⟩<;>
 first
   |exact absurd (wd e) (by decide)
   |exact⟨rfl,rfl,rfl⟩
   | (have e1 := (List.cons.inj e).2
      have e2:=Dw (List.cons.inj e1).1;have e3:=Dw (List.cons.inj (List.cons.inj e1).2).1;exact⟨rfl,by omega,by omega⟩)
   | (have e1 := (List.cons.inj e).2
      have e2:=Dw (List.cons.inj e1).1;exact⟨rfl,by omega,rfl⟩)
end Go.Proofs.YtjijonhkofhikaaGreatDoor
namespace Go.Proofs.YtjijonhkofhikaaGreatDoor
open Go.ChangeShapes Go.WideShapes Go.ChangeAt Go.RowKit
def Syn (w:World):Prop:=∃ev:Value,w.cell? ⟨4,0,none⟩=some ev/\(ev= .nilIface∨∃te pe,ev= .iface te pe)
theorem Syn.below {w w':World} (h:Syn w) (hb:Below w.heap.size w w'):Syn w':=by
 obtain⟨ev,h1,h2⟩:=h;exact⟨ev,(hb.cell (show(⟨4,0,none⟩:Addr).block<w.heap.size from Lib.lt_of_cell h1)).trans h1,h2⟩
theorem Mk {s : ByteArray} (h : 10 < s.size) : puN s = 0 /\ puB s = false := Dz fun n h0 h1 e => by
 have:=Js h0 h1;rw[e]at this;omega
theorem Be {n:Int} {s:ByteArray} (h0:0<=n) (e:iJ n=s):atoi s.data.toList=some n:=by
 rw[<-e];have:=OX n.toNat;rw[Int.toNat_of_nonneg h0]at this;exact this
theorem R9 {s : ByteArray} (h : atoi s.data.toList = none) : puN s = 0 /\ puB s = false := Dz fun n h0 h1 e => by
 rw[Be h0 e]at h;cases h
theorem Sa {s : ByteArray} {n : Int} (h : atoi s.data.toList = some n) (hn : inB n 0 1000000000 = false) : puN s = 0 /\ puB s = false := Dz fun m h0 h1 e => by
 rw[Be h0 e]at h;cases h;simp[inB]at hn;omega
theorem SL {s : ByteArray} {n : Int} (h : atoi s.data.toList = some n) (hn : iJ n ≠ s) : puN s = 0 /\ puB s = false := Dz fun m h0 h1 e => by
 have h2:=Be h0 e;rw[h]at h2;cases h2;exact hn e
theorem wV {a b:ByteArray} (h:a=b):(a.toList==b.toList)=true:=by rw[h];exact beq_self_eq_true _
theorem wW {a b:ByteArray} (h:a≠b):(a.toList==b.toList)=false:=by
 rw[beq_eq_false_iff_ne];exact fun e=>h (str_inj.1 e)
theorem Ml (s:ByteArray) (w:World) (ht:Tab w) (hs:Syn w):Calls Tryz.prog 47 #[.string s] w (Ret (.tuple #[.int .i64 (puN s),.bool (puB s)]) w):=by
 have HT:=Tk ht;clear ht;by_cases h10:s.size<=10
 . have n10 : ¬ ((10 : Int) < (s.size : Int)) := by omega
   rcases ha:atoi s.data.toList with _|n
   . obtain⟨ev,hv,a7⟩:=hs;have Hp:=Tk (R9 ha);go_enter Tryz.func47,Tu
     go_wp2_with fail
     refine(Tryz.strconv_Atoi_err s (by omega) ha ev _ hv a7).mono ?_;rintro e w1 ⟨N,rfl,_,_,hb1⟩;go_wp2;refine bodyPost_ret (v:= .tuple #[.int .i64 0,.bool false]) (by simp[results,Tv,go_sem]) rfl ⟨by rw[Hp.out.1,Hp.out.2],hb1⟩
   . have Ha:=Tk ha;go_enter Tryz.func47,Tu
     go_wp2_with fail
     refine(Tryz.strconv_Atoi s n (by omega) ha _).mono ?_;rintro e w1 ⟨rfl,t,a6⟩;have hb1:Below w.heap.size w w1:=by rw[a6];exact Lib.bytesWorld_below _ _ _
     clear a6 ha;rcases hi:inB n 0 1000000000 with _|_
     . have Hp:=Tk (Sa Ha.out hi);go_wp2_with fail
       refine(dI n 0 1000000000 _).mono ?_;rintro e w2 ⟨rfl,rfl⟩;rw[hi];go_wp2;refine bodyPost_ret (v:= .tuple #[.int .i64 0,.bool false]) (by simp[results,Tv,go_sem]) rfl ⟨by rw[Hp.out.1,Hp.out.2],hb1⟩
     . have hr : 0 <= n /\ n <= 1000000000 := by simp [inB] at hi; exact hi
       go_wp2_with fail
       refine(dI n 0 1000000000 _).mono ?_;rintro e w2 ⟨rfl,rfl⟩;rw[hi];clear hi;go_wp2_with fail
       refine(uC n _ hr.1 (by omega) (HT.out.below hb1)).mono ?_;rintro e w3 ⟨rfl,hb2⟩;by_cases he:iJ n=s
       . have Hp:=Tk (IW hr.1 hr.2 he);have neq:=wV he;clear he;go_wp2;refine bodyPost_ret (v:= .tuple #[.int .i64 n,.bool true]) (by simp[results,Tv,go_sem]) rfl ⟨by rw[Hp.out.1,Hp.out.2],hb1.tr hb2⟩
       . have Hp:=Tk (SL Ha.out he);have neq:=wW he;clear he;go_wp2;refine bodyPost_ret (v:= .tuple #[.int .i64 0,.bool false]) (by simp[results,Tv,go_sem]) rfl ⟨by rw[Hp.out.1,Hp.out.2],hb1.tr hb2⟩
 . have n10 : (10 : Int) < (s.size : Int) := by omega
   have Hp:=Tk (Mk (s:=s) (by omega));go_enter Tryz.func47,Tu
   go_wp2;refine bodyPost_ret (v:= .tuple #[.int .i64 0,.bool false]) (by simp[results,Tv,go_sem]) rfl ⟨by rw[Hp.out.1,Hp.out.2],Below.refl _ _⟩
theorem Qr {s : ByteArray} {k : Nat} (hk : k < s.size) (h : s[k].toNat < 48 ∨ 57 < s[k].toNat) : puN s = 0 /\ puB s = false := Dz fun n h0 h1 e => by
 subst e
 have h2:k<(Tq n.toNat).length:=by
  have:(iJ n).size=(Tq n.toNat).length:=(by simp[iJ,ByteArray.size]);omega
 have h3:=uZ n.toNat _ (List.getElem_mem h2);have h4:48<=(iJ n)[k].toNat/\(iJ n)[k].toNat<=57:=h3;omega
theorem Q5 {s:ByteArray} {k:Nat} (hk:k<s.size):dv 0 (s.data.toList.take (k+1))=10*dv 0 (s.data.toList.take k)+(s[k].toNat-48):=by
 have h':k<s.data.toList.length:=by rw[Array.length_toList];exact hk
 rw[List.take_succ_eq_append_getElem h'];unfold dv;rw[List.foldl_append];rfl
theorem SN {s : ByteArray} {n : Nat} (h : dv 0 (s.data.toList.take s.size) = n) : (1000000000 < n ∨ iJ n ≠ s) -> puN s = 0 /\ puB s = false := fun hn => Dz fun m h0 h1 e => by
 have h2:s.data.toList.take s.size=s.data.toList:=List.take_of_length_le (by rw[Array.length_toList];exact Nat.le_refl _);rw[h2]at h;have h3:s.data.toList=Tq m.toNat:=by rw[<-e];rfl
 rw[h3,IV]at h;have h4:(n:Int)=m:=(by omega);rcases hn with hn|hn
 . omega
 . exact hn (by rw[h4];exact e)
theorem Il (s:ByteArray) (w:World):Calls Tryz.prog 110 #[.string s] w (Ret (.tuple #[.int .i64 (puN s),.bool (puB s)]) w):=by
 by_cases h10:s.size<=10
 . have n10 : ¬ ((10 : Int) < (s.size : Int)) := by omega
   go_enter Tryz.func110,Tryz.ntmps110
   go_wp2;go_loopw [4,5] (fun s4 s5 wr=>∃(k n:Nat),k<=s.size/\s5= .int .i64 k/\s4= .int .i64 n/\n<10^k/\Hid (dv 0 (s.data.toList.take k)=n)/\Below w.heap.size w wr) (fun _ i _=>s.size-(intOf i).toNat)
   case atStart=>exact⟨0,0,Nat.zero_le _,rfl,rfl,by omega,Tk rfl,Below.refl _ _⟩
   case round=>
    obtain⟨k,n,hk,rfl,rfl,hn,Hd,a6⟩:=hrel;have a7:n<10^10:=Nat.lt_of_lt_of_le hn (Nat.pow_le_pow_right (by omega) (by omega));have Hn:=Tk hn;clear hn;have a7:n<10000000000:=a7;by_cases hlt:k<s.size
    . have bD : (k : Int) < (s.size : Int) := by omega
      by_cases bA:s[k].toNat<48
      . have i1 : ((s[k].toNat : Nat) : Int) < 48 := by omega
        have Hp:=Tk (Qr hlt (.inl bA));go_wp2;refine bodyPost_ret (v:= .tuple #[.int .i64 0,.bool false]) (by simp[results,Tw,go_sem]) rfl ⟨by rw[Hp.out.1,Hp.out.2],a6⟩
      . have i1 : ¬ (((s[k].toNat : Nat) : Int) < 48) := by omega
        by_cases bB:57<s[k].toNat
        . have i2 : (57 : Int) < ((s[k].toNat : Nat) : Int) := by omega
          have Hp:=Tk (Qr hlt (.inr bB));go_wp2;refine bodyPost_ret (v:= .tuple #[.int .i64 0,.bool false]) (by simp[results,Tw,go_sem]) rfl ⟨by rw[Hp.out.1,Hp.out.2],a6⟩
        . have i2 : ¬ ((57 : Int) < ((s[k].toNat : Nat) : Int)) := by omega
          have Hs:=Tk (Q5 hlt);go_wp2;go_roundw
          case rel=>exact⟨k+1,10*n+(s[k].toNat-48),by omega,by go_num,by go_num,by have:=Hn.out;rw[Nat.pow_succ];omega,Tk (by rw[Hs.out,Hd.out]),a6⟩
          case measure=>simp[intOf];omega
    . obtain rfl : k = s.size := by omega
      have a8:=Tk (SN Hd.out);by_cases hb:1000000000<n
      . have bC : (1000000000 : Int) < (n : Int) := by omega
        have Hp:=Tk (a8.out (.inl hb));go_wp2;refine bodyPost_ret (v:= .tuple #[.int .i64 0,.bool false]) (by simp[results,Tw,go_sem]) rfl ⟨by rw[Hp.out.1,Hp.out.2],a6⟩
      . have bC : ¬ ((1000000000 : Int) < (n : Int)) := by omega
        go_wp2_with fail
        refine(nN (n:Int) _ (by omega) (by omega)).mono ?_;rintro e w1 ⟨rfl,hb2⟩;by_cases he:iJ (n:Int)=s
        . have Hp := Tk (IW (n := (n : Int)) (by omega) (by omega) he);have neq:=wV he;clear he;go_wp2;refine bodyPost_ret (v:= .tuple #[.int .i64 n,.bool true]) (by simp[results,Tw,go_sem]) rfl ⟨by rw[Hp.out.1,Hp.out.2],a6.tr hb2⟩
        . have Hp:=Tk (a8.out (.inr he));have neq:=wW he;clear he;go_wp2;refine bodyPost_ret (v:= .tuple #[.int .i64 0,.bool false]) (by simp[results,Tw,go_sem]) rfl ⟨by rw[Hp.out.1,Hp.out.2],a6.tr hb2⟩
 . have n10 : (10 : Int) < (s.size : Int) := by omega
   have Hp:=Tk (Mk (s:=s) (by omega));go_enter Tryz.func110,Tryz.ntmps110
   go_wp2;refine bodyPost_ret (v:= .tuple #[.int .i64 0,.bool false]) (by simp[results,Tw,go_sem]) rfl ⟨by rw[Hp.out.1,Hp.out.2],Below.refl _ _⟩
end Go.Proofs.YtjijonhkofhikaaGreatDoor
