/- The flips of a list, of both sides; a number put into a list; the place of a list: the walks. No conditions. -/
import Derived.Test.YtfdbcihcdjjdhaaGreatDoorZWayPl
import Derived.Test.YtfdbcihcdjjdhaaGreatDoorZNearPl
import Derived.Test.YtfdbcihcdjjdhaaGreatDoorZK6
import Derived.Test.YtfdbcihcdjjdhaaGreatDoorZK7
namespace Go.Proofs.YtfdbcihcdjjdhaaGreatDoor
open Go.ChangeShapes Go.WideShapes Go.ChangeAt Go.RowKit
set_option linter.unusedVariables false
set_option linter.unusedSimpArgs false
def flipsTo (l:List Dm) (k:Nat):List Cl:=((List.range k).map ixCell).filter fun c=>decide (kindOf l c≠0)
theorem flipsTo_yes {l:List Dm} {k:Nat} (h:kindOf l (ixCell k)≠0):flipsTo l k++[ixCell k]=flipsTo l (k+1):=by
 unfold flipsTo
 rw[List.range_succ,List.map_append,List.filter_append,List.map_cons,List.map_nil,List.filter_cons_of_pos (by simpa using h)]
 rfl
theorem flipsTo_no {l:List Dm} {k:Nat} (h:kindOf l (ixCell k)=0):flipsTo l (k+1)=flipsTo l k:=by
 unfold flipsTo
 rw[List.range_succ,List.map_append,List.filter_append,List.map_cons,List.map_nil,List.filter_cons_of_neg (by simpa using h)]
 simp
theorem flipsTo_len (l:List Dm) (k:Nat):(flipsTo l k).length≤k:=by
 unfold flipsTo
 refine Nat.le_trans (List.length_filter_le _ _) ?_
 simp
set_option maxHeartbeats 4000000 in
set_option maxRecDepth 100000 in
theorem flipsI_any (v:Value) (l:List Dm) (w:World) (h:Rd 3 RDom w v l):Calls Tryz.prog 171 #[v] w (RetOwn 77 2 ePair (flips l) w):=by
 obtain⟨A,c,rfl,hc,hm⟩:=h.form
 have own0:=own_mt w (E:=77) (size:=2) (enc:=ePair) w.heap.size rfl w.heap.size (Nat.le_refl _)
 go_enter Tryz.func171,Tryz.ntmps171
 go_wp2
 go_loopw [3,4,6] (fun s3 s4 s6 wr=>∃(k:Nat) (D:Option Addr) (d:Nat) (z:Value),s4=z∧k≤64∧s6= .int .i64 k∧s3= .slice D (flipsTo l k).length d∧OwnL 77 2 ePair w.heap.size wr (.slice D (flipsTo l k).length d) (flipsTo l k)∧Below w.heap.size w wr) (fun _ _ i _=>64-(intOf i).toNat)
 case atStart=>exact⟨0,_,_,_,rfl,by omega,rfl,rfl,own0,(Below.refl _ _).al _⟩
 case round=>
  obtain⟨k,D,d,z,rfl,hk,rfl,rfl,hown,hbel⟩:=hrel
  clear own0
  by_cases hlt:k<64
  · obtain⟨x,y,hxy⟩:∃x y,ixCell k=(x,y):=⟨_,_,rfl⟩
    have cA : ∀ W : World, Calls Tryz.prog 238 #[.int .i64 k] W (Ret (.agg #[.int .i64 x, .int .i64 y]) W) := fun W => by
     have:=cellAtI_any k W (by omega)
     rw[hxy]at this
     exact this
    have HC:=Lib.hid cA;have HXY:=Lib.hid hxy;clear cA hxy
    have hki:(k:Int)<64:=by omega
    go_wp2_with fail
    refine(HC.out _).mono ?_
    rintro e w1 ⟨rfl,hb1⟩
    have B1:=hbel.tr hb1
    go_wp2_with fail
    refine(canFlipI_any _ l x y _ (h.below RE.stays B1)).mono ?_
    rintro e w2 ⟨rfl,hb2⟩
    have B2:=B1.tr hb2
    have own2:=(hown.below hb1).below hb2
    by_cases hk0:kindOf l (x,y)=0
    · have hd : decide (kindOf l (x, y) ≠ 0) = false := by simpa using hk0
      rw[hd]
      have HN:Hid (flipsTo l (k+1)=flipsTo l k):=Lib.hid (flipsTo_no (by rw[HXY.out];exact hk0))
      clear hd hk0
      go_wp2
      go_roundw
      case rel=>exact⟨k+1,D,d,_,rfl,by omega,by go_num,by rw[HN.out],by rw[HN.out];exact own2,B2⟩
      case measure=>simp[intOf];omega
    · have hd : decide (kindOf l (x, y) ≠ 0) = true := by simpa using hk0
      rw[hd]
      have HY:Hid (flipsTo l k++[(x,y)]=flipsTo l (k+1)):=Lib.hid (by have:=flipsTo_yes (l:=l) (k:=k) (by rw[HXY.out];exact hk0);rw[HXY.out]at this;exact this)
      have hlen:=flipsTo_len l k
      have H8:Hid (((flipsTo l k).length+1)*16≤140737488355328):=Lib.hid (by omega)
      have HM:Hid ((flipsTo l k).length+1≤maxLen):=Lib.hid (by unfold maxLen;omega)
      clear hd hk0 hlen
      go_wp2_with fail
      refine(HC.out _).mono ?_
      rintro e w3 ⟨rfl,hb3⟩
      have B3:=B2.tr hb3
      have own3:=own2.below hb3
      go_wp2_with (at_builtin;go_must (refine wpList_app1 (enc:=ePair) rowCell lenCell oneCell B3 own3 ((x,y):Cl) H8.out HM.out rfl _ _ rfl rfl rfl ?_);intro v4 w4 own4 hb4 hg4 hd4;rw[HY.out]at own4;obtain⟨A4,c4,rfl,hc4,hm4⟩:=own4.form)
      go_roundw
      case rel=>exact⟨k+1,A4,c4,_,rfl,by omega,by go_num,rfl,own4,hb4⟩
      case measure=>simp[intOf];omega
  · obtain rfl : k = 64 := by omega
    go_wp2
    go_ret
    exact⟨_,_,rfl,hown,hbel⟩
set_option maxHeartbeats 4000000 in
set_option maxRecDepth 100000 in
theorem flipsS_any (v:Value) (l:List Dm) (w:World) (h:Rd 3 RDom w v l):Calls Tryz.prog 43 #[v] w (RetOwn 77 2 ePair (flips l) w):=by
 obtain⟨A,c,rfl,hc,hm⟩:=h.form
 have own0:=own_mt w (E:=77) (size:=2) (enc:=ePair) w.heap.size rfl w.heap.size (Nat.le_refl _)
 go_enter Tryz.func43,Tryz.ntmps43
 go_wp2
 go_loopw [3,4,5,6] (fun s3 s4 s5 s6 wr=>∃(k:Nat) (D:Option Addr) (d:Nat) (z5 z6:Value),s5=z5∧s6=z6∧k≤64∧s4= .int .i64 k∧s3= .slice D (flipsTo l k).length d∧OwnL 77 2 ePair w.heap.size wr (.slice D (flipsTo l k).length d) (flipsTo l k)∧Below w.heap.size w wr) (fun _ i _ _ _=>64-(intOf i).toNat)
 case atStart=>exact⟨0,_,_,_,_,rfl,rfl,by omega,rfl,rfl,own0,(Below.refl _ _).al _⟩
 case round=>
  obtain⟨k,D,d,z5,z6,rfl,rfl,hk,rfl,rfl,hown,hbel⟩:=hrel
  clear own0
  by_cases hlt:k<64
  · obtain⟨x,y,hxy⟩:∃x y,ixCell k=(x,y):=⟨_,_,rfl⟩
    have cA : ∀ W : World, Calls Tryz.prog 110 #[.int .i64 k] W (Ret (.tuple #[.agg #[.int .i64 x, .int .i64 y], .bool true]) W) := fun W => by
     have:=cellAtS_yes k W hlt
     unfold ixCell at hxy
     injection hxy with e1 e2
     rw[e1,e2]at this
     exact this
    have HC:=Lib.hid cA;have HXY:=Lib.hid hxy;clear cA hxy
    have hki:(k:Int)<64:=by omega
    go_wp2_with fail
    refine(HC.out _).mono ?_
    rintro e w1 ⟨rfl,hb1⟩
    have B1:=(hbel.tr hb1).al (.cells #[.int .i64 x,.int .i64 y] 77)
    have own1:=(hown.below hb1).alloc (.cells #[.int .i64 x,.int .i64 y] 77)
    have b1:=Blk.new_ w1 77 #[.int .i64 x,.int .i64 y]
    obtain⟨n,hn⟩:∃n,n=kindOf l (x,y):=⟨_,rfl⟩
    have cK:∀(W:World),Rd 3 RDom W (.slice A l.length c) l→Calls Tryz.prog 111 #[.slice A l.length c,.agg #[.int .i64 x,.int .i64 y]] W (Ret (.int .i64 (n:Nat)) W):=fun W hW=>by rw[hn];exact kindS_any _ l x y W hW
    have HK:=Lib.hid cK;have HN:=Lib.hid hn;clear cK hn
    go_wp2_with fail
    refine(HK.out _ (h.below RE.stays B1)).mono ?_
    rintro e w2 ⟨rfl,hb2⟩
    have B2:=B1.tr hb2
    have own2:=own1.below hb2
    have b2:=b1.bl hb2
    by_cases hk0:n=0
    · subst hk0
      have HNo:Hid (flipsTo l (k+1)=flipsTo l k):=Lib.hid (flipsTo_no (by rw[HXY.out];exact HN.out.symm))
      go_wp2
      go_roundw
      case rel=>exact⟨k+1,D,d,_,_,rfl,rfl,by omega,by go_num,by rw[HNo.out],by rw[HNo.out];exact own2,B2⟩
      case measure=>simp[intOf];omega
    · have hn0 : (0 : Int) < (n : Int) := by omega
      have HY:Hid (flipsTo l k++[(x,y)]=flipsTo l (k+1)):=Lib.hid (by have:=flipsTo_yes (l:=l) (k:=k) (by rw[HXY.out,←HN.out];exact hk0);rw[HXY.out]at this;exact this)
      have hlen:=flipsTo_len l k
      have H8:Hid (((flipsTo l k).length+1)*16≤140737488355328):=Lib.hid (by omega)
      have HM:Hid ((flipsTo l k).length+1≤maxLen):=Lib.hid (by unfold maxLen;omega)
      clear hk0 hlen
      obtain⟨q_0,q_1⟩:=b2.n2
      go_wp2_with (at_builtin;go_must (refine wpList_app1 (enc:=ePair) rowCell lenCell oneCell B2 own2 ((x,y):Cl) H8.out HM.out rfl _ _ rfl rfl rfl ?_);intro v4 w4 own4 hb4 hg4 hd4;rw[HY.out]at own4;obtain⟨A4,c4,rfl,hc4,hm4⟩:=own4.form)
      go_roundw
      case rel=>exact⟨k+1,A4,c4,_,_,rfl,rfl,by omega,by go_num,rfl,own4,hb4⟩
      case measure=>simp[intOf];omega
  · obtain rfl : k = 64 := by omega
    go_wp2
    go_ret
    exact⟨_,_,rfl,hown,hbel⟩
theorem putI_le {n x:Int} (h:n≤x) (r:List Int):putI n (x::r)=n::x::r:=if_pos h
theorem putI_gt {n x:Int} (h:¬n≤x) (r:List Int):putI n (x::r)=x::putI n r:=if_neg h
theorem put_drop {n x:Int} {l:List Int} {k:Nat} (hk:k<l.length) (hx:l[k]=x):l.drop k=x::l.drop (k+1):=by rw[←hx];exact List.drop_eq_getElem_cons hk
set_option maxHeartbeats 4000000 in
set_option maxRecDepth 100000 in
theorem putI_any (v:Value) (l:List Int) (n:Int) (w:World) (h:Rd 1 RInt w v l) (hl:l.length≤1000):Calls Tryz.prog 237 #[v,.int .i64 n] w (RetOwn 3 1 eInt (putI n l) w):=by
 obtain⟨A,c,rfl,hc,hm⟩:=h.form
 have own0:=own_mt w (E:=3) (size:=1) (enc:=eInt) w.heap.size rfl w.heap.size (Nat.le_refl _)
 go_enter Tryz.func237,Tryz.ntmps237
 go_wp2
 go_loopw [5,6,8,12] (fun s5 s6 s8 s12 wr=>∃(k:Nat) (dn:Bool) (out:List Int) (D:Option Addr) (d:Nat) (z:Value),s8=z∧k≤l.length∧s12= .int .i64 k∧s6= .bool dn∧s5= .slice D out.length d∧(out.length=k∨(dn=true∧out.length≤k+1))∧OwnL 3 1 eInt w.heap.size wr (.slice D out.length d) out∧Hid ((if dn=true then out++l.drop k else out++putI n (l.drop k))=putI n l)∧Below w.heap.size w wr) (fun _ _ _ i _=>l.length-(intOf i).toNat)
 case atStart=>exact⟨0,false,[],_,_,_,rfl,Nat.zero_le _,rfl,rfl,rfl,.inl rfl,own0,Lib.hid (by simp),(Below.refl _ _).al _⟩
 case round=>
  obtain⟨k,dn,out,D,d,z,rfl,hk,rfl,rfl,rfl,hol,hown,Hg,hbel⟩:=hrel
  clear own0
  have hol2:out.length≤k+1:=by rcases hol with q|⟨_,q⟩<;>omega
  have hol3 : dn = false → out.length = k := fun e => by
   rcases hol with q|⟨q,_⟩
   · exact q
   · rw[e]at q;cases q
  have Hol:=Lib.hid hol3;clear hol hol3
  have H8:Hid ((out.length+1)*8≤140737488355328):=Lib.hid (by omega)
  have HM:Hid (out.length+1≤maxLen):=Lib.hid (by unfold maxLen;omega)
  by_cases hlt:k<l.length
  · obtain⟨b,off,rfl,hb,c1⟩:=(h.below RE.stays hbel).atInt hlt
    obtain⟨x,hx⟩:∃x,x=l[k]:=⟨_,rfl⟩
    rw[←hx]at c1
    have hdr:=put_drop (n:=n) hlt hx.symm
    have HD:=Lib.hid hdr;clear hx hdr
    have hki:(k:Int)<(l.length:Int):=by omega
    cases dn
    · by_cases hnx:n≤x
      · have HG : Hid ((out ++ [n]) ++ [x] ++ l.drop (k + 1) = putI n l) := Lib.hid (by
         have:=Hg.out
         rw[if_neg (by decide),HD.out]at this
         rw[putI_le hnx]at this
         rw[←this]
         simp)
        have H8b:Hid (((out++[n]).length+1)*8≤140737488355328):=Lib.hid (by rw[List.length_append];simp;omega)
        have HMb:Hid ((out++[n]).length+1≤maxLen):=Lib.hid (by rw[List.length_append];unfold maxLen;simp;omega)
        have HL:Hid ((out++[n]).length=out.length+1):=Lib.hid (by simp)
        go_wp2_with (first|(at_builtin;(refine wpList_app1 (enc:=eInt) rowInt lenInt oneInt hbel hown n H8.out HM.out rfl _ _ rfl rfl rfl ?_);intro v4 w4 own4 hb4 hg4 hd4;obtain⟨A4,c4,rfl,hc4,hm4⟩:=own4.form;rw[HL.out]at own4)|(at_builtin;go_must (refine wpList_app1 (enc:=eInt) rowInt lenInt oneInt hb4 own4 x H8b.out HMb.out rfl _ _ rfl rfl rfl ?_);intro v5 w5 own5 hb5 hg5 hd5;obtain⟨A5,c5,rfl,hc5,hm5⟩:=own5.form))
        go_roundw
        case rel=>exact⟨k+1,true,(out++[n])++[x],A5,c5,_,rfl,by omega,by go_num,rfl,by simp,.inr ⟨rfl,by have:=Hol.out rfl;simp;omega⟩,own5,Lib.hid (by rw[if_pos rfl];exact HG.out),hb5⟩
        case measure=>simp[intOf];omega
      · have HG : Hid ((out ++ [x]) ++ putI n (l.drop (k + 1)) = putI n l) := Lib.hid (by
         have:=Hg.out
         rw[if_neg (by decide),HD.out]at this
         rw[putI_gt hnx]at this
         rw[←this]
         simp)
        go_wp2_with (at_builtin;go_must (refine wpList_app1 (enc:=eInt) rowInt lenInt oneInt hbel hown x H8.out HM.out rfl _ _ rfl rfl rfl ?_);intro v4 w4 own4 hb4 hg4 hd4;obtain⟨A4,c4,rfl,hc4,hm4⟩:=own4.form)
        go_roundw
        case rel=>exact⟨k+1,false,out++[x],A4,c4,_,rfl,by omega,by go_num,rfl,by simp,.inl (by rw[List.length_append,Hol.out rfl];rfl),own4,Lib.hid (by rw[if_neg (by decide)];exact HG.out),hb4⟩
        case measure=>simp[intOf];omega
    · have HG : Hid ((out ++ [x]) ++ l.drop (k + 1) = putI n l) := Lib.hid (by
       have:=Hg.out
       rw[if_pos rfl,HD.out]at this
       rw[←this]
       simp)
      go_wp2_with (at_builtin;go_must (refine wpList_app1 (enc:=eInt) rowInt lenInt oneInt hbel hown x H8.out HM.out rfl _ _ rfl rfl rfl ?_);intro v4 w4 own4 hb4 hg4 hd4;obtain⟨A4,c4,rfl,hc4,hm4⟩:=own4.form)
      go_roundw
      case rel=>exact⟨k+1,true,out++[x],A4,c4,_,rfl,by omega,by go_num,rfl,by simp,.inr ⟨rfl,by simp;omega⟩,own4,Lib.hid (by rw[if_pos rfl];exact HG.out),hb4⟩
      case measure=>simp[intOf];omega
  · obtain rfl : k = l.length := by omega
    cases dn
    · have HG : Hid (out ++ [n] = putI n l) := Lib.hid (by
       have:=Hg.out
       rw[if_neg (by decide),List.drop_length]at this
       exact this)
      go_wp2_with (at_builtin;go_must (refine wpList_app1 (enc:=eInt) rowInt lenInt oneInt hbel hown n H8.out HM.out rfl _ _ rfl rfl rfl ?_);rw[HG.out];intro v4 w4 own4 hb4 hg4 hd4;obtain⟨A4,c4,rfl,hc4,hm4⟩:=own4.form)
      go_ret
      exact⟨_,_,rfl,own4,hb4⟩
    · have HG : Hid (out = putI n l) := Lib.hid (by
       have:=Hg.out
       rw[if_pos rfl,List.drop_length,List.append_nil]at this
       exact this)
      go_wp2
      go_ret
      exact⟨D,d,by rw[←HG.out];rfl,by rw[←HG.out];exact hown,hbel⟩
set_option maxHeartbeats 4000000 in
set_option maxRecDepth 100000 in
theorem indexI_any {B:Nat} (u v:Value) (T:List (List Dm)) (m:List Dm) (w:World) (h:OwnLL 33 90 3 eDom B w u T) (h':Rd 3 RDom w v m):Calls Tryz.prog 167 #[u,v] w (Ret (.int .i64 (indexI T m)) w):=by
 obtain⟨A,c,rfl,hc,hm⟩:=h.form
 have hTm:T.length≤9223372036854775807:=by unfold maxLen at hm;omega
 go_enter Tryz.func167,Tryz.ntmps167
 go_wp2
 go_loopw [5,6,9] (fun s5 s6 s9 wr=>∃(k:Nat) (z5 z6:Value),s5=z5∧s6=z6∧k≤T.length∧s9= .int .i64 k∧Hid (∀j (hj:j<k) (h:j<T.length),T[j]≠m)∧Below w.heap.size w wr) (fun _ _ i _=>T.length-(intOf i).toNat)
 case atStart=>exact⟨0,_,_,rfl,rfl,Nat.zero_le _,rfl,Lib.hid (fun j hj=>by omega),Below.refl _ _⟩
 case round=>
  obtain⟨k,z5,z6,rfl,rfl,hk,rfl,Hg,hbel⟩:=hrel
  by_cases hlt:k<T.length
  · obtain⟨g,D,d,rfl,hg1,hg2,c1,ownk⟩:=(h.below hbel).pick hlt
    have hki:(k:Int)<(T.length:Int):=by omega
    obtain⟨t,ht⟩:∃t,t=T[k]:=⟨_,rfl⟩
    rw[←ht]at c1 ownk
    have HT:=Lib.hid ht;clear ht
    go_wp2_with fail
    refine(sameDomI_any _ _ t m _ (ownk.rd lenDom (by decide)) (h'.below RE.stays hbel)).mono ?_
    rintro e w1 ⟨rfl,hb1⟩
    by_cases he:t=m
    · rw[decide_eq_true he]
      have HI:Hid (indexI T m=(k:Int)):=Lib.hid (index_hit hlt (fun j hj=>Hg.out j hj (by omega)) (by rw[←HT.out];exact he))
      clear he
      go_wp2
      go_ret
      exact⟨by rw[HI.out];rfl,hbel.tr hb1⟩
    · rw[decide_eq_false he]
      have HN : Hid (∀ j (hj : j < k + 1) (h : j < T.length), T[j] ≠ m) := Lib.hid (fun j hj h q => by
       rcases(by omega:j<k∨j=k)with h1|h1
       · exact Hg.out j h1 h q
       · subst h1;rw[←HT.out]at q;exact he q)
      clear he
      go_wp2
      go_roundw
      case rel=>exact⟨k+1,_,_,rfl,rfl,by omega,by go_num,HN,hbel.tr hb1⟩
      case measure=>simp[intOf];omega
  · obtain rfl : k = T.length := by omega
    have HI:Hid (indexI T m= -1):=Lib.hid (index_miss (fun j hj=>Hg.out j hj hj))
    go_wp2
    go_ret
    exact⟨by rw[HI.out];rfl,hbel⟩
end Go.Proofs.YtfdbcihcdjjdhaaGreatDoor
