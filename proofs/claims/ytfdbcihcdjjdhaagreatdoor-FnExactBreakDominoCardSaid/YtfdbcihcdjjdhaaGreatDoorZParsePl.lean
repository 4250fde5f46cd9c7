/- Lines cut at blanks, numbers and acts as texts, read back: plain laws. No program in sight. -/
import Derived.Test.YtfdbcihcdjjdhaaGreatDoorZFmtAct
import Derived.Lib.Atoi
namespace Go.Proofs.YtfdbcihcdjjdhaaGreatDoor
open Go.RowKit
set_option linter.unusedVariables false
set_option linter.unusedSimpArgs false
abbrev Bs:=List UInt8
def fg:Bs→Bs→List Bs
  |cur,[]=>if cur=[]then[]else[cur]
  |cur,c::r=>if c=32 then(if cur=[]then fg [] r else cur::fg [] r)else fg (cur++[c]) r
def NoSp (l:Bs):Prop:=∀b∈l,b≠32
theorem fg_word:∀(x cur r:Bs),NoSp x→fg cur (x++r)=fg (cur++x) r
  |[],cur,r,_=>by simp
  | c :: x, cur, r, h => by
   rw[List.cons_append,fg,if_neg (h c List.mem_cons_self),fg_word x (cur++[c]) r (fun b hb=>h b (List.mem_cons_of_mem _ hb)),List.append_assoc]
   rfl
theorem fg_tail:∀(xs:List Bs) (cur:Bs),cur≠[]→(∀x∈xs,x≠[]∧NoSp x)→fg cur (Lib.joinTail [32] xs)=cur::xs
  | [], cur, hc, _ => by
   show fg cur []=[cur]
   rw[fg,if_neg hc]
  | y :: xs, cur, hc, h => by
   have e:Lib.joinTail [32] (y::xs)=32::(y++Lib.joinTail [32] xs):=by simp[Lib.joinTail]
   have hy:=h y List.mem_cons_self
   rw[e,fg,if_pos rfl,if_neg hc,fg_word y [] _ hy.2,List.nil_append,fg_tail xs y hy.1 (fun x hx=>h x (List.mem_cons_of_mem _ hx))]
theorem fg_join:∀(xs:List Bs),(∀x∈xs,x≠[]∧NoSp x)→fg [] (Lib.join xs [32])=xs
  |[],_=>rfl
  | y :: xs, h => by
   have hy:=h y List.mem_cons_self
   rw[Lib.join_cons,fg_word y [] _ hy.2,List.nil_append,fg_tail xs y hy.1 (fun x hx=>h x (List.mem_cons_of_mem _ hx))]
def toB (l:Bs):ByteArray:=⟨l.toArray⟩
theorem toB_data (l:Bs):(toB l).data.toList=l:=rfl
theorem toB_inj {a b:Bs} (h:toB a=toB b):a=b:=by
 have:=congrArg (fun x:ByteArray=>x.data.toList) h
 exact this
end Go.Proofs.YtfdbcihcdjjdhaaGreatDoor
