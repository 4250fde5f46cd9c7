/- Repairs: plain laws. No program in sight. -/
import Derived.Test.YtfdbcihcdjjdhaaGreatDoorZWayPl
namespace Go.Proofs.YtfdbcihcdjjdhaaGreatDoor
set_option linter.unusedVariables false
set_option linter.unusedSimpArgs false
def chgTo (a b:List Dm) (k:Nat):Nat:=((a.take k).filter fun d=> !b.contains d).length
def chg (a b:List Dm):Nat:=(a.filter fun d=> !b.contains d).length
theorem chgTo_all (a b:List Dm):chgTo a b a.length=chg a b:=by unfold chgTo chg;rw[List.take_length]
theorem chgTo_succ {a b:List Dm} {k:Nat} (h:k<a.length):chgTo a b (k+1)=chgTo a b k+(if b.contains a[k]=true then 0 else 1):=by
 unfold chgTo
 rw[List.take_succ_eq_append_getElem h,List.filter_append,List.length_append]
 congr 1
 by_cases hc:b.contains a[k]=true
 · rw[if_pos hc,List.filter_cons_of_neg (by rw[hc];simp)];rfl
 · rw[if_neg hc,List.filter_cons_of_pos (by simpa using hc)];rfl
theorem chgTo_le (a b:List Dm) (k:Nat):chgTo a b k≤k:=by
 unfold chgTo
 refine Nat.le_trans (List.length_filter_le _ _) ?_
 rw[List.length_take];omega
theorem chg_le (a b:List Dm):chg a b≤a.length:=List.length_filter_le _ _
def betterOf (list:List Dm) (d:Dm) (b:Option (List Dm)) (t:List Dm):Option (List Dm):=
 if t.contains d = true then b else match b with
   |none=>some t
   |some m=>if chg list t<chg list m then some t else some m
def bestTo (T:List (List Dm)) (list:List Dm) (d:Dm) (k:Nat):Option (List Dm):=(T.take k).foldl (betterOf list d) none
def best (T:List (List Dm)) (list:List Dm) (d:Dm):Option (List Dm):=T.foldl (betterOf list d) none
theorem bestTo_all (T:List (List Dm)) (list:List Dm) (d:Dm):bestTo T list d T.length=best T list d:=by unfold bestTo best;rw[List.take_length]
theorem bestTo_succ {T:List (List Dm)} {list:List Dm} {d:Dm} {k:Nat} (h:k<T.length):bestTo T list d (k+1)=betterOf list d (bestTo T list d k) T[k]:=by
 unfold bestTo
 rw[List.take_succ_eq_append_getElem h,List.foldl_append]
 rfl
def repB (rows:List Int) (l:List Dm) (d:Dm):Bool:=decide (l∈listRows rows)&&(best (listRows rows) l d).isSome
def repL (rows:List Int) (l:List Dm) (d:Dm):List Dm:=if l∈listRows rows then(best (listRows rows) l d).getD []else[]
theorem tils_nm {s:Nat} {t u:List Dm} (ht:t∈tils s) (hu:u∈tils s) (h:t≠[]):u≠[]:=by
 intro e
 subst e
 obtain⟨d,hd⟩:=List.exists_mem_of_ne_nil t h
 have h1:=tils_part ht
 obtain⟨a,b,c⟩:=in_iff.1 (h1.1 d hd)
 have hlt:domI d<64:=by
  have:=(cellIx_in (domOk_cells a).1).2
  unfold domI;omega
 obtain⟨e,he,_⟩:=tils_all hu hlt b
 cases he
theorem list_ne {rows:List Int} {t u:List Dm} (ht:t∈listRows rows) (hu:u∈listRows rows) (h:t≠[]):u≠[]:=by
 unfold listRows at ht hu
 split at ht
 · rename_i q;rw[if_pos q]at hu;exact tils_nm ht hu h
 · cases ht
theorem list_ok {rows:List Int} {t:List Dm} (ht:t∈listRows rows):∀d∈t,domOk d=true:=by
 unfold listRows at ht
 split at ht
 · exact tils_ok ht
 · cases ht
theorem best_mem {list:List Dm} {d:Dm}:∀(T:List (List Dm)) (b:Option (List Dm)) (m:List Dm),T.foldl (betterOf list d) b=some m→b=some m∨m∈T
  |[],b,m,h=> .inl h
  | t :: T, b, m, h => by
   rw[List.foldl_cons]at h
   rcases best_mem T _ m h with h|h
   · unfold betterOf at h
     split at h
     · exact .inl h
     · split at h
       · injection h with h;subst h;exact .inr List.mem_cons_self
       · split at h
         · injection h with h;subst h;exact .inr List.mem_cons_self
         · exact .inl h
   · exact .inr (List.mem_cons_of_mem _ h)
end Go.Proofs.YtfdbcihcdjjdhaaGreatDoor
