import Derived.Test.YtjijonhkofhikaaGreatDoorFK9
open _root_.List renaming getD_eq_getElem?_getD->Tm,getElem?_eq_getElem->Tn,replicate->Tp,length_replicate->Tq,getElem?_toArray->Tt,getElem?_cons_zero->Tu,getElem?_cons_succ->Tv
open _root_.Nat renaming one_pos->Tw,mul_one->Tx,add_zero->Ty,le_refl->Tz
open _root_.Option renaming getD_some->TA
open _root_.Go.Proofs.Tryz (prog func211 ntmps211 func233 ntmps233)
set_option linter.unusedVariables false
set_option linter.unusedSimpArgs false
set_option maxHeartbeats 4000000
set_option maxRecDepth 100000
namespace Go.Proofs.YtjijonhkofhikaaGreatDoor
open Go.ChangeShapes Go.WideShapes Go.ChangeAt Go.RowKit
theorem Ew {k:Nat} (hk:k<8):(2:Int)^k=((2^k:Nat):Int)/\2^k<=128:=
 ⟨by simp,Nat.le_trans (Nat.pow_le_pow_right (by decide) (show k<=7 by omega)) (by decide)⟩
def Put (r:List Int) (g B:Nat) (w:World) (e:Ending) (w':World):Prop:=e= .returned (.tuple #[])/\aD 3 1 aW B w' (.slice (some ⟨g,0,none⟩) 256 256) r/\w.grownBy w' (some g)
theorem Ci (i x y:Nat) (w:World) (hi:i<=64) (hx:x=i%8) (hy:y=i/8):Calls prog 208 #[.int .i64 i] w (Ret (.agg #[.int .i64 x,.int .i64 y]) w):=by
 have:=BG i w hi;unfold iT IP at this;rw[hx,hy];simpa using this
theorem De:∀k:Nat,k<256->∀x:Nat,x<8->k.testBit x=true->bits .andNot .i64 (k:Int) ((2^x:Nat):Int)=((k-2^x:Nat):Int):=by decide+kernel
theorem ixy {x y:Nat} (hx:x<8) (hy:y<8):bH ((x:Int),(y:Int))=true/\(dJ ((x:Int),(y:Int))).toNat=8*y+x:=by
 have a6:bH ((x:Int),(y:Int))=true:=dC.2 ⟨⟨by omega,by omega⟩,by omega,by omega⟩;exact⟨a6,by rw[(dP a6).1];simp only;omega⟩
theorem yD (s i x y:Nat) (w:World) (hs:s<U64) (hx:x<8) (hy:y<8) (hi:i=8*y+x):Calls prog 62 #[.int .u64 s,.agg #[.int .i64 x,.int .i64 y]] w (Ret (.bool (s.testBit i)) w):=by
 have:=iP s x y w hs;obtain⟨a,b⟩:=ixy hx hy;rw[a,b,Bool.true_and,<-hi]at this;exact this
theorem RD (s i x y:Nat) (w:World) (hs:s<U64) (hx:x<8) (hy:y<8) (hi:i=8*y+x):Calls prog 62 #[.int .u64 s,.agg #[.int .i64 x,.int .i64 ((y:Int)+1)]] w (Ret (.bool (kF s i)) w):=by
 have:=iP s x ((y:Int)+1) w hs;by_cases h:y<7
 . obtain ⟨a, b⟩ := ixy hx (show y + 1 < 8 by omega);rw[show((y:Int)+1)=((y+1:Nat):Int) by omega,a,b,Bool.true_and]at this;have e:kF s i=s.testBit (8*(y+1)+x):=by unfold kF;rw[decide_eq_true (by omega),Bool.true_and,show i+8=8*(y+1)+x by omega]
   rw[e,show((y:Int)+1)=((y+1:Nat):Int) by omega];exact this
 . have e : kF s i = false := by unfold kF; rw [decide_eq_false (by omega), Bool.false_and]
   have c:bH ((x:Int),(y:Int)+1)=false:=by
    rcases q:bH ((x:Int),(y:Int)+1)with _|_
    . rfl
    . have:=(dC.1 q).2;simp only at this;omega
   rw[c,Bool.false_and]at this;rw[e];exact this
theorem MR (s i x y:Nat) (w:World) (hs:s<U64) (hx:x<8) (hy:y<8) (hi:i=8*y+x):Calls prog 62 #[.int .u64 s,.agg #[.int .i64 ((x:Int)+1),.int .i64 y]] w (Ret (.bool (kG s i)) w):=by
 have:=iP s ((x:Int)+1) y w hs;by_cases h:x<7
 . obtain ⟨a, b⟩ := ixy (show x + 1 < 8 by omega) hy;rw[show((x:Int)+1)=((x+1:Nat):Int) by omega,a,b,Bool.true_and]at this;have e:kG s i=s.testBit (8*y+(x+1)):=by unfold kG;rw[decide_eq_true (by omega),Bool.true_and,show i+1=8*y+(x+1) by omega]
   rw[e,show((x:Int)+1)=((x+1:Nat):Int) by omega];exact this
 . have e : kG s i = false := by unfold kG; rw [decide_eq_false (by omega), Bool.false_and]
   have c:bH ((x:Int)+1,(y:Int))=false:=by
    rcases q:bH ((x:Int)+1,(y:Int))with _|_
    . rfl
    . have:=(dC.1 q).1;simp only at this;omega
   rw[c,Bool.false_and]at this;rw[e];exact this
theorem AZ {K x:Nat} (hK:K<256) (hx:x<8):bits .and .i64 (K:Int) ((2^x:Nat):Int)=((K&&&2^x:Nat):Int)/\bits .or .i64 (K:Int) ((2^x:Nat):Int)=((K|||2^x:Nat):Int)/\(((K&&&2^x:Nat):Int)==0)= !K.testBit x/\(((K&&&2^x:Nat):Int) !=0)=K.testBit x/\K|||2^x<256:=by
 have h2:=(Ew hx).2;have hb:=Rk K hK x hx
 have e:(((K&&&2^x:Nat):Int)==0)= !K.testBit x:=by
  rw[<-hb,Bool.eq_iff_iff,beq_iff_eq,decide_eq_true_iff];omega
 refine⟨Jt K (2^x) (by omega) (by omega),DF K (2^x) (by omega) (by omega),e,?_,yY K hK x hx⟩;unfold bne;rw[e,Bool.not_not]
def PSt (W0:World) (g gc gn gb x y:Nat) (now nx:List Int) (wr:World):Prop:=
 aD 3 1 aW W0.heap.size wr (.slice (some ⟨g,0,none⟩) 256 256) now/\aD 3 1 aW W0.heap.size wr (.slice (some ⟨gn,0,none⟩) 256 256) nx/\Blk wr gc 83 #[.int .i64 x,.int .i64 y]/\Blk wr gb 24 #[.slice (some ⟨gn,0,none⟩) 256 256]/\g≠gn/\Below W0.heap.size W0 wr
section
variable {W0 wr w' : World} {g gc gn gb x y : Nat} {now nx : List Int}
theorem PSt.bl (h:PSt W0 g gc gn gb x y now nx wr) (hb:Below wr.heap.size wr w'):PSt W0 g gc gn gb x y now nx w':=by
 obtain⟨a,b,c,d,e,f⟩:=h;exact⟨a.below hb,b.below hb,c.bl hb,d.bl hb,e,f.tr hb⟩
theorem PSt.put (h:PSt W0 g gc gn gb x y now nx wr) {r:List Int} (own:aD 3 1 aW W0.heap.size w' (.slice (some ⟨gn,0,none⟩) 256 256) r) (hg:wr.grownBy w' (some gn)):PSt W0 g gc gn gb x y now r w':=by
 obtain⟨a,b,c,d,e,f⟩:=h;have hc:gc≠gn:=by intro q;have:=b.apart c (by decide);rw[q]at this;exact this rfl
 have hd:gb≠gn:=by intro q;have:=b.apart d (by decide);rw[q]at this;exact this rfl
 refine⟨World.ownsRow.kept a hg (.inr (by simp[Value.ownBlock];exact e)),own,c.grown hg (by simpa using hc),d.grown hg (by simpa using hd),e,f.grown hg f.size (fun k hk=> ?_)⟩;injection hk with hk;rw[<-hk];exact b.at_.2.1
end
def MS (nx:List Int):Prop:=∀(j:Nat) (v:Int),nx[j]? =some v->0<=v/\v<=1125899906842624
theorem Ex (s i:Nat):bV s (i+1)=mO s 0 (fun a b=>a+b) (fun n _=>n) (bV s i) i 256:=rfl
theorem MU {l : List Int} (hn : ∀ (k : Nat) (v : Int), l[k]? = some v -> 0 <= v) : ∀ K d, lQ (fun _ => 1) l K <= lQ (fun _ => 1) l (K + d)
  |K,0=>Int.le_refl _
  | K, d + 1 => by
   have h:=MU hn K d;rw[<-Nat.add_assoc,jR]
   have hg:0<=l.getD (K+d) 0:=by
    rw[Tm];rcases q:l[K+d]? with _|v
    . simp
    . exact hn _ v q
   omega
theorem Ey (s i K : Nat) (hi : i < 64) (hK : K < 256) : (∀ (j : Nat) (v : Int), (mO s 0 (fun a b => a + b) (fun n _ => n) (bV s i) i K)[j]? = some v -> 0 <= v) /\ lQ (fun _ => 1) (mO s 0 (fun a b => a + b) (fun n _ => n) (bV s i) i K) 256 + (bV s i).getD K 0 * two i <= 562949953421312 := by
 obtain⟨a,b⟩:=QP s i;obtain⟨c,d⟩:=LY (s:=s) (i:=i) a (yC i) K (by omega);refine⟨c,?_⟩;have e:lQ (fun _=>1) (bV s i) (K+1)*two i=lQ (fun _=>1) (bV s i) K*two i+(bV s i).getD K 0*two i:=by rw[jR,Int.add_mul];simp
 have h1:=MU a (K+1) (256-(K+1));rw[show K+1+(256-(K+1))=256 by omega]at h1;have h2:lQ (fun _=>1) (bV s i) (K+1)*two i<=capOf i*two i:=Int.mul_le_mul_of_nonneg_right (Int.le_trans h1 b) (by have:=(Ag i).1;omega);have h3:capOf i*two i=capOf (i+1):=rfl;have h4:=Fh (i+1) (64-(i+1));rw[show i+1+(64-(i+1))=64 by omega,Qz]at h4;omega
theorem Bt (s i K : Nat) (hi : i < 64) (hK : K < 256) : MS (mO s 0 (fun a b => a + b) (fun n _ => n) (bV s i) i K) := by
 obtain⟨c,d⟩:=Ey s i K hi hK;have hn:=(I7 s i K (by omega) hK).1;have ht:=(Ag i).1;have hm:0<=(bV s i).getD K 0*two i:=Int.mul_nonneg hn (by omega);intro j v hj;have hl:=mH (s:=s) (no:=0) (add:=fun a b=>a+b) (wt:=fun n _=>n) (bV s i) i K;have a6:j<256:=by rw[<-hl];exact(List.getElem?_eq_some_iff.1 hj).1
 have h1:=(AV c 256 j a6).1;rw[Tm,hj,TA]at h1;exact⟨c j v hj,by omega⟩
theorem Kv (s i K : Nat) (hi : i < 64) (hK : K < 256) : MS (sO s 0 (fun a b => a + b) (fun n _ => n) i (mO s 0 (fun a b => a + b) (fun n _ => n) (bV s i) i K) K ((bV s i).getD K 0)) := by
 have h:=Bt s i K hi hK;have hn:=I7 s i K (by omega) hK;obtain⟨c,d⟩:=Ey s i K hi hK;have hl:=mH (s:=s) (no:=0) (add:=fun a b=>a+b) (wt:=fun n _=>n) (bV s i) i K;have ht:=(Ag i).1;have hm:(bV s i).getD K 0*1<=(bV s i).getD K 0*two i:=Int.mul_le_mul_of_nonneg_left ht hn.1;rw[Int.mul_one]at hm;unfold sO;split
 . refine Bl (P := fun _ v => 0 <= v /\ v <= 1125899906842624) h ?_ (fun _ => ⟨hn.1, by show (bV s i).getD K 0 <= _; omega⟩) ?_
   . rw[hl];exact yY K hK _ (by omega)
   . intro v hv _;have a6:(K|||2^(i%8))<256:=yY K hK _ (by omega);have h1:=(AV c 256 _ a6).1;rw[Tm,hv,TA]at h1;have:=c _ v hv;exact⟨by show 0<=v+(bV s i).getD K 0;omega,by show v+(bV s i).getD K 0<=_;omega⟩
 . exact h
theorem MV (s i k:Nat) (hi:i<64) (hk:k<256) (v:Int) (h:(bV s i)[k]? =some v):v=0∨(0<=v/\v<=1125899906842624/\iH s i k):=by
 have h1:=I7 s i k (by omega) hk;rw[Tm,h,TA]at h1;rcases QO s i k v h with h2|h2
 . exact .inl h2
 . exact .inr ⟨h1.1,by omega,h2⟩
theorem PE (a b:Int) (w:World) (h0:0<=a) (h1:a<=1125899906842624) (h2:0<=b) (h3:b<=1125899906842624):Calls prog 210 #[.int .i64 a,.int .i64 b] w (Pure (.int .i64 (a+b)) w):=by
 go_enter Tryz.func210,Tryz.ntmps210
 go_wp2;go_ret;exact⟨rfl,rfl⟩
theorem Fq (n x y:Int) (d:Bool) (w:World) (hx:0<=x):
 Calls prog 211 #[.int .i64 n,.agg #[.int .i64 x,.int .i64 y,.bool d]] w (Ret (.int .i64 n) w):=by
 go_enter func211,ntmps211
 go_wp2;go_ret;exact⟨rfl,(Below.refl _ _).al _⟩
theorem Lu (n:Int) (w:World):
 Calls prog 211 #[.int .i64 n,.agg #[.int .i64 (-1),.int .i64 0,.bool false]] w (Ret (.int .i64 1) w):=by
 go_enter func211,ntmps211
 go_wp2;go_ret;exact⟨rfl,(Below.refl _ _).al _⟩
theorem xC (k:Nat) (n:Int) (g gn g0 ga B:Nat) (nx:List Int) (w:World) (hk:k<256) (bC:Hid (MS nx)) (hn:0<=n/\n<=1125899906842624) (Hl:Hid (nx.length=256)) (own:aD 3 1 aW B w (.slice (some ⟨g,0,none⟩) 256 256) nx) (bn:Blk w gn 24 #[.slice (some ⟨g,0,none⟩) 256 256]) (b0:Blk w g0 3 #[.int .i64 0]) (hg0:g0≠g) (ba:Blk w ga 204 #[.func (.func 210) #[] #[]]):
 Calls prog 233 #[.int .i64 k,.int .i64 n,.pointer (some ⟨gn,0,none⟩),.pointer (some ⟨g0,0,none⟩),.pointer (some ⟨ga,0,none⟩)] w (Put (gV 0 (fun a b=>a+b) nx k n) g B w):=by
 have a6:k<nx.length:=by rw[Hl.out];exact hk
 have bD:gn≠g:=by intro e;have:=own.apart bn (by decide);rw[e]at this;exact this rfl
 have bE:ga≠g:=by intro e;have:=own.apart ba (by decide);rw[e]at this;exact this rfl
 have zk:=own.slot aM Tw a6 0 (.int .i64 nx[k]) rfl;rw[Tx,Ty]at zk;have hv:nx.getD k 0=nx[k]:=(by rw[Tm,Tn a6,TA]);have bB:=own.free;have zn:=bn.c1;have z0:=b0.c1;have za:=ba.c1;have bN:(k:Int)<256:=(by omega);have bO:(0:Int)<=(k:Int):=(by omega);have hR:gV 0 (fun a b=>a+b) nx k n=nx.set k (if nx[k]=0 then n else nx[k]+n):=by unfold gV;rw[hv]
 rw[hR];obtain⟨v,a8⟩:=Ti (nx[k]);have hv0:0<=v/\v<=1125899906842624:=a8▸bC.out k _ (Tn a6)
 rw[<-a8]at zk⊢;clear hv hR a8;by_cases h1:v=0
 . subst h1;rw[if_pos rfl];go_enter func233,ntmps233
   go_wp2_with fail
   go_quiet (fail)
   go_wp2;go_end0
   exact⟨rfl,(own.drewN _).kI aM a6 rfl,dB (EZ (World.grownBy.refl _ _) _) _ _⟩
 . have bP : (v == 0) = false := by simpa using h1
   rw[if_neg h1];have H1:=Tk h1;clear h1;go_enter func233,ntmps233
   go_wp2_with fail
   go_quiet (fail)
   have bF:(w.drewN nq).cell? ⟨g,k,none⟩=some (.int .i64 v):=zk;have bJ:(w.drewN nq).cell? ⟨gn,0,none⟩=some (.slice (some ⟨g,0,none⟩) 256 256):=zn;have bK:(w.drewN nq).cell? ⟨ga,0,none⟩=some (.func (.func 210) #[] #[]):=za;have bA:∀j,(w.drewN nq).frozen? ⟨g,j,none⟩=false:=bB;have a7:=own.drewN nq;have hgr:=EZ (World.grownBy.refl w (some g)) nq;clear zk zn za bB;obtain⟨wd,hwd⟩:=Ti (w.drewN nq);rw[<-hwd]at bF bJ bK bA a7 hgr⊢;have bL:=bD.symm;have bM:=bE.symm;clear hwd;go_wp2_with fail
   refine rB (fun w'=>w'.cell? ⟨gn,0,none⟩=some (.slice (some ⟨g,0,none⟩) 256 256)/\w'.cell? ⟨ga,0,none⟩=some (.func (.func 210) #[] #[])) fun hHeld=>(tW 0)<|(tW 1)<|(tW 2)<|(tW 3)<|(tW 4)<|(tW 5)<|(tW 7)<|(tR [6])<|tL fun K hK=>?_
   go_simp
   refine tK hK fun hHeld=>?_
   clear hK K;refine(tR [8])<|tL fun K hK=>?_
   go_simp
   (go_at_call 210;go_must (refine(PE v n _ hv0.1 hv0.2 hn.1 hn.2).mono ?_;rintro e wX ⟨rfl,rfl⟩);(try go_wp2_with fail))
   refine tK hK fun hHeld=>?_
   clear hK K;refine(tW 9)<|(tR [10])<|tL fun K hK=>?_
   go_simp
   refine tK hK fun hHeld=>?_
   clear hK K;refine tD ?_;go_wp2;go_end0
   exact⟨rfl,(a7.drewN 1).kI aM a6 rfl,dB (EZ hgr 1) _ _⟩
theorem NZ (s:Nat) (w:World) (hs:s<U64):
 Calls prog 209 #[.int .u64 s,.int .i64 0,.func (.func 210) #[] #[],.func (.func 211) #[] #[]] w (Ret (.int .i64 ((bV s 64).getD 0 0)) w):=by
 have hA:=((Below.refl w.heap.size w).al (.cells #[.int .i64 0] 3)).al (.cells #[.func (.func 210) #[] #[]] 204);have b0:=(Blk.aX w 3 #[.int .i64 0]).alloc (.cells #[.func (.func 210) #[] #[]] 204);have ba:=Blk.gI (w.alloc (.cells #[.int .i64 0] 3)) 204 #[.func (.func 210) #[] #[]] (w.heap.size+1) (by simp);have cT:Hid ((256:Int)=((256:Nat):Int)):=Tk rfl;have B0:=Below.refl ((w.alloc (.cells #[.int .i64 0] 3)).alloc (.cells #[.func (.func 210) #[] #[]] 204)).heap.size ((w.alloc (.cells #[.int .i64 0] 3)).alloc (.cells #[.func (.func 210) #[] #[]] 204));obtain⟨R,hR⟩:=Ti ((bV s 64).getD 0 0);rw[<-hR];have HR:=Tk hR;clear hR;go_enter Tryz.func209,Tryz.ntmps209
 go_wp2_with (at_make;go_must (refine mQ (enc:=aW) (z0:=(0:Int)) fP rfl B0 256 (by decide) (by decide) _ cT.out rfl _ _ rfl rfl rfl ?_);intro w1 hown1 hb1 hg1)
 go_loopw [22] (fun gR wr=>∃(k:Nat) (m:List Int),k<=256/\gR= .int .i64 k/\Dh k m (Tp 256 (0:Int))/\aD 3 1 aW ((w.alloc (.cells #[.int .i64 0] 3)).alloc (.cells #[.func (.func 210) #[] #[]] 204)).heap.size wr (.slice (some ⟨w.heap.size+1+1,0,none⟩) 256 256) m/\Below ((w.alloc (.cells #[.int .i64 0] 3)).alloc (.cells #[.func (.func 210) #[] #[]] 204)).heap.size ((w.alloc (.cells #[.int .i64 0] 3)).alloc (.cells #[.func (.func 210) #[] #[]] 204)) wr) (fun i _=>256-(intOf i).toNat)
 case atStart=>exact⟨0,Tp 256 0,by omega,rfl,Dh.start _ _ rfl,by simpa using hown1,hb1⟩
 case round=>
  obtain⟨k,m,hk,rfl,hu,hown,bU⟩:=hrel;have b9:=b0.bl bU;have z0:=b9.c1;have bX:m.length=256:=(by rw[hu.1,Tq]);by_cases hlt:k<256
  . obtain ⟨u0, s0⟩ := hown.Cv aM (k := k) (by rw [bX]; exact hlt);have gS:=hown.free;have eL:=Tk bX;clear bX;have hst:=hu.step (by rw[Tq];exact hlt);rw[List.getElem_replicate]at hst;have Hu:=Tk hst;clear hu hst;go_wp2;go_roundw
    case rel=>exact⟨k+1,_,by omega,by go_num,Hu.out,hown.kI aM (by rw[eL.out];exact hlt) rfl,bU.st _ _ (by simp)⟩
    case measure=>simp[intOf];omega
  . obtain rfl : k = 256 := by omega
    obtain rfl:=hu.done (by rw[Tq];omega);clear hown1 hb1 hg1 hu bX;go_wp2_with fail
    refine(Lu _ _).mono ?_;rintro e w2 ⟨rfl,hb2⟩;have bY:=hown.below hb2;have hl0:0<(Tp 256 (0:Int)).length:=by rw[Tq];decide
    obtain⟨u2,s2⟩:=bY.Cv aM hl0;have eM:=bY.free;have B2:=bU.tr hb2;have cB:=bY.kI aM hl0 (y:=1) rfl;have e0:bV s 0=(Tp 256 (0:Int)).set 0 1:=rfl;rw[<-e0]at cB;have B3:=B2.st ⟨w.heap.size+1+1,0,none⟩ (.int .i64 1) (by simp);clear z0 e0 hl0;go_wp2;go_loopw [9,36] (fun s9 gT wr=>∃(i g:Nat),i<=64/\gT= .int .i64 i/\s9= .slice (some ⟨g,0,none⟩) 256 256/\aD 3 1 aW ((w.alloc (.cells #[.int .i64 0] 3)).alloc (.cells #[.func (.func 210) #[] #[]] 204)).heap.size wr (.slice (some ⟨g,0,none⟩) 256 256) (bV s i)/\Below ((w.alloc (.cells #[.int .i64 0] 3)).alloc (.cells #[.func (.func 210) #[] #[]] 204)).heap.size ((w.alloc (.cells #[.int .i64 0] 3)).alloc (.cells #[.func (.func 210) #[] #[]] 204)) wr) (fun _ i _=>64-(intOf i).toNat)
    case atStart=>exact⟨0,w.heap.size+1+1,by omega,rfl,rfl,cB,B3⟩
    case round=>
     obtain⟨i,g,hi,rfl,rfl,b5,bM⟩:=hrel;clear cB B3 B2 bY s2 eM hb2 hown bU b9;by_cases cC:i<64
     . obtain⟨x,hx⟩:=Ti (i%8);obtain⟨y,hy⟩:=Ti (i/8);have bJ:x<8:=(by omega);have b6:y<8:=(by omega);have Hx:=Tk hx;have Hy:=Tk hy;clear hx hy;go_wp2_with fail
       refine(Ci i x y _ (by omega) Hx.out Hy.out).mono ?_;rintro e w3 ⟨rfl,hb3⟩;have B4:=(bM.tr hb3).al (.cells #[.int .i64 x,.int .i64 y] 83);have bC:=Blk.aX w3 83 #[.int .i64 x,.int .i64 y];have cU:=(b5.below hb3).alloc (.cells #[.int .i64 x,.int .i64 y] 83);go_wp2_with (at_make;go_must (refine mQ (enc:=aW) (z0:=(0:Int)) fP rfl B4 256 (by decide) (by decide) _ cT.out rfl _ _ rfl rfl rfl ?_);intro w4 cA hb4 hg4)
       have cD:PSt ((w.alloc (.cells #[.int .i64 0] 3)).alloc (.cells #[.func (.func 210) #[] #[]] 204)) g w3.heap.size (w3.heap.size+1) w4.heap.size x y (bV s i) (Tp 256 0) (w4.alloc (.cells #[.slice (some ⟨w3.heap.size+1,0,none⟩) 256 256] 24)):=by
        have k6:=(b5.below hb3).at_.2.2;refine⟨(World.ownsRow.kept cU hg4 (.inr (by simp[Value.ownBlock]))).alloc _,(by simpa using cA:aD 3 1 aW ((w.alloc (.cells #[.int .i64 0] 3)).alloc (.cells #[.func (.func 210) #[] #[]] 204)).heap.size w4 (.slice (some ⟨w3.heap.size+1,0,none⟩) 256 256) (Tp 256 0)).alloc _,(bC.grown hg4 (by simp)).alloc _,Blk.aX _ _ _,by omega,hb4.al _⟩
       have hm:Dh 0 (Tp 256 (0:Int)) (Tp 256 (0:Int)):=Dh.start _ _ rfl;obtain⟨gc,dT⟩:=Ti w3.heap.size;obtain⟨gb,hgb⟩:=Ti w4.heap.size;obtain⟨gn,eA⟩:=Ti (w3.heap.size+1);rw[<-eA,<-dT,<-hgb]at cD;have k7:=Tk dT;have k8:=Tk hgb;have k9:=Tk eA;go_wp2;try rw[<-eA]
       try rw[<-dT]
       try rw[<-hgb]
       clear dT hgb eA;go_loopw [44] (fun gW wr=>∃(k:Nat) (m:List Int),k<=256/\gW= .int .i64 k/\Dh k m (Tp 256 (0:Int))/\PSt ((w.alloc (.cells #[.int .i64 0] 3)).alloc (.cells #[.func (.func 210) #[] #[]] 204)) g gc gn gb x y (bV s i) m wr) (fun i _=>256-(intOf i).toNat)
       case atStart=>exact⟨0,_,by omega,rfl,hm,cD⟩
       case round=>
        obtain⟨k,m,hk,rfl,hu,hst⟩:=hrel;clear cD hm b5 bM cU cA hb4 hg4 B4 bC;obtain⟨oA,oN,bC,bB,gX,hbl⟩:=hst;have hst:PSt ((w.alloc (.cells #[.int .i64 0] 3)).alloc (.cells #[.func (.func 210) #[] #[]] 204)) g gc gn gb x y (bV s i) m wr:=⟨oA,oN,bC,bB,gX,hbl⟩;have b9:=b0.bl hbl;have z0:=b9.c1;have zB:=bB.c1;have bX:m.length=256:=(by rw[hu.1,Tq]);by_cases hlt:k<256
        . obtain ⟨u0, s0⟩ := oN.Cv aM (k := k) (by rw [bX]; exact hlt);have gS:=oN.free;have eL:=Tk bX;clear bX;have cE:=hu.step (by rw[Tq];exact hlt);rw[List.getElem_replicate]at cE;have Hu:=Tk cE;clear hu cE;have gY:=oN.kI aM (k:=k) (y:=0) (by rw[eL.out];exact hlt) rfl;go_wp2;go_roundw
          case rel=>exact⟨k+1,_,by omega,by go_num,Hu.out,hst.put gY (dB (World.grownBy.refl _ _) _ _)⟩
          case measure=>simp[intOf];omega
        . obtain rfl : k = 256 := by omega
          obtain rfl:=hu.done (by rw[Tq];omega);have cN:=bC.cell 0;have cP:=bC.cell 1;simp only[Tt,Tu,Tv]at cN cP;have cV:=Ew bJ;obtain⟨P,hP⟩:=Ti (2^x);rw[<-hP]at cV;obtain⟨lA,lB⟩:=cV;have HP:=Tk hP;clear hu bX hP z0;rw[show((256:Nat):Int)=256 from rfl];go_wp2;go_loopw [58] (fun hE wr=>∃(K:Nat) (nx:List Int),K<=256/\hE= .int .i64 K/\Hid (nx=mO s 0 (fun a b=>a+b) (fun n _=>n) (bV s i) i K)/\PSt ((w.alloc (.cells #[.int .i64 0] 3)).alloc (.cells #[.func (.func 210) #[] #[]] 204)) g gc gn gb x y (bV s i) nx wr) (fun i _=>256-(intOf i).toNat)
          case atStart=>exact⟨0,_,by omega,rfl,Tk (by unfold mO;rw[List.range_zero];rfl),hst⟩
          case round=>
           obtain⟨K,nx,hK,rfl,bK,cW⟩:=hrel;clear hst oA oN bC bB hbl b9 zB cN cP;have hst:=cW;obtain⟨oA,oN,bC,bB,hZ,hbl⟩:=cW;have b9:=b0.bl hbl;have h9:=ba.bl hbl;have cN:=bC.cell 0;have cP:=bC.cell 1;simp only[Tt,Tu,Tv]at cN cP;have z0:=b9.c1;by_cases hlt:K<256
           . have cQ : K < (bV s i).length := by unfold bV; rw [yC]; exact hlt
             have zK:=oA.slot aM Tw cQ 0 (.int .i64 (bV s i)[K]) rfl;rw[Tx,Ty]at zK;have bN:=MV s i K cC hlt _ (Tn cQ);have cR:(bV s i).getD K 0=(bV s i)[K]:=(by rw[Tm,Tn cQ,TA]);obtain⟨n,hn⟩:=Ti ((bV s i)[K]);rw[<-hn]at zK bN cR;have bS:=Tk cR;clear hn cR;by_cases cS:n=0
             . subst cS;have bA:Hid (jP s 0 (fun a b=>a+b) (fun n _=>n) i nx K 0=nx):=Tk (by unfold jP;rw[if_pos rfl]);clear bN;go_wp2;go_roundw
               case rel=>exact⟨K+1,_,by omega,by go_num,Tk (by rw[dO,<-bK.out,bS.out];exact bA.out.symm),hst⟩
               case measure=>simp[intOf];omega
             . have j0 : (n == 0) = false := by simpa using cS
               obtain⟨j1,j2,eN⟩:=bN.resolve_left cS;have gB:i=8*y+x:=by have:=Hx.out;have:=Hy.out;omega
               have Hi:=Tk gB;have gC:nx.length=256:=(by rw[bK.out,mH]);have cX:=Tk gC;have eP:Hid (MS nx):=Tk (by rw[bK.out];exact Bt s i K cC hlt);have gD:Hid (MS (sO s 0 (fun a b=>a+b) (fun n _=>n) i nx K n)):=Tk (by rw[<-bS.out,bK.out];exact Kv s i K cC hlt);have cY:0<=n/\n<=1125899906842624:=⟨j1,j2⟩;obtain⟨a1,a2,a3,a4,a5⟩:=AZ hlt bJ;rw[<-HP.out]at a1 a2 a3 a4 a5;have bD:K.testBit (i%8)=true->s.testBit i=true:=fun q=>Fg eN q
               have a7 : jP s 0 (fun a b => a + b) (fun n _ => n) i nx K n = if s.testBit i then (if K.testBit x then gV 0 (fun a b => a + b) nx (K - P) n else yX s 0 (fun a b => a + b) (fun n _ => n) i (sO s 0 (fun a b => a + b) (fun n _ => n) i nx K n) K n) else (if K.testBit x then nx else gV 0 (fun a b => a + b) nx K n) := by
                unfold jP;rw[if_neg cS,<-Hx.out,<-HP.out]
               rw[<-Hx.out]at bD;have lO:=Tk eN;have lR:=Tk cS;have hg0:w.heap.size≠gn:=by have:=oN.at_.2.1;simp at this;omega
               have l4:gc<wr.heap.size:=bC.lt;have hz0:wr.heap.size<=wr.heap.size:=Tz _;clear eN cS gC gB;rcases hB:s.testBit i with _|_
               . rcases bE:K.testBit x with _|_
                 . rw[hB,bE]at a7;rw[bE]at a3 a4;have a6:=Tk a7;have HB:=Tk hB;have gF:=Tk bE;clear a7 hB bE bD;go_wp2_with fail
                   refine(yD s i x y _ hs bJ b6 Hi.out).mono ?_;rintro e w4 ⟨rfl,hb4⟩;rw[HB.out];obtain⟨eC,eE,eI⟩:=bkn hb4 _ hz0;have cD:=hst.bl hb4;go_wp2_with fail
                   refine(xC K n gn gb w.heap.size (w.heap.size+1) _ nx _ hlt eP cY cX cD.2.1 cD.2.2.2.1 (b9.bl hb4) hg0 (h9.bl hb4)).mono ?_;rintro e w5 ⟨rfl,eR,j3⟩;have bA:Hid (jP s 0 (fun a b=>a+b) (fun n _=>n) i nx K n=gV 0 (fun a b=>a+b) nx K n):=Tk (by rw[a6.out];rfl);go_wp2;go_roundw
                   case rel=>exact⟨K+1,_,by omega,by go_num,Tk (by rw[dO,<-bK.out,bS.out];exact bA.out.symm),cD.put eR j3⟩
                   case measure=>simp[intOf];omega
                 . exact absurd (bD bE) (by rw[hB];simp)
               . rcases bE:K.testBit x with _|_
                 . rw[hB,bE]at a7;rw[bE]at a3 a4;have a6:=Tk a7;have HB:=Tk hB;have gF:=Tk bE;clear a7 hB bE bD;go_wp2_with fail
                   refine(yD s i x y _ hs bJ b6 Hi.out).mono ?_;rintro e w4 ⟨rfl,hb4⟩;rw[HB.out];obtain⟨eC,eE,eI⟩:=bkn hb4 _ hz0;go_wp2_with fail
                   refine(yD s i x y _ hs bJ b6 Hi.out).mono ?_;rintro e w5 ⟨rfl,dL⟩;rw[HB.out];obtain⟨eW,e5,gK⟩:=bkn dL _ eI;go_wp2_with fail
                   refine(yD s i x y _ hs bJ b6 Hi.out).mono ?_;rintro e w6 ⟨rfl,gL⟩;rw[HB.out];obtain⟨gM,gN,j4⟩:=bkn gL _ gK;go_wp2_with fail
                   refine(RD s i x y _ hs bJ b6 Hi.out).mono ?_;rintro e w7 ⟨rfl,gO⟩;have e6:=(((hst.bl hb4).bl dL).bl gL).bl gO;rcases hd:kF s i with _|_
                   . have b7 : Hid (sO s 0 (fun a b => a + b) (fun n _ => n) i nx K n = nx) := Tk (by unfold sO; rw [hd]; rfl);clear hd eC eW gM eE e5 gN cN cP;have cF:PSt ((w.alloc (.cells #[.int .i64 0] 3)).alloc (.cells #[.func (.func 210) #[] #[]] 204)) g gc gn gb x y (bV s i) nx w7:=e6;obtain⟨e7,e8,b8,e9,cG,cH⟩:=cF;have cF:PSt ((w.alloc (.cells #[.int .i64 0] 3)).alloc (.cells #[.func (.func 210) #[] #[]] 204)) g gc gn gb x y (bV s i) nx w7:=⟨e7,e8,b8,e9,cG,cH⟩;have cI:=b8.cell 0;have cJ:=b8.cell 1;simp only[Tt,Tu,Tv]at cI cJ;have fD:=b8.lt;have fL:w7.heap.size<=w7.heap.size:=Tz _;have fN:Hid ((nx:List Int).length=256):=Tk cX.out;go_wp2_with fail
                     refine(MR s i x y _ hs bJ b6 Hi.out).mono ?_;rintro e j5 ⟨rfl,bO⟩;obtain⟨fO,fR,fS⟩:=bkn bO _ fL;have bF:=cF.bl bO;rcases hr:kG s i with _|_
                     . have bA : Hid (jP s 0 (fun a b => a + b) (fun n _ => n) i nx K n = nx) := Tk (by rw [a6.out, b7.out]; unfold yX; rw [hr]; rfl);clear hr;go_wp2;go_roundw
                       case rel=>exact⟨K+1,_,by omega,by go_num,Tk (by rw[dO,<-bK.out,bS.out];exact bA.out.symm),bF⟩
                       case measure=>simp[intOf];omega
                     . have j6 : x < 7 := by have := Hx.out; unfold kG at hr; rw [Bool.and_eq_true, decide_eq_true_iff] at hr; omega
                       obtain⟨c1,c2,c3,c4,c5⟩:=AZ hlt (show x+1<8 by omega);have cK:2^(x+1)=P*2:=(by rw[Nat.pow_succ,HP.out]);rw[cK]at c1 c2 c3 c4 c5;rw[show((P*2:Nat):Int)=(P:Int)*2 by omega]at c1 c2;have Hr:=Tk hr;have fW:=Tk cK;clear hr cK;rcases bL:K.testBit (x+1)with _|_
                       . rw[bL]at c3 c4
                         have bA : Hid (jP s 0 (fun a b => a + b) (fun n _ => n) i nx K n = gV 0 (fun a b => a + b) nx (K ||| P * 2) n) := Tk (by
                          rw[a6.out,b7.out];unfold yX;rw[Hr.out,<-Hx.out,bL,fW.out,show eT i=((x:Int),(y:Int),false) by unfold eT;rw[<-Hx.out,<-Hy.out]];rfl)
                         clear bL;go_wp2_with fail
                         refine(Fq n x y false _ (by omega)).mono ?_;rintro e j7 ⟨rfl,cL⟩;have a8:=bF.bl cL;have bP:=a8.2.2.2.2.2;go_wp2_with fail
                         refine(xC (K|||P*2) n gn gb w.heap.size (w.heap.size+1) _ nx _ c5 (Tk (by rw[<-b7.out];exact gD.out)) cY fN a8.2.1 a8.2.2.2.1 (b0.bl bP) hg0 (ba.bl bP)).mono ?_;rintro e j8 ⟨rfl,bR,cM⟩;go_wp2;go_roundw
                         case rel=>exact⟨K+1,_,by omega,by go_num,Tk (by rw[dO,<-bK.out,bS.out];exact bA.out.symm),a8.put bR cM⟩
                         case measure=>simp[intOf];omega
                       . rw[bL]at c3 c4;have bA:Hid (jP s 0 (fun a b=>a+b) (fun n _=>n) i nx K n=nx):=Tk (by rw[a6.out,b7.out];unfold yX;rw[Hr.out,<-Hx.out,bL];rfl);clear bL;go_wp2;go_roundw
                         case rel=>exact⟨K+1,_,by omega,by go_num,Tk (by rw[dO,<-bK.out,bS.out];exact bA.out.symm),bF⟩
                         case measure=>simp[intOf];omega
                   . obtain⟨j9,kA,l5⟩:=bkn gO _ j4
                     have b7 : Hid (sO s 0 (fun a b => a + b) (fun n _ => n) i nx K n = gV 0 (fun a b => a + b) nx (K ||| P) n) := Tk (by
                      unfold sO;rw[hd,<-Hx.out,<-HP.out,show fT i=((x:Int),(y:Int),true) by unfold fT;rw[<-Hx.out,<-Hy.out]];rfl)
                     clear hd;have l6:=e6.2.2.2.2.2;go_wp2_with fail
                     refine(Fq n x y true _ (by omega)).mono ?_;rintro e w8 ⟨rfl,kB⟩;have eJ:=e6.bl kB;have gP:=eJ.2.2.2.2.2;go_wp2_with fail
                     refine(xC (K|||P) n gn gb w.heap.size (w.heap.size+1) _ nx _ a5 eP cY cX eJ.2.1 eJ.2.2.2.1 (b0.bl gP) hg0 (ba.bl gP)).mono ?_;rintro e w9 ⟨rfl,fX,kO⟩;have k0:=eJ.put fX kO;clear eC eW gM j9 eE e5 gN kA cN cP;have cF:PSt ((w.alloc (.cells #[.int .i64 0] 3)).alloc (.cells #[.func (.func 210) #[] #[]] 204)) g gc gn gb x y (bV s i) (gV 0 (fun a b=>a+b) nx (K|||P) n) w9:=k0;obtain⟨e7,e8,b8,e9,cG,cH⟩:=cF;have cF:PSt ((w.alloc (.cells #[.int .i64 0] 3)).alloc (.cells #[.func (.func 210) #[] #[]] 204)) g gc gn gb x y (bV s i) (gV 0 (fun a b=>a+b) nx (K|||P) n) w9:=⟨e7,e8,b8,e9,cG,cH⟩;have cI:=b8.cell 0;have cJ:=b8.cell 1;simp only[Tt,Tu,Tv]at cI cJ;have fD:=b8.lt;have fL:w9.heap.size<=w9.heap.size:=Tz _;have fN:Hid (((gV 0 (fun a b=>a+b) nx (K|||P) n):List Int).length=256):=Tk (by rw[tT,cX.out]);go_wp2_with fail
                     refine(MR s i x y _ hs bJ b6 Hi.out).mono ?_;rintro e j5 ⟨rfl,bO⟩;obtain⟨fO,fR,fS⟩:=bkn bO _ fL;have bF:=cF.bl bO;rcases hr:kG s i with _|_
                     . have bA : Hid (jP s 0 (fun a b => a + b) (fun n _ => n) i nx K n = (gV 0 (fun a b => a + b) nx (K ||| P) n)) := Tk (by rw [a6.out, b7.out]; unfold yX; rw [hr]; rfl);clear hr;go_wp2;go_roundw
                       case rel=>exact⟨K+1,_,by omega,by go_num,Tk (by rw[dO,<-bK.out,bS.out];exact bA.out.symm),bF⟩
                       case measure=>simp[intOf];omega
                     . have j6 : x < 7 := by have := Hx.out; unfold kG at hr; rw [Bool.and_eq_true, decide_eq_true_iff] at hr; omega
                       obtain⟨c1,c2,c3,c4,c5⟩:=AZ hlt (show x+1<8 by omega);have cK:2^(x+1)=P*2:=(by rw[Nat.pow_succ,HP.out]);rw[cK]at c1 c2 c3 c4 c5;rw[show((P*2:Nat):Int)=(P:Int)*2 by omega]at c1 c2;have Hr:=Tk hr;have fW:=Tk cK;clear hr cK;rcases bL:K.testBit (x+1)with _|_
                       . rw[bL]at c3 c4
                         have bA : Hid (jP s 0 (fun a b => a + b) (fun n _ => n) i nx K n = gV 0 (fun a b => a + b) (gV 0 (fun a b => a + b) nx (K ||| P) n) (K ||| P * 2) n) := Tk (by
                          rw[a6.out,b7.out];unfold yX;rw[Hr.out,<-Hx.out,bL,fW.out,show eT i=((x:Int),(y:Int),false) by unfold eT;rw[<-Hx.out,<-Hy.out]];rfl)
                         clear bL;go_wp2_with fail
                         refine(Fq n x y false _ (by omega)).mono ?_;rintro e j7 ⟨rfl,cL⟩;have a8:=bF.bl cL;have bP:=a8.2.2.2.2.2;go_wp2_with fail
                         refine(xC (K|||P*2) n gn gb w.heap.size (w.heap.size+1) _ (gV 0 (fun a b=>a+b) nx (K|||P) n) _ c5 (Tk (by rw[<-b7.out];exact gD.out)) cY fN a8.2.1 a8.2.2.2.1 (b0.bl bP) hg0 (ba.bl bP)).mono ?_;rintro e j8 ⟨rfl,bR,cM⟩;go_wp2;go_roundw
                         case rel=>exact⟨K+1,_,by omega,by go_num,Tk (by rw[dO,<-bK.out,bS.out];exact bA.out.symm),a8.put bR cM⟩
                         case measure=>simp[intOf];omega
                       . rw[bL]at c3 c4;have bA:Hid (jP s 0 (fun a b=>a+b) (fun n _=>n) i nx K n=(gV 0 (fun a b=>a+b) nx (K|||P) n)):=Tk (by rw[a6.out,b7.out];unfold yX;rw[Hr.out,<-Hx.out,bL];rfl);clear bL;go_wp2;go_roundw
                         case rel=>exact⟨K+1,_,by omega,by go_num,Tk (by rw[dO,<-bK.out,bS.out];exact bA.out.symm),bF⟩
                         case measure=>simp[intOf];omega
                 . rw[hB,bE]at a7;rw[bE]at a3 a4;have fY:=De K hlt x bJ bE;rw[<-HP.out]at fY;have hk2:=(pY K hlt x bJ bE).1;rw[<-HP.out]at hk2;have a6:=Tk a7;have HB:=Tk hB;have gF:=Tk bE;clear a7 hB bE bD;go_wp2_with fail
                   refine(yD s i x y _ hs bJ b6 Hi.out).mono ?_;rintro e w4 ⟨rfl,hb4⟩;rw[HB.out];obtain⟨eC,eE,eI⟩:=bkn hb4 _ hz0;go_wp2_with fail
                   refine(yD s i x y _ hs bJ b6 Hi.out).mono ?_;rintro e w5 ⟨rfl,dL⟩;rw[HB.out];obtain⟨eW,e5,gK⟩:=bkn dL _ eI;have eK:=(hst.bl hb4).bl dL;have gQ:=eK.2.2.2.2.2;go_wp2_with fail
                   refine(xC (K-P) n gn gb w.heap.size (w.heap.size+1) _ nx _ hk2 eP cY cX eK.2.1 eK.2.2.2.1 (b0.bl gQ) hg0 (ba.bl gQ)).mono ?_;rintro e w6 ⟨rfl,gA,k5⟩;have bA:Hid (jP s 0 (fun a b=>a+b) (fun n _=>n) i nx K n=gV 0 (fun a b=>a+b) nx (K-P) n):=Tk (by rw[a6.out];rfl);go_wp2;go_roundw
                   case rel=>exact⟨K+1,_,by omega,by go_num,Tk (by rw[dO,<-bK.out,bS.out];exact bA.out.symm),eK.put gA k5⟩
                   case measure=>simp[intOf];omega
           . obtain rfl : K = 256 := by omega
             have zB:=bB.c1;have e1:bV s (i+1)=nx:=by rw[Ex];exact bK.out.symm
             have E1:=Tk e1;clear e1;go_wp2;go_roundw
             case rel=>exact⟨i+1,gn,by omega,by go_num,rfl,by rw[E1.out];exact hst.2.1,hst.2.2.2.2.2⟩
             case measure=>simp[intOf];omega
     . obtain rfl : i = 64 := by omega
       have cQ:0<(bV s 64).length:=by unfold bV;rw[yC];decide
       have zK:=b5.slot aM Tw cQ 0 (.int .i64 (bV s 64)[0]) rfl;rw[Tx,Ty]at zK;have cR:R=(bV s 64)[0]:=(by rw[HR.out,Tm,Tn cQ,TA]);rw[<-cR]at zK;clear cR;go_wp2;go_ret;exact⟨rfl,hA.tr bM⟩
end Go.Proofs.YtjijonhkofhikaaGreatDoor
