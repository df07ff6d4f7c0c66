/- Texts that are merged into one file: TkPack. -/
import Derived.Test.YtijgbonhjcblcaaGreatDoorK07
import Derived.Test.YtijgbonhjcblcaaGreatDoorK14
import Derived.Test.YtijgbonhjcblcaaGreatDoorK20
import Derived.Test.YtijgbonhjcblcaaGreatDoorK21
set_option maxRecDepth 100000
set_option maxHeartbeats 51200000
namespace Go.Proofs.YtijgbonhjcblcaaGreatDoor
open Go.RowKit Go.Shelf
attribute [local go_sem] Oper.semAt_some
def cmN (x:Int):Int:=if x < 1∨65535 < x then 65535 else x
theorem cmN_bd (x:Int):1≤cmN x∧cmN x≤65535:=by unfold cmN;split <;> omega
def clp (x:Int):Int:=if 0≤x∧x≤65535 then x else 0
theorem clp_bd (x:Int):0≤clp x∧clp x≤65535:=by unfold clp;split <;> omega
def cntR (rs:List (Int × Nat)):Nat:=(rs.map Prod.snd).sum
theorem cntR_snoc (rs:List (Int × Nat)) (x:Int × Nat):cntR (rs++[x])=cntR rs+x.2:=by simp [cntR]
def flatR (rs:List (Int × Nat)):List Int:=rs.flatMap (fun p=>List.replicate p.2 p.1)
theorem flatR_len:∀rs:List (Int × Nat),(flatR rs).length=cntR rs
 | []=>rfl
 | x::r=>by
  have:=flatR_len r
  unfold flatR cntR at *
  simp [this]
theorem cntR_all (l:List Int):cntR (runsL l)=l.length:=by rw [←flatR_len,show flatR (runsL l)=l from runsL_flat l]
def okRn:List (Int × Nat)→Prop
 | []=>True
 | [a]=>1≤a.2
 | a::b::t=>1≤a.2∧a.1≠b.1∧okRn (b::t)
theorem runs_ok:∀l:List Int,okRn (runsL l)
 | []=>trivial
 | x::r=>by
  have ih:=runs_ok r
  unfold runsL
  cases h:runsL r with
  | nil=>exact Nat.le_refl 1
  | cons p t=>
   obtain ⟨y,c⟩:=p
   rw [h] at ih
   dsimp only
   split
   ·cases t with
    | nil=>show 1≤c+1;omega
    | cons q t=>exact ⟨by show 1≤c+1;omega,ih.2.1,ih.2.2⟩
   ·next hne=>exact ⟨Nat.le_refl 1,hne,ih⟩
theorem okRn_tail:∀{pre rest:List (Int × Nat)},okRn (pre++rest)→okRn rest
 | [],_,h=>h
 | a::pre,rest,h=>by
  have h':okRn (a::(pre++rest)):=h
  cases e:pre++rest with
  | nil=>rw [(List.append_eq_nil_iff.1 e).2];trivial
  | cons b t=>
   rw [e] at h'
   have h2:=h'.2.2
   rw [←e] at h2
   exact okRn_tail h2
theorem runs_next {pre rest:List (Int × Nat)} {v:Int} {c:Nat} {vals:List Int} (h:pre++(v,c)::rest=runsL vals):1≤c∧vals.drop (cntR pre)=List.replicate c v++vals.drop (cntR pre+c)∧(∀y,(vals.drop (cntR pre+c)).head?=some y→y≠v)∧cntR pre+c≤vals.length∧v ∈ vals:=by
 have hf:flatR pre++(List.replicate c v++flatR rest)=vals:=by
  have:=runsL_flat vals
  rw [←h,List.flatMap_append,List.flatMap_cons] at this
  exact this
 have hok:=okRn_tail (h ▸ runs_ok vals:okRn (pre++(v,c)::rest))
 have hc:1≤c:=by
  cases rest with
  | nil=>exact hok
  | cons b t=>exact hok.1
 have hl:=flatR_len pre
 have d1:vals.drop (cntR pre)=List.replicate c v++flatR rest:=by
  rw [←hf,List.drop_append_of_le_length (by omega),List.drop_of_length_le (by omega),List.nil_append]
 have d2:vals.drop (cntR pre+c)=flatR rest:=by
  rw [←List.drop_drop,d1,List.drop_append_of_le_length (by simp),List.drop_of_length_le (by simp),List.nil_append]
 refine ⟨hc,by rw [d2];exact d1,fun y hy=>?_,?_,?_⟩
 ·rw [d2] at hy
  cases rest with
  | nil=>cases hy
  | cons b t=>
   obtain ⟨u,k⟩:=b
   have hk:1≤k:=by
    cases t with
    | nil=>exact hok.2.2
    | cons q t=>exact hok.2.2.1
   have hne:v≠u:=hok.2.1
   obtain ⟨k',rfl⟩:∃k',k=k'+1:=⟨k - 1,by omega⟩
   have:y=u:=by
    unfold flatR at hy
    rw [List.flatMap_cons] at hy
    dsimp only at hy
    rw [List.replicate_succ] at hy
    injection hy with hy
    exact hy.symm
   rw [this]
   exact fun e=>hne e.symm
 ·rw [←hf]
  simp
  omega
 ·rw [←hf]
  obtain ⟨c',rfl⟩:∃c',c=c'+1:=⟨c - 1,by omega⟩
  simp [List.replicate_succ]
def restP (m:Int) (c:Nat) (D:List Int):List Int:=if c % 8=0 then [] else if D=[]∨Pk.fst D < m then [m+(c % 8:Nat) - 1] else [m+15 - (c % 8:Nat)]
def addP (m v:Int) (c:Nat) (D:List Int):List Int:=if v < m then List.replicate c v else if m < v then List.replicate c (v+14) else List.replicate (c / 8) (m+7)++restP m c D
theorem add_step {m v:Int} {c:Nat} {D D':List Int} (hD:D=List.replicate c v++D') (hne:∀y,D'.head?=some y→y≠v):Pk.pk m 0 D=addP m v c D'++Pk.pk m 0 D':=by
 subst hD
 unfold addP
 by_cases h1:v < m
 ·rw [if_pos h1,Pk.pk_less h1]
 ·rw [if_neg h1]
  by_cases h2:m < v
  ·rw [if_pos h2,Pk.pk_more h2]
  ·rw [if_neg h2]
   obtain rfl:v=m:=by omega
   rw [Pk.pk_run c 0 D' (by omega),Nat.zero_add,List.append_assoc]
   congr 1
   unfold restP
   by_cases h3:c % 8=0
   ·rw [if_pos h3,h3];rfl
   ·rw [if_neg h3]
    cases D' with
    | nil=>
     rw [if_pos (.inl rfl),Pk.pk_low (c % 8) (fun y hy=>by cases hy)]
     unfold Pk.low
     rw [if_neg h3]
    | cons y r=>
     have hy:y≠v:=hne y rfl
     rw [Pk.fst_cons]
     by_cases h4:y < v
     ·rw [if_pos (.inr h4),Pk.pk_low (c % 8) (fun z hz=>by injection hz with hz;subst hz;exact h4)]
      unfold Pk.low
      rw [if_neg h3]
     ·rw [if_neg (by rintro (q | q);exact absurd q (by simp);exact h4 q),Pk.pk_high (c % 8) (by omega)]
      unfold Pk.high
      rw [if_neg h3]
theorem addP_lt {m v:Int} {c:Nat} {D:List Int} (h:v < m):addP m v c D=List.replicate c v:=by unfold addP;rw [if_pos h]
theorem addP_gt {m v:Int} {c:Nat} {D:List Int} (h:m < v):addP m v c D=List.replicate c (v+14):=by unfold addP;rw [if_neg (by omega),if_pos h]
theorem addP_eq {v:Int} {c:Nat} {D:List Int}:addP v v c D=List.replicate (c / 8) (v+7)++restP v c D:=by unfold addP;rw [if_neg (by omega),if_neg (by omega)]
theorem rest_zero {m:Int} {c:Nat} {D:List Int} (h:c % 8=0):restP m c D=[]:=by unfold restP;rw [if_pos h]
theorem rest_low {m:Int} {c:Nat} {D:List Int} (h:¬c % 8=0) (hd:D=[]∨Pk.fst D < m):restP m c D=[m+(c:Int) % 8 - 1]:=by unfold restP;rw [if_neg h,if_pos hd];rfl
theorem rest_high {m:Int} {c:Nat} {D:List Int} (h:¬c % 8=0) (h1:¬D=[]) (h2:¬Pk.fst D < m):restP m c D=[m+15 - (c:Int) % 8]:=by unfold restP;rw [if_neg h,if_neg (by rintro (q | q);exact h1 q;exact h2 q)];rfl
theorem fst_drop {vals:List Int} {q:Nat} (h:q < vals.length):Pk.fst (vals.drop q)=vals[q]:=by rw [List.drop_eq_getElem_cons h,Pk.fst_cons]
theorem addP_len (m v:Int) {c:Nat} (hc:1≤c) (D:List Int):(addP m v c D).length≤c:=by
 unfold addP restP
 repeat' split
 all_goals simp
 all_goals omega
def fillP (l:List Int) (i:Nat):List Int:=(l.take i).map clp++List.replicate (l.length - i) 0
theorem fillP_end (l:List Int):fillP l l.length=l.map clp:=by simp [fillP]
theorem fillP_step {l:List Int} {i:Nat} (h:i < l.length):fillP l (i+1)=(fillP l i).set i (clp l[i]):=by
 unfold fillP
 apply List.ext_getElem
 ·simp;omega
 ·intro j h1 h2
  simp at h1 h2
  rw [List.getElem_set]
  by_cases hj:i=j
  ·subst hj
   rw [if_pos rfl,List.getElem_append_left (by simp;omega)]
   simp
  ·rw [if_neg hj]
   by_cases hlt:j < i
   ·rw [List.getElem_append_left (by simp;omega),List.getElem_append_left (by simp;omega)]
    simp
   ·rw [List.getElem_append_right (by simp;omega),List.getElem_append_right (by simp;omega)]
    simp
theorem fillP_same {l:List Int} {i:Nat} (h:i < l.length) (h0:clp l[i]=0):fillP l (i+1)=fillP l i:=by
 rw [fillP_step h,h0]
 apply List.ext_getElem
 ·simp
 ·intro j h1 h2
  rw [List.getElem_set]
  split
  ·next e=>
   subst e
   have:((l.take i).map clp++List.replicate (l.length - i) 0)[i]?=some 0:=by
    rw [List.getElem?_append_right (by simp;omega),List.getElem?_replicate,if_pos (by rw [List.length_map,List.length_take];omega)]
   have h3:(fillP l i)[i]?=some 0:=this
   rw [List.getElem?_eq_getElem h2] at h3
   injection h3 with h3
   exact h3.symm
  ·rfl
structure Stp (s:Nat) (m:Int) (N:Nat) (vs:List Int) (W:World):Prop where
 b0:Box W s 3 [.int .i64 m]
 r1:Box W (s+1) 3 (vs.map (Value.int .i64))
 b2:Box W (s+1+1) 37 [.slice (some ⟨s+1,0,none⟩) N N]
theorem Stp.c0 {s:Nat} {m:Int} {N:Nat} {vs:List Int} {W:World} (h:Stp s m N vs W):W.cell? ⟨s,0,none⟩=some (.int .i64 m):=h.b0.cell (i:=0) rfl
theorem Stp.c2 {s:Nat} {m:Int} {N:Nat} {vs:List Int} {W:World} (h:Stp s m N vs W):W.cell? ⟨s+1+1,0,none⟩=some (.slice (some ⟨s+1,0,none⟩) N N):=h.b2.cell (i:=0) rfl
theorem Stp.f1 {s:Nat} {m:Int} {N:Nat} {vs:List Int} {W:World} (h:Stp s m N vs W) (i:Nat):W.frozen? ⟨s+1,i,none⟩=false:=h.r1.free i
theorem Stp.cq {s:Nat} {m:Int} {N:Nat} {vs:List Int} {W:World} (h:Stp s m N vs W) {i:Nat} (hi:i < vs.length):W.cell? ⟨s+1,i,none⟩=some (.int .i64 vs[i]):=h.r1.cell (by rw [List.getElem?_map,List.getElem?_eq_getElem hi];rfl)
theorem Stp.drew {s:Nat} {m:Int} {N:Nat} {vs:List Int} {W:World} (h:Stp s m N vs W):Stp s m N vs W.drew:=⟨h.b0,h.r1,h.b2⟩
theorem Stp.set {s:Nat} {m:Int} {N:Nat} {vs:List Int} {W:World} (h:Stp s m N vs W) (i:Nat) (x:Int):Stp s m N (vs.set i x) (W.setCell ⟨s+1,i,none⟩ (.int .i64 x)):=
 ⟨h.b0.grown (grown_set W ⟨s+1,i,none⟩ _) (by simp),by have:=h.r1.set i (.int .i64 x);rwa [←List.map_set] at this,h.b2.grown (grown_set W ⟨s+1,i,none⟩ _) (by simp)⟩
theorem Stp.keep {s n₀ p q:Nat} {m:Int} {N:Nat} {vs:List Int} {W W':World} (h:Stp s m N vs W) (hk:KeepY n₀ p q W W') (h1:s+1+1 < n₀∧s+1+1 < p∧s+1+1 < q):Stp s m N vs W':=
 ⟨(hk.2 _ (by omega) (by omega) (by omega)).trans h.b0,(hk.2 _ (by omega) (by omega) (by omega)).trans h.r1,(hk.2 _ (by omega) (by omega) (by omega)).trans h.b2⟩
theorem Stp.below {s:Nat} {m:Int} {N:Nat} {vs:List Int} {W W':World} (h:Stp s m N vs W) (hb:Below W.heap.size W W'):Stp s m N vs W':=⟨h.b0.below hb h.b0.lt,h.r1.below hb h.r1.lt,h.b2.below hb h.b2.lt⟩
structure PkI (s p n₀:Nat) (m:Int) (N:Nat) (vals:List Int) (w:World) (pkd:List Int) (a n:Nat) (A:Option Addr) (c:Nat) (W:World):Prop where
 hn:pkd.length=n
 lo:s+1+1 < p∧p+1 < n₀∧n₀≤W.heap.size∧s=w.heap.size
 bp:Box W p 37 [.slice A n c]
 own:W.ownsRow n₀ 3 1 (.slice A n c) n (pkd.map (Value.int .i64))
 ba:Box W (p+1) 3 [.int .i64 a]
 st:Stp s m N vals W
 bl:Below s w W
section
variable {s p n₀:Nat} {m:Int} {N:Nat} {vals:List Int} {w:World} {pkd:List Int} {a n:Nat} {A:Option Addr} {c:Nat} {W:World}
theorem own_kept {W':World} {row:Option Nat} {e:TypeId} {v:Value} {xs:List Value} (h:W.ownsRow n₀ e 1 v n xs) (hg:W.grownBy W' row) (hr:∀r,row=some r→r < n₀∨∃o:Obj,W.heap[r]?=some o∧o.isCells=false):W'.ownsRow n₀ e 1 v n xs:=by
 rcases h.2 with ⟨rfl,_⟩ | ⟨g,cap,cur,rfl,hgn,hgb,_⟩
 ·exact h.kept hg (.inl rfl)
 ·refine h.kept hg (.inr fun e'=>?_)
  rcases hr g e'.symm with h1 | ⟨o,ho,hc⟩
  ·omega
  ·rw [hgb] at ho
   cases ho
   cases hc
theorem own_lower {B:Nat} {e:TypeId} {size:Nat} {v:Value} {xs:List Value} (h:W.ownsRow n₀ e size v n xs) (hb:B≤n₀):W.ownsRow B e size v n xs:=⟨h.1,h.2.imp id (fun ⟨g,cap,cur,h1,h2,h3⟩=>⟨g,cap,cur,h1,Nat.le_trans hb h2,h3⟩)⟩
theorem PkI.grow (h:PkI s p n₀ m N vals w pkd a n A c W) {W':World} {row:Option Nat} (hg:W.grownBy W' row) (hr:∀r,row=some r→n₀≤r∧∃o:Obj,W.heap[r]?=some o∧o.isCells=false):PkI s p n₀ m N vals w pkd a n A c W':=by
 have hl:=h.lo
 have k:∀b,b < n₀→W'.heap[b]?=W.heap[b]?:=fun b hb=>hg.block b (by omega) (fun e=>by have:=(hr b e.symm).1;omega)
 have hgs:=hg.size
 exact ⟨h.hn,⟨hl.1,hl.2.1,by omega,hl.2.2.2⟩,(k _ (by omega)).trans h.bp,own_kept h.own hg (fun r e=>.inr (hr r e).2),(k _ (by omega)).trans h.ba,⟨(k _ (by omega)).trans h.st.b0,(k _ (by omega)).trans h.st.r1,(k _ (by omega)).trans h.st.b2⟩,h.bl.grown hg (by omega) (fun q e=>by have:=(hr q e).1;omega)⟩
theorem PkI.bel (h:PkI s p n₀ m N vals w pkd a n A c W) {W':World} (hb:Below W.heap.size W W'):PkI s p n₀ m N vals w pkd a n A c W':=h.grow (grown_of_below hb) (fun r e=>by cases e)
theorem PkI.alloc (h:PkI s p n₀ m N vals w pkd a n A c W) (o:Obj):PkI s p n₀ m N vals w pkd a n A c (W.alloc o):=h.bel ((Below.refl _ _).alloc (Nat.le_refl _) _)
theorem PkI.drew (h:PkI s p n₀ m N vals w pkd a n A c W):PkI s p n₀ m N vals w pkd a n A c W.drew:=h.bel (Below.drew (Below.refl _ _))
theorem PkI.setA (h:PkI s p n₀ m N vals w pkd a n A c W) (a':Nat):PkI s p n₀ m N vals w pkd a' n A c (W.setCell ⟨p+1,0,none⟩ (.int .i64 a')):=by
 have hl:=h.lo
 have hg:=grown_set W ⟨p+1,0,none⟩ (.int .i64 a')
 have hgs:=hg.size
 have k:∀b,b < n₀→b≠p+1→(W.setCell ⟨p+1,0,none⟩ (.int .i64 a')).heap[b]?=W.heap[b]?:=fun b hb hne=>hg.block b (by omega) (fun e=>hne (by injection e))
 exact ⟨h.hn,⟨hl.1,hl.2.1,by omega,hl.2.2.2⟩,(k _ (by omega) (by omega)).trans h.bp,own_kept h.own hg (fun r e=>.inl (by injection e with e;subst e;exact hl.2.1)),h.ba.set 0 _,⟨(k _ (by omega) (by omega)).trans h.st.b0,(k _ (by omega) (by omega)).trans h.st.r1,(k _ (by omega) (by omega)).trans h.st.b2⟩,h.bl.grown hg (by omega) (fun q e=>by injection e with e;subst e;show s≤p+1;omega)⟩
theorem PkI.push (h:PkI s p n₀ m N vals w pkd a n A c W) {W':World} {B:Option Addr} {k kk:Nat} {news:List Int} (hnews:news.length=k) (hown:W'.ownsRow n₀ 3 1 (.slice B (n+k) kk) (n+k) (pkd.map (Value.int .i64)++news.map (Value.int .i64))) (hg:W.grownBy W' (Value.ownBlock (.slice A n c))):PkI s p n₀ m N vals w (pkd++news) a (n+k) B kk (W'.setCell ⟨p,0,none⟩ (.slice B (n+k) kk)):=by
 have hl:=h.lo
 have hgs:=hg.size
 have k1:∀b,b < n₀→W'.heap[b]?=W.heap[b]?:=fun b hb=>hg.block b (by omega) (fun e=>by have:=(h.own.lt b e.symm).1;omega)
 have hg2:=grown_set W' ⟨p,0,none⟩ (.slice B (n+k) kk)
 have hgs2:=hg2.size
 have k2:∀b,b < n₀→b≠p→(W'.setCell ⟨p,0,none⟩ (.slice B (n+k) kk)).heap[b]?=W.heap[b]?:=fun b hb hne=>(hg2.block b (by omega) (fun e=>hne (by injection e))).trans (k1 b hb)
 have bp1:Box W' p 37 [.slice A n c]:=(k1 _ (by omega)).trans h.bp
 exact ⟨by rw [List.length_append,h.hn,hnews],⟨hl.1,hl.2.1,by omega,hl.2.2.2⟩,bp1.set 0 _,own_kept (by rw [List.map_append];exact hown) hg2 (fun r e=>.inl (by injection e with e;subst e;show p < n₀;omega)),(k2 _ (by omega) (by omega)).trans h.ba,⟨(k2 _ (by omega) (by omega)).trans h.st.b0,(k2 _ (by omega) (by omega)).trans h.st.r1,(k2 _ (by omega) (by omega)).trans h.st.b2⟩,
  (h.bl.grown hg (by omega) (fun q e=>by have:=(h.own.lt q e).1;omega)).grown hg2 (by omega) (fun q e=>by injection e with e;subst e;show s≤p;omega)⟩
theorem PkI.cp (h:PkI s p n₀ m N vals w pkd a n A c W):W.cell? ⟨p,0,none⟩=some (.slice A n c):=h.bp.cell (i:=0) rfl
theorem PkI.ca (h:PkI s p n₀ m N vals w pkd a n A c W):W.cell? ⟨p+1,0,none⟩=some (.int .i64 a):=h.ba.cell (i:=0) rfl
end
def PkJ (s p n₀:Nat) (m:Int) (N:Nat) (vals:List Int) (w:World) (pre:List (Int × Nat)) (W:World):Prop:=
 ∃pkd n A c,Pk.pk m 0 vals=pkd++Pk.pk m 0 (vals.drop (cntR pre))∧n≤cntR pre∧PkI s p n₀ m N vals w pkd (cntR pre) n A c W
theorem PkJ.own (s p n₀:Nat) (m:Int) (N:Nat) (vals:List Int) (w:World):OwnFrom n₀ (PkJ s p n₀ m N vals w):=by
 rintro pre W W' row ⟨pkd,n,A,c,h1,h2,h3⟩ hg hr
 exact ⟨pkd,n,A,c,h1,h2,h3.grow hg hr⟩
theorem ints_one (W:World) (x:Int) (t:TypeId):Ints (W.alloc (.cells #[.int .i64 x] t)) (some ⟨W.heap.size,0,none⟩) [x]:=fun _=>⟨W.heap.size,0,rfl,fun j u hu=>by
 have hb:Box (W.alloc (.cells #[.int .i64 x] t)) W.heap.size t [.int .i64 x]:=Box.new _ _ [_] rfl
 rw [Nat.zero_add]
 exact hb.cell (by rw [←hu];rfl)⟩
theorem bel_al (X:World) (o:Obj):Below X.heap.size X (X.alloc o):=(Below.refl _ X).alloc (Nat.le_refl _) _
theorem bel_dr (X:World):Below X.heap.size X X.drew:=Below.drew (Below.refl _ X)
theorem bel_tr {X Y Z:World} (h:Below X.heap.size X Y) (k:Below Y.heap.size Y Z):Below X.heap.size X Z:=h.trans (k.mono h.size)
theorem repeat_cn (v:Int) (A:Option Addr) (k c:Nat) (w:World) (hA:Ints w A [v]) (hc:c≤1048576):Calls Tryz.prog 79 #[.slice A 1 k,.int .i64 c] w fun e w'=>∃A k,e=.returned (.slice A c k)∧w'.ownsRow w.heap.size 3 1 (.slice A c k) c ((List.replicate c v).map (Value.int .i64))∧Below w.heap.size w w':=
 (repeat_any v A k c w hA hc).mono (fun e w' ⟨A,k,he,ho,hb⟩=>⟨A,k,by rw [List.length_replicate] at he;exact he,by rw [List.length_replicate] at ho;exact ho,hb⟩)
theorem common_any (x:Int) (w:World):Calls Tryz.prog 77 #[.int .i64 x] w fun e w'=>e=.returned (.int .i64 (cmN x))∧w=w':=by
 have HE:=Lib.hid (show cmN x=if x < 1∨65535 < x then 65535 else x from rfl)
 generalize cmN x=r at *
 go_enter Tryz.func77,Tryz.ntmps77
 by_cases h1:x < 1
 ·have d1:decide (x < 1)=true:=decide_eq_true h1
  obtain rfl:=HE.out.trans (if_pos (.inl h1))
  go_wp2_with fail
  go_ret
  exact ⟨rfl,rfl⟩
 have d1:decide (x < 1)=false:=decide_eq_false h1
 by_cases h2:65535 < x
 ·have d2:decide (65535 < x)=true:=decide_eq_true h2
  obtain rfl:=HE.out.trans (if_pos (.inr h2))
  go_wp2_with fail
  go_ret
  exact ⟨rfl,rfl⟩
 have d2:decide (65535 < x)=false:=decide_eq_false h2
 obtain rfl:=HE.out.trans (if_neg (by omega))
 clear HE
 go_wp2_with fail
 go_ret
 exact ⟨rfl,rfl⟩
theorem pack_any (A:Option Addr) (N k:Nat) (l:List Int) (cm:Int) (w:World) (hA:Ints w A l) (hn:l.length=N) (hbig:N≤1048576) :
  Calls Tryz.prog 33 #[.slice A N k,.int .i64 cm] w (RetOwnI (Pk.pk (cmN cm) 0 (l.map clp)) w):=by
 subst hn
 have HA:=Lib.hid hA
 have hm:=cmN_bd cm
 have KCM:=Lib.hid (fun W=>common_any cm W)
 generalize cmN cm=m at *
 have mk:=mk_ints l.length hbig
 clear hA
 refine (callsIn_wide (n:=6)).1 ?_
 refine callsIn_of_wp_marks Tryz.func33 rfl trivial ?_ rfl
 simp only [Tryz.ntmps33,List.size_toArray,List.length_cons,List.length_nil,Nat.reduceAdd,Nat.reduceSub,Array.replicate_succ,Array.replicate_zero,List.push_toArray,List.append_toArray,List.nil_append,List.cons_append]
 gi_wp2_with fail
 refine ⟨trivial,(callsIn_wide.2 (KCM.out _)).mono ?_⟩
 rintro e w' ⟨rfl,rfl⟩
 gi_wp2_with fail
 have e2:w.heap.size+1+1=w.heap.size+2:=rfl
 obtain ⟨W0,hW0⟩:∃W0,((w.alloc (.cells #[.int .i64 m] 3)).alloc (.cells (repV l.length (Value.int .i64 0)).toArray 3)).alloc (.cells #[.slice (some ⟨w.heap.size+1,0,none⟩) l.length l.length] 37)=W0:=⟨_,rfl⟩
 have ST0:Stp w.heap.size m l.length (fillP l 0) W0:=by
  rw [←hW0]
  refine ⟨bx_alloc (bx_alloc (Box.new _ _ [_] rfl) _) _,bx_alloc ?_ _,Box.new _ _ [_] (by simp)⟩
  have e0:(fillP l 0).map (Value.int .i64)=repV l.length (Value.int .i64 0):=by simp [repV,fillP]
  rw [e0]
  exact Box.new _ _ _ (by simp)
 have B0:Below w.heap.size w W0:=by
  rw [←hW0]
  exact (((Below.refl _ w).alloc (Nat.le_refl _) _).alloc (by simp) _).alloc (by simp;omega) _
 rw [hW0]
 clear hW0
 have HS0:=Lib.hid ST0;have HB0:=Lib.hid B0
 clear ST0 B0 mk KCM
 gi_loopw [21] (fun u wr=>∃(i:Nat),i≤l.length∧u=.int .i64 i∧Stp w.heap.size m l.length (fillP l i) wr∧Below w.heap.size w wr) (fun u _=>l.length - (intOf u).toNat)
 case atStart=>exact ⟨0,Nat.zero_le _,rfl,HS0.out,HB0.out⟩
 case round=>
  obtain ⟨i,hi,rfl,hst,hb⟩:=hrel
  have HST:=Lib.hid hst
  have HB:=Lib.hid hb
  by_cases hlt:i < l.length
  ·have hrd:=(HA.out.below hb).at hlt
   have c2:=hst.c2
   have f1:=hst.f1 i
   have cq:=hst.cq (i:=i) (by simp [fillP];omega)
   have hlen:=hst.r1.lt
   clear hst hb
   obtain ⟨b,o,rfl,hcell⟩:=hrd
   have ce:=hcell i hlt
   clear hcell
   by_cases g1:0≤l[i]
   ·have d1:decide (0≤l[i])=true:=decide_eq_true g1
    by_cases g2:l[i]≤65535
    ·have d2:decide (l[i]≤65535)=true:=decide_eq_true g2
     have hx:clp l[i]=l[i]:=by unfold clp;rw [if_pos ⟨g1,g2⟩]
     gi_wp2_with fail
     go_roundw
     case rel=>exact ⟨i+1,by omega,by go_num,by rw [fillP_step hlt,hx];exact HST.out.set i _,HB.out.setCell (by simp) _⟩
     case measure=>simp [intOf];omega
    ·have d2:decide (l[i]≤65535)=false:=decide_eq_false g2
     have hx:clp l[i]=0:=by unfold clp;rw [if_neg (by omega)]
     gi_wp2_with fail
     go_roundw
     case rel=>exact ⟨i+1,by omega,by go_num,by rw [fillP_same hlt hx];exact HST.out,HB.out⟩
     case measure=>simp [intOf];omega
   ·have d1:decide (0≤l[i])=false:=decide_eq_false g1
    have hx:clp l[i]=0:=by unfold clp;rw [if_neg (by omega)]
    gi_wp2_with fail
    go_roundw
    case rel=>exact ⟨i+1,by omega,by go_num,by rw [fillP_same hlt hx];exact HST.out,HB.out⟩
    case measure=>simp [intOf];omega
  ·obtain rfl:i=l.length:=by omega
   have c2:=hst.c2
   have hsz:=hst.b2.lt
   have n1:¬wr.heap.size=w.heap.size+1+1:=by omega
   have n2:¬wr.heap.size+1=w.heap.size+1+1:=by omega
   clear hst hb
   gi_wp2_with fail
   refine ⟨trivial,(callsIn_wide.2 (kruns_any _ _ _ _)).mono ?_⟩
   rintro e WR ⟨rfl,hWR⟩
   gi_wp2_with fail
   have hs:=HST.out
   rw [fillP_end] at hs
   obtain ⟨W1,hW1⟩:∃W1,wr.alloc (.cells #[.slice none 0 0] 37)=W1:=⟨_,rfl⟩
   have HI0:PkJ w.heap.size wr.heap.size WR.heap.size m l.length (l.map clp) w [] WR∧MemR (wr.heap.size+1+1) (some ⟨w.heap.size+1,0,none⟩) l.length l.length (l.map clp) WR∧WR.heap.size=wr.heap.size+3:=by
    have b1:Box WR wr.heap.size 37 [.slice none 0 0]:=by rw [←hWR];exact bx_alloc (bx_alloc (Box.new _ _ [_] rfl) _) _
    have b2:Box WR (wr.heap.size+1) 3 [.int .i64 0]:=by rw [←hWR];exact bx_alloc (Box.new _ _ [_] (by simp)) _
    have b3:Box WR (wr.heap.size+1+1) 37 [.slice (some ⟨w.heap.size+1,0,none⟩) l.length l.length]:=by rw [←hWR];exact Box.new _ _ [_] (by simp)
    have bW:Below wr.heap.size wr WR:=by rw [←hWR];exact (((Below.refl _ wr).alloc (Nat.le_refl _) _).alloc (by simp) _).alloc (by simp;omega) _
    have sW:WR.heap.size=wr.heap.size+3:=by rw [←hWR];simp
    have hs':=hs.below bW
    exact ⟨⟨[],0,none,0,by simp [cntR],Nat.zero_le _,⟨rfl,⟨hsz,by omega,by omega,rfl⟩,b1,World.ownsRow_nil _ _ _ _,b2,hs',HB.out.trans (bW.mono HB.out.size)⟩⟩,⟨b3.cell (i:=0) rfl,fun _=>⟨_,0,rfl,fun j u hu=>by rw [Nat.zero_add];exact hs'.r1.cell hu⟩⟩,sW⟩
   obtain ⟨hj0,hm0,hsz3⟩:=HI0
   have HJ0:=Lib.hid hj0;have HM0:=Lib.hid hm0
   have HLV:=Lib.hid (show (l.map clp).length=l.length from by simp)
   have HVB:=Lib.hid (show ∀y,y ∈ l.map clp→0≤y∧y≤65535 from fun y hy=>by obtain ⟨z,_,rfl⟩:=List.mem_map.1 hy;exact clp_bd z)
   generalize l.map clp=vals at *
   clear hWR hs HST HB hj0 hm0 c2 n1 n2 hW1
   refine wpIn_range_two 11 12 rfl (by omega) (gf:=126) (lb:=#[.pointer (some ⟨wr.heap.size+1+1,0,none⟩)]) rfl trivial (enters_of Tryz.func126 (by kernel_rfl) rfl)
    (Kp:=KeepY WR.heap.size wr.heap.size (wr.heap.size+1)) (all:=runsL vals)
    (fun lr J hJ hY W hb h0=>kruns1_in 5 (by omega) lr WR.heap.size wr.heap.size (wr.heap.size+1) (wr.heap.size+1+1) (some ⟨w.heap.size+1,0,none⟩) l.length l.length vals HLV.out (by omega) ⟨by omega,by omega,by omega⟩ (fun _ b o e=>by injection e with e;injection e with e1 e2;subst e1;exact ⟨by omega,by omega,by omega⟩) J hJ hY W (HM0.out.below hb) h0)
    (fun h k=>h.trans k) (fun W=>KeepY.refl _ _ _ W) (fun W b o o' hl _ _ _=>⟨by simp [World.putObj],fun k hk _ _=>World.putObj_heap_other (by omega)⟩)
    (PkJ w.heap.size wr.heap.size WR.heap.size m l.length vals w) (PkJ.own _ _ _ _ _ _ _) HJ0.out ?assign ?body ?done
   case assign=>
    rintro lr x W K hK
    simp only [List.setIfInBounds_toArray,List.set_cons_zero,List.set_cons_succ] at hK ⊢
    gi_wp2
    exact hK
   case done=>
    rintro D W hD ⟨pkd,n,A',c',hp,hnl,hi⟩ hK
    have hn:=hi.hn
    have cp:=hi.cp
    gi_wp2
    refine ⟨by simp,.inl ⟨_,_,rfl,run_takeDeferred hK,?_⟩⟩
    have h2:=hi.grow (grownBy_putObj' W D (.deferred none)) (fun r e=>by cases e;exact ⟨hD,_,hK,rfl⟩)
    have hall:Pk.pk m 0 vals=pkd:=by
     rw [hp,cntR_all,List.drop_of_length_le (Nat.le_refl _)]
     exact List.append_nil _
    rw [hall]
    subst hn
    exact ⟨_,results_tmp rfl _ _ _,A',c',rfl,own_lower h2.own (by have:=h2.lo;omega),h2.bl⟩
   case body=>
    rintro lr pre x W ⟨pkd,n,A',c',hp,hnl,hi⟩ hpre
    simp only [List.setIfInBounds_toArray,List.set_cons_zero,List.set_cons_succ]
    obtain ⟨v,cn⟩:=x
    obtain ⟨rest,hrest⟩:=hpre
    rw [List.append_assoc] at hrest
    obtain ⟨hc1,hdrop,hnext,hle,hmem⟩:=runs_next hrest
    have hv:=HVB.out v hmem
    have hlv:=HLV.out
    have hap:=add_step (m:=m) hdrop hnext
    have hal:=addP_len m v hc1 (vals.drop (cntR pre+cn))
    rw [hap] at hp
    have HP:=Lib.hid hp
    have HSN:=Lib.hid (cntR_snoc pre (v,cn))
    have HPRE:Hid True:=Lib.hid trivial
    clear hp hap hdrop hmem hnext hrest
    dsimp only at HSN
    generalize cntR pre=ca at *
    obtain ⟨i0,hi0,hz0,hz1,hz2⟩:=info_parts info_int
    have iw:IntKind.i64.wrap ((ca:Int)+(cn:Int))=((ca+cn:Nat):Int):=by rw [IntWalk.i64_in _ (by omega)];omega
    have c1:=hi.ca
    have f1:=hi.ba.free 0
    have cp:=hi.cp
    have fp:=hi.bp.free 0
    have c0:=hi.st.c0
    have c2:=hi.st.c2
    have hlo:=hi.lo
    have n1:¬wr.heap.size+1=w.heap.size:=by omega
    have n2:¬wr.heap.size+1=w.heap.size+1+1:=by omega
    have n3:¬wr.heap.size=w.heap.size+1+1:=by omega
    have n4:¬wr.heap.size=w.heap.size:=by omega
    have HI:=Lib.hid hi
    clear hi
    rcases Int.lt_trichotomy v m with h1 | h1 | h1
    ·have d1:decide (m < v)=false:=decide_eq_false (by omega)
     have d2:(v != m)=true:=by simp;omega
     gi_wp2_with fail
     generalize hX:World.setCell W _ _=X
     have hx:PkI w.heap.size wr.heap.size WR.heap.size m l.length vals w pkd (ca+cn) n A' c' X:=by rw [←hX];exact HI.out.setA (ca+cn)
     have hs1:Stepr WR.heap.size wr.heap.size (wr.heap.size+1) W X:=by rw [←hX];exact Stepr.set (.inr rfl) W _
     have HX:=Lib.hid hx
     have HS1:=Lib.hid hs1
     have cpx:=hx.cp
     have c0x:=hx.st.c0
     have hlx:=hx.lo
     clear hX hx hs1 cp fp c1 f1 c0 c2 d1
     have hmx:Tryz.prog.follows .mixedOrders=true:=by kernel_rfl
     have KR:=Lib.hid (fun W2 (hb:Below X.heap.size X W2) A0 k0 (hA:Ints W2 A0 [v])=>(repeat_cn (v) A0 k0 cn W2 hA (by omega)).mono (R':=fun e w'=>∃vv,e=.returned vv∧w'.cell? ⟨w.heap.size,0,none⟩=some (.int .i64 m)∧(∃A2 k2,vv=.slice A2 cn k2∧w'.ownsRow W2.heap.size 3 1 (.slice A2 cn k2) cn ((List.replicate cn (v)).map (Value.int .i64))∧Below X.heap.size X w')) (fun e w' ⟨A1,k1,he,ho,hb2⟩=>⟨_,he,(HX.out.bel (bel_tr hb hb2)).st.c0,A1,k1,rfl,ho,bel_tr hb hb2⟩))
     have hbx:=bel_tr (bel_dr X) (bel_al X.drew (.cells #[.int .i64 (v)] 3))
     have cpa:=(HX.out.alloc (.cells #[.int .i64 (v)] 3)).cp
     refine wpIn_region_round (S:=fun W'=>W'.cell? ⟨w.heap.size,0,none⟩=some (.int .i64 m)) hmx (by rintro ⟨_,_,h⟩;exact h) (by kernel_rfl) c0x (fun hHeld=>?_)
     refine tK 1 53 ?_
     refine tK 3 55 ?_
     refine anyH_of2 (i:=0) (j:=2) rfl rfl (by kernel_rfl) (by rfl) (by rfl) (stepH_val (w':=X.drew) (v:=.slice A' n c') (some 52) rfl (by go_simp) hHeld ?_) (stepH_val (w':=X.drew.alloc (.cells #[.int .i64 (v)] 3)) (v:=.slice (some ⟨X.drew.heap.size,0,none⟩) 1 1) (some 54) rfl (by go_simp) (HX.out.bel hbx).st.c0 ?_)
     focus (
      try simp only [Act.put,List.setIfInBounds_toArray,List.set_cons_zero,List.set_cons_succ]
      refine anyH_val (w':=X.drew.alloc (.cells #[.int .i64 (v)] 3)) (v:=.slice (some ⟨X.drew.heap.size,0,none⟩) 1 1) (i:=2) (some 54) rfl rfl (by kernel_rfl) (by rfl) (by go_simp) (HX.out.bel hbx).st.c0 ?_
      try simp only [Act.put,List.setIfInBounds_toArray,List.set_cons_zero,List.set_cons_succ]
      refine anyH_callE (i:=4) (some 56) rfl rfl (by kernel_rfl) (by rfl) (by go_simp) (KR.out _ hbx _ 1 (ints_one _ _ _)) ?_
      rintro _ w2 hS6 ⟨A2,k2,rfl,ho2,hb2⟩
      have cp2:=(HX.out.bel hb2).cp)
     rotate_left
     focus (
      try simp only [Act.put,List.setIfInBounds_toArray,List.set_cons_zero,List.set_cons_succ]
      refine anyH_of2 (i:=0) (j:=4) rfl rfl (by kernel_rfl) (by rfl) (by rfl) (stepH_val (w':=X.drew.alloc (.cells #[.int .i64 (v)] 3)) (v:=.slice A' n c') (some 52) rfl (by go_simp) (HX.out.bel hbx).st.c0 ?_) (stepH_callE (some 56) rfl (by go_simp) (KR.out _ hbx _ 1 (ints_one _ _ _)) ?_))
     focus (
      try simp only [Act.put,List.setIfInBounds_toArray,List.set_cons_zero,List.set_cons_succ]
      refine anyH_callE (i:=4) (some 56) rfl rfl (by kernel_rfl) (by rfl) (by go_simp) (KR.out _ hbx _ 1 (ints_one _ _ _)) ?_
      rintro _ w2 hS6 ⟨A2,k2,rfl,ho2,hb2⟩
      have cp2:=(HX.out.bel hb2).cp)
     rotate_left
     focus (
      rintro _ w2 hS6 ⟨A2,k2,rfl,ho2,hb2⟩
      have cp2:=(HX.out.bel hb2).cp
      try simp only [Act.put,List.setIfInBounds_toArray,List.set_cons_zero,List.set_cons_succ]
      refine anyH_val (w':=w2) (v:=.slice A' n c') (i:=0) (some 52) rfl rfl (by kernel_rfl) (by rfl) (by go_simp) hS6 ?_)
     all_goals (
      try simp only [Act.put,List.setIfInBounds_toArray,List.set_cons_zero,List.set_cons_succ]
      have h2:=HX.out.bel hb2
      have hl2:=h2.lo
      refine anyH_app (i:=5) (some 57) rfl rfl (by kernel_rfl) (by rfl) _ _ 37 3 (.int .i64 0) 1 8 rfl Tryz.underlying37 info_int rfl (by decide) (by decide) rfl h2.own rfl (Sl.of_own ho2) (by simp) (oneCell_ints _) (by omega) hl2.2.2.1 ?_
      intro B kk w3 hown3 hk3 hbl3 hg3 _
      have bp3:=h2.bp.below hbl3 (by omega)
      have cp3:=bp3.cell (i:=0) rfl
      have fp3:=bp3.free 0
      have hc3:=(h2.st.b0.below hbl3 (by omega)).cell (i:=0) rfl
      have hpu:=h2.push (by simp) hown3 hg3
      have HST:=Lib.hid (((HS1.out.trans (Stepr.below hb2 (by omega))).trans (Stepr.app h2.own hg3 hl2.2.2.1)).trans (Stepr.set (.inl rfl) w3 (.slice B (n+cn) kk)))
      refine ⟨hc3,?_⟩
      try simp only [Act.put,List.setIfInBounds_toArray,List.set_cons_zero,List.set_cons_succ]
      refine anyH_unit (i:=6) (w':=w3.setCell ⟨wr.heap.size,0,none⟩ (.slice B (n+cn) kk)) none rfl rfl (by kernel_rfl) (by rfl) (by go_simp) hpu.st.c0 ?_
      try simp only [Act.put]
      refine wpAnyH_done (by kernel_rfl) ?_ _
      have HPU:=Lib.hid hpu
      clear hpu hc3 cp3 fp3 bp3 hg3 hbl3 hk3 hown3 h2 hl2 cp2 hS6 ho2 hb2 hbx cpa KR hHeld cpx c0x HX HS1)
     all_goals gi_wp2_with fail
     all_goals (
      have hst:=HST.out
      have hpu:=HPU.out
      rw [hsz3] at hst hpu;(try rw [hsz3])
      refine ⟨hst.1,hst.2,?_⟩
      unfold PkJ
      rw [HSN.out]
      exact ⟨_,_,B,kk,by rw [HP.out,addP_lt h1,List.append_assoc],by omega,hpu⟩)
    ·subst h1
     have d1:decide (v < v)=false:=by simp
     have d2:(v != v)=false:=by simp
     gi_wp2_with fail
     generalize hX:World.setCell W _ _=X
     have hx:PkI w.heap.size wr.heap.size WR.heap.size v l.length vals w pkd (ca+cn) n A' c' X:=by rw [←hX];exact HI.out.setA (ca+cn)
     have hs1:Stepr WR.heap.size wr.heap.size (wr.heap.size+1) W X:=by rw [←hX];exact Stepr.set (.inr rfl) W _
     have HX:=Lib.hid hx
     have HS1:=Lib.hid hs1
     have cpx:=hx.cp
     have c0x:=hx.st.c0
     have hlx:=hx.lo
     clear hX hx hs1 cp fp c1 f1 c0 c2 d1
     have hmx:Tryz.prog.follows .mixedOrders=true:=by kernel_rfl
     have iw8:IntKind.i64.wrap (v+8)=v+8:=by rw [IntWalk.i64_in _ (by omega)]
     have iw7:IntKind.i64.wrap (v+8 - 1)=v+7:=by rw [IntWalk.i64_in _ (by omega)];omega
     have iq:IntKind.i64.wrap ((cn:Int) / 8)=(cn:Int) / 8:=by rw [IntWalk.i64_in _ (by omega)]
     have hc8:cn / 8≤cn:=Nat.div_le_self _ _
     have KR:=Lib.hid (fun W2 (hb:Below X.heap.size X W2) A0 k0 (hA:Ints W2 A0 [v+7])=>(repeat_cn (v+7) A0 k0 (cn / 8) W2 hA (by omega)).mono (R':=fun e w'=>∃vv,e=.returned vv∧w'.cell? ⟨w.heap.size,0,none⟩=some (.int .i64 v)∧(∃A2 k2,vv=.slice A2 (cn / 8) k2∧w'.ownsRow W2.heap.size 3 1 (.slice A2 (cn / 8) k2) (cn / 8) ((List.replicate (cn / 8) (v+7)).map (Value.int .i64))∧Below X.heap.size X w')) (fun e w' ⟨A1,k1,he,ho,hb2⟩=>⟨_,he,(HX.out.bel (bel_tr hb hb2)).st.c0,A1,k1,rfl,ho,bel_tr hb hb2⟩))
     have hbx:=bel_tr (bel_dr X) (bel_al X.drew (.cells #[.int .i64 (v+7)] 3))
     have cpa:=(HX.out.alloc (.cells #[.int .i64 (v+7)] 3)).cp
     refine wpIn_region_round (S:=fun W'=>W'.cell? ⟨w.heap.size,0,none⟩=some (.int .i64 v)) hmx (by rintro ⟨_,_,h⟩;exact h) (by kernel_rfl) c0x (fun hHeld=>?_)
     refine tK 1 59 ?_
     refine tV 2 60 (.int .i64 (v+8)) ?_ ?_
     ·intro w hSw;(try dsimp only at hSw);go_split_ands;go_simp
     try simp only [Act.put,List.setIfInBounds_toArray,List.set_cons_zero,List.set_cons_succ]
     refine tV 3 61 (.int .i64 (v+7)) ?_ ?_
     ·intro w hSw;(try dsimp only at hSw);go_split_ands;go_simp
     try simp only [Act.put,List.setIfInBounds_toArray,List.set_cons_zero,List.set_cons_succ]
     refine tK 5 63 ?_
     refine tV 6 64 (.int .i64 ((cn / 8:Nat):Int)) ?_ ?_
     ·intro w hSw;(try dsimp only at hSw);go_split_ands;go_simp
     try simp only [Act.put,List.setIfInBounds_toArray,List.set_cons_zero,List.set_cons_succ]
     refine anyH_of2 (i:=0) (j:=4) rfl rfl (by kernel_rfl) (by rfl) (by rfl) (stepH_val (w':=X.drew) (v:=.slice A' n c') (some 58) rfl (by go_simp) hHeld ?_) (stepH_val (w':=X.drew.alloc (.cells #[.int .i64 (v+7)] 3)) (v:=.slice (some ⟨X.drew.heap.size,0,none⟩) 1 1) (some 62) rfl (by go_simp) (HX.out.bel hbx).st.c0 ?_)
     focus (
      try simp only [Act.put,List.setIfInBounds_toArray,List.set_cons_zero,List.set_cons_succ]
      refine anyH_val (w':=X.drew.alloc (.cells #[.int .i64 (v+7)] 3)) (v:=.slice (some ⟨X.drew.heap.size,0,none⟩) 1 1) (i:=4) (some 62) rfl rfl (by kernel_rfl) (by rfl) (by go_simp) (HX.out.bel hbx).st.c0 ?_
      try simp only [Act.put,List.setIfInBounds_toArray,List.set_cons_zero,List.set_cons_succ]
      refine anyH_callE (i:=7) (some 65) rfl rfl (by kernel_rfl) (by rfl) (by go_simp) (KR.out _ hbx _ 1 (ints_one _ _ _)) ?_
      rintro _ w2 hS6 ⟨A2,k2,rfl,ho2,hb2⟩
      have cp2:=(HX.out.bel hb2).cp)
     rotate_left
     focus (
      try simp only [Act.put,List.setIfInBounds_toArray,List.set_cons_zero,List.set_cons_succ]
      refine anyH_of2 (i:=0) (j:=7) rfl rfl (by kernel_rfl) (by rfl) (by rfl) (stepH_val (w':=X.drew.alloc (.cells #[.int .i64 (v+7)] 3)) (v:=.slice A' n c') (some 58) rfl (by go_simp) (HX.out.bel hbx).st.c0 ?_) (stepH_callE (some 65) rfl (by go_simp) (KR.out _ hbx _ 1 (ints_one _ _ _)) ?_))
     focus (
      try simp only [Act.put,List.setIfInBounds_toArray,List.set_cons_zero,List.set_cons_succ]
      refine anyH_callE (i:=7) (some 65) rfl rfl (by kernel_rfl) (by rfl) (by go_simp) (KR.out _ hbx _ 1 (ints_one _ _ _)) ?_
      rintro _ w2 hS6 ⟨A2,k2,rfl,ho2,hb2⟩
      have cp2:=(HX.out.bel hb2).cp)
     rotate_left
     focus (
      rintro _ w2 hS6 ⟨A2,k2,rfl,ho2,hb2⟩
      have cp2:=(HX.out.bel hb2).cp
      try simp only [Act.put,List.setIfInBounds_toArray,List.set_cons_zero,List.set_cons_succ]
      refine anyH_val (w':=w2) (v:=.slice A' n c') (i:=0) (some 58) rfl rfl (by kernel_rfl) (by rfl) (by go_simp) hS6 ?_)
     all_goals (
      try simp only [Act.put,List.setIfInBounds_toArray,List.set_cons_zero,List.set_cons_succ]
      have h2:=HX.out.bel hb2
      have hl2:=h2.lo
      refine anyH_app (i:=8) (some 66) rfl rfl (by kernel_rfl) (by rfl) _ _ 37 3 (.int .i64 0) 1 8 rfl Tryz.underlying37 info_int rfl (by decide) (by decide) rfl h2.own rfl (Sl.of_own ho2) (by simp) (oneCell_ints _) (by omega) hl2.2.2.1 ?_
      intro B kk w3 hown3 hk3 hbl3 hg3 _
      have bp3:=h2.bp.below hbl3 (by omega)
      have cp3:=bp3.cell (i:=0) rfl
      have fp3:=bp3.free 0
      have hc3:=(h2.st.b0.below hbl3 (by omega)).cell (i:=0) rfl
      have hpu:=h2.push (by simp) hown3 hg3
      have HST:=Lib.hid (((HS1.out.trans (Stepr.below hb2 (by omega))).trans (Stepr.app h2.own hg3 hl2.2.2.1)).trans (Stepr.set (.inl rfl) w3 (.slice B (n+(cn / 8)) kk)))
      refine ⟨hc3,?_⟩
      try simp only [Act.put,List.setIfInBounds_toArray,List.set_cons_zero,List.set_cons_succ]
      refine anyH_unit (i:=9) (w':=w3.setCell ⟨wr.heap.size,0,none⟩ (.slice B (n+(cn / 8)) kk)) none rfl rfl (by kernel_rfl) (by rfl) (by go_simp) hpu.st.c0 ?_
      try simp only [Act.put]
      refine wpAnyH_done (by kernel_rfl) ?_ _
      have HPU:=Lib.hid hpu
      clear hpu hc3 cp3 fp3 bp3 hg3 hbl3 hk3 hown3 h2 hl2 cp2 hS6 ho2 hb2 hbx cpa KR hHeld cpx c0x HX HS1)
     all_goals (
      have hst:=HST.out
      have hpu:=HPU.out
      clear HST HPU
      generalize World.setCell w3 _ _=Y at *
      have im:IntKind.i64.wrap ((cn:Int) % 8)=(cn:Int) % 8:=by rw [IntWalk.i64_in _ (by omega)]
      by_cases hr:cn % 8=0
      ·have d3:((cn:Int) % 8 != 0)=false:=by simp;omega
       gi_wp2_with fail
       rw [hsz3] at hst hpu;(try rw [hsz3])
       refine ⟨hst.1,hst.2,?_⟩
       unfold PkJ
       rw [HSN.out]
       exact ⟨_,_,B,kk,by rw [HP.out,addP_eq,rest_zero hr,List.append_nil,List.append_assoc],by omega,hpu⟩
      ·have d3:((cn:Int) % 8 != 0)=true:=by simp;omega
       have hr8:cn % 8 < 8:=Nat.mod_lt _ (by decide)
       obtain ⟨q,hq⟩:∃q,ca+cn=q:=⟨_,rfl⟩
       rw [hq] at hpu
       by_cases hqn:q=l.length
       ·have ia:IntKind.i64.wrap (v+(cn:Int) % 8)=v+(cn:Int) % 8:=by rw [IntWalk.i64_in _ (by omega)]
        have ib:IntKind.i64.wrap (v+(cn:Int) % 8 - 1)=v+(cn:Int) % 8 - 1:=by rw [IntWalk.i64_in _ (by omega)]
        have de:((q:Int)==(l.length:Int))=true:=by simp;omega
        gi_wp2_with fail
        have c0y:=hpu.st.c0
        have c1y:=hpu.ca
        have c2y:=hpu.st.c2
        skip
        refine wpIn_region_round (S:=fun W'=>W'.cell? ⟨w.heap.size,0,none⟩=some (.int .i64 v)∧W'.cell? ⟨wr.heap.size+1,0,none⟩=some (.int .i64 (q:Int))∧W'.cell? ⟨w.heap.size+1+1,0,none⟩=some (.slice (some ⟨w.heap.size+1,0,none⟩) l.length l.length)) hmx (by rintro ⟨_,_,h⟩;exact h) (by kernel_rfl) ⟨c0y,c1y,c2y⟩ (fun hHeld=>?_)
        refine tK 0 71 ?_
        refine tK 1 72 ?_
        refine tK 2 73 ?_
        refine tV 3 74 (.bool true) ?_ ?_
        ·intro w hSw;(try dsimp only at hSw);go_split_ands;go_simp
        try simp only [Act.put,List.setIfInBounds_toArray,List.set_cons_zero,List.set_cons_succ]
        refine tK 4 75 ?_
        refine sK 5 76 ?_
        refine sK 6 77 ?_
        refine sK 7 78 ?_
        refine sK 8 79 ?_
        refine sK 9 80 ?_
        refine sK 10 81 ?_
        refine tK 11 82 ?_
        refine wpAnyH_done (by kernel_rfl) ?_ _
        have hpy:=hpu.drew
        have hsy:=hst.trans (Stepr.below (bel_dr Y) (by have:=hpu.lo;omega))
        clear hHeld c0y c1y c2y hpu hst
        generalize World.drew Y=Y2 at *
        have c0y:=hpy.st.c0
        have cpy:=hpy.cp
        have fpy:=hpy.bp.free 0
        have hly:=hpy.lo
        have h5:=hpy.alloc (.cells #[.int .i64 (v+(cn:Int) % 8 - 1)] 3)
        have HPY:=Lib.hid h5
        have HSY:=Lib.hid (hsy.trans (Stepr.below (bel_al Y2 (.cells #[.int .i64 (v+(cn:Int) % 8 - 1)] 3)) (by omega)))
        have OW5:=Lib.hid h5.own
        have hpz:wr.heap.size < Y2.heap.size:=by omega
        have OC1:=Lib.hid (show ∀u ∈ [Value.int .i64 (v+(cn:Int) % 8 - 1)],u.oneCell'=true from oneCell_ints [v+(cn:Int) % 8 - 1])
        have OC0:=Lib.hid (show ∀j u,[Value.int .i64 (v+(cn:Int) % 8 - 1)][j]?=some u→(Y2.alloc (.cells #[.int .i64 (v+(cn:Int) % 8 - 1)] 3)).cell? ((⟨Y2.heap.size,0,none⟩:Addr).add j)=some u from by
         intro j u hu
         match j,hu with
         | 0,hu=>simp at hu;subst hu;simp [Addr.add])
        have OB1:=Lib.hid (show n+cn / 8+1≤maxLen by unfold maxLen;omega)
        have OB2:=Lib.hid (show (n+cn / 8+1)*8≤140737488355328 by omega)
        have OB3:=Lib.hid h5.lo.2.2.1
        clear hpy hsy h5
        gi_wp2_with (gi_at_builtin;refine wpListIn_append_own _ rfl _ _ 37 rfl WR.heap.size 3 i0 (.int .i64 0) 1 8 Tryz.underlying37 hi0 hz0 hz1 hz2 rfl (by decide) _ _ _ rfl OW5.out ⟨Y2.heap.size,0,none⟩ 1 1 [.int .i64 (v+(cn:Int) % 8 - 1)] rfl rfl OC0.out OC1.out OB1.out OB2.out OB3.out ?_)
        ·intro v' w1 hown' hgrow _
         obtain ⟨Av',cv',rfl,hcv'⟩:=own_form hown'
         have bp5:=HPY.out.bp.grown hgrow (fun e=>by have:=(OW5.out.lt wr.heap.size e.symm).1;omega)
         have cp5:=bp5.cell (i:=0) rfl
         have fp5:=bp5.free 0
         have hown2:w1.ownsRow WR.heap.size 3 1 (.slice Av' (n+cn / 8+1) cv') (n+cn / 8+1) ((pkd++List.replicate (cn / 8) (v+7)).map (Value.int .i64)++[v+(cn:Int) % 8 - 1].map (Value.int .i64)):=by rw [hsz3];simpa using hown'
         have HPU:=Lib.hid (HPY.out.push (news:=[v+(cn:Int) % 8 - 1]) rfl hown2 hgrow)
         have HST:=Lib.hid ((HSY.out.trans (Stepr.app OW5.out hgrow HPY.out.lo.2.2.1)).trans (Stepr.set (.inl rfl) w1 (.slice Av' (n+cn / 8+1) cv')))
         clear hown' hown2 hgrow bp5 OW5 cpy fpy c0y HPY HSY
         gi_wp2_with fail
         have hst:=HST.out
         have hpu:=HPU.out
         rw [hsz3] at hst hpu;(try rw [hsz3])
         refine ⟨hst.1,hst.2,?_⟩
         unfold PkJ
         rw [HSN.out,hq]
         exact ⟨_,n+cn / 8+1,Av',cv',by rw [←hq,HP.out,addP_eq,rest_low hr (.inl (by rw [hq];exact List.drop_of_length_le (by omega)))];simp only [List.append_assoc],by omega,hpu⟩
       ·have de:((q:Int)==(l.length:Int))=false:=by simp;omega
        have hql:q < vals.length:=by omega
        have hqm:q < l.length:=by omega
        by_cases hlow:vals[q] < v
        ·have ia:IntKind.i64.wrap (v+(cn:Int) % 8)=v+(cn:Int) % 8:=by rw [IntWalk.i64_in _ (by omega)]
         have ib:IntKind.i64.wrap (v+(cn:Int) % 8 - 1)=v+(cn:Int) % 8 - 1:=by rw [IntWalk.i64_in _ (by omega)]
         have d5:decide (vals[q] < v)=true:=decide_eq_true hlow
         gi_wp2_with fail
         have c0y:=hpu.st.c0
         have c1y:=hpu.ca
         have c2y:=hpu.st.c2
         have cqy:=hpu.st.cq (i:=q) (by omega)
         refine wpIn_region_round (S:=fun W'=>W'.cell? ⟨w.heap.size,0,none⟩=some (.int .i64 v)∧W'.cell? ⟨wr.heap.size+1,0,none⟩=some (.int .i64 (q:Int))∧W'.cell? ⟨w.heap.size+1+1,0,none⟩=some (.slice (some ⟨w.heap.size+1,0,none⟩) l.length l.length)∧W'.cell? ⟨w.heap.size+1,q,none⟩=some (.int .i64 vals[q])) hmx (by rintro ⟨_,_,h⟩;exact h) (by kernel_rfl) ⟨c0y,c1y,c2y,cqy⟩ (fun hHeld=>?_)
         refine tK 0 71 ?_
         refine tK 1 72 ?_
         refine tK 2 73 ?_
         refine tV 3 74 (.bool false) ?_ ?_
         ·intro w hSw;(try dsimp only at hSw);go_split_ands;go_simp
         try simp only [Act.put,List.setIfInBounds_toArray,List.set_cons_zero,List.set_cons_succ]
         refine tK 4 75 ?_
         refine tK 5 76 ?_
         refine tK 6 77 ?_
         refine tV 7 78 (.pointer (some ⟨w.heap.size+1,q,none⟩)) ?_ ?_
         ·intro w hSw;(try dsimp only at hSw);go_split_ands;go_simp
         try simp only [Act.put,List.setIfInBounds_toArray,List.set_cons_zero,List.set_cons_succ]
         refine tK 8 79 ?_
         refine tK 9 80 ?_
         refine tV 10 81 (.bool true) ?_ ?_
         ·intro w hSw;(try dsimp only at hSw);go_split_ands;go_simp
         try simp only [Act.put,List.setIfInBounds_toArray,List.set_cons_zero,List.set_cons_succ]
         refine tK 11 82 ?_
         refine wpAnyH_done (by kernel_rfl) ?_ _
         have hpy:=hpu.drew
         have hsy:=hst.trans (Stepr.below (bel_dr Y) (by have:=hpu.lo;omega))
         clear hHeld c0y c1y c2y hpu hst
         generalize World.drew Y=Y2 at *
         have c0y:=hpy.st.c0
         have cpy:=hpy.cp
         have fpy:=hpy.bp.free 0
         have hly:=hpy.lo
         have h5:=hpy.alloc (.cells #[.int .i64 (v+(cn:Int) % 8 - 1)] 3)
         have HPY:=Lib.hid h5
         have HSY:=Lib.hid (hsy.trans (Stepr.below (bel_al Y2 (.cells #[.int .i64 (v+(cn:Int) % 8 - 1)] 3)) (by omega)))
         have OW5:=Lib.hid h5.own
         have hpz:wr.heap.size < Y2.heap.size:=by omega
         have OC1:=Lib.hid (show ∀u ∈ [Value.int .i64 (v+(cn:Int) % 8 - 1)],u.oneCell'=true from oneCell_ints [v+(cn:Int) % 8 - 1])
         have OC0:=Lib.hid (show ∀j u,[Value.int .i64 (v+(cn:Int) % 8 - 1)][j]?=some u→(Y2.alloc (.cells #[.int .i64 (v+(cn:Int) % 8 - 1)] 3)).cell? ((⟨Y2.heap.size,0,none⟩:Addr).add j)=some u from by
          intro j u hu
          match j,hu with
          | 0,hu=>simp at hu;subst hu;simp [Addr.add])
         have OB1:=Lib.hid (show n+cn / 8+1≤maxLen by unfold maxLen;omega)
         have OB2:=Lib.hid (show (n+cn / 8+1)*8≤140737488355328 by omega)
         have OB3:=Lib.hid h5.lo.2.2.1
         clear hpy hsy h5
         gi_wp2_with (gi_at_builtin;refine wpListIn_append_own _ rfl _ _ 37 rfl WR.heap.size 3 i0 (.int .i64 0) 1 8 Tryz.underlying37 hi0 hz0 hz1 hz2 rfl (by decide) _ _ _ rfl OW5.out ⟨Y2.heap.size,0,none⟩ 1 1 [.int .i64 (v+(cn:Int) % 8 - 1)] rfl rfl OC0.out OC1.out OB1.out OB2.out OB3.out ?_)
         ·intro v' w1 hown' hgrow _
          obtain ⟨Av',cv',rfl,hcv'⟩:=own_form hown'
          have bp5:=HPY.out.bp.grown hgrow (fun e=>by have:=(OW5.out.lt wr.heap.size e.symm).1;omega)
          have cp5:=bp5.cell (i:=0) rfl
          have fp5:=bp5.free 0
          have hown2:w1.ownsRow WR.heap.size 3 1 (.slice Av' (n+cn / 8+1) cv') (n+cn / 8+1) ((pkd++List.replicate (cn / 8) (v+7)).map (Value.int .i64)++[v+(cn:Int) % 8 - 1].map (Value.int .i64)):=by rw [hsz3];simpa using hown'
          have HPU:=Lib.hid (HPY.out.push (news:=[v+(cn:Int) % 8 - 1]) rfl hown2 hgrow)
          have HST:=Lib.hid ((HSY.out.trans (Stepr.app OW5.out hgrow HPY.out.lo.2.2.1)).trans (Stepr.set (.inl rfl) w1 (.slice Av' (n+cn / 8+1) cv')))
          clear hown' hown2 hgrow bp5 OW5 cpy fpy c0y HPY HSY
          gi_wp2_with fail
          have hst:=HST.out
          have hpu:=HPU.out
          rw [hsz3] at hst hpu;(try rw [hsz3])
          refine ⟨hst.1,hst.2,?_⟩
          unfold PkJ
          rw [HSN.out,hq]
          exact ⟨_,n+cn / 8+1,Av',cv',by rw [←hq,HP.out,addP_eq,rest_low hr (.inr (by rw [hq,fst_drop hql];omega))];simp only [List.append_assoc],by omega,hpu⟩
        ·have ia:IntKind.i64.wrap (v+16)=v+16:=by rw [IntWalk.i64_in _ (by omega)]
         have ib:IntKind.i64.wrap (v+16 - 1)=v+15:=by rw [IntWalk.i64_in _ (by omega)];omega
         have ic:IntKind.i64.wrap (v+15 - (cn:Int) % 8)=v+15 - (cn:Int) % 8:=by rw [IntWalk.i64_in _ (by omega)]
         have d5:decide (vals[q] < v)=false:=decide_eq_false hlow
         gi_wp2_with fail
         have c0y:=hpu.st.c0
         have c1y:=hpu.ca
         have c2y:=hpu.st.c2
         have cqy:=hpu.st.cq (i:=q) (by omega)
         refine wpIn_region_round (S:=fun W'=>W'.cell? ⟨w.heap.size,0,none⟩=some (.int .i64 v)∧W'.cell? ⟨wr.heap.size+1,0,none⟩=some (.int .i64 (q:Int))∧W'.cell? ⟨w.heap.size+1+1,0,none⟩=some (.slice (some ⟨w.heap.size+1,0,none⟩) l.length l.length)∧W'.cell? ⟨w.heap.size+1,q,none⟩=some (.int .i64 vals[q])) hmx (by rintro ⟨_,_,h⟩;exact h) (by kernel_rfl) ⟨c0y,c1y,c2y,cqy⟩ (fun hHeld=>?_)
         refine tK 0 71 ?_
         refine tK 1 72 ?_
         refine tK 2 73 ?_
         refine tV 3 74 (.bool false) ?_ ?_
         ·intro w hSw;(try dsimp only at hSw);go_split_ands;go_simp
         try simp only [Act.put,List.setIfInBounds_toArray,List.set_cons_zero,List.set_cons_succ]
         refine tK 4 75 ?_
         refine tK 5 76 ?_
         refine tK 6 77 ?_
         refine tV 7 78 (.pointer (some ⟨w.heap.size+1,q,none⟩)) ?_ ?_
         ·intro w hSw;(try dsimp only at hSw);go_split_ands;go_simp
         try simp only [Act.put,List.setIfInBounds_toArray,List.set_cons_zero,List.set_cons_succ]
         refine tK 8 79 ?_
         refine tK 9 80 ?_
         refine tV 10 81 (.bool false) ?_ ?_
         ·intro w hSw;(try dsimp only at hSw);go_split_ands;go_simp
         try simp only [Act.put,List.setIfInBounds_toArray,List.set_cons_zero,List.set_cons_succ]
         refine tK 11 82 ?_
         refine wpAnyH_done (by kernel_rfl) ?_ _
         have hpy:=hpu.drew
         have hsy:=hst.trans (Stepr.below (bel_dr Y) (by have:=hpu.lo;omega))
         clear hHeld c0y c1y c2y hpu hst
         generalize World.drew Y=Y2 at *
         have c0y:=hpy.st.c0
         have cpy:=hpy.cp
         have fpy:=hpy.bp.free 0
         have hly:=hpy.lo
         have h5:=hpy.alloc (.cells #[.int .i64 (v+15 - (cn:Int) % 8)] 3)
         have HPY:=Lib.hid h5
         have HSY:=Lib.hid (hsy.trans (Stepr.below (bel_al Y2 (.cells #[.int .i64 (v+15 - (cn:Int) % 8)] 3)) (by omega)))
         have OW5:=Lib.hid h5.own
         have hpz:wr.heap.size < Y2.heap.size:=by omega
         have OC1:=Lib.hid (show ∀u ∈ [Value.int .i64 (v+15 - (cn:Int) % 8)],u.oneCell'=true from oneCell_ints [v+15 - (cn:Int) % 8])
         have OC0:=Lib.hid (show ∀j u,[Value.int .i64 (v+15 - (cn:Int) % 8)][j]?=some u→(Y2.alloc (.cells #[.int .i64 (v+15 - (cn:Int) % 8)] 3)).cell? ((⟨Y2.heap.size,0,none⟩:Addr).add j)=some u from by
          intro j u hu
          match j,hu with
          | 0,hu=>simp at hu;subst hu;simp [Addr.add])
         have OB1:=Lib.hid (show n+cn / 8+1≤maxLen by unfold maxLen;omega)
         have OB2:=Lib.hid (show (n+cn / 8+1)*8≤140737488355328 by omega)
         have OB3:=Lib.hid h5.lo.2.2.1
         clear hpy hsy h5
         gi_wp2_with (gi_at_builtin;refine wpListIn_append_own _ rfl _ _ 37 rfl WR.heap.size 3 i0 (.int .i64 0) 1 8 Tryz.underlying37 hi0 hz0 hz1 hz2 rfl (by decide) _ _ _ rfl OW5.out ⟨Y2.heap.size,0,none⟩ 1 1 [.int .i64 (v+15 - (cn:Int) % 8)] rfl rfl OC0.out OC1.out OB1.out OB2.out OB3.out ?_)
         ·intro v' w1 hown' hgrow _
          obtain ⟨Av',cv',rfl,hcv'⟩:=own_form hown'
          have bp5:=HPY.out.bp.grown hgrow (fun e=>by have:=(OW5.out.lt wr.heap.size e.symm).1;omega)
          have cp5:=bp5.cell (i:=0) rfl
          have fp5:=bp5.free 0
          have hown2:w1.ownsRow WR.heap.size 3 1 (.slice Av' (n+cn / 8+1) cv') (n+cn / 8+1) ((pkd++List.replicate (cn / 8) (v+7)).map (Value.int .i64)++[v+15 - (cn:Int) % 8].map (Value.int .i64)):=by rw [hsz3];simpa using hown'
          have HPU:=Lib.hid (HPY.out.push (news:=[v+15 - (cn:Int) % 8]) rfl hown2 hgrow)
          have HST:=Lib.hid ((HSY.out.trans (Stepr.app OW5.out hgrow HPY.out.lo.2.2.1)).trans (Stepr.set (.inl rfl) w1 (.slice Av' (n+cn / 8+1) cv')))
          clear hown' hown2 hgrow bp5 OW5 cpy fpy c0y HPY HSY
          gi_wp2_with fail
          have hst:=HST.out
          have hpu:=HPU.out
          rw [hsz3] at hst hpu;(try rw [hsz3])
          refine ⟨hst.1,hst.2,?_⟩
          unfold PkJ
          rw [HSN.out,hq]
          exact ⟨_,n+cn / 8+1,Av',cv',by rw [←hq,HP.out,addP_eq,rest_high hr (by rw [hq];intro e;exact absurd (congrArg List.length e) (by simp;omega)) (by rw [hq,fst_drop hql];omega)];simp only [List.append_assoc],by omega,hpu⟩)
    ·have d1:decide (m < v)=true:=decide_eq_true h1
     have iv:IntKind.i64.wrap (v+14)=v+14:=by rw [IntWalk.i64_in _ (by omega)]
     have d2:(v+14 != m)=true:=by simp;omega
     gi_wp2_with fail
     generalize hX:World.setCell W _ _=X
     have hx:PkI w.heap.size wr.heap.size WR.heap.size m l.length vals w pkd (ca+cn) n A' c' X:=by rw [←hX];exact HI.out.setA (ca+cn)
     have hs1:Stepr WR.heap.size wr.heap.size (wr.heap.size+1) W X:=by rw [←hX];exact Stepr.set (.inr rfl) W _
     have HX:=Lib.hid hx
     have HS1:=Lib.hid hs1
     have cpx:=hx.cp
     have c0x:=hx.st.c0
     have hlx:=hx.lo
     clear hX hx hs1 cp fp c1 f1 c0 c2 d1
     have hmx:Tryz.prog.follows .mixedOrders=true:=by kernel_rfl
     have KR:=Lib.hid (fun W2 (hb:Below X.heap.size X W2) A0 k0 (hA:Ints W2 A0 [v+14])=>(repeat_cn (v+14) A0 k0 cn W2 hA (by omega)).mono (R':=fun e w'=>∃vv,e=.returned vv∧w'.cell? ⟨w.heap.size,0,none⟩=some (.int .i64 m)∧(∃A2 k2,vv=.slice A2 cn k2∧w'.ownsRow W2.heap.size 3 1 (.slice A2 cn k2) cn ((List.replicate cn (v+14)).map (Value.int .i64))∧Below X.heap.size X w')) (fun e w' ⟨A1,k1,he,ho,hb2⟩=>⟨_,he,(HX.out.bel (bel_tr hb hb2)).st.c0,A1,k1,rfl,ho,bel_tr hb hb2⟩))
     have hbx:=bel_tr (bel_dr X) (bel_al X.drew (.cells #[.int .i64 (v+14)] 3))
     have cpa:=(HX.out.alloc (.cells #[.int .i64 (v+14)] 3)).cp
     refine wpIn_region_round (S:=fun W'=>W'.cell? ⟨w.heap.size,0,none⟩=some (.int .i64 m)) hmx (by rintro ⟨_,_,h⟩;exact h) (by kernel_rfl) c0x (fun hHeld=>?_)
     refine tK 1 53 ?_
     refine tK 3 55 ?_
     refine anyH_of2 (i:=0) (j:=2) rfl rfl (by kernel_rfl) (by rfl) (by rfl) (stepH_val (w':=X.drew) (v:=.slice A' n c') (some 52) rfl (by go_simp) hHeld ?_) (stepH_val (w':=X.drew.alloc (.cells #[.int .i64 (v+14)] 3)) (v:=.slice (some ⟨X.drew.heap.size,0,none⟩) 1 1) (some 54) rfl (by go_simp) (HX.out.bel hbx).st.c0 ?_)
     focus (
      try simp only [Act.put,List.setIfInBounds_toArray,List.set_cons_zero,List.set_cons_succ]
      refine anyH_val (w':=X.drew.alloc (.cells #[.int .i64 (v+14)] 3)) (v:=.slice (some ⟨X.drew.heap.size,0,none⟩) 1 1) (i:=2) (some 54) rfl rfl (by kernel_rfl) (by rfl) (by go_simp) (HX.out.bel hbx).st.c0 ?_
      try simp only [Act.put,List.setIfInBounds_toArray,List.set_cons_zero,List.set_cons_succ]
      refine anyH_callE (i:=4) (some 56) rfl rfl (by kernel_rfl) (by rfl) (by go_simp) (KR.out _ hbx _ 1 (ints_one _ _ _)) ?_
      rintro _ w2 hS6 ⟨A2,k2,rfl,ho2,hb2⟩
      have cp2:=(HX.out.bel hb2).cp)
     rotate_left
     focus (
      try simp only [Act.put,List.setIfInBounds_toArray,List.set_cons_zero,List.set_cons_succ]
      refine anyH_of2 (i:=0) (j:=4) rfl rfl (by kernel_rfl) (by rfl) (by rfl) (stepH_val (w':=X.drew.alloc (.cells #[.int .i64 (v+14)] 3)) (v:=.slice A' n c') (some 52) rfl (by go_simp) (HX.out.bel hbx).st.c0 ?_) (stepH_callE (some 56) rfl (by go_simp) (KR.out _ hbx _ 1 (ints_one _ _ _)) ?_))
     focus (
      try simp only [Act.put,List.setIfInBounds_toArray,List.set_cons_zero,List.set_cons_succ]
      refine anyH_callE (i:=4) (some 56) rfl rfl (by kernel_rfl) (by rfl) (by go_simp) (KR.out _ hbx _ 1 (ints_one _ _ _)) ?_
      rintro _ w2 hS6 ⟨A2,k2,rfl,ho2,hb2⟩
      have cp2:=(HX.out.bel hb2).cp)
     rotate_left
     focus (
      rintro _ w2 hS6 ⟨A2,k2,rfl,ho2,hb2⟩
      have cp2:=(HX.out.bel hb2).cp
      try simp only [Act.put,List.setIfInBounds_toArray,List.set_cons_zero,List.set_cons_succ]
      refine anyH_val (w':=w2) (v:=.slice A' n c') (i:=0) (some 52) rfl rfl (by kernel_rfl) (by rfl) (by go_simp) hS6 ?_)
     all_goals (
      try simp only [Act.put,List.setIfInBounds_toArray,List.set_cons_zero,List.set_cons_succ]
      have h2:=HX.out.bel hb2
      have hl2:=h2.lo
      refine anyH_app (i:=5) (some 57) rfl rfl (by kernel_rfl) (by rfl) _ _ 37 3 (.int .i64 0) 1 8 rfl Tryz.underlying37 info_int rfl (by decide) (by decide) rfl h2.own rfl (Sl.of_own ho2) (by simp) (oneCell_ints _) (by omega) hl2.2.2.1 ?_
      intro B kk w3 hown3 hk3 hbl3 hg3 _
      have bp3:=h2.bp.below hbl3 (by omega)
      have cp3:=bp3.cell (i:=0) rfl
      have fp3:=bp3.free 0
      have hc3:=(h2.st.b0.below hbl3 (by omega)).cell (i:=0) rfl
      have hpu:=h2.push (by simp) hown3 hg3
      have HST:=Lib.hid (((HS1.out.trans (Stepr.below hb2 (by omega))).trans (Stepr.app h2.own hg3 hl2.2.2.1)).trans (Stepr.set (.inl rfl) w3 (.slice B (n+cn) kk)))
      refine ⟨hc3,?_⟩
      try simp only [Act.put,List.setIfInBounds_toArray,List.set_cons_zero,List.set_cons_succ]
      refine anyH_unit (i:=6) (w':=w3.setCell ⟨wr.heap.size,0,none⟩ (.slice B (n+cn) kk)) none rfl rfl (by kernel_rfl) (by rfl) (by go_simp) hpu.st.c0 ?_
      try simp only [Act.put]
      refine wpAnyH_done (by kernel_rfl) ?_ _
      have HPU:=Lib.hid hpu
      clear hpu hc3 cp3 fp3 bp3 hg3 hbl3 hk3 hown3 h2 hl2 cp2 hS6 ho2 hb2 hbx cpa KR hHeld cpx c0x HX HS1)
     all_goals gi_wp2_with fail
     all_goals (
      have hst:=HST.out
      have hpu:=HPU.out
      rw [hsz3] at hst hpu;(try rw [hsz3])
      refine ⟨hst.1,hst.2,?_⟩
      unfold PkJ
      rw [HSN.out]
      exact ⟨_,_,B,kk,by rw [HP.out,addP_gt h1,List.append_assoc],by omega,hpu⟩)
end Go.Proofs.YtijgbonhjcblcaaGreatDoor
