import Derived.Test.YtkhmjidaeliccaaGreatDoorS31
set_option maxRecDepth 100000
set_option maxHeartbeats 51200000
namespace Go.Proofs.YtkhmjidaeliccaaGreatDoor
open Option renaming none->N,some->Z
open Value renaming int->I,slice->H
open IntKind renaming i64->J
open Go.Proofs.Tryz
section
open Go.RowKit Go.Maps Go.WideMaps Tl
section
variable {Wm V V':Wv}{j:Nat}{nl ec:Lv}{s7:Option (Nat×Oa×Nat)}{s9 s12:Option Nat}
def J34(Wm:Wv)(j:Nat)(nl ec:Lv)(V:Wv)(s7:Option (Nat×Oa×Nat))(s9 s12:Option Nat):Prop:=
 By Wm V/\(∀b E c,s7=Z (b,E,c)->Wm.heap.size<=b/\b<=V.heap.size/\V.ownsRow b 77 4 (H E j c) j nl/\∀x,s12=Z x->∀g,blk E=Z g->g≠x)/\(∀b,s9=Z b->Sl V (Z ⟨b,0,N⟩) ec)/\∀x,s12=Z x->Wm.heap.size<=x/\Box V x 75 [H N 0 0,H N 0 0]
theorem J34.go(h:J34 Wm j nl ec V s7 s9 s12)(hb:By V V'):J34 Wm j nl ec V' s7 s9 s12:=
 ⟨h.1.trans (hb.mono h.1.size),λb E c e=>⟨(h.2.1 b E c e).1,Nat.le_trans (h.2.1 b E c e).2.1 hb.size,aG (h.2.1 b E c e).2.2.1 hb,(h.2.1 b E c e).2.2.2⟩,λb e=>(h.2.2.1 b e).below hb,λx e=>⟨(h.2.2.2 x e).1,(h.2.2.2 x e).2.below hb (h.2.2.2 x e).2.lt⟩⟩
theorem J34.c7{E:Oa}{c:Nat}(h:J34 Wm j nl ec V N s9 s12)(hb:By V V')(ho:V'.ownsRow V.heap.size 77 4 (H E j c) j nl):J34 Wm j nl ec V' (Z (V.heap.size,E,c)) s9 s12:=
 ⟨(h.go hb).1,λb F d e=>by
  cases e
  exact⟨h.1.size,hb.size,ho,λx ex g hg=>by have:=(aN ho hg).1;have:=(h.2.2.2 x ex).2.lt;omega⟩,(h.go hb).2.2.1,(h.go hb).2.2.2⟩
theorem J34.a9(h:J34 Wm j nl ec V s7 N s12):J34 Wm j nl ec (V.alloc (.cells ec.toArray 77)) s7 (Z V.heap.size) s12:=by
 have g:=h.go ((Below.refl _ _).alloc (Nat.le_refl _) (.cells ec.toArray 77));exact⟨g.1,g.2.1,λb e=>by cases e;exact bI _ _ _ rfl,g.2.2.2⟩
theorem J34.a12(h:J34 Wm j nl ec V s7 s9 N):J34 Wm j nl ec (V.alloc (.cells #[H N 0 0,H N 0 0] 75)) s7 s9 (Z V.heap.size):=by
 have g:=h.go ((Below.refl _ _).alloc (Nat.le_refl _) (.cells #[H N 0 0,H N 0 0] 75));refine⟨g.1,λb E c e=>?_,g.2.2.1,λx e=>?_⟩
 ·refine⟨(g.2.1 b E c e).1,(g.2.1 b E c e).2.1,(g.2.1 b E c e).2.2.1,λx ex q hq=>?_⟩
  cases ex
  have:=(aN (h.2.1 b E c e).2.2.1 hq).2;omega
 cases e
 exact⟨h.1.size,Box.new _ _ [H N 0 0,H N 0 0] rfl⟩
def K34(Wm:Wv)(j:Nat)(nl ec:Lv)(V:Wv)(E5:Oa)(e5:Nat)(s12:Option Nat):Prop:=
 By Wm V/\V.ownsRow Wm.heap.size 77 4 (H E5 (j+1) e5) (j+1) (nl++ec)/\∀x,s12=Z x->Wm.heap.size<=x/\Box V x 75 [H N 0 0,H N 0 0]/\∀g,blk E5=Z g->g≠x
theorem J34.app{b c k q:Nat}{E B:Oa}(h:J34 Wm j nl ec V (Z (b,E,c)) (Z q) s12)(ho:V'.ownsRow b 77 4 (H B (j+1) k) (j+1) (nl++ec))(hb:Below b V V')(hg:V.grownBy V' (Value.ownBlock (H E j c)))(hB:B=E\/B=Z ⟨V.heap.size,0,N⟩):K34 Wm j nl ec V' B k s12:=by
 obtain⟨f,i,-,d⟩:=h;obtain⟨p,q,r,s⟩:=i _ _ _ rfl;rw[bH]at hg;refine⟨f.trans (hb.mono p),eR ho p,λx e=>⟨(d x e).1,(d x e).2.grown hg (λa=>s x e _ a.symm rfl),λg hgb=>?_⟩⟩;rcases hB with rfl|rfl
 ·exact s x e g hgb
 have a:=Option.some.inj hgb;dsimp only at a;have:=(d x e).2.lt;omega
theorem K34.a12{E:Oa}{c:Nat}(h:K34 Wm j nl ec V E c N):K34 Wm j nl ec (V.alloc (.cells #[H N 0 0,H N 0 0] 75)) E c (Z V.heap.size):=by
 have hb:=(Below.refl V.heap.size V).alloc (Nat.le_refl _) (.cells #[H N 0 0,H N 0 0] 75);refine⟨h.1.trans (hb.mono h.1.size),aG h.2.1 hb,λx e=>?_⟩;cases e
 exact⟨h.1.size,Box.new _ _ [H N 0 0,H N 0 0] rfl,λg hg=>by have:=(aN h.2.1 hg).2;omega⟩
theorem K34.st{E:Oa}{c x:Nat}(h:K34 Wm j nl ec V E c (Z x))(v0 v1:Value):∃Wz,(V.setCell ⟨x,0,N⟩ v0).setCell ⟨x,1,N⟩ v1=Wz/\Wm.heap.size<=x/\Box Wz x 75 [v0,v1]/\Wz.ownsRow Wm.heap.size 77 4 (H E (j+1) c) (j+1) (nl++ec)/\By Wm Wz:=by
 obtain⟨p,q,r⟩:=h.2.2 x rfl;exact⟨_,rfl,p,(q.set 0 v0).set 1 v1,eQ h.2.1 (Chg.of_grown (S:=λq=>q=x) (aC (p:=⟨x,1,N⟩) (aC (p:=⟨x,0,N⟩) (aP V _) _) _) (λq hq=>by cases hq;rfl)) (λq hq e=>r q hq e),(h.1.setCell (p:=⟨x,0,N⟩) p v0).setCell (p:=⟨x,1,N⟩) p v1⟩
end
section
variable {ops:Array Oper}{Q:Exit->Act->Wv->Prop}{md:Region.Mode}{S:Wv->Prop}
theorem O1(i:Nat){oi:Oper}{fuel:Nat}{listed:Array Bool}{a:Act}{w:Wv}(Hi:k_ prog md ops Q S fuel listed i oi a w)(hi:ops[i]?=Z oi:=by rfl)(hr:Region.ready md ops listed=[i]:=by kernel_rfl)
  (hw:Region.wanted oi (yielded ops a.tmps)=true:=by rfl):wpAnyH prog md ops Q S (fuel+1) listed a w:=by
 refine wpAnyH_ready hr L (AllReadyH.cons hi (λK hK=>?_) AllReadyH.nil);rw[if_pos hw];exact Hi K hK
theorem O2(i j:Nat){oi oj:Oper}{fuel:Nat}{listed:Array Bool}{a:Act}{w:Wv}(Hi:k_ prog md ops Q S fuel listed i oi a w)(Hj:k_ prog md ops Q S fuel listed j oj a w)(hi:ops[i]?=Z oi:=by rfl)(hj:ops[j]?=Z oj:=by rfl)
  (hr:Region.ready md ops listed=[i,j]:=by kernel_rfl) (hwi:Region.wanted oi (yielded ops a.tmps)=true:=by rfl) (hwj:Region.wanted oj (yielded ops a.tmps)=true:=by rfl):wpAnyH prog md ops Q S (fuel+1) listed a w:=iO hi hj hr hwi hwj Hi Hj
theorem O3(i j k:Nat){oi oj ok:Oper}{fuel:Nat}{listed:Array Bool}{a:Act}{w:Wv}(Hi:k_ prog md ops Q S fuel listed i oi a w)(Hj:k_ prog md ops Q S fuel listed j oj a w)(Hk:k_ prog md ops Q S fuel listed k ok a w)
  (hi:ops[i]?=Z oi:=by rfl) (hj:ops[j]?=Z oj:=by rfl) (hk:ops[k]?=Z ok:=by rfl) (hr:Region.ready md ops listed=[i,j,k]:=by kernel_rfl)
  (hwi:Region.wanted oi (yielded ops a.tmps)=true:=by rfl) (hwj:Region.wanted oj (yielded ops a.tmps)=true:=by rfl) (hwk:Region.wanted ok (yielded ops a.tmps)=true:=by rfl):wpAnyH prog md ops Q S (fuel+1) listed a w:=IY hi hj hk hr hwi hwj hwk Hi Hj Hk
variable {Wm V:Wv}{j:Nat}{nl ec:Lv}{s7:Option (Nat×Oa×Nat)}{s9 s12:Option Nat}{oi:Oper}{i fuel:Nat}{listed l':Array Bool}{a:Act}
theorem q7(t:Nat){a':Oa->Nat->Act}{f:FuncId}{args:Array Value}(hJ:Hi (J34 Wm j nl ec V N s9 s12))(hS:Hi (∀W,By Wm W->S W))
  (K:Hi (∀V,By Wm V->Calls prog f args V (λe w'=>∃A' c',e=.returned (H A' j c')/\w'.ownsRow V.heap.size 77 4 (H A' j c') j nl/\By V w')))
  (h:∀V' b E c,Hi (J34 Wm j nl ec V' (Z (b,E,c)) s9 s12)->S V'->wpAnyH prog md ops Q S fuel l' (a' E c) V') (hd:oi.dst=Z t:=by rfl) (he:(execOp a.eval oi).run prog V=.ok (.enter f args) V:=by go_simp)
  (hl:listed.setIfInBounds i true=l':=by(try simp only[sA,sB,sC]);first|done|rfl)
  (ha:∀E c,a.put (Z t) (H E j c)=a' E c:=by intro E c;(try simp only[Act.put,sA,sB,sC]);first|done|rfl):k_ prog md ops Q S fuel listed i oi a V:=by
 subst hl;refine mJ (R:=λv d=>∃E c,v=H E j c/\J34 Wm j nl ec d (Z (V.heap.size,E,c)) s9 s12) (Z t) hd he ((K.o V hJ.o.1).mono ?_) ?_
 ·rintro e d ⟨E,c,rfl,ho,hb⟩
  exact⟨_,rfl,hS.o _ (hJ.o.go hb).1,E,c,rfl,hJ.o.c7 hb ho⟩
 rintro v d hs ⟨E,c,rfl,g⟩;rw[ha];exact h d _ E c (G g) hs
theorem q9(t:Nat){a':Nat->Act}(hJ:Hi (J34 Wm j nl ec V s7 N s12))(hS:Hi (∀W,By Wm W->S W))
  (h:∀V' b,Hi (J34 Wm j nl ec V' s7 (Z b) s12)->S V'->wpAnyH prog md ops Q S fuel l' (a' b) V') (hd:oi.dst=Z t:=by rfl)
  (he:(execOp a.eval oi).run prog V=.ok (.value (H (Z ⟨V.heap.size,0,N⟩) 1 1)) (V.alloc (.cells ec.toArray 77)):=by exact nT rfl (by rfl))
  (hl:listed.setIfInBounds i true=l':=by(try simp only[sA,sB,sC]);first|done|rfl)
  (ha:∀b,a.put (Z t) (H (Z ⟨b,0,N⟩) 1 1)=a' b:=by intro b;(try simp only[Act.put,sA,sB,sC]);first|done|rfl):k_ prog md ops Q S fuel listed i oi a V:=by
 subst hl;have g:=hJ.o.a9;refine fN (Z t) hd he (hS.o _ g.1) ?_;rw[ha];exact h _ _ (G g) (hS.o _ g.1)
theorem q12(t:Nat){a':Nat->Act}(hJ:Hi (J34 Wm j nl ec V s7 s9 N))(hS:Hi (∀W,By Wm W->S W))
  (h:∀V' b,Hi (J34 Wm j nl ec V' s7 s9 (Z b))->S V'->wpAnyH prog md ops Q S fuel l' (a' b) V') (hd:oi.dst=Z t:=by rfl)
  (he:(execOp a.eval oi).run prog V=.ok (.value (.pointer (Z ⟨V.heap.size,0,N⟩))) (V.alloc (.cells #[H N 0 0,H N 0 0] 75)):=by go_simp)
  (hl:listed.setIfInBounds i true=l':=by(try simp only[sA,sB,sC]);first|done|rfl)
  (ha:∀b,a.put (Z t) (.pointer (Z ⟨b,0,N⟩))=a' b:=by intro b;(try simp only[Act.put,sA,sB,sC]);first|done|rfl):k_ prog md ops Q S fuel listed i oi a V:=by
 subst hl;have g:=hJ.o.a12;refine fN (Z t) hd he (hS.o _ g.1) ?_;rw[ha];exact h _ _ (G g) (hS.o _ g.1)
theorem k12(t:Nat){E:Oa}{c:Nat}{a':Nat->Act}(hJ:Hi (K34 Wm j nl ec V E c N))(hS:Hi (∀W,By Wm W->S W))
  (h:∀V' b,Hi (K34 Wm j nl ec V' E c (Z b))->S V'->wpAnyH prog md ops Q S fuel l' (a' b) V') (hd:oi.dst=Z t:=by rfl)
  (he:(execOp a.eval oi).run prog V=.ok (.value (.pointer (Z ⟨V.heap.size,0,N⟩))) (V.alloc (.cells #[H N 0 0,H N 0 0] 75)):=by go_simp)
  (hl:listed.setIfInBounds i true=l':=by(try simp only[sA,sB,sC]);first|done|rfl)
  (ha:∀b,a.put (Z t) (.pointer (Z ⟨b,0,N⟩))=a' b:=by intro b;(try simp only[Act.put,sA,sB,sC]);first|done|rfl):k_ prog md ops Q S fuel listed i oi a V:=by
 subst hl;have g:=hJ.o.a12;refine fN (Z t) hd he (hS.o _ g.1) ?_;rw[ha];exact h _ _ (G g) (hS.o _ g.1)
theorem q10(t:Nat){b c q:Nat}{E:Oa}{s x:Operand}{a':Oa->Nat->Act}(hJ:Hi (J34 Wm j nl ec V (Z (b,E,c)) (Z q) s12))(hS:Hi (∀W,By Wm W->S W))(hc:ec.length=4/\(∀u∈ec,u.oneCell'=true)/\(j+1)*32<=140737488355328)
  (h:∀V' B k,Hi (K34 Wm j nl ec V' B k s12)->S V'->wpAnyH prog md ops Q S fuel l' (a' B k) V') (hd:oi.dst=Z t:=by rfl)
  (ho:oi.op=.call { callee:=.builtin .append,args:=#[s,x],argTypes:=#[54,54] }:=by rfl) (hs:a.eval s=H E j c:=by rfl) (hx:a.eval x=H (Z ⟨q,0,N⟩) 1 1:=by rfl)
  (hl:listed.setIfInBounds i true=l':=by(try simp only[sA,sB,sC]);first|done|rfl)
  (ha:∀B k,a.put (Z t) (H B (j+1) k)=a' B k:=by intro B k;(try simp only[Act.put,sA,sB,sC]);first|done|rfl):k_ prog md ops Q S fuel listed i oi a V:=by
 subst hl;obtain⟨m,n,o⟩:=hc;obtain⟨-,d,e,-⟩:=hJ.o;obtain⟨-,f,l,-⟩:=d _ _ _ rfl;refine uQ (Z t) hd s x 54 77 (.agg #[I J 0,I J 0,I J 0,.bool false]) 4 32 ho underlying54 gU rfl oV_ oV_ hs l hx (e _ rfl) (by rw[m]) n o f ?_;intro B k y p _ r v w;have g:=hJ.o.app p r v w;refine⟨hS.o _ g.1,?_⟩;rw[ha];exact h _ _ _ (G g) (hS.o _ g.1)
theorem q13{E A:Oa}{c x n m:Nat}{kk ll:Nat}{a':Act}(hJ:Hi (K34 Wm j nl ec V E c (Z x)))(hS:Hi (∀W,By Wm W->S W))
  (h:∀Wz,Hi (Wm.heap.size<=x/\Box Wz x 75 [H A n m,H E (j+1) c]/\Wz.ownsRow Wm.heap.size 77 4 (H E (j+1) c) (j+1) (nl++ec)/\By Wm Wz)->wpAnyH prog md ops Q S fuel l' a' Wz)
  (hi:ops[i]?=Z oi:=by rfl) (hd:oi.dst=N:=by rfl) (hr:Region.ready md ops listed=[i]:=by kernel_rfl) (hw:Region.wanted oi (yielded ops a.tmps)=true:=by rfl)
  (ho:oi.op=.store 75 (.tmp kk) (.tmp ll):=by rfl) (hk:a.eval (.tmp kk)=.pointer (Z ⟨x,0,N⟩):=by rfl) (hv:a.eval (.tmp ll)=.agg #[H A n m,H E (j+1) c]:=by rfl)
  (hl:listed.setIfInBounds i true=l':=by(try simp only[sA,sB,sC]);first|done|rfl) (ha:a.put N undef=a':=by(try simp only[Act.put]);first|done|rfl):wpAnyH prog md ops Q S (fuel+1) listed a V:=by
 subst hl;subst ha;obtain⟨-,-,g⟩:=hJ.o;obtain⟨-,g,-⟩:=g _ rfl;obtain⟨Wz,e,p⟩:=hJ.o.st (H A n m) (H E (j+1) c);refine dJ N hi hd hr hw (w':=Wz) ?_ (hS.o _ p.2.2.2) (h Wz (G p));rw[<-e];exact lH ho hk hv (g.cell rfl) (g.free 0) (g.cell rfl) (g.free 1)
theorem p11{A B:Oa}{n m p q kk ll:Nat}{a':Act}(i t:Nat)(h:wpAnyH prog md ops Q S fuel l' a' V)(hi:ops[i]?=Z oi:=by rfl)(hd:oi.dst=Z t:=by rfl)
  (hs:Region.noSelect ops=true:=by kernel_rfl) (hf:Region.free md ops listed i=true:=by kernel_rfl) (hr:(Region.ready md ops listed).contains i=true:=by kernel_rfl)
  (hw:Region.wanted oi (yielded ops a.tmps)=true:=by rfl) (hS:S V:=by assumption) (ho:oi.op=.build 75 #[(0,.tmp kk),(1,.tmp ll)]:=by rfl) (hk:a.eval (.tmp kk)=H A n p:=by rfl) (hv:a.eval (.tmp ll)=H B m q:=by rfl)
  (hQ:∀c a w,Q (.panic c) (a.put (Z t) (.agg #[H A n p,H B m q])) w->Q (.panic c) a w:=by exact λ_ _ _ h=>h)
  (hl:listed.setIfInBounds i true=l':=by(try simp only[sA,sB,sC]);first|done|rfl)
  (ha:a.put (Z t) (.agg #[H A n p,H B m q])=a':=by(try simp only[Act.put,sA,sB,sC]);first|done|rfl):wpAnyH prog md ops Q S (fuel+1) listed a V:=by
 subst hl;subst ha;exact fJ (Z t) hi hd hs hf hr hQ hw hS (λw _=>lG ho hk hv) h
end
def J1(Wm:Wv)(T:TypeId)(zs:Lv)(V:Wv)(s:Option Nat):Prop:=By Wm V/\∀x,s=Z x->Wm.heap.size<=x/\Box V x T zs
section
variable {ops:Array Oper}{Q:Exit->Act->Wv->Prop}{md:Region.Mode}{S:Wv->Prop}{Wm V:Wv}{T:TypeId}{oi:Oper}{i fuel:Nat}{listed l':Array Bool}{a:Act}{zs:Lv}{s:Option Nat}
theorem J1.go{V':Wv}(h:J1 Wm T zs V s)(hb:By V V'):J1 Wm T zs V' s:=⟨h.1.trans (hb.mono h.1.size),λx e=>⟨(h.2 x e).1,(h.2 x e).2.below hb (h.2 x e).2.lt⟩⟩
theorem m7(t:Nat){v:Value}{a':Act}{f:FuncId}{args:Array Value}(hJ:Hi (J1 Wm T zs V s))(hS:Hi (∀W,By Wm W->S W))(K:Hi (∀V,Calls prog f args V (λe w'=>e=.returned v/\By V w')))
  (h:∀V',Hi (J1 Wm T zs V' s)->S V'->wpAnyH prog md ops Q S fuel l' a' V') (hd:oi.dst=Z t:=by rfl) (he:(execOp a.eval oi).run prog V=.ok (.enter f args) V:=by go_simp)
  (hl:listed.setIfInBounds i true=l':=by(try simp only[sA,sB,sC]);first|done|rfl)
  (ha:a.put (Z t) v=a':=by(try simp only[Act.put,sA,sB,sC]);first|done|rfl):k_ prog md ops Q S fuel listed i oi a V:=by
 subst hl;subst ha;refine mJ (R:=λu b=>u=v/\J1 Wm T zs b s) (Z t) hd he ((K.o V).mono ?_) ?_
 ·rintro e b ⟨rfl,hb⟩
  exact⟨_,rfl,hS.o _ (hJ.o.go hb).1,rfl,hJ.o.go hb⟩
 rintro u b hs ⟨rfl,g⟩;exact h b (G g) hs
theorem m8(t:Nat){a':Nat->Act}(hJ:Hi (J1 Wm T zs V N))(hS:Hi (∀W,By Wm W->S W))(h:∀V' b,Hi (J1 Wm T zs V' (Z b))->S V'->wpAnyH prog md ops Q S fuel l' (a' b) V')(hd:oi.dst=Z t:=by rfl)
  (he:(execOp a.eval oi).run prog V=.ok (.value (.pointer (Z ⟨V.heap.size,0,N⟩))) (V.alloc (.cells zs.toArray T)):=by go_simp)
  (hl:listed.setIfInBounds i true=l':=by(try simp only[sA,sB,sC]);first|done|rfl)
  (ha:∀b,a.put (Z t) (.pointer (Z ⟨b,0,N⟩))=a' b:=by intro b;(try simp only[Act.put,sA,sB,sC]);first|done|rfl):k_ prog md ops Q S fuel listed i oi a V:=by
 subst hl;have g:J1 Wm T zs (V.alloc (.cells zs.toArray T)) (Z V.heap.size):=⟨(hJ.o.go (ba _ _)).1,λx e=>by cases e;exact⟨hJ.o.1.size,Box.new _ _ zs rfl⟩⟩;refine fN (Z t) hd he (hS.o _ g.1) ?_;rw[ha];exact h _ _ (G g) (hS.o _ g.1)
theorem m9{z0 z1 z2 z3:Value}{x:Nat}{a':Act}(v0 v1 v2 v3:Value)(hJ:Hi (J1 Wm T [z0,z1,z2,z3] V (Z x)))(hS:Hi (∀W,By Wm W->S W))
  (h:∀Wz,Hi (Wm.heap.size<=x/\Box Wz x T [v0,v1,v2,v3]/\By Wm Wz)->wpAnyH prog md ops Q S fuel l' a' Wz)
  (hi:ops[i]?=Z oi:=by rfl) (hd:oi.dst=N:=by rfl) (hr:Region.ready md ops listed=[i]:=by kernel_rfl) (hw:Region.wanted oi (yielded ops a.tmps)=true:=by rfl)
  (he:V.cell? ⟨x,0,N⟩=Z z0->V.cell? ⟨x,1,N⟩=Z z1->V.cell? ⟨x,2,N⟩=Z z2->V.cell? ⟨x,3,N⟩=Z z3->V.frozen? ⟨x,0,N⟩=false->V.frozen? ⟨x,1,N⟩=false->V.frozen? ⟨x,2,N⟩=false->V.frozen? ⟨x,3,N⟩=false->(execOp a.eval oi).run prog V=.ok .skip ((((V.setCell ⟨x,0,N⟩ v0).setCell ⟨x,1,N⟩ v1).setCell ⟨x,2,N⟩ v2).setCell ⟨x,3,N⟩ v3):=by intros;go_simp)
  (hl:listed.setIfInBounds i true=l':=by(try simp only[sA,sB,sC]);first|done|rfl) (ha:a.put N undef=a':=by(try simp only[Act.put]);first|done|rfl):wpAnyH prog md ops Q S (fuel+1) listed a V:=by
 subst hl;subst ha;obtain⟨p,q⟩:=hJ.o.2 _ rfl;have g:=(((hJ.o.1.setCell (p:=⟨x,0,N⟩) p v0).setCell (p:=⟨x,1,N⟩) p v1).setCell (p:=⟨x,2,N⟩) p v2).setCell (p:=⟨x,3,N⟩) p v3;exact dJ N hi hd hr hw (he (q.cell rfl) (q.cell rfl) (q.cell rfl) (q.cell rfl) (q.free 0) (q.free 1) (q.free 2) (q.free 3)) (hS.o _ g) (h _ (G ⟨p,(((q.set 0 v0).set 1 v1).set 2 v2).set 3 v3,g⟩))
end
end
end Go.Proofs.YtkhmjidaeliccaaGreatDoor
