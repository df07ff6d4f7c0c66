import Derived.Test.YtkhmjidaeliccaaGreatDoorS06
import Derived.Test.YtkhmjidaeliccaaGreatDoorS07
set_option maxRecDepth 100000
set_option maxHeartbeats 51200000
namespace Go.Proofs.YtkhmjidaeliccaaGreatDoor
open Option renaming none->N,some->Z
open Value renaming int->I,slice->H
open IntKind renaming i64->J
open Go.Proofs.Tryz
section
open Go.RowKit Go.Maps Go.WideMaps
theorem zG(n:Nat)(h:n<=12)(w:Wv):Calls prog 208 #[.int .u64 n] w (λe w'=>(∃z:Int,e=.returned (I J z))/\w=w'):=by
 have a:=G (RD n h w);go_enter func208,ntmps208;go_wp2_with fail;refine a.o.mono ?_;rintro e w' ⟨⟨z,rfl⟩,rfl⟩;go_wp2;go_ret;exact⟨⟨_,rfl⟩,rfl⟩
theorem ZQ(base g n c:Nat)(d:List Rg)(w:Wv)(hR:dY w base g n c d)(hbig:n<=12)(hok:∀x∈d,dL x):
  Calls prog 197 #[H (Z ⟨g,0,N⟩) n c,.func (.func 198) #[] #[]] w (rC (λd'=>Srt.Done eG d d' 0 n) base g n c w):=by
 have i:=G (zG n hbig w);have j:=G (λz=>UY base g n c z d w hR hbig hok);have hu:IntKind.u64.wrap (n:Int)=(n:Int):=by rw[IntKind.wrap_u64];omega
 clear hR hok;go_enter func197,ntmps197;go_wp2_with fail;refine i.o.mono ?_;rintro e l ⟨⟨z,rfl⟩,rfl⟩;go_wp2_with fail;refine(j.o z).mono ?_;rintro e m ⟨rfl,k,h,a,b⟩;have f:=G (And.intro h (And.intro a b));clear h a b;go_wp2;go_end0;exact⟨rfl,k,f.o.1,f.o.2.1,f.o.2.2⟩
def q_(w:Wv)(e:Ending)(w':Wv):Prop:=e=.returned (.tuple #[])/\w=w'
theorem PY(S:Oa)(n c:Nat)(hn:n<=0)(w:Wv):Calls prog 211 #[H S n c,I J 0,I J n,.func (.func 198) #[] #[]] w (q_ w):=by
 have a:=G hn;clear hn;go_enter func211,ntmps211;go_wp2;go_loop [8] (λi=>∃k:Nat,k=1/\i=I J k) (λ_=>0)
 case atStart=>exact⟨1,rfl,rfl⟩
 obtain⟨k,hk,rfl⟩:=hrel;have b:¬k<n:=by have:=a.o;omega
 clear hk a;go_wp2;go_end0;exact⟨rfl,rfl⟩
theorem UZ(S:Oa)(n c:Nat)(hn:n<=0)(z:Int)(w:Wv):Calls prog 207 #[H S n c,I J 0,I J n,I J z,.func (.func 198) #[] #[]] w (q_ w):=by
 have C:=G (PY S n c hn w);have d:decide ((n:Int)<=12)=true:=oU_;have f:decide (n<=12)=true:=oU_;have a:n<=12:=O;clear hn;go_enter func207,ntmps207;go_wp2_with fail;refine wp_loop_rounds 1 ?_;rw[rounds_succ];go_wp2_with fail;refine C.o.mono ?_;rintro e g ⟨rfl,hw⟩;have b:=G hw;clear hw;go_wp2;go_end0;exact⟨rfl,b.o⟩
theorem ZR(S:Oa)(n c:Nat)(hn:n<=0)(w:Wv):Calls prog 197 #[H S n c,.func (.func 198) #[] #[]] w (q_ w):=by
 have b:=G (zG n O w);have d:=G (λz=>UZ S n c hn z w);have hu:IntKind.u64.wrap (n:Int)=(n:Int):=by rw[IntKind.wrap_u64];omega
 have a:n<=12:=O;clear hn;go_enter func197,ntmps197;go_wp2_with fail;refine b.o.mono ?_;rintro e f ⟨⟨z,rfl⟩,rfl⟩;go_wp2_with fail;refine(d.o z).mono ?_;rintro e g ⟨rfl,rfl⟩;go_wp2;go_end0;exact⟨rfl,rfl⟩
theorem I_{xs ys:List Rg}(h:∀r,r∈xs ↔ r∈ys)(c:Int):cW xs c=true ↔ cW ys c=true:=by
 rw[dA,dA];exact⟨λ⟨r,hr,h1⟩=>⟨r,(h r).1 hr,h1⟩,λ⟨r,hr,h1⟩=>⟨r,(h r).2 hr,h1⟩⟩
theorem JW{rs ds out:List Rg}{b:Int}(hst:Srt.St eG (dB rs) ds)(hm:Mg ds out b):out=eI rs:=
 JX hm.ok (λc c0 c1=>by
  rw[hm.any c,I_ (ys:=dB rs) (λr=>⟨λh=>nL hst h,λh=>IM hst h⟩) c]
  exact LI c0 c1)
theorem ZS{ds:List Rg}{n:Nat}(hs:Srt.SortedOn eG ds 0 n)(hok:∀r∈ds,dL r)(hn:ds.length=n){i t:Nat}(hit:i<t)(ht:t<ds.length):(ds[i]'(by omega)).lo<=ds[t].lo:=by
 have c:=hs i t O hit O;rw[Srt.kf_some (List.getElem?_eq_getElem (show i<ds.length by omega)),Srt.kf_some (List.getElem?_eq_getElem ht)]at c;have a:=hok _ (List.getElem_mem (show i<ds.length by omega));have b:=hok _ (List.getElem_mem ht);unfold eG at c;unfold dL at a b;omega
section
variable {out:List Rg}{q:Rg}
theorem TA{k:Nat}(hk:out.length=k+1){x:Rg}(hx:out[k]?=Z x)(h:¬q.lo<=x.hi+1):mrg out q=out++[q]:=by
 unfold mrg;have:out.getLast?=Z x:=by rw[List.getLast?_eq_getElem?,hk];simpa using hx
 rw[this];simp[h]
theorem TG{k:Nat}(hk:out.length=k+1){x:Rg}(hx:out[k]?=Z x)(h:q.lo<=x.hi+1):mrg out q=out.set k ⟨x.lo,max x.hi q.hi⟩:=by
 unfold mrg;have:out.getLast?=Z x:=by rw[List.getLast?_eq_getElem?,hk];simpa using hx
 rw[this];simp only[h,if_true];rw[pK hk];have e:out[k]' O=x:=(List.getElem?_eq_some_iff.1 hx).2;rw[e]
end
theorem WZ(tmps:Array Value)(w:Wv){b:Nat}{v0:Value}(ha:tmps.getD 2 undef=.pointer (Z ⟨b,0,N⟩))(c0:w.cell? ⟨b,0,N⟩=Z v0):
  (results f179 tmps).run prog w=.ok (.agg #[v0]) w:=by
 have hr:f179.results=#[.cell 2 26]:=rfl;unfold results;rw[hr];simp only[ha,List.mapM_toArray,List.mapM_cons,List.mapM_nil,asAddr];go_simp
theorem MK(A:Oa)(n a:Nat)(rs:List Rg)(w:Wv)(hA:Rgs w A rs)(hn:rs.length=n)(hz:n<=12):
  Calls prog 179 #[H A n a] w (rF (eI rs) w):=by
 subst hn;have B0:By w (w.alloc (.cells #[H N 0 0] 26)):=ba _ _;have X0:Box (w.alloc (.cells #[H N 0 0] 26)) w.heap.size 26 [H N 0 0]:=Box.new _ _ _ rfl;have s0:(w.alloc (.cells #[H N 0 0] 26)).heap.size=w.heap.size+1:=L;have b8:∃W0,(w.alloc (.cells #[H N 0 0] 26))=W0:=⟨_,rfl⟩;have HA:=G hA;have a6:=G (λds c b h1 h2=>JW (rs:=rs) (ds:=ds) (out:=c) (b:=b) h1 h2);have ap:=G (LJ rs);have dc:=wS rs;generalize eI rs=R at *;clear hA;go_enter func179,ntmps179;go_wp2_with fail;obtain⟨W0,bg⟩:=b8;rw[bg]at B0 X0 s0|-;clear bg;have C:=U (W0.ownsRow W0.heap.size 179 2 (H N 0 0) 0 ([]:Lv)) (World.ownsRow_nil _ _ _ _);have C0:=U (dB (rs.take 0)=[]) rfl;go_loopw [3,13] (λv u wr=>∃(i:Nat)(S:Oa)(k:Nat),i<=rs.length/\u=I J i/\v=H S (dB (rs.take i)).length k/\wr.ownsRow W0.heap.size 179 2 (H S (dB (rs.take i)).length k) (dB (rs.take i)).length (aB Rg.cells (dB (rs.take i)))/\By W0 wr) (λ_ u _=>rs.length-(intOf u).toNat)
 case atStart=>exact⟨0,N,0,Nat.zero_le _,rfl,by rw[C0.o];rfl,by rw[C0.o];exact C.o,Below.refl _ _⟩
 obtain⟨i,S,k,hi,rfl,rfl,E,Q⟩:=hrel;have f:=G E;clear E C C0;have ck:=tb B0 Q;have bj:(dB (rs.take i)).length<=i:=Nat.le_trans (wS _) (List.length_take_le _ _);by_cases hlt:i<rs.length
 ·obtain⟨b1,o1,rfl,ci,z⟩:=(HA.o.below ck).at hlt
  obtain⟨c1,c2⟩:=z i hlt;have CT:=G (LK hlt);have CP:=U (gD rs[i]=⟨max rs[i].lo 0,min rs[i].hi 1114111⟩) rfl;clear z;generalize hcc:gD rs[i]=cr at *;clear hcc;generalize rs[i]=ri at *;generalize hL0:dB (rs.take i)=L0 at *;clear hL0;obtain⟨X,W⟩:=ri;obtain⟨pl,ph⟩:=cr;dsimp only at *;have e0:=CP.o;injection e0 with e1 e2;have em:(if X<0 then(0:Int)else X)=pl:=by rw[e1];split<;>omega
  have eM:(if 1114111<W then(1114111:Int)else W)=ph:=by rw[e2];split<;>omega
  have c8:max X 0=pl:=O;have c6:min W 1114111=ph:=O;clear e1 e2 CP;have co:¬b1=wr.heap.size:=O;have Bp:By wr ((wr.alloc (.cells #[I J X,I J W] 179)).alloc (.cells #[I J pl,I J ph] 179)):=(ba _ _).alloc L _;by_cases hp:pl<=ph
  ·have q1:decide (pl<=ph)=true:=by simpa using hp
   have ct:=CT.o;rw[if_pos hp]at ct;have aa:=G ct;have Y:By wr (((wr.alloc (.cells #[I J X,I J W] 179)).alloc (.cells #[I J pl,I J ph] 179)).alloc (.cells #[I J pl,I J ph] 179)):=Bp.alloc Bp.size _;have F:=G (aG f.o Y);have ai:W0.heap.size<=(((wr.alloc (.cells #[I J X,I J W] 179)).alloc (.cells #[I J pl,I J ph] 179)).alloc (.cells #[I J pl,I J ph] 179)).heap.size:=Nat.le_trans Q.size Y.size;have av:=tb Q Y;clear CT ct f Bp Y;go_wp2_with(at_builtin;refine a_ _ _ 24 179 (.agg #[I J 0,I J 0]) 2 16 rfl rfl underlying24 nX rfl V V rfl F.o rfl (bI _ (Rg.cells ⟨pl,ph⟩) _ L) rfl (oD _) O ai ?_;intro A7 c7 w7 m bi P _ _;have ad:=G m;clear m);go_roundw
   case rel=>exact⟨i+1,A7,c7,O,oN_,by rw[aa.o,List.length_append];rfl,by rw[aa.o,List.length_append,iA];exact ad.o,av.trans P⟩
   exact oI_
  have q1:decide (pl<=ph)=false:=by simpa using hp
  have ct:=CT.o;rw[if_neg hp,List.append_nil]at ct;have aa:=G ct;have F:=G (aG f.o Bp);have av:=tb Q Bp;clear CT ct f Bp;go_wp2;go_roundw
  case rel=>exact⟨i+1,S,k,O,oN_,by rw[aa.o],by rw[aa.o];exact F.o,av⟩
  exact oI_
 rw[List.take_of_length_le (show rs.length<=i by omega)]at f|-;clear bj
 have bc:=G (show Calls prog 197 #[H S (dB rs).length k,.func (.func 198) #[] #[]] wr (λe w'=>e=.returned (.tuple #[])/\∃ds,ds.length=(dB rs).length/\Srt.St eG (dB rs) ds/\Srt.SortedOn eG ds 0 (dB rs).length/\Rgs w' S ds/\By W0 w') by
  rcases Nat.eq_zero_or_pos (dB rs).length with h0|h0
  ·have B:dB rs=[]:=List.length_eq_zero_iff.1 h0
   exact(ZR S (dB rs).length k O wr).mono (λe w'⟨he,hw⟩=>⟨he,[],by rw[B],by rw[B];exact Srt.St.refl _,Srt.SortedOn.short O,Sl.nil _ _,by subst hw;exact Q⟩)
  ·have ho:=f.o
   obtain⟨g,hS⟩:∃g,S=Z ⟨g,0,N⟩:=by
    rcases ho.2 with⟨_,h1⟩|⟨g,cb,cc,ay,_⟩
    ·omega
    injection ay with hA' _ _;exact⟨g,hA'⟩
   subst hS
   have cm:W0.heap.size<=g:=(ho.lt g rfl).1
   refine(ZQ W0.heap.size g (dB rs).length k (dB rs) wr ho O ap.o).mono (λe w'⟨he,d1,hD,hR1,hg1⟩=>⟨he,d1,hR1.len,hD.2.1,hD.2.2,Sl.of_own hR1,lA Q hg1 cm Q.size⟩))
 clear f;generalize hcl0:dB rs=cl at *;clear hcl0;go_wp2_with fail;refine bc.o.mono ?_
 rintro e W2 ⟨rfl,ds,ak,al,bm,bk,au⟩;have bw:=G bk;have b5:=G al;have c4:=G ak;have a8:=U (∀r∈ds,dL r) (λr hr=>ap.o r (nL al hr));have b0:=U (∀i t,(hit:i<t)->(ht:t<ds.length)->(ds[i]' O).lo<=ds[t].lo) (λi t hit ht=>ZS bm (λr hr=>ap.o r (nL al hr)) ak (i:=i) (t:=t) hit ht);rw[<-ak];have dd:ds.length<=12:=O;clear bc bk al bm ak;have C:=U (W2.ownsRow W2.heap.size 179 2 (H N 0 0) 0 ([]:Lv)) (World.ownsRow_nil _ _ _ _);have db:=tb B0 au;go_wp2;go_loopw [7,38] (λv u wr=>∃(i:Nat)(S:Oa)(k:Nat)(c:List Rg)(b:Int),i<=ds.length/\u=I J i/\v=H S c.length k/\wr.ownsRow W2.heap.size 179 2 (H S c.length k) c.length (aB Rg.cells c)/\c.length<=i/\Mg (ds.take i) c b/\(∀t,(ht:t<ds.length)->i<=t->b<=ds[t].lo)/\By W2 wr) (λ_ u _=>ds.length-(intOf u).toNat)
 case atStart=>exact⟨0,N,0,[],0,Nat.zero_le _,rfl,rfl,C.o,Nat.le_refl _,Mg.nil 0,λt ht _=>(a8.o _ (List.getElem_mem ht)).1,Below.refl _ _⟩
 obtain⟨i,S',k',c,b,hi,rfl,rfl,E,de,bf,am,ag⟩:=hrel;have f:=G E;have ab:=G bf;have a5:=G am;clear E bf am C;by_cases hlt:i<ds.length
 ·obtain⟨b1,o1,rfl,ci,z⟩:=(bw.o.below ag).at hlt
  obtain⟨c1,c2⟩:=z i hlt;have T:=a8.o ds[i] (List.getElem_mem hlt);have aq:=G (show Mg (ds.take (i+1)) (mrg c ds[i]) ds[i].lo by rw[List.take_succ_eq_append_getElem hlt];exact ab.o.step (a5.o i hlt (Nat.le_refl _)) T);have ao:=U (∀t,(ht:t<ds.length)->i+1<=t->ds[i].lo<=ds[t].lo) (λt ht hit=>b0.o i t O ht);have MO:=G (λhk x hx h=>TA (out:=c) (q:=ds[i]'hlt) (k:=c.length-1) hk (x:=x) hx h);have MS:=G (λhk x hx h=>TG (out:=c) (q:=ds[i]'hlt) (k:=c.length-1) hk (x:=x) hx h);have MN:=G (λ(h:c=[])=>show mrg c ds[i]=c++[ds[i]] by subst h;rfl);have b3:=G ab.o.ok.1;clear z ab a5;generalize mrg c ds[i]=M1 at *;generalize ds[i]=q at *;obtain⟨d,l⟩:=q;dsimp only at *;unfold dL at T;dsimp only at T;have Ba:By wr (wr.alloc (.cells #[I J d,I J l] 179)):=ba _ _;have sa:(wr.alloc (.cells #[I J d,I J l] 179)).heap.size=wr.heap.size+1:=L;have x0:(wr.alloc (.cells #[I J d,I J l] 179)).cell? ⟨wr.heap.size,0,N⟩=Z (I J d):=L;have x1:(wr.alloc (.cells #[I J d,I J l] 179)).cell? ⟨wr.heap.size,1,N⟩=Z (I J l):=L;have o:=G (aG f.o Ba);have bz:=U (∀g,S'=Z ⟨g,0,N⟩->g<wr.heap.size) (λg e=>(f.o.lt g (by rw[e];rfl)).2);have M:=tb ag Ba;have b9:∃s,wr.alloc (.cells #[I J d,I J l] 179)=s:=⟨_,rfl⟩;have co:¬b1=wr.heap.size:=O;clear f;go_wp2_with fail;obtain⟨s,bh⟩:=b9;rw[bh]at Ba sa x0 x1 o M|-;clear bh c1 c2;rcases Nat.eq_zero_or_pos c.length with aw|aw
  ·have B:c=[]:=List.length_eq_zero_iff.1 aw
   obtain rfl:=MN.o B;have q0:decide ((0:Int)<(c.length:Int))=false:=by simp[B]
   have dn:decide (0<c.length)=false:=by simp[B]
   clear MN MO MS B aw;go_quiet(fail);have bp:(s.drewN nq).cell? ⟨wr.heap.size,0,N⟩=Z (I J d):=x0;have bq:(s.drewN nq).cell? ⟨wr.heap.size,1,N⟩=Z (I J l):=x1;have K:=U ((s.drewN nq).ownsRow W2.heap.size 179 2 (H S' c.length k') c.length (aB Rg.cells c)) o.o;have af:=bU M nq;have bn:wr.heap.size<(s.drewN nq).heap.size:=by show wr.heap.size<s.heap.size;omega
   clear o M sa x0 x1;generalize s.drewN nq=Wq at *;have Y:By Wq (Wq.alloc (.cells #[I J d,I J l] 179)):=ba _ _;have F:=G (aG K.o Y);have D:=tb af Y;have ai:W2.heap.size<=(Wq.alloc (.cells #[I J d,I J l] 179)).heap.size:=D.size;clear K Y;go_wp2_with(at_builtin;refine a_ _ _ 24 179 (.agg #[I J 0,I J 0]) 2 16 rfl rfl underlying24 nX rfl V V rfl F.o rfl (bI _ (Rg.cells ⟨d,l⟩) _ rfl) rfl (oD _) O ai ?_;intro A7 c7 w7 m bi P _ _;have ad:=G m;clear m);go_roundw
   case rel=>exact⟨i+1,A7,c7,c++[⟨d,l⟩],d,O,oN_,by rw[List.length_append];rfl,by rw[List.length_append,iA];exact ad.o,by rw[List.length_append];simp;omega,aq.o,ao.o,D.trans P⟩
   exact oI_
  obtain⟨j,hj⟩:∃j,c.length=j+1:=⟨c.length-1,O⟩;have bl:j<c.length:=O;have MO:=G (λ(x:Rg) (hx:c[j]?=Z x) (h:¬d<=x.hi+1)=>MO.o O x (by rw[show c.length-1=j by omega];exact hx) O);have MS:=G (λ(x:Rg) (hx:c[j]?=Z x) (h:d<=x.hi+1)=>(MS.o O x (by rw[show c.length-1=j by omega];exact hx) O));obtain⟨y,hy⟩:=sR bl;have bo:=b3.o y (List.mem_of_getElem? hy);unfold dL at bo
  obtain⟨g,hS⟩:∃g,S'=Z ⟨g,0,N⟩:=by
   rcases o.o.2 with⟨_,h1⟩|⟨g,cb,cc,ay,_⟩
   ·omega
   injection ay with hA' _ _;exact⟨g,hA'⟩
  subst hS;have gO:W2.heap.size<=g:=(o.o.lt g rfl).1;have gl:g<s.heap.size:=(o.o.lt g rfl).2;have y1:s.cell? ⟨g,j*2+1,N⟩=Z (I J y.hi):=by
   rw[World.ownsRow.cellAt o.o (j*2+1) O,gR Rg.cells 2 (λ_=>rfl) c j 1 bl O,(List.getElem?_eq_some_iff.1 hy).2];rfl
  have f1:=World.ownsRow.frozenAt o.o (j*2+1);have HY:=G hy;have HJ:=G hj;have i0:decide ((0:Int)<(c.length:Int))=true:=oU_;have i1:IntKind.i64.wrap ((c.length:Int)-1)=(j:Int):=by rw[IntWalk.i64_in _ O];omega
  have i2:(0:Int)<=(j:Int):=O;have i3:((j:Int)).toNat=j:=O;have i4:(j:Int)<(c.length:Int):=O;have i5:IntKind.i64.wrap (y.hi+1)=y.hi+1:=IntWalk.i64_in _ O;have dr:=bo;clear hy hj MN;have bx:=U (g<wr.heap.size) (bz.o g rfl);by_cases hm:d<=y.hi+1
  ·have q1:decide (d<=y.hi+1)=true:=by simpa using hm
   have a7:=G (MS.o y HY.o hm);clear MO MS;go_quiet(fail);have bp:(s.drewN nq).cell? ⟨wr.heap.size,0,N⟩=Z (I J d):=x0;have bq:(s.drewN nq).cell? ⟨wr.heap.size,1,N⟩=Z (I J l):=x1;have K:=U ((s.drewN nq).ownsRow W2.heap.size 179 2 (H (Z ⟨g,0,N⟩) c.length k') c.length (aB Rg.cells c)) o.o;have af:=bU M nq;have bn:wr.heap.size<(s.drewN nq).heap.size:=by show wr.heap.size<s.heap.size;omega
   clear o M sa x0 x1;have dq:(s.drewN nq).cell? ⟨g,j*2+1,N⟩=Z (I J y.hi):=y1;have c9:(s.drewN nq).frozen? ⟨g,j*2+1,N⟩=false:=f1;clear y1 f1;generalize s.drewN nq=Wq at *;have cz:¬g=wr.heap.size:=by have:=bx.o;omega
   obtain⟨mx,ah⟩:=exQ (max y.hi l);have cn:(if y.hi<l then l else y.hi)=mx:=by rw[<-ah];split<;>omega
   go_wp2_with fail;go_region
   all_goals
    have st:=World.ownsRow.stored K.o (j*2+1) (I J mx);rw[sO c j _ HY.o]at st;have a9:=G st.1;have cj:=af.setCell (p:=⟨g,j*2+1,N⟩) gO (I J mx);have b2:=G ah;clear st cn ah;go_wp2;go_roundw
    case rel=>
     have e0:c.length-1=j:=by have:=HJ.o;omega
     have e1:=a7.o;rw[e0]at e1;subst e1;refine⟨i+1,Z ⟨g,0,N⟩,k',c.set j ⟨y.lo,max y.hi l⟩,d,O,oN_,by rw[List.length_set],?_,by rw[List.length_set];omega,aq.o,ao.o,cj.drew⟩;rw[List.length_set,b2.o];exact a9.o
    exact oI_
  have q1:decide (d<=y.hi+1)=false:=by simpa using hm
  obtain rfl:=MO.o y HY.o hm;clear MO MS;go_quiet(fail);clear i0 i1 i2 i3 i4 i5 y1 f1;have bp:(s.drewN nq).cell? ⟨wr.heap.size,0,N⟩=Z (I J d):=x0;have bq:(s.drewN nq).cell? ⟨wr.heap.size,1,N⟩=Z (I J l):=x1;have K:=U ((s.drewN nq).ownsRow W2.heap.size 179 2 (H (Z ⟨g,0,N⟩) c.length k') c.length (aB Rg.cells c)) o.o;have af:=bU M nq;have bn:wr.heap.size<(s.drewN nq).heap.size:=by show wr.heap.size<s.heap.size;omega
  clear o M sa x0 x1;generalize s.drewN nq=Wq at *;have Y:By Wq (Wq.alloc (.cells #[I J d,I J l] 179)):=ba _ _;have F:=G (aG K.o Y);have D:=tb af Y;have ai:W2.heap.size<=(Wq.alloc (.cells #[I J d,I J l] 179)).heap.size:=D.size;clear K Y;go_wp2_with(at_builtin;refine a_ _ _ 24 179 (.agg #[I J 0,I J 0]) 2 16 rfl rfl underlying24 nX rfl V V rfl F.o rfl (bI _ (Rg.cells ⟨d,l⟩) _ rfl) rfl (oD _) O ai ?_;intro A7 c7 w7 m bi P _ _;have ad:=G m;clear m);go_roundw
  case rel=>exact⟨i+1,A7,c7,c++[⟨d,l⟩],d,O,oN_,by rw[List.length_append];rfl,by rw[List.length_append,iA];exact ad.o,by rw[List.length_append];simp;omega,aq.o,ao.o,D.trans P⟩
  exact oI_
 have ax:=ab.o;rw[List.take_of_length_le (show ds.length<=i by omega)]at ax;obtain rfl:=a6.o ds c b b5.o ax;have D:=tb au ag;have P:=tb B0 D;have X9:=bb X0 D;have z9:=X9.c 0 rfl;have f9:=X9.free 0;have df:=X9.lt;have cp:w.heap.size<W2.heap.size:=by have:=au.size;omega
 have ch:=P.setCell (p:=⟨w.heap.size,0,N⟩) (Nat.le_refl _) (H S' c.length k');have b4:=G (Sl.of_own (pU f.o (p:=⟨w.heap.size,0,N⟩) cp (H S' c.length k')));have hc:=uC f.o;clear ab ax f a6 X9;go_wp2_with fail;(try simp only[Exit.inBlock,Exit.then]);refine bodyPost_ret (WZ _ _ (b:=w.heap.size) (v0:=H S' c.length k') rfl oS_) rfl ?_;exact⟨S',k',rfl,hc,b4.o,ch⟩
theorem MP(A:Oa)(n a:Nat)(ys:List Rg)(w:Wv)(hA:Rgs w A ys)(hn:ys.length=n)(hz:n<=12):
  Calls prog 141 #[.agg #[H A n a]] w (c_ (iE ys) w):=by
 subst hn;have S:By w (w.alloc (.cells #[H A ys.length a] 26)):=ba _ _;have k0:(w.alloc (.cells #[H A ys.length a] 26)).cell? ⟨w.heap.size,0,N⟩=Z (H A ys.length a):=L;have s0:(w.alloc (.cells #[H A ys.length a] 26)).heap.size=w.heap.size+1:=L;have aa:∃P,(w.alloc (.cells #[H A ys.length a] 26))=P:=⟨_,rfl⟩;have MC:=G (λW(hb:By w W)=>MK A ys.length a ys W (hA.below hb) rfl hz);have bc:=wF ys;have S0:=U (iE ys=decide (eI ys=ys)) rfl;generalize eI ys=xs at *;have S1:=G (DO (xs:=xs) (ys:=ys));have S2:=G (λk h1 h2 h=>DQ (xs:=xs) (ys:=ys) (k:=k) h1 h2 h);have S3:=G (DM (xs:=xs) (ys:=ys));generalize decide (xs=ys)=R at *;generalize iE ys=R' at *;obtain rfl:=S0.o;have HA:=G (λW(hb:By w W)=>hA.below hb);clear hA;go_enter func141,ntmps141;go_wp2_with fail;obtain⟨P,B⟩:=aa;rw[B]at S k0 s0|-;clear B;have ah:w.heap.size<P.heap.size:=O;refine(MC.o P S).mono ?_
 rintro e l ⟨E,d,rfl,hd,hE,o⟩;have HE:=G hE;have z:=(o.cell (p:=⟨w.heap.size,0,N⟩) ah).trans k0;have ai:w.heap.size<l.heap.size:=by have:=o.size;omega
 have be:¬w.heap.size=l.heap.size:=O;have M:By l (l.alloc (.cells #[H E xs.length d] 26)):=ba _ _;have m0:(l.alloc (.cells #[H E xs.length d] 26)).cell? ⟨l.heap.size,0,N⟩=Z (H E xs.length d):=L;have g0:=(M.cell (p:=⟨w.heap.size,0,N⟩) ai).trans z;have sm:(l.alloc (.cells #[H E xs.length d] 26)).heap.size=l.heap.size+1:=L;have ag:=tb S o;have c:=tb ag M;have s:=G (HE.o.below M);have ab:∃Q,l.alloc (.cells #[H E xs.length d] 26)=Q:=⟨_,rfl⟩;clear MC hE HE k0;by_cases hl:xs.length=ys.length;rotate_left
 ·obtain rfl:=S1.o hl
  have q1:((xs.length:Int)!=(ys.length:Int))=true:=oU_;go_wp2;go_ret;exact⟨rfl,c⟩
 have q1:((xs.length:Int)!=(ys.length:Int))=false:=oU_;have bd:xs.length<=ys.length:=O;have Y:=G (S3.o hl);clear hl S1 S3;go_wp2_with fail;obtain⟨Q,C⟩:=ab;rw[C]at M m0 g0 sm c s|-;clear C q1 z;have aj:w.heap.size<Q.heap.size:=O;have G0:=G g0;clear g0 m0;go_loopw [19] (λu wr=>∃i:Nat,i<=xs.length/\u=I J i/\(∀t,(h1:t<xs.length)->(h2:t<ys.length)->t<i->xs[t]=ys[t])/\By Q wr) (λu _=>xs.length-(intOf u).toNat)
 case atStart=>exact⟨0,Nat.zero_le _,rfl,λt _ _ h=>O,Below.refl _ _⟩
 obtain⟨i,hi,rfl,K,f⟩:=hrel;have v:=G K;clear K;have z:=(f.cell (p:=⟨w.heap.size,0,N⟩) aj).trans G0.o;have ak:w.heap.size<wr.heap.size:=by have:=f.size;omega
 have bf:¬w.heap.size=wr.heap.size:=O;have F:=tb c f;by_cases hlt:i<xs.length
 ·have j:i<ys.length:=O
  obtain⟨b1,o1,rfl,bb,g⟩:=(s.o.below f).at hlt;obtain⟨c1,c2⟩:=g i hlt;obtain⟨b2,o2,rfl,m,b⟩:=(HA.o wr F).at j;obtain⟨d1,d2⟩:=b i j;have V:=G (λh=>S2.o i hlt j h)
  have T:=G (λ(h:xs[i]=ys[i])=>show ∀t,(h1:t<xs.length)->(h2:t<ys.length)->t<i+1->xs[t]=ys[t]from λt h1 h2 ht=>by
   by_cases e:t<i
   ·exact v.o t h1 h2 e
   ·obtain rfl:t=i:=O
    exact h)
  clear g b;generalize xs[i]=x at *;generalize ys[i]=y at *;obtain⟨xl,xh⟩:=x;obtain⟨yl,yh⟩:=y;dsimp only at *;have n1:¬b1=wr.heap.size:=O;have n2:¬b2=wr.heap.size:=O;have i1:(0:Int)<=(i:Int):=O;have i2:(i:Int)<(xs.length:Int):=O;have i3:((i:Int)).toNat=i:=O;have i4:(i:Int)<(ys.length:Int):=O;have r:By wr (wr.alloc (.cells #[I J xl,I J xh] 179)):=ba _ _;have x0:(wr.alloc (.cells #[I J xl,I J xh] 179)).cell? ⟨wr.heap.size,0,N⟩=Z (I J xl):=L;have x1:(wr.alloc (.cells #[I J xl,I J xh] 179)).cell? ⟨wr.heap.size,1,N⟩=Z (I J xh):=L;have e0:=(r.cell (p:=⟨w.heap.size,0,N⟩) ak).trans z;have e1:=(r.cell (p:=⟨b2,o2+i*2,N⟩) m).trans d1;have e2:=(r.cell (p:=⟨b2,o2+i*2+1,N⟩) m).trans d2;have q:=tb f r;have ad:∃Wx,wr.alloc (.cells #[I J xl,I J xh] 179)=Wx:=⟨_,rfl⟩;clear z d1 d2;go_wp2_with fail;obtain⟨Wx,D⟩:=ad;rw[D]at r x0 x1 e0 e1 e2 q|-;clear D c1 c2;by_cases he:(⟨xl,xh⟩:Rg)=⟨yl,yh⟩
  ·have HQ:=G (T.o he)
   have X:∀W,(binOp .neq 179 (.agg #[I J xl,I J xh]) (.agg #[I J yl,I J yh])).run prog W=.ok (.bool false) W:=λW=>by rw[pS,he];simp
   clear V T he;go_quiet(fail);go_wp2;go_roundw
   case rel=>exact⟨i+1,O,oN_,HQ.o,bU q _⟩
   exact oI_
  obtain rfl:=V.o he;have X:∀W,(binOp .neq 179 (.agg #[I J xl,I J xh]) (.agg #[I J yl,I J yh])).run prog W=.ok (.bool true) W:=λW=>by rw[pS,decide_eq_false he];rfl
  clear V T he;go_quiet(fail);go_wp2;go_ret;exact⟨rfl,c.trans ((bU q _).mono c.size)⟩
 obtain rfl:=Y.o (λt h1 h2=>v.o t h1 h2 O);go_wp2;go_ret;exact⟨rfl,F⟩
structure cB(w:Wv)(A0:Oa)(n0:Nat)(A1:Oa)(n1:Nat)(A2:Oa)(n2:Nat)(x:Nrm):Prop where
 s0:bG w A0 x.cls
 s1:Mps w A1 x.dec
 s2:Rgs w A2 x.exc
 l0:x.cls.length=n0
 l1:x.dec.length=n1
 l2:x.exc.length=n2
theorem cB.below{w w':Wv}{A0:Oa}{n0:Nat}{A1:Oa}{n1:Nat}{A2:Oa}{n2:Nat}{x:Nrm}(h:cB w A0 n0 A1 n1 A2 n2 x)(hb:By w w'):cB w' A0 n0 A1 n1 A2 n2 x:=
 ⟨h.s0.below hb,h.s1.below hb,h.s2.below hb,h.l0,h.l1,h.l2⟩
structure cZ(x:Nrm):Prop where
 z0:x.cls.length<=1048576
 z1:lW x.dec
 z2:x.exc.length<=12
theorem sH(A0:Oa)(n0 k0:Nat)(A1:Oa)(n1 k1:Nat)(A2:Oa)(n2 k2:Nat)(x:Nrm)(w:Wv)(hN:cB w A0 n0 A1 n1 A2 n2 x)(hz:cZ x)(hL:dX w):
  Calls prog 84 #[.agg #[H A0 n0 k0,H A1 n1 k1,H A2 n2 k2]] w (aU (bW x) w):=by
 obtain⟨ss,ms,rs⟩:=x;obtain⟨hS,hM,hR,rfl,rfl,rfl⟩:=hN;dsimp only at *;have z0:ss.length<=1048576:=hz.z0;have z1:ms.length<=1048576:=hz.z1.n;have CC:=G (λW(hb:By w W)=>vA A0 ss.length k0 ss W (hS.below hb) rfl O (hL.below hb));have MC:=G (λW(hb:By w W)=>RX A1 ms.length k1 ms W (hM.below hb) rfl hz.z1);have VC:=G (λW(hb:By w W)=>MP A2 rs.length k2 rs W (hR.below hb) rfl hz.z2);have KC:=G (λc W=>nI c W);have RC:=G (λA nt kt text W(hb:By w W)(z:aA W A text)(hnt:text.length=nt)(hbt:nt<=1048576)=>IG A0 ss.length k0 ss A nt kt text W (hS.below hb) z hnt rfl hbt O (hL.below hb));have ME:=G (λW(hb:By w W)(ag:StF ms)(hco:gG ms)(hh:dG ms)=>SK A0 ss.length k0 A1 ms.length k1 A2 rs.length k2 ms W (hM.below hb) rfl ag hco hh z1);have N0:=G (λh=>tS (x:=⟨ss,ms,rs⟩) h);have N1:=G (λn h2=>tU (x:=⟨ss,ms,rs⟩) n h2);have N2:=G (λn h2 h3=>tW (x:=⟨ss,ms,rs⟩) n h2 h3);have N3:=G (λ(c:Ck3 ⟨ss,ms,rs⟩) h=>c.twice h);have N4:=G (λ(c:Ck4 ⟨ss,ms,rs⟩) h=>c.kind h);have N5:=G (λ(c:Ck5 ⟨ss,ms,rs⟩) h=>c.data h);have N6:=G (λ(c:Ck6 ⟨ss,ms,rs⟩)=>c.rest);dsimp only at N0 N1 N2 N3 N4 N5 N6;generalize bW ⟨ss,ms,rs⟩=r at *;have HM:=G hM;clear hM hS hR hz hL;have B0:By w (w.alloc (.cells #[H A0 ss.length k0,H A1 ms.length k1,H A2 rs.length k2] 28)):=ba _ _;have X0:Box (w.alloc (.cells #[H A0 ss.length k0,H A1 ms.length k1,H A2 rs.length k2] 28)) w.heap.size 28 [H A0 ss.length k0,H A1 ms.length k1,H A2 rs.length k2]:=Box.new _ _ _ rfl;have be:∃T,(w.alloc (.cells #[H A0 ss.length k0,H A1 ms.length k1,H A2 rs.length k2] 28))=T:=⟨_,rfl⟩;go_enter func84,ntmps84;go_wp2_with fail;obtain⟨T,av⟩:=be;rw[av]at B0 X0|-;clear av;have s0:w.heap.size<T.heap.size:=X0.lt
 have Q:=G (λW(hb:By T W)=>show W.cell? ⟨w.heap.size,0,N⟩=Z (H A0 ss.length k0)/\W.cell? ⟨w.heap.size,1,N⟩=Z (H A1 ms.length k1)/\W.cell? ⟨w.heap.size,2,N⟩=Z (H A2 rs.length k2)from
  have X:=X0.below hb s0
  ⟨X.cell rfl,X.cell rfl,X.cell rfl⟩)
 have l:=G (λW(hb:By T W)=>tb B0 hb);clear X0;refine(CC.o _ B0).mono ?_
 rintro e W1 ⟨rfl,p⟩;obtain⟨F,K,M⟩:=Q.o W1 p;generalize hc:chk ss=c at *;have HC:=G hc;clear hc CC;by_cases h0:¬c=0
 ·go_wp2
  go_ret;exact⟨aH (N0.o h0).symm,l.o _ p⟩
 replace h0:=Decidable.not_not.1 h0;subst h0;clear N0;go_wp2_with fail;refine(MC.o _ (l.o _ p)).mono ?_
 rintro e W2 ⟨rfl,a⟩;replace a:=tb p a;clear F K M p MC;obtain⟨F,K,M⟩:=Q.o W2 a;generalize hc:cH ms=c at *;have an:=G hc;clear hc;by_cases h0:¬c=0
 ·go_wp2
  go_ret;exact⟨aH (N1.o oQ_ h0).symm,l.o _ a⟩
 replace h0:=Decidable.not_not.1 h0;subst h0;clear N1;go_wp2_with fail;refine(VC.o _ (l.o _ a)).mono ?_
 rintro e W3 ⟨rfl,q⟩;replace q:=tb a q;clear F K M a VC;obtain⟨F,K,M⟩:=Q.o W3 q;generalize hc:iE rs=c at *;have ao:=G hc;clear hc;cases c with
 |false=>
  go_wp2;go_ret;exact⟨aH (N2.o oQ_ oQ_ oQ_).symm,l.o _ q⟩
 |true=>
 have C3:=U (Ck3 ⟨ss,ms,rs⟩) (⟨HC.o,an.o,ao.o⟩);clear N2 HC ao;go_wp2_with fail;clear F K M;go_loopw [5] (λu wr=>∃i:Nat,i<=ms.length/\u=I J ((i:Int)+1)/\(∀t,(ht:t+1<ms.length)->t<i->¬ms[t+1].frm=ms[t].frm)/\By T wr) (λu _=>ms.length+1-(intOf u).toNat)
 case atStart=>exact⟨0,Nat.zero_le _,rfl,λt _ h=>absurd h (Nat.not_lt_zero _),q⟩
 obtain⟨i,hi,rfl,n,hb⟩:=hrel;have H1:=G n;clear n;obtain⟨F,K,M⟩:=Q.o wr hb;by_cases hlt:i+1<ms.length
 ·obtain⟨b,o,rfl,_,j⟩:=(HM.o.below (l.o _ hb)).at hlt
  obtain⟨E,d,c1,c2,c3,_,_⟩:=j i O;obtain⟨E',d',aq,cl,cm,_,_⟩:=j (i+1) hlt;clear j;have bj:i<ms.length:=O;have HS:=G (λ(h:ms[i+1].frm=ms[i].frm)=>DV bj hlt (Nat.lt_succ_self i) h)
  have HN:=G (λ(h:¬ms[i+1].frm=ms[i].frm)=>show ∀t,(ht:t+1<ms.length)->t<i+1->¬ms[t+1].frm=ms[t].frm from λt ht g=>by
   by_cases e:t=i
   ·subst e;exact h
   ·exact H1.o t ht O)
  generalize ms[i].frm=f at *;generalize ms[i].toq.length=tl at *;generalize ms[i].tag=tg at *;generalize ms[i+1].frm=f' at *;generalize ms[i+1].toq.length=tl' at *;generalize ms[i+1].tag=tg' at *;clear HM;by_cases heq:f'=f
  ·have HR:=G (N3.o C3.o (HS.o heq))
   go_wp2_with fail;go_region
   all_goals
    go_wp2;go_ret;exact⟨aH HR.o.symm,l.o _ hb.drew⟩
  have HR:=G (HN.o heq);go_wp2_with fail;go_region
  all_goals
   go_wp2;go_roundw
   case rel=>exact⟨i+1,O,oN_,HR.o,hb.drew⟩
   exact oI_
 have ag:=U (stB ms=true) (DW an.o (λk hk=>H1.o k hk O));have C4:=U (Ck4 ⟨ss,ms,rs⟩) (⟨C3.o,ag.o⟩);clear N3 C3 H1 ag;go_wp2_with fail;clear F K M;go_loopw [53] (λu wr=>∃i:Nat,i<=ms.length/\u=I J i/\(∀t,(ht:t<ms.length)->t<i->cV ms[t]=false)/\By T wr) (λu _=>ms.length-(intOf u).toNat)
 case atStart=>exact⟨0,Nat.zero_le _,rfl,λt _ h=>absurd h (Nat.not_lt_zero _),hb⟩
 clear hb;obtain⟨i,hi,rfl,ab,hb⟩:=hrel;have y:=G ab;clear ab;obtain⟨F,K,M⟩:=Q.o wr hb;by_cases hlt:i<ms.length
 ·obtain⟨b1,o1,rfl,bh,j⟩:=(HM.o.below (l.o _ hb)).at hlt
  obtain⟨C,cc,c0,c1,c2,bi,hC⟩:=j i hlt;have HB:=G (λh=>N4.o C4.o (iP hlt h));have HN:=G (λh=>dI (P:=λm=>cV m=false) hlt y.o h);clear j hC;generalize ms[i]=mi at *;have K1:=G (λ(h:¬mi.tag.size=0)=>show cV mi=false from by simp[cV,h]);have K2:=G (λ(h:mi.toq.length=1)=>show cV mi=false from by simp[cV,h]);have K3:=G (λ(h:mi.toq.length=2)=>show cV mi=false from by simp[cV,h]);have K4:=G (λ(h:mi.tag.size=0) (n:¬mi.toq.length=1) (h2:¬mi.toq.length=2)=>show cV mi=true from by simp[cV,h,n,h2]);generalize cV mi=kb at *;obtain⟨mf,mt,mg⟩:=mi;dsimp only at *;clear HM;have a:=hb.trans (((Below.refl wr.heap.size wr).alloc (Nat.le_refl _) (.cells #[I J mf,H C mt.length cc,.string mg] 154)).mono hb.size);by_cases hg:mg.size=0
  ·have g0:mg.toList=[]:=iH hg
   by_cases n:mt.length=1
   ·have HQ:=G (HN.o (K2.o n))
    have d1:(mt.length:Int)=1:=O;clear n;go_wp2;go_roundw
    case rel=>exact⟨i+1,O,oN_,HQ.o,a⟩
    exact oI_
   have d1:((mt.length:Int)!=1)=true:=oU_;by_cases h2:mt.length=2
   ·have HQ:=G (HN.o (K3.o h2))
    have d2:((mt.length:Int)!=2)=false:=oU_;have bz:=G a;clear h2;go_wp2;go_roundw
    case rel=>exact⟨i+1,O,oN_,HQ.o,a⟩
    exact oI_
   have HR:=G (HB.o (K4.o hg n h2));have d2:((mt.length:Int)!=2)=true:=oU_;go_wp2;go_ret;exact⟨aH HR.o.symm,l.o _ a⟩
  have g0:¬mg.toList=[]:=iG hg;have g1:mg.toList.isEmpty=false:=by simpa using g0
  have HQ:=G (HN.o (K1.o hg));go_wp2;go_roundw
  case rel=>exact⟨i+1,O,oN_,HQ.o,a⟩
  exact oI_
 have C5:=U (Ck5 ⟨ss,ms,rs⟩) (⟨C4.o,show ms.any cV=false from fV (λt ht=>y.o t ht O)⟩);have ae:=U (Ck4 ⟨ss,ms,rs⟩) C4.o;clear C4 N4 y;have ap:=G (λh=>N5.o C5.o h);clear N5;go_wp2_with fail;clear F K M;have B1:T.heap.size<=T.heap.size:=Nat.le_refl _
 go_loopw [8,76] (λv u wr=>∃(i c:Nat)(B:Oa),i<=ms.length/\u=I J i/\v=H B (eZ (ms.take i)).length c/\wr.ownsRow T.heap.size 3 1 (H B (eZ (ms.take i)).length c) (eZ (ms.take i)).length ((eZ (ms.take i)).map (Value.int .i64))/\
  (∀t,(ht:t<ms.length)->t<i->Hg.kind ms[t].frm=0)/\By T wr) (λ_ u _=>ms.length-(intOf u).toNat)
 case atStart=>exact⟨0,0,N,Nat.zero_le _,rfl,rfl,World.ownsRow_nil _ _ _ _,λt _ h=>absurd h (Nat.not_lt_zero _),hb⟩
 clear hb;obtain⟨i,c,B,hi,rfl,rfl,ai,ab,hb⟩:=hrel;have y:=G ab;have s:=G ai;clear ab ai;obtain⟨F,K,M⟩:=Q.o wr hb;by_cases hlt:i<ms.length
 ·obtain⟨b1,o1,rfl,bh,j⟩:=(HM.o.below (l.o _ hb)).at hlt
  obtain⟨C,cc,c0,c1,c2,bi,hC⟩:=j i hlt;have HB:=G (λh=>ap.o (MW hlt h));have HN:=G (λh=>dI (P:=λm=>Hg.kind m.frm=0) hlt y.o h);have HT:=G (zAj hlt);have au:=EZ (ms.take i);rw[List.length_take]at au;clear j hC;generalize ms[i]=mi at *;obtain⟨mf,mt,mg⟩:=mi;dsimp only at *;clear HM;have a:=hb.trans (((Below.refl wr.heap.size wr).alloc (Nat.le_refl _) (.cells #[I J mf,H C mt.length cc,.string mg] 154)).mono hb.size);have R:=G (aG s.o ((Below.refl wr.heap.size wr).alloc (Nat.le_refl _) (.cells #[I J mf,H C mt.length cc,.string mg] 154)));generalize hka:Hg.kind mf=ka at *;have HK:=G hka;clear hka;have KF:=G (KC.o mf);rw[HK.o]at KF;by_cases hk0:ka=0
  ·have HQ:=G (HN.o hk0)
   subst hk0;by_cases hg:mg.size=0
   ·have g0:mg.toList=[]:=iH hg
    have z:=HT.o;rw[if_pos hg,List.append_nil]at z;have S:=G z;clear z;go_wp2_with(go_at_call 142;refine(KF.o _).mono ?_;rintro e w' ⟨rfl,rfl⟩);go_roundw
    case rel=>exact⟨i+1,c,B,O,oN_,by rw[S.o],by rw[S.o];exact R.o,HQ.o,a⟩
    exact oI_
   have g0:¬mg.toList=[]:=iG hg;have g1:mg.toList.isEmpty=false:=by simpa using g0
   have z:=HT.o;rw[if_neg hg]at z;have S:=G z;clear z;go_wp2_with(first|(go_at_call 142;refine(KF.o _).mono ?_;rintro e w' ⟨rfl,rfl⟩)|(at_builtin;(refine a_ _ _ 33 3 (I J 0) 1 8 rfl rfl underlying33 cU rfl V V rfl (R.o.alloc _) rfl (bI (wr.alloc (.cells #[I J mf,H C mt.length cc,.string mg] 154)) [I J mf] 3 L) L (cJ [mf]) O (by have:=a.size;simp at this|-;omega) ?_);intro B1 aq w1 ak b0 p ct cr));have q:=a.trans (((ba _ _).mono a.size).trans p);go_roundw
   case rel=>
    refine⟨i+1,aq,B1,O,oN_,?_,?_,HQ.o,q⟩
    ·rw[S.o,List.length_append];rfl
    rw[S.o,List.length_append,List.map_append];exact ak
   exact oI_
  have HR:=G (HB.o hk0);go_wp2_with(go_at_call 142;refine(KF.o _).mono ?_;rintro e w' ⟨rfl,rfl⟩);go_ret;exact⟨aH HR.o.symm,l.o _ a⟩
 obtain rfl:i=ms.length:=O;have z:eZ (ms.take ms.length)=eZ ms:=by rw[List.take_length]
 have au:=EZ ms;have HI:aA wr B (eZ ms):=by rw[z]at s;exact Sl.of_own s.o
 rw[z];have HA:=G (λ(h:rns (clz ss) (eZ ms) 0 N=[])=>show Ck6 ⟨ss,ms,rs⟩from⟨C5.o,show ms.any (dD ss)=false from MX (λt ht=>y.o t ht ht) h⟩);have HD:=G (λ(h:¬rns (clz ss) (eZ ms) 0 N=[])=>ap.o (MY h));have RR:=G (RC.o B (eZ ms).length c (eZ ms) wr (l.o _ hb) HI rfl O);clear HI s z;generalize eZ ms=tg at *;generalize rns (clz ss) tg 0 N=rr at *;go_wp2_with fail;refine RR.o.mono ?_
 rintro e W4 ⟨A4,c4,rfl,cs,cq,D⟩;replace D:=tb hb D;clear F K M;obtain⟨F,K,M⟩:=Q.o W4 D;by_cases hr0:rr=[]
 ·have C6:=G (HA.o hr0)
  have hl:rr.length=0:=by rw[hr0];rfl
  have MM:=G (ME.o W4 (l.o _ D) (nK ae.o.t) (zL ae.o.m) (oN C6.o.d))
  have am:=G (λY ad(h:kH ms Y ad)=>show r=if Y=true then 12 else if ad=true then 13 else 0 from by
   have n:=h.cyc (nK ae.o.t) (oN C6.o.d)
   rw[N6.o C6.o]
   cases he:dN ms with
   |false=>rw[he]at n;subst n;rfl
   | true=>rw[he]at n;subst n;rw[h.lng (nK ae.o.t) (oN C6.o.d) he];simp)
  clear hr0;rw[hl];go_wp2_with fail;refine MM.o.mono ?_
  rintro e W5 ⟨Y,ad,rfl,aw,aa⟩;replace aa:=tb D aa;have HF:=G (am.o Y ad aw);clear F K M aw am MM;cases Y with
  |true=>
   go_wp2;go_ret;exact⟨aH HF.o.symm,l.o _ aa⟩
  |false=>
   cases ad with
   |true=>
    go_wp2;go_ret;exact⟨aH HF.o.symm,l.o _ aa⟩
   |false=>
    go_wp2;go_ret;exact⟨aH HF.o.symm,l.o _ aa⟩
 have HR:=G (HD.o hr0);have hl:0<rr.length:=List.length_pos_iff.2 hr0;have cu:decide ((0:Int)<(rr.length:Int))=true:=oU_;go_wp2;go_ret;exact⟨aH HR.o.symm,l.o _ D⟩
theorem tN:Keyed prog 9:=string_keyed underlying9
theorem F_(w:Wv):(zeroValue 4).run prog w=.ok (.bool false) w:=oK_
theorem tJ{s:ByteArray}(h:s.size<=9223372036854775807):keyOf prog 9 (.string s)=Z (oH s):=keyOf_string_mk underlying9 (by unfold maxLen;exact h)
theorem uP{s:ByteArray}(h:s.size<=9223372036854775807):sok s:=by unfold sok maxLen;exact h
instance (s:ByteArray) (l:List ByteArray):Decidable (s∈l):=decidable_of_iff (l.any (λx=>decide (x=s))=true) (by simp)
def kU(l:List ByteArray)(s:ByteArray):Option Value:=if s∈l then Z (.bool true)else N
theorem YO{l:List ByteArray}{s:ByteArray}(h:s∈l):(kU l s).getD (.bool false)=.bool true:=by unfold kU;rw[if_pos h];rfl
theorem YM{l:List ByteArray}{s:ByteArray}(h:s ∉ l):(kU l s).getD (.bool false)=.bool false:=by unfold kU;rw[if_neg h];rfl
theorem YN(l:List ByteArray)(s:ByteArray)(x:ByteArray):kU (l++[s]) x=if x=s then Z (.bool true)else kU l x:=by
 unfold kU;by_cases h:x=s
 ·simp[h]
 simp[h]
theorem LH(A:Oa)(n a:Nat)(B:Oa)(m b:Nat)(c:Col)(w:Wv)(h:aO w A n B m c)(hb65:c.base<=65502)(hbig:m<=1048576):
  Calls prog 68 #[aJ A n a B m b c] w (aU (cC c.base c.grps) w):=by
 obtain⟨ents,gs,base,second,third⟩:=c;obtain⟨_,hG,hn,hm,hs⟩:=h;dsimp only at hG hn hm hs hb65;subst hm;unfold aJ;dsimp only;have HS:=G (λi(hi:i<gs.length)=>hs gs[i] (List.getElem_mem hi));have HG:=G hG;have bc:=@run_makeMap prog;clear hs hG hn;go_enter func68,ntmps68;go_wp2;have l:By w (w.alloc (.cells #[H A n a,H B gs.length b,I J base,I J second,I J third] 32)):=ba _ _;have s0:(w.alloc (.cells #[H A n a,H B gs.length b,I J base,I J second,I J third] 32)).heap.size=w.heap.size+1:=L;have k1:(w.alloc (.cells #[H A n a,H B gs.length b,I J base,I J second,I J third] 32)).cell? ⟨w.heap.size,1,N⟩=Z (H B gs.length b):=L;have k2:(w.alloc (.cells #[H A n a,H B gs.length b,I J base,I J second,I J third] 32)).cell? ⟨w.heap.size,2,N⟩=Z (I J base):=L;obtain⟨M,T⟩:=exQ (w.alloc (.cells #[H A n a,H B gs.length b,I J base,I J second,I J third] 32));rw[T]at l s0 k1 k2|-;clear T;have s:=G (HG.o.below l);have K:=G (And.intro k1 k2);have S0:=G s0;have o:w.heap.size<M.heap.size:=O;clear HG k1 k2 s0;go_loopw [4,15] (λ_ u wr=>∃i:Nat,i<=gs.length/\u=I J i/\(∀t,(ht:t<gs.length)->t<i->cF gs[t].name=true)/\By M wr) (λ_ u _=>gs.length-(intOf u).toNat)
 case atStart=>exact⟨0,Nat.zero_le _,rfl,λt _ h=>O,Below.refl _ _⟩
 obtain⟨i,hi,rfl,h6,hb⟩:=hrel;have H6:=G h6;clear h6;by_cases hlt:i<gs.length
 ·obtain⟨b1,o1,rfl,E,d⟩:=(s.o.below hb).at hlt
  obtain⟨c1,c2,c3⟩:=d i hlt;have f:=HS.o i hlt;have r:=G (λh=>yT (base:=base) hlt h);have v:=G (λh=>dI (P:=λg=>cF g.name=true) hlt H6.o h);clear d;generalize gs[i].name=nm at *;generalize gs[i].lo=lo at *;generalize gs[i].hi=hi' at *;go_wp2_with fail;refine(PZ nm _ f).mono ?_;rintro e w1 ⟨rfl,rfl⟩;cases hnm:cF nm
  ·go_wp2
   go_ret;exact⟨aH (r.o hnm).symm,l.trans ((hb.alloc hb.size _).mono l.size)⟩
  go_wp2;go_roundw
  case rel=>exact⟨i+1,O,oN_,v.o hnm,hb.alloc hb.size _⟩
  exact oI_
 have q:=G (λt(ht:t<gs.length)=>H6.o t ht O);clear H6;have Q:=(hb.cell (p:=⟨w.heap.size,1,N⟩) o).trans K.o.1;have F:w.heap.size<wr.heap.size:=by have:=hb.size;omega
 go_wp2;have D:=aV.made prog 9 oH sok wr;have W:=hb.alloc hb.size (.map #[] 0);obtain⟨mb,Y⟩:=exQ (wr.heap.size);rw[Y]at D|-;have aa:M.heap.size<=mb:=by have:=hb.size;omega
 obtain⟨W1,V⟩:=exQ (wr.alloc (.map #[] 0));rw[V]at D W|-;clear V Y hb Q F;go_loopw [7,28] (λ_ u wr=>∃i:Nat,i<=gs.length/\u=I J i/\(nms gs i).Nodup/\GN prog 9 wr mb i (kU (nms gs i))/\By M wr) (λ_ u _=>gs.length-(intOf u).toNat)
 case atStart=>exact⟨0,Nat.zero_le _,rfl,by simp[nms],D.ext (λx _=>by simp[nms,kU]),W⟩
 obtain⟨i,hi,rfl,h5,hM,hb⟩:=hrel;have H5:=G h5;clear h5;have HM:=G hM;clear hM;by_cases hlt:i<gs.length
 ·obtain⟨b1,o1,rfl,E,d⟩:=(s.o.below hb).at hlt
  obtain⟨c1,c2,c3⟩:=d i hlt;have f:=HS.o i hlt;have r:=G (λh=>yS (base:=base) q.o (zX hlt h));have v:=G (λh=>zY hlt H5.o h);have HE:=G (pT hlt);clear d;generalize gs[i].name=nm at *;generalize gs[i].lo=lo at *;generalize gs[i].hi=hi' at *;by_cases hin:nm∈nms gs i
  ·have HV:=G (YO hin)
   go_wp2_with(at_lookup;refine qL rfl _ _ 184 rfl (HM.o.alloc _) tN underlying184 (F_ _) rfl rfl (uP f) (tJ f) ?_;rw[HV.o]);go_ret;exact⟨aH (r.o hin).symm,l.trans ((hb.alloc hb.size _).mono l.size)⟩
  have HV:=G (YM hin);have HP:=G (λx=>YN (nms gs i) nm x)
  go_wp2_with(first
   |(at_lookup;refine qL rfl _ _ 184 rfl (HM.o.alloc _) tN underlying184 (F_ _) rfl rfl (uP f) (tJ f) ?_;rw[HV.o])
   | (at_mapUpdate;refine oM rfl _ _ _ 184 rfl (HM.o.alloc _) tN underlying184 (by unfold maxLen;omega) rfl rfl rfl (uP f) (tJ f) (λy _ e=>YX e) ?_;intro w9 S X))
  have ao:=lA (hb.alloc hb.size (.cells #[.string nm,I J lo,I J hi'] 98)) X aa (by have:=hb.size;simp;omega);have ag:=G S;clear S X;go_roundw
  case rel=>exact⟨i+1,O,oN_,v.o hin,by rw[HE.o];exact ag.o.ext (λx _=>HP.o x),ao⟩
  exact oI_
 have C:=G (show(gs.map Grp.name).Nodup by rw[<-zW,show gs.length=i by omega];exact H5.o);clear H5 HM;have Q:=(hb.cell (p:=⟨w.heap.size,1,N⟩) o).trans K.o.1;go_wp2;clear Q;go_loopw [9,43] (λ_ u wr=>∃i:Nat,i<=gs.length/\u=I J i/\(∀t,(ht:t<gs.length)->t<i->¬fA base gs[t])/\By M wr) (λ_ u _=>gs.length-(intOf u).toNat)
 case atStart=>exact⟨0,Nat.zero_le _,rfl,λt _ h=>O,hb⟩
 obtain⟨i,hi,rfl,h1,hb⟩:=hrel;have H1:=G h1;clear h1;have F:w.heap.size<wr.heap.size:=by have:=hb.size;omega
 by_cases hlt:i<gs.length
 ·obtain⟨b1,o1,rfl,E,d⟩:=(s.o.below hb).at hlt
  obtain⟨c1,c2,c3⟩:=d i hlt;have f2:=(hb.cell (p:=⟨w.heap.size,2,N⟩) o).trans K.o.2;have HD:=U (fA base gs[i] ↔ (gs[i].lo<1\/gs[i].hi<gs[i].lo\/base<=gs[i].hi)) Iff.rfl;have r:=G (λh=>yQ (base:=base) q.o C.o hlt h);have v:=G (λh=>dI (P:=λg=>¬fA base g) hlt H1.o h);clear d;generalize fA base gs[i]=Bd at *;generalize gs[i].name=nm at *;generalize gs[i].lo=lo at *;generalize gs[i].hi=hi' at *;go_wp2
  all_goals first
   | (go_ret
      exact⟨aH (r.o (HD.o.2 O)).symm,l.trans ((hb.alloc hb.size _).mono l.size)⟩)
   | (go_roundw
      case rel=>exact⟨i+1,O,oN_,v.o (λh=>by have:=HD.o.1 h;omega),hb.alloc hb.size _⟩
      case measure=>exact oI_)
 have z:=G (λt(ht:t<gs.length)=>H1.o t ht O);clear H1;have Q:=(hb.cell (p:=⟨w.heap.size,1,N⟩) o).trans K.o.1;go_wp2;clear Q;go_loopw [10,11,68] (λ_ _ u wr=>∃i:Nat,i<=gs.length/\u=I J i/\(∀t,(ht:t+1<gs.length)->t+1<i->gs[t+1].lo=gs[t].hi+1)/\By M wr) (λ_ _ u _=>gs.length-(intOf u).toNat)
 case atStart=>exact⟨0,Nat.zero_le _,rfl,λt _ h=>O,hb⟩
 obtain⟨i,hi,rfl,h4,hb⟩:=hrel;have H4:=G h4;clear h4;have F:w.heap.size<wr.heap.size:=by have:=hb.size;omega
 by_cases hlt:i<gs.length
 ·obtain⟨b1,o1,rfl,E,d⟩:=(s.o.below hb).at hlt
  obtain⟨c1,c2,c3⟩:=d i hlt;have Q:=(hb.cell (p:=⟨w.heap.size,1,N⟩) o).trans K.o.1;by_cases hp:0<i
  ·have j:i-1<gs.length:=O
   have d3:=(d (i-1) j).2.2;have HX:=z.o (i-1) j;unfold fA at HX;have e1:i-1+1=i:=O;have r:=G (λ(h:gs[i].lo≠(gs[i-1]'j).hi+1)=>yR (base:=base) q.o C.o z.o (k:=i-1) O (by simpa only[e1]using h))
   have v:=G (λ(h:gs[i].lo=(gs[i-1]'j).hi+1)=>show ∀t,(ht:t+1<gs.length)->t+1<i+1->gs[t+1].lo=gs[t].hi+1 from λt ht g=>by
    by_cases e:t+1<i
    ·exact H4.o t ht e
    ·obtain rfl:t=i-1:=O
     simpa only[e1]using h)
   have hz:1<=(gs[i-1]'j).hi/\(gs[i-1]'j).hi<65502:=O;clear d e1 HX;generalize gs[i].name=nm at *;generalize gs[i].lo=lo at *;generalize gs[i].hi=hi' at *;generalize (gs[i-1]'j).hi=ph at *;have i1:(0:Int)<=(i:Int)-1:=O;have i2:(i:Int)-1<(gs.length:Int):=O;have i3:((i:Int)-1).toNat=i-1:=O;have w1:IntKind.i64.wrap ((i:Int)-1)=(i:Int)-1:=IntWalk.i64_in _ O;have w2:IntKind.i64.wrap (ph+1)=ph+1:=IntWalk.i64_in _ O;by_cases hq:lo=ph+1
   ·have q1:(lo !=ph+1)=false:=by simpa using hq
    have R:=G (v.o hq);clear hq v r;go_wp2;go_quiet(fail);clear i3 w1 w2;go_wp2;go_roundw
    case rel=>exact⟨i+1,O,oN_,R.o,⟨hb.os,hb.tape,hb.output,(hb.alloc hb.size _).size,(hb.alloc hb.size _).block⟩⟩
    exact oI_
   have q1:(lo !=ph+1)=true:=by simpa using hq
   have R:=G (r.o hq);clear hq v r;go_wp2;go_quiet(fail);clear i3 w1 w2;go_wp2;go_ret;exact⟨aH R.o.symm,l.trans (Below.mono ⟨hb.os,hb.tape,hb.output,(hb.alloc hb.size _).size,(hb.alloc hb.size _).block⟩ l.size)⟩
  have bd:decide ((0:Int)<(i:Int))=false:=oU_;have R:=U (∀t,(ht:t+1<gs.length)->t+1<i+1->gs[t+1].lo=gs[t].hi+1) (λt ht g=>O);clear d;generalize gs[i].name=nm at *;generalize gs[i].lo=lo at *;generalize gs[i].hi=hi' at *;go_wp2;go_quiet(fail);go_wp2;go_roundw
  case rel=>exact⟨i+1,O,oN_,R.o,⟨hb.os,hb.tape,hb.output,(hb.alloc hb.size _).size,(hb.alloc hb.size _).block⟩⟩
  exact oI_
 have HF:=G (yP (base:=base) q.o C.o z.o (λt ht=>H4.o t ht O));go_wp2;go_ret;exact⟨aH HF.o.symm,tb l hb⟩
theorem VY(A:Oa)(n a:Nat)(B:Oa)(m b:Nat)(c:Col)(w:Wv)(h:aO w A n B m c)(hb65:c.base<=65502)(hbig:m<=1048576):
  Calls prog 105 #[aJ A n a B m b c] w (aU (cC c.base c.grps) w):=by
 obtain⟨ents,gs,base,second,third⟩:=c;obtain⟨_,W,hn,hm,hs⟩:=h;dsimp only at W hn hm hs hb65;subst hm;unfold aJ;dsimp only;have HS:=G (λi(hi:i<gs.length)=>hs gs[i] (List.getElem_mem hi));have HG:=G W;clear hs W hn;go_enter func105,ntmps105;go_wp2;have l:By w (w.alloc (.cells #[H A n a,H B gs.length b,I J base,I J second,I J third] 32)):=ba _ _;have s0:(w.alloc (.cells #[H A n a,H B gs.length b,I J base,I J second,I J third] 32)).heap.size=w.heap.size+1:=L;have k2:(w.alloc (.cells #[H A n a,H B gs.length b,I J base,I J second,I J third] 32)).cell? ⟨w.heap.size,2,N⟩=Z (I J base):=L;obtain⟨C,E⟩:=exQ (w.alloc (.cells #[H A n a,H B gs.length b,I J base,I J second,I J third] 32));rw[E]at l s0 k2|-;clear E;have s:=G (HG.o.below l);have K:=G k2;have ab:w.heap.size<C.heap.size:=O;clear HG k2 s0;go_loopw [4] (λu wr=>∃i:Nat,i<=gs.length/\u=I J i/\(∀t,(ht:t<gs.length)->t<i->cF gs[t].name=true)/\By C wr) (λu _=>gs.length-(intOf u).toNat)
 case atStart=>exact⟨0,Nat.zero_le _,rfl,λt _ h=>O,Below.refl _ _⟩
 obtain⟨i,hi,rfl,h6,hb⟩:=hrel;have T:=G h6;clear h6;by_cases hlt:i<gs.length
 ·obtain⟨V,o1,rfl,z,d⟩:=(s.o.below hb).at hlt
  obtain⟨c1,c2,c3⟩:=d i hlt;have aa:=HS.o i hlt;have o:=G (λh=>yT (base:=base) hlt h);have q:=G (λh=>dI (P:=λg=>cF g.name=true) hlt T.o h);clear d;generalize gs[i].name=nm at *;go_wp2_with fail;refine(qT nm _ aa).mono ?_;rintro e w1 ⟨rfl,rfl⟩;cases hnm:cF nm
  ·go_wp2
   go_ret;exact⟨aH (o.o hnm).symm,tb l hb⟩
  go_wp2;go_roundw
  case rel=>exact⟨i+1,O,oN_,q.o hnm,hb⟩
  exact oI_
 have r:=G (λt(ht:t<gs.length)=>T.o t ht O);clear T;go_wp2;go_loopw [5,6] (λu _ wr=>∃i:Nat,i<=gs.length/\u=I J i/\(nms gs i).Nodup/\By C wr) (λu _ _=>gs.length-(intOf u).toNat)
 case atStart=>exact⟨0,Nat.zero_le _,rfl,by simp[nms],hb⟩
 obtain⟨i,hi,rfl,h5,hb⟩:=hrel;have S:=G h5;clear h5;by_cases hlt:i<gs.length
 ·have HE:=G (pT hlt)
  obtain⟨wo,rfl⟩:∃wo:Wv,wo=wr:=⟨_,rfl⟩;go_wp2;go_loopw [6] (λv wr=>∃k:Nat,k<=i/\v=I J k/\(∀t,(ht:t<k)->(htt:t<gs.length)->gs[t].name≠gs[i].name)/\By C wr) (λv _=>i-(intOf v).toNat)
  case atStart=>exact⟨0,Nat.zero_le _,rfl,λt h=>O,hb⟩
  obtain⟨k,hk,rfl,F,hb⟩:=hrel;have D:=G F;clear F;by_cases hki:k<i
  ·have X:k<gs.length:=O
   obtain⟨V,o1,rfl,z,d⟩:=(s.o.below hb).at hlt;have c1:=(d i hlt).1;have Q:=(d k X).1;have o:=G (λ(h:gs[k].name=gs[i].name)=>yS (base:=base) r.o (zX hlt (by unfold nms;rw[<-h];exact List.mem_map.2 ⟨gs[k],List.mem_take_iff_getElem.2 ⟨k,O,rfl⟩,rfl⟩)))
   have q:=G (λ(h:gs[k].name≠gs[i].name)=>show ∀t,(ht:t<k+1)->(htt:t<gs.length)->gs[t].name≠gs[i].name from λt ht htt=>by
    by_cases e:t<k
    ·exact D.o t e htt
    ·obtain rfl:t=k:=O
     exact h)
   clear d;generalize gs[i].name=nm at *;generalize gs[k].name=nk at *;have i1:(k:Int)<(gs.length:Int):=O;have i2:(i:Int)<(gs.length:Int):=O;by_cases hq:nk=nm
   ·have q1:=EI hq
    have f:=G (o.o hq);clear hq o q;go_wp2;go_quiet(fail);go_wp2;go_ret;exact⟨aH f.o.symm,l.trans ((bU hb _).mono l.size)⟩
   have q1:=uS hq;have f:=G (q.o hq);clear hq o q;go_wp2;go_quiet(fail);go_wp2;go_roundw
   case rel=>exact⟨k+1,O,oN_,f.o,bU hb _⟩
   exact oI_
  ·have f:=G (zY hlt S.o (λhin=>by
    unfold nms at hin
    obtain⟨g,hg,he⟩:=List.mem_map.1 hin
    obtain⟨t,ht,rfl⟩:=List.mem_take_iff_getElem.1 hg
    exact D.o t O O he))
   go_wp2
   go_roundw
   case rel=>exact⟨i+1,O,oN_,f.o,hb⟩
   exact oI_
 have y:=G (show(gs.map Grp.name).Nodup by rw[<-zW,show gs.length=i by omega];exact S.o);clear S;go_wp2;go_loopw [7] (λu wr=>∃i:Nat,i<=gs.length/\u=I J i/\(∀t,(ht:t<gs.length)->t<i->¬fA base gs[t])/\By C wr) (λu _=>gs.length-(intOf u).toNat)
 case atStart=>exact⟨0,Nat.zero_le _,rfl,λt _ h=>O,hb⟩
 obtain⟨i,hi,rfl,h1,hb⟩:=hrel;have R:=G h1;clear h1;by_cases hlt:i<gs.length
 ·obtain⟨V,o1,rfl,z,d⟩:=(s.o.below hb).at hlt
  obtain⟨c1,c2,c3⟩:=d i hlt;have f2:=(hb.cell (p:=⟨w.heap.size,2,N⟩) ab).trans K.o;have M:=U (fA base gs[i] ↔ (gs[i].lo<1\/gs[i].hi<gs[i].lo\/base<=gs[i].hi)) Iff.rfl;have o:=G (λh=>yQ (base:=base) r.o y.o hlt h);have q:=G (λh=>dI (P:=λg=>¬fA base g) hlt R.o h);have i1:(i:Int)<(gs.length:Int):=O;clear d;generalize fA base gs[i]=Bd at *;generalize gs[i].lo=lo at *;generalize gs[i].hi=hi' at *
  obtain⟨Q,j⟩|⟨Q,d2,j⟩|⟨Q,d2,d3,j⟩|⟨Q,d2,d3,Y⟩:(decide (lo<1)=true/\Hi (lo<1))\/(decide (lo<1)=false/\decide (hi' < lo)=true/\Hi (hi' < lo))\/(decide (lo<1)=false/\decide (hi' < lo)=false/\decide (base<=hi')=true/\Hi (base<=hi'))\/(decide (lo<1)=false/\decide (hi' < lo)=false/\decide (base<=hi')=false/\Hi (¬(lo<1\/hi' < lo\/base<=hi'))):=by
   unfold Hi;simp only[decide_eq_true_eq,decide_eq_false_iff_not];omega
  ·have f:=G (o.o (M.o.2 (.inl j.o)))
   go_wp2;go_quiet(fail);go_wp2;go_ret;exact⟨aH f.o.symm,l.trans ((bU hb _).mono l.size)⟩
  ·have f:=G (o.o (M.o.2 (.inr (.inl j.o))))
   go_wp2;go_quiet(fail);go_wp2;go_ret;exact⟨aH f.o.symm,l.trans ((bU hb _).mono l.size)⟩
  ·have f:=G (o.o (M.o.2 (.inr (.inr j.o))))
   go_wp2;go_quiet(fail);go_wp2;go_ret;exact⟨aH f.o.symm,l.trans ((bU hb _).mono l.size)⟩
  have f:=G (q.o (λh=>Y.o (M.o.1 h)));go_wp2;go_quiet(fail);go_wp2;go_roundw
  case rel=>exact⟨i+1,O,oN_,f.o,bU hb _⟩
  exact oI_
 have x:=G (λt(ht:t<gs.length)=>R.o t ht O);clear R;go_wp2;go_loopw [8] (λu wr=>∃i:Nat,i<=gs.length/\u=I J ((i:Int)+1)/\(∀t,(ht:t+1<gs.length)->t<i->gs[t+1].lo=gs[t].hi+1)/\By C wr) (λu _=>gs.length+1-(intOf u).toNat)
 case atStart=>exact⟨0,Nat.zero_le _,rfl,λt _ h=>O,hb⟩
 obtain⟨i,hi,rfl,h4,hb⟩:=hrel;have H4:=G h4;clear h4;by_cases hlt:i+1<gs.length
 ·obtain⟨V,o1,rfl,z,d⟩:=(s.o.below hb).at hlt
  have c2:=(d (i+1) hlt).2.1;have d3:=(d i O).2.2;have HX:=x.o i O;unfold fA at HX;have o:=G (λh=>yR (base:=base) r.o y.o x.o hlt h);have q:=G (λh=>zAs (P:=λa b=>b.lo=a.hi+1) hlt H4.o h);have hz:1<=gs[i].hi/\gs[i].hi<65502:=O;clear d HX;generalize gs[i+1].lo=lo at *;generalize gs[i].hi=ph at *;have i0:(0:Int)<=(i:Int)+1:=O;have i1:(0:Int)<=(i:Int)+1-1:=O;have i2:(i:Int)+1-1<(gs.length:Int):=O;have i4:(i:Int)+1<(gs.length:Int):=O;have i5:((i:Int)+1).toNat=i+1:=O;have i3:((i:Int)+1-1).toNat=i:=O;have w1:IntKind.i64.wrap ((i:Int)+1-1)=(i:Int)+1-1:=IntWalk.i64_in _ O;have w2:IntKind.i64.wrap (ph+1)=ph+1:=IntWalk.i64_in _ O;by_cases hq:lo=ph+1
  ·have q1:(lo !=ph+1)=false:=by simpa using hq
   have f:=G (q.o hq);clear hq q o;go_wp2;go_quiet(fail);clear i3 i5 w1 w2;go_wp2;go_roundw
   case rel=>exact⟨i+1,O,oN_,f.o,bU hb _⟩
   exact oI_
  have q1:(lo !=ph+1)=true:=by simpa using hq
  have f:=G (o.o hq);clear hq q o;go_wp2;go_quiet(fail);clear i3 i5 w1 w2;go_wp2;go_ret;exact⟨aH f.o.symm,l.trans ((bU hb _).mono l.size)⟩
 have HF:=G (yP (base:=base) r.o y.o x.o (λt ht=>H4.o t ht O));go_wp2;go_ret;exact⟨aH HF.o.symm,tb l hb⟩
end
end Go.Proofs.YtkhmjidaeliccaaGreatDoor
